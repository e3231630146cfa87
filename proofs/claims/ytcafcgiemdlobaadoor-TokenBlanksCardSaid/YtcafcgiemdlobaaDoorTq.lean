/- TokenParts: what a piece's text is. -/
import Derived.Test.YtcafcgiemdlobaaDoorTp
namespace Go.Proofs.YtcafcgiemdlobaaDoor.lt
open Go.Tv Go.Ev

theorem nameL_cut (s : List UInt8) (a : Nat) : ∀ (rest : List UInt8) (e : Nat), (nameL s a rest e).2.2.1 = 0 → (nameL s a rest e).1 = cutL s a (nameL s a rest e).2.1 := by
  intro rest
  induction rest with
  | nil => intro e _; rfl
  | cons c r ih =>
    intro e h
    rw [nameL] at h ⊢
    split at h
    · rename_i hm
      rw [if_pos hm]
      split at h
      · exact absurd h (by simp)
      · rename_i h60
        rw [if_neg h60]
        exact ih (e + 1) h
    · rename_i hm
      rw [if_neg hm]
theorem quoteL_cut (s : List UInt8) (a : Nat) : ∀ (rest : List UInt8) (e : Nat), (quoteL s a rest e).2.2.1 = 0 → (quoteL s a rest e).1 = cutL s (a + 1) ((quoteL s a rest e).2.1 - 1) := by
  intro rest
  induction rest with
  | nil => intro e h; exact absurd h (by simp [quoteL])
  | cons c r ih =>
    intro e h
    rw [quoteL] at h ⊢
    split at h
    · rename_i hm
      rw [if_pos hm]
      show cutL s (a + 1) e = cutL s (a + 1) ((e : Int) + 1 - 1)
      rw [show (e : Int) + 1 - 1 = e by omega]
    · rename_i hm
      rw [if_neg hm]
      split at h
      · rename_i hp
        rw [if_pos hp]
        exact ih (e + 1) h
      · exact absurd h (by simp)
theorem signL_cut (s : List UInt8) (a : Nat) : ∀ l : List (List UInt8), (signL s a l).2.2.1 = 0 → (signL s a l).2.1 = (a : Int) + (signL s a l).1.length ∧ (s.drop a).take (signL s a l).1.length = (signL s a l).1 := by
  intro l
  induction l with
  | nil => intro h; exact absurd h (by simp [signL])
  | cons g r ih =>
    intro h
    rw [signL] at h ⊢
    split at h
    · rename_i hp
      rw [if_pos hp]
      exact ⟨rfl, of_decide_eq_true hp⟩
    · rename_i hp
      rw [if_neg hp]
      exact ih h
theorem cutL_len (s : List UInt8) (a e : Nat) (h : e ≤ s.length) : (cutL s a e).length = e - a := by
  unfold cutL
  simp only [Int.toNat_natCast, List.length_take, List.length_drop]; omega
end Go.Proofs.YtcafcgiemdlobaaDoor.lt
