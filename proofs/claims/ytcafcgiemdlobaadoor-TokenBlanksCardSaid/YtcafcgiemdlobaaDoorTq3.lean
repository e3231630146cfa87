/- TokenParts: pieces in order. -/
import Derived.Test.YtcafcgiemdlobaaDoorTq2
namespace Go.Proofs.YtcafcgiemdlobaaDoor.lt
open Go.Tv Go.Ev

/-- Pieces that stand in order from a place on. -/
def inOrder (s : List UInt8) : Nat → List Piece → Prop
  | _, [] => True
  | e, y :: t => ∃ a : Nat, y.2.2.2 = a ∧ e ≤ a ∧ a < s.length ∧ a + y.2.2.1.length ≤ s.length ∧ (y.1 = 1 ∨ y.1 = 4 → y.2.2.1 ≠ [] ∧ cutL s (a : Int) ((a : Int) + y.2.2.1.length) = y.2.2.1) ∧ inOrder s (a + max y.2.2.1.length 1) t
theorem lex_order (s : List UInt8) : ∀ (n : Nat) (left : List UInt8) (e : Nat), left.length ≤ n → s.drop (s.length - left.length) = left → e + left.length ≤ s.length → inOrder s e (lexF s n left).1 := by
  intro n
  induction n with
  | zero => intro left e _ _ _; exact trivial
  | succ n ih =>
    intro left e h1 h3 h4
    match left, h1, h3, h4 with
    | [], _, _, _ => exact trivial
    | c :: r, h1, h3, h4 =>
      rw [List.length_cons] at h1 h3 h4
      have hr : s.drop (s.length - r.length) = r := by
        have : s.length - r.length = s.length - (r.length + 1) + 1 := by omega
        rw [this, ← List.drop_drop, h3]; rfl
      rw [lexF]
      split
      · exact ih r e (by omega) hr (by omega)
      · split
        · exact trivial
        · split
          · rename_i hp
            have he := piece_end h3 hp
            obtain ⟨t1, t2, t3⟩ := piece_text h3 hp
            refine ⟨s.length - (r.length + 1), t1, by omega, by omega, by omega, t3, ?_⟩
            exact ih _ _ (by simp only [List.length_drop]; omega) (by rw [List.length_drop]; congr 1; omega) (by simp only [List.length_drop]; omega)
          · exact trivial
/-- Ahead of the first piece are blanks and tabs. -/
theorem lex_first (s : List UInt8) : ∀ (n : Nat) (left : List UInt8), left.length ≤ n → s.drop (s.length - left.length) = left → left.length ≤ s.length → ∀ (y : Piece) (t : List Piece), (lexF s n left).1 = y :: t → ∀ k : Nat, s.length - left.length ≤ k → (k : Int) < y.2.2.2 → ∃ c, getI s (k : Int) = some c ∧ (u8I c = 32 ∨ u8I c = 9) := by
  intro n
  induction n with
  | zero => intro left _ _ _ y t h; cases h
  | succ n ih =>
    intro left h1 h3 h4 y t hy k hk hk2
    match left, h1, h3, h4, hy, hk with
    | [], _, _, _, hy, _ => cases hy
    | c :: r, h1, h3, h4, hy, hk =>
      rw [List.length_cons] at h1 h3 h4 hk
      have hr : s.drop (s.length - r.length) = r := by
        have : s.length - r.length = s.length - (r.length + 1) + 1 := by omega
        rw [this, ← List.drop_drop, h3]; rfl
      rw [lexF] at hy
      split at hy
      · rename_i hb
        by_cases hkk : k = s.length - (r.length + 1)
        · refine ⟨c, ?_, hb⟩
          have hs : s = s.take k ++ c :: r := by rw [← h3, ← hkk]; simp
          have hl : (s.take k).length = k := by simp; omega
          have := getI_at (s.take k) r c
          rw [← hs, hl] at this
          exact this
        · exact ih r (by omega) hr (by omega) y t hy k (by omega) hk2
      · split at hy
        · cases hy
        · split at hy
          · rename_i hp
            obtain ⟨t1, _, _⟩ := piece_text h3 hp
            have e1 := (List.cons.inj hy).1
            rw [← e1, t1] at hk2
            omega
          · cases hy
end Go.Proofs.YtcafcgiemdlobaaDoor.lt
