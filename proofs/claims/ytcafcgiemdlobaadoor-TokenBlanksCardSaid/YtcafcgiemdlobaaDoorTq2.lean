/- TokenParts: what a piece's text is, by its kind. -/
import Derived.Test.YtcafcgiemdlobaaDoorTq
namespace Go.Proofs.YtcafcgiemdlobaaDoor.lt
open Go.Tv Go.Ev

theorem piece_text {s : List UInt8} {a : Nat} {c : UInt8} {r : List UInt8} (hd : s.drop a = c :: r) (h : (pieceS s c a).2.2.1 = 0) :
    (pieceS s c a).1.2.2.2 = (a : Int) ∧ (a : Int) + (pieceS s c a).1.2.2.1.length ≤ (pieceS s c a).2.1 ∧
    ((pieceS s c a).1.1 = 1 ∨ (pieceS s c a).1.1 = 4 → (pieceS s c a).1.2.2.1 ≠ [] ∧ cutL s (a : Int) ((a : Int) + (pieceS s c a).1.2.2.1.length) = (pieceS s c a).1.2.2.1) := by
  have hend := piece_end hd h
  unfold pieceS at h hend ⊢
  split at h
  · rename_i hf
    rw [if_pos hf] at hend ⊢
    have hc := nameL_cut s a (s.drop a) a h
    obtain ⟨e, he⟩ : ∃ e : Nat, (nameC s a).2.1 = e := ⟨(nameC s a).2.1.toNat, by have := hend.1; dsimp only at this; omega⟩
    have hend' : (a : Int) < (e : Int) ∧ (e : Int) ≤ s.length := by rw [← he]; exact hend
    have hS : (nameC s a).1 = cutL s a e := by rw [← he]; exact hc
    have hl : (nameC s a).1.length = e - a := by rw [hS]; exact cutL_len s a e (by omega)
    have e2 : (a : Int) + ((e - a : Nat) : Int) = e := by omega
    refine ⟨rfl, ?_, fun _ => ⟨fun h0 => ?_, ?_⟩⟩
    · show (a : Int) + (nameC s a).1.length ≤ (nameC s a).2.1
      rw [hl, he]; omega
    · have : (nameC s a).1.length = 0 := by rw [show (nameC s a).1 = [] from h0]; rfl
      omega
    · show cutL s (a : Int) ((a : Int) + (nameC s a).1.length) = (nameC s a).1
      rw [hl, e2, hS]
  · rename_i hf
    rw [if_neg hf] at hend ⊢
    split at h
    · rename_i hn
      rw [if_pos hn] at hend ⊢
      refine ⟨rfl, ?_, fun h2 => ?_⟩
      · have := hend.1
        dsimp only at this
        show (a : Int) + 0 ≤ _
        dsimp only
        omega
      · rcases h2 with h2 | h2 <;> exact absurd h2 (by simp)
    · rename_i hn
      rw [if_neg hn] at hend ⊢
      split at h
      · rename_i hq
        rw [if_pos hq] at hend ⊢
        have hc := quoteL_cut s a (s.drop (a + 1)) (a + 1) h
        refine ⟨rfl, ?_, fun h2 => ?_⟩
        · obtain ⟨e, he⟩ : ∃ e : Nat, (quoteC s a).2.1 = (e : Int) + 1 := ⟨((quoteC s a).2.1 - 1).toNat, by have := hend.1; dsimp only at this; omega⟩
          have hend' : (a : Int) < (e : Int) + 1 ∧ (e : Int) + 1 ≤ s.length := by rw [← he]; exact hend
          have hS : (quoteC s a).1 = cutL s ((a + 1 : Nat) : Int) e := by
            have e3 : (quoteC s a).1 = cutL s (a + 1) ((quoteC s a).2.1 - 1) := hc
            rw [e3, he, show (e : Int) + 1 - 1 = e by omega]; rfl
          show (a : Int) + (quoteC s a).1.length ≤ (quoteC s a).2.1
          rw [hS, cutL_len s (a + 1) e (by omega), he]; omega
        · rcases h2 with h2 | h2 <;> exact absurd h2 (by simp)
      · rename_i hq
        rw [if_neg hq] at hend ⊢
        obtain ⟨c1, c2⟩ := signL_cut s a signsL h
        have hend' : (a : Int) < (signC s a).2.1 := hend.1
        have c1' : (signC s a).2.1 = (a : Int) + (signC s a).1.length := c1
        refine ⟨rfl, ?_, fun _ => ⟨fun h0 => ?_, ?_⟩⟩
        · show (a : Int) + (signC s a).1.length ≤ (signC s a).2.1
          omega
        · have : (signC s a).1.length = 0 := by rw [show (signC s a).1 = [] from h0]; rfl
          omega
        · show cutL s (a : Int) ((a : Int) + (signC s a).1.length) = (signC s a).1
          have c2' : (s.drop a).take (signC s a).1.length = (signC s a).1 := c2
          unfold cutL
          rw [show ((a : Int) + (signC s a).1.length).toNat - (a : Int).toNat = (signC s a).1.length by omega, Int.toNat_natCast]
          exact c2'
end Go.Proofs.YtcafcgiemdlobaaDoor.lt
