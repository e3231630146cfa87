/- TokenParts: the run. -/
import Derived.Test.YtcafcgiemdlobaaDoorTq4
namespace Go.Proofs.YtcafcgiemdlobaaDoor.lt
open Go.Tv Go.Ev

theorem lexF_len (s : List UInt8) : ∀ (n : Nat) (left : List UInt8), (lexF s n left).1.length ≤ n := by
  intro n
  induction n with
  | zero => intro left; exact Nat.le_refl _
  | succ n ih =>
    intro left
    match left with
    | [] => exact Nat.zero_le _
    | c :: r =>
      rw [lexF]
      split
      · exact Nat.le_succ_of_le (ih r)
      · split
        · exact Nat.zero_le _
        · split
          · exact Nat.succ_le_succ (ih _)
          · exact Nat.zero_le _
theorem parts (s : List UInt8) : enterT (Xg gvS) (d6 AV) anPa 1002 4 [.str s] TMem.empty (fun v _ => some v) = some (.bool true) := by
  rw [enterPa]
  by_cases hl : 1000 < s.length
  · rw [ltT (by omega)]
  · rw [ltF (by omega)]
    show pick2 (!eqI (lexC s).2.1 0) _ _ = _
    by_cases hf : (lexC s).2.1 = 0
    · rw [eqT hf]
      show jPa s (lexC s).1 1002 1002 0 0 = _
      have hC : (lexC s).1 = (lexF s s.length s).1 := by
        unfold lexC at hf ⊢
        rw [if_neg hl] at hf ⊢
        split at hf
        · rename_i h0; rw [if_pos h0]
        · rename_i h0; exact absurd hf h0
      rw [hC]
      have hlen := lexF_len s s.length s
      exact loopPa s (by omega) _ (by omega) 1002 (by omega) (lexF s s.length s).1 [] 1002 0 rfl (by omega) (lex_order s s.length s 0 (Nat.le_refl _) (by simp) (by omega)) fun _ y t hy j _ hj => lex_first s s.length s (Nat.le_refl _) (by simp) (Nat.le_refl _) y t hy j (by omega) hj
    · rw [eqF hf]; rfl
end Go.Proofs.YtcafcgiemdlobaaDoor.lt
