/- Tk8, where all listed variables are known. -/
import Derived.Test.YtcafcgiemdlobaaDoorUk6
namespace Go.Proofs.YtcafcgiemdlobaaDoor.lt.t
open Go.Tv Go.Ev Go.Proofs.YtcafcgiemdlobaaDoor.lt

theorem loopL1 (s : List UInt8) (hs : s.length ≤ 1000) (rd : Nat) : ∀ (n m : Nat) (out : List Piece) (left : List UInt8), left.length ≤ n → n < m → s.drop (s.length - left.length) = left → out.length + n ≤ 1000 →
    jL1 s rd m out out.length left = ansL out (lexF s n left) := by
  intro n
  induction n with
  | zero =>
    intro m out left h1 h2 _ _
    obtain ⟨m, rfl⟩ : ∃ m', m = m' + 1 := ⟨m - 1, by omega⟩
    have : left = [] := List.length_eq_zero_iff.1 (by omega)
    subst this
    rw [stepL1]
    show endL out out.length = _
    unfold ansL lexF
    simp
  | succ n ih =>
    intro m out left h1 h2 h3 h4
    obtain ⟨m, rfl⟩ : ∃ m', m = m' + 1 := ⟨m - 1, by omega⟩
    match left, h1, h3 with
    | [], _, _ =>
      rw [stepL1]
      show endL out out.length = _
      unfold ansL lexF
      simp
    | c :: r, h1, h3 =>
      rw [List.length_cons] at h1 h3
      have hle : r.length + 1 ≤ s.length := by
        have := congrArg List.length h3
        simp only [List.length_drop, List.length_cons] at this; omega
      have hr : s.drop (s.length - r.length) = r := by
        have : s.length - r.length = s.length - (r.length + 1) + 1 := by omega
        rw [this, ← List.drop_drop, h3]; rfl
      rw [stepL1, tree_eq hs h3, lexF]
      split
      · exact ih m out r (by omega) (by omega) hr (by omega)
      · split
        · have := ih m out [] (by simp) (by omega) (by simp) (by omega)
          rw [this]
          cases n <;> rfl
        · split
          · rename_i hp
            have he := piece_end h3 hp
            unfold room1
            rw [Nat.ble_eq_true_of_le (by omega)]
            show jL1 s rd m (out ++ [_]) (out.length + 1) _ = _
            have e : out.length + 1 = (out ++ [(pieceS s c (s.length - (r.length + 1))).1]).length := by simp
            rw [e, ih m _ _ (by simp only [List.length_drop]; omega) (by omega) (by rw [List.length_drop]; congr 1; omega) (by simp; omega)]
            unfold ansL
            simp only [List.append_assoc, List.singleton_append]
          · rename_i hp
            unfold ansL
            rw [if_neg hp]
end Go.Proofs.YtcafcgiemdlobaaDoor.lt.t
