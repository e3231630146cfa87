/- Tokens: the contract of Lex. -/
import Derived.Test.YtcafcgiemdlobaaDoorTk7
namespace Go.Proofs.YtcafcgiemdlobaaDoor.lt
open Go.Tv Go.Ev

theorem cutL_tail (c : UInt8) (r : List UInt8) : cutL (c :: r) 1 ↑(c :: r).length = r := by
  unfold cutL
  simp
theorem stepL_eq {s : List UInt8} {e f a : Int} {p : Piece} {room : OutL → OutL} {go : Piece → List UInt8 → OutL} (h : f = 0 → 0 ≤ e ∧ e ≤ s.length) :
    stepL s e f a p room go = if f = 0 then room (go p (s.drop e.toNat)) else errL f a := by
  unfold stepL
  by_cases hf : f = 0
  · rw [eqT hf, if_pos hf]
    obtain ⟨h1, h2⟩ := h hf
    rw [ltF (by omega), ltF (by omega)]
    obtain ⟨n, rfl⟩ : ∃ n : Nat, e = n := ⟨e.toNat, by omega⟩
    show room (go p (cutL s n s.length)) = _
    rw [cut_drop, Int.toNat_natCast]
  · rw [eqF hf, if_neg hf]; rfl
theorem tree_eq {s : List UInt8} (hs : s.length ≤ 1000) {a : Nat} {c : UInt8} {r : List UInt8} (hd : s.drop a = c :: r) (done : OutL) (skip : List UInt8 → OutL) (room : OutL → OutL) (go : Piece → List UInt8 → OutL) :
    treeL s (c :: r) done skip room go = if u8I c = 32 ∨ u8I c = 9 then skip r else if u8I c = 59 then skip [] else if (pieceS s c a).2.2.1 = 0 then room (go (pieceS s c a).1 (s.drop (pieceS s c a).2.1.toNat)) else errL (pieceS s c a).2.2.1 (pieceS s c a).2.2.2 := by
  have hl : s.length - a = r.length + 1 := by have := congrArg List.length hd; simpa using this
  have hpl : placeI s (c :: r) = (a : Int) := by
    unfold placeI
    rw [List.length_cons, i64_in (by omega) (by omega)]; omega
  have hend := piece_end hd
  have hb : blankP (c :: r) skip = skip r := by
    unfold blankP
    rw [ltF (by omega), ltF (by rw [List.length_cons]; omega), cutL_tail]; rfl
  have hg : (!ltI (a : Int) 0 && ltI (a : Int) ↑s.length && Nat.ble s.length 999999) = true := by
    rw [ltF (by omega), ltT (by omega), Nat.ble_eq_true_of_le (by omega)]; rfl
  have hg2 : Nat.ble s.length 999999 = true := Nat.ble_eq_true_of_le (by omega)
  unfold treeL
  rw [decide_eq_false (by simp), show getI (c :: r) 0 = some c from getI_at [] r c]
  show pick2 (eqI (u8I c) 32) _ (pick2 (eqI (u8I c) 9) _ (pick2 (eqI (u8I c) 59) _ _)) = _
  rw [hb]
  by_cases h32 : u8I c = 32
  · rw [eqT h32, if_pos (.inl h32)]
  · rw [eqF h32]
    show pick2 (eqI (u8I c) 9) _ _ = _
    by_cases h9 : u8I c = 9
    · rw [eqT h9, if_pos (.inr h9)]
    · rw [eqF h9, if_neg (by omega)]
      show pick2 (eqI (u8I c) 59) _ _ = _
      by_cases h59 : u8I c = 59
      · rw [eqT h59, if_pos h59]
      · rw [eqF h59, if_neg h59]
        show pick2 (firstI (u8I c)) _ _ = _
        have hcut : ∀ (kind : Int) (q : Cut), (q.2.2.1 = 0 → (a : Int) < q.2.1 ∧ q.2.1 ≤ s.length) → cutP s (c :: r) kind q room go = if q.2.2.1 = 0 then room (go (kind, 0, q.1, (a : Int)) (s.drop q.2.1.toNat)) else errL q.2.2.1 q.2.2.2 := by
          intro kind q hq
          unfold cutP
          rw [hpl, hg]
          show stepL _ _ _ _ _ _ _ = _
          exact stepL_eq fun h => by have := hq h; omega
        unfold pieceS at hend ⊢
        by_cases hf : firstI (u8I c) = true
        · rw [if_pos hf] at hend
          rw [hf, if_pos rfl]
          show cutP _ _ _ _ _ _ = _
          rw [hpl, Int.toNat_natCast]
          exact hcut 1 _ hend
        · rw [if_neg hf] at hend
          rw [if_neg hf, Bool.eq_false_iff.2 hf]
          show pick2 (!ltI (u8I c) 48) (pick2 (!ltI 57 (u8I c)) (numP s (c :: r) room go) (restP s (c :: r) c room go)) (restP s (c :: r) c room go) = _
          have hnum : (48 ≤ u8I c ∧ u8I c ≤ 57 ∨ u8I c = 39) → numP s (c :: r) room go = if (scanS s (a : Int)).2.2.1 = 0 then room (go (2, (scanS s (a : Int)).1, [], (a : Int)) (s.drop (scanS s (a : Int)).2.1.toNat)) else errL (scanS s (a : Int)).2.2.1 (scanS s (a : Int)).2.2.2 := by
            intro hn
            rw [if_pos hn] at hend
            unfold numP
            rw [hpl, hg2]
            show stepL _ _ _ _ _ _ _ = _
            exact stepL_eq fun h => by have := hend h; dsimp only at this; omega
          by_cases hn : 48 ≤ u8I c ∧ u8I c ≤ 57
          · have hd3 : 48 ≤ u8I c ∧ u8I c ≤ 57 ∨ u8I c = 39 := .inl hn
            rw [ltF (by omega), ltF (by omega), if_pos hd3]
            exact hnum hd3
          · have hr : pick2 (!ltI (u8I c) 48) (pick2 (!ltI 57 (u8I c)) (numP s (c :: r) room go) (restP s (c :: r) c room go)) (restP s (c :: r) c room go) = restP s (c :: r) c room go := by
              rw [pick_nlt, pick_nlt]
              split
              · rw [if_neg (by omega)]
              · rfl
            rw [hr]
            unfold restP
            by_cases h39 : u8I c = 39
            · have hd3 : 48 ≤ u8I c ∧ u8I c ≤ 57 ∨ u8I c = 39 := .inr h39
              rw [eqT h39, if_pos hd3]
              exact hnum hd3
            · have hd3 : ¬ (48 ≤ u8I c ∧ u8I c ≤ 57 ∨ u8I c = 39) := by omega
              rw [if_neg hd3] at hend
              rw [eqF h39, if_neg hd3]
              show pick2 (eqI (u8I c) 34) _ _ = _
              rw [hpl, Int.toNat_natCast]
              by_cases h34 : u8I c = 34
              · rw [if_pos h34] at hend
                rw [eqT h34, if_pos h34]
                exact hcut 3 _ hend
              · rw [if_neg h34] at hend
                rw [eqF h34, if_neg h34]
                exact hcut 4 _ hend

/-- The pieces of what is left of a line, or a fault and its place. -/
def lexF (s : List UInt8) : Nat → List UInt8 → List Piece × Int × Int
  | 0, _ => ([], 0, 0)
  | _ + 1, [] => ([], 0, 0)
  | n + 1, c :: r =>
    if u8I c = 32 ∨ u8I c = 9 then lexF s n r else if u8I c = 59 then ([], 0, 0)
    else if (pieceS s c (s.length - (r.length + 1))).2.2.1 = 0 then
      ((pieceS s c (s.length - (r.length + 1))).1 :: (lexF s n (s.drop (pieceS s c (s.length - (r.length + 1))).2.1.toNat)).1, (lexF s n (s.drop (pieceS s c (s.length - (r.length + 1))).2.1.toNat)).2)
    else ([], (pieceS s c (s.length - (r.length + 1))).2.2)
noncomputable def ansL (out : List Piece) (t : List Piece × Int × Int) : OutL := if t.2.1 = 0 then endL (out ++ t.1) (out ++ t.1).length else errL t.2.1 t.2.2

theorem loopL1 (s : List UInt8) (hs : s.length ≤ 1000) (rd : Nat) : ∀ (n m : Nat) (out : List Piece) (left : List UInt8), left.length ≤ n → n < m → s.drop (s.length - left.length) = left → out.length + n ≤ 1000 →
    jL1 s rd m out out.length left = ansL out (lexF s n left) := by
  intro n
  induction n with
  | zero =>
    intro m out left h1 h2 _ _
    obtain ⟨m, rfl⟩ : ∃ m', m = m' + 1 := ⟨m - 1, by omega⟩
    have : left = [] := List.length_eq_zero_iff.1 (by omega)
    subst this
    rw [stepL1]
    show endL out out.length = _
    unfold ansL lexF
    simp
  | succ n ih =>
    intro m out left h1 h2 h3 h4
    obtain ⟨m, rfl⟩ : ∃ m', m = m' + 1 := ⟨m - 1, by omega⟩
    match left, h1, h3 with
    | [], _, _ =>
      rw [stepL1]
      show endL out out.length = _
      unfold ansL lexF
      simp
    | c :: r, h1, h3 =>
      rw [List.length_cons] at h1 h3
      have hle : r.length + 1 ≤ s.length := by
        have := congrArg List.length h3
        simp only [List.length_drop, List.length_cons] at this; omega
      have hr : s.drop (s.length - r.length) = r := by
        have : s.length - r.length = s.length - (r.length + 1) + 1 := by omega
        rw [this, ← List.drop_drop, h3]; rfl
      rw [stepL1, tree_eq hs h3, lexF]
      split
      · exact ih m out r (by omega) (by omega) hr (by omega)
      · split
        · have := ih m out [] (by simp) (by omega) (by simp) (by omega)
          rw [this]
          cases n <;> rfl
        · split
          · rename_i hp
            have he := piece_end h3 hp
            unfold room1
            rw [Nat.ble_eq_true_of_le (by omega)]
            show jL1 s rd m (out ++ [_]) (out.length + 1) _ = _
            have e : out.length + 1 = (out ++ [(pieceS s c (s.length - (r.length + 1))).1]).length := by simp
            rw [e, ih m _ _ (by simp only [List.length_drop]; omega) (by omega) (by rw [List.length_drop]; congr 1; omega) (by simp; omega)]
            unfold ansL
            simp only [List.append_assoc, List.singleton_append]
          · rename_i hp
            unfold ansL
            rw [if_neg hp]
end Go.Proofs.YtcafcgiemdlobaaDoor.lt
