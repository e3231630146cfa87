/- TokenBack: the run, and that it answers true. -/
import Derived.Test.YtcafcgiemdlobaaDoorTb4
namespace Go.Proofs.YtcafcgiemdlobaaDoor.lt
open Go.Tv Go.Ev

section
variable (lx : List UInt8 → List Piece × Int × Int) (jn : List Piece → List UInt8 × Int) (cw : List Piece → Bool) (ak : List Piece → List Piece → Bool) (lo : List Piece → Int → Bool)
noncomputable def tlB (s : List UInt8) : Option AV :=
  pick2 (!eqI (lx s).2.1 0) (pick2 (eqI ↑(lx s).1.length 0) (pick2 (!ltI (lx s).2.2 0) (some (.bool (!ltI ↑s.length (lx s).2.2))) (some (.bool false))) (some (.bool false)))
    (pick2 (Nat.ble (lx s).1.length 1000 && cw (lx s).1) (pick2 (!eqI (jn (lx s).1).2 0) (some (.bool (eqI (jn (lx s).1).2 3)))
      (pick2 (eqI (lx (jn (lx s).1).1).2.1 0) (pick2 (Nat.ble (lx (jn (lx s).1).1).1.length 999999 && ak (lx (jn (lx s).1).1).1 (lx s).1) (some (.bool true)) none) (some (.bool false)))) none)
theorem tree12 (l : List Piece) (s : List UInt8) : enterT (Xg gvT) (dB' lx jn cw ak lo AV) an0 5 12 [.lst tyTok l, .str s] TMem.empty (fun v _ => some v) =
    pick2 (Nat.ble l.length 9223372036854775807) (pick2 (lo l 200) (some (.bool true)) (pick2 (ltI 1100 ↑s.length) (some (.bool true)) (pick2 (Nat.ble l.length 1000 && cw l)
      (pick2 (eqI (jn l).2 0) (pick2 (!eqI (lx (jn l).1).2.1 0) (some (.bool false)) (pick2 (Nat.ble (lx (jn l).1).1.length 999999 && ak (lx (jn l).1).1 l) (tlB lx jn cw ak s) none)) (tlB lx jn cw ak s)) none))) none := by kernel_rfl
end
theorem tlB_true (s : List UInt8) : tlB lexC joinS (fun l => l.all condW) alike s = some (.bool true) := by
  obtain ⟨⟨f1, f2⟩, f3⟩ := lexC_fault s
  obtain ⟨v1, v2⟩ := lexC_valid s
  unfold tlB
  by_cases h : (lexC s).2.1 = 0
  · have hc : (fun l : List Piece => l.all condW) (lexC s).1 = true := List.all_eq_true.2 fun y hy => (v1 y hy).2
    have hv : (lexC s).1.all validB = true := List.all_eq_true.2 fun y hy => (v1 y hy).1
    rw [eqT h, bleT v2, hc]
    rcases joinS_err hv with h0 | h3
    · obtain ⟨j1, j2⟩ := lex_of_join (fun y hy => (v1 y hy).2) h0
      have e1 : (lexC (joinS (lexC s).1).1).2.1 = 0 := by rw [j1]
      have e2 := alike_len j2
      rw [eqT h0, eqT e1, bleT (by omega), j2]; rfl
    · rw [h3]; rfl
  · have e : (lexC s).1 = [] := f3 h
    rw [eqF h, e, ltF f1, ltF f2]; rfl
theorem backT (l : List Piece) (hl : l.length ≤ maxLen) (hw : ∀ y ∈ l, wfD tyTok y) (s : List UInt8) : enterT (Xg gvT) (dB' lexC joinS (fun l => l.all condW) alike longB AV) an0 5 12 [.lst tyTok l, .str s] TMem.empty (fun v _ => some v) = some (.bool true) := by
  rw [tree12, bleT (show l.length ≤ 9223372036854775807 from hl), tlB_true]
  cases hb : longB l 200 with
  | true => rfl
  | false =>
    unfold longB at hb
    simp only [Bool.or_eq_false_iff, decide_eq_false_iff_not, List.any_eq_false, decide_eq_true_eq] at hb
    obtain ⟨h1, h2⟩ := hb
    have hc1 : ∀ y ∈ l, condW y = true := by
      intro y hy
      have hn := (hw y hy).2.1
      have hs := h2 y hy
      have hr : -9223372036854775808 ≤ y.2.1 ∧ y.2.1 < 9223372036854775808 := by
        have hn : (Lit.int .i64 y.2.1).wf = true := hn
        simp [Lit.wf, IntKind.min, IntKind.max, IntKind.signed, IntKind.bits] at hn
        omega
      unfold condW
      rw [ltF hr.1, ltT hr.2, bleT (by omega)]; rfl
    have hc : l.all condW = true := List.all_eq_true.2 hc1
    rw [bleT (show l.length ≤ 1000 by omega), hc]
    cases ltI 1100 (s.length : Int) with
    | true => rfl
    | false =>
      by_cases h0 : (joinS l).2 = 0
      · obtain ⟨j1, j2⟩ := lex_of_join hc1 h0
        have e1 : (lexC (joinS l).1).2.1 = 0 := by rw [j1]
        have e2 := alike_len j2
        rw [eqT h0, eqT e1, bleT (by omega), j2]; rfl
      · rw [eqF h0]; rfl
end Go.Proofs.YtcafcgiemdlobaaDoor.lt
