/- mem.Address: the walk. -/
import Derived.Test.YtpenhcmahojifaaGreatDoorZa
import Derived.Deep.QuietTactic
import Derived.BigQuiet
set_option linter.unusedVariables false
set_option linter.unusedSimpArgs false
set_option linter.unusedSectionVars false
namespace Go.Ev.Tw
open Go.Proofs Go.RowKit
noncomputable section
set_option maxRecDepth 1000000
theorem box_cells {w W' : World} {bc bn ic in_ sc di : Int} (hb : Below (w.alloc (.cells #[.int .i64 bc, .int .i64 bn, .int .i64 ic, .int .i64 in_, .int .i64 sc, .int .i64 di, .int .i64 0] 25)).heap.size (w.alloc (.cells #[.int .i64 bc, .int .i64 bn, .int .i64 ic, .int .i64 in_, .int .i64 sc, .int .i64 di, .int .i64 0] 25)) W') :
    W'.cell? ⟨w.heap.size, 0, none⟩ = some (.int .i64 bc) ∧ W'.cell? ⟨w.heap.size, 1, none⟩ = some (.int .i64 bn) ∧ W'.cell? ⟨w.heap.size, 2, none⟩ = some (.int .i64 ic) ∧ W'.cell? ⟨w.heap.size, 3, none⟩ = some (.int .i64 in_) ∧
    W'.cell? ⟨w.heap.size, 4, none⟩ = some (.int .i64 sc) ∧ W'.cell? ⟨w.heap.size, 5, none⟩ = some (.int .i64 di) := by
  have hrow := (hb.block _ (by simp)).trans (World.alloc_heap_new w (.cells #[.int .i64 bc, .int .i64 bn, .int .i64 ic, .int .i64 in_, .int .i64 sc, .int .i64 di, .int .i64 0] 25))
  refine ⟨?_, ?_, ?_, ?_, ?_, ?_⟩
  all_goals (unfold World.cell?; simp only [hrow]; rfl)
/-- The registers' row. -/
def RegsAt (r off : Nat) (R : Nat → Int) (w : World) : Prop := r < w.heap.size ∧ ∀ i, i < 16 → w.cell? ⟨r, off + i, none⟩ = some (.int .i64 (R i))
theorem RegsAt.keep {r off : Nat} {R : Nat → Int} {w w' : World} (h : RegsAt r off R w) (hb : Below w.heap.size w w') : RegsAt r off R w' :=
  ⟨Nat.lt_of_lt_of_le h.1 hb.size, fun i hi => by
    have := hb.block r h.1
    unfold World.cell?
    simp only [this]
    exact h.2 i hi⟩
theorem RegsAt.box {r off : Nat} {R : Nat → Int} {w W' : World} {o : Obj} (h : RegsAt r off R w) (hb : Below (w.alloc o).heap.size (w.alloc o) W') : RegsAt r off R W' :=
  h.keep (((Below.refl _ w).alloc (Nat.le_refl _) o).trans (hb.mono (by simp)))
set_option maxHeartbeats 4000000 in
theorem addr_nn (bn in_ sc di nx : Int) (r off c : Nat) (R : Nat → Int) (w : World) (hR : RegsAt r off R w) (hC : ∀ W : World, Calls Tryz.prog 5 #[.agg #[.int .i64 0, .int .i64 bn, .int .i64 0, .int .i64 in_, .int .i64 sc, .int .i64 di, .int .i64 0]] W fun e W' => e = .returned (.int .i64 0) ∧ Below W.heap.size W W') :
    Calls Tryz.prog 9 #[.agg #[.int .i64 0, .int .i64 bn, .int .i64 0, .int .i64 in_, .int .i64 sc, .int .i64 di, .int .i64 0], .slice (some ⟨r, off, none⟩) 16 c, .int .i64 nx] w fun e w' => e = .returned (.tuple #[.int .i64 (sum3 0 0 di), .int .i64 0]) ∧ Below w.heap.size w w' := by
  go_enter Tryz.func9, Tryz.ntmps9
  go_wp2_with first | (go_at_call 5; refine (hC _).mono ?_; rintro e W' ⟨rfl, hb⟩; obtain ⟨c0, c1, c2, c3, c4, c5⟩ := box_cells hb; have hR' := hR.box hb) | (go_at_call 20; refine (sum_calls _ _ _ _ _ (0, 0) (World.alloc_heap_new _ _)).mono ?_; rintro e W2 ⟨rfl, hb2⟩)
  simp [bodyPost, results, Tryz.results9]
  exact (((Below.refl _ w).alloc (Nat.le_refl _) _).trans (hb.mono (by simp))).trans ((((Below.refl _ W').alloc (Nat.le_refl _) _).trans (hb2.mono (by simp))).mono (Nat.le_trans (by simp) hb.size))
set_option maxHeartbeats 4000000 in
theorem addr_pn (bn in_ sc di nx : Int) (r off c : Nat) (R : Nat → Int) (w : World) (hR : RegsAt r off R w) (hC : ∀ W : World, Calls Tryz.prog 5 #[.agg #[.int .i64 8, .int .i64 bn, .int .i64 0, .int .i64 in_, .int .i64 sc, .int .i64 di, .int .i64 0]] W fun e W' => e = .returned (.int .i64 0) ∧ Below W.heap.size W W') :
    Calls Tryz.prog 9 #[.agg #[.int .i64 8, .int .i64 bn, .int .i64 0, .int .i64 in_, .int .i64 sc, .int .i64 di, .int .i64 0], .slice (some ⟨r, off, none⟩) 16 c, .int .i64 nx] w fun e w' => e = .returned (.tuple #[.int .i64 (sum3 nx 0 di), .int .i64 0]) ∧ Below w.heap.size w w' := by
  go_enter Tryz.func9, Tryz.ntmps9
  go_wp2_with first | (go_at_call 5; refine (hC _).mono ?_; rintro e W' ⟨rfl, hb⟩; obtain ⟨c0, c1, c2, c3, c4, c5⟩ := box_cells hb; have hR' := hR.box hb) | (go_at_call 20; refine (sum_calls _ _ _ _ _ (0, 0) (World.alloc_heap_new _ _)).mono ?_; rintro e W2 ⟨rfl, hb2⟩)
  simp [bodyPost, results, Tryz.results9]
  exact (((Below.refl _ w).alloc (Nat.le_refl _) _).trans (hb.mono (by simp))).trans ((((Below.refl _ W').alloc (Nat.le_refl _) _).trans (hb2.mono (by simp))).mono (Nat.le_trans (by simp) hb.size))
set_option maxHeartbeats 4000000 in
theorem addr_rn (bn in_ sc di nx : Int) (b0 : Nat) (hb0 : b0 < 16) (r off c : Nat) (R : Nat → Int) (w : World) (hR : RegsAt r off R w) (hC : ∀ W : World, Calls Tryz.prog 5 #[.agg #[.int .i64 5, .int .i64 (.ofNat b0), .int .i64 0, .int .i64 in_, .int .i64 sc, .int .i64 di, .int .i64 0]] W fun e W' => e = .returned (.int .i64 0) ∧ Below W.heap.size W W') :
    Calls Tryz.prog 9 #[.agg #[.int .i64 5, .int .i64 (.ofNat b0), .int .i64 0, .int .i64 in_, .int .i64 sc, .int .i64 di, .int .i64 0], .slice (some ⟨r, off, none⟩) 16 c, .int .i64 nx] w fun e w' => e = .returned (.tuple #[.int .i64 (sum3 (R b0) 0 di), .int .i64 0]) ∧ Below w.heap.size w w' := by
  go_enter Tryz.func9, Tryz.ntmps9
  go_wp2_with first | (go_at_call 5; refine (hC _).mono ?_; rintro e W' ⟨rfl, hb⟩; obtain ⟨c0, c1, c2, c3, c4, c5⟩ := box_cells hb; have hR' := hR.box hb; have g1 := hR'.2 b0 hb0) | (go_at_call 20; refine (sum_calls _ _ _ _ _ (0, 0) (World.alloc_heap_new _ _)).mono ?_; rintro e W2 ⟨rfl, hb2⟩)
  simp [bodyPost, results, Tryz.results9]
  exact (((Below.refl _ w).alloc (Nat.le_refl _) _).trans (hb.mono (by simp))).trans ((((Below.refl _ W').alloc (Nat.le_refl _) _).trans (hb2.mono (by simp))).mono (Nat.le_trans (by simp) hb.size))
set_option maxHeartbeats 4000000 in
theorem addr_nr (bn in_ sc di nx : Int) (i0 : Nat) (hi0 : i0 < 16) (r off c : Nat) (R : Nat → Int) (w : World) (hR : RegsAt r off R w) (hC : ∀ W : World, Calls Tryz.prog 5 #[.agg #[.int .i64 0, .int .i64 bn, .int .i64 5, .int .i64 (.ofNat i0), .int .i64 sc, .int .i64 di, .int .i64 0]] W fun e W' => e = .returned (.int .i64 0) ∧ Below W.heap.size W W') :
    Calls Tryz.prog 9 #[.agg #[.int .i64 0, .int .i64 bn, .int .i64 5, .int .i64 (.ofNat i0), .int .i64 sc, .int .i64 di, .int .i64 0], .slice (some ⟨r, off, none⟩) 16 c, .int .i64 nx] w fun e w' => e = .returned (.tuple #[.int .i64 (sum3 0 (wrap64 (sc * R i0)) di), .int .i64 0]) ∧ Below w.heap.size w w' := by
  go_enter Tryz.func9, Tryz.ntmps9
  go_wp2_with first | (go_at_call 5; refine (hC _).mono ?_; rintro e W' ⟨rfl, hb⟩; obtain ⟨c0, c1, c2, c3, c4, c5⟩ := box_cells hb; have hR' := hR.box hb; have g2 := hR'.2 i0 hi0) | (go_at_call 20; refine (sum_calls _ _ _ _ _ (0, 0) (World.alloc_heap_new _ _)).mono ?_; rintro e W2 ⟨rfl, hb2⟩)
  have hi1 : (i0 : Int) < 16 := by omega
  have hi2 : (0 : Int) ≤ (i0 : Int) := by omega
  go_quiet (fail)
  go_wp2_with (go_at_call 20; refine (sum_calls _ _ _ _ _ (0, 0) (World.alloc_heap_new _ _)).mono ?_; rintro e W2 ⟨rfl, hb2⟩)
  simp [bodyPost, results, Tryz.results9]
  have hd : Below W'.heap.size W' (W'.drewN nq) := ⟨rfl, rfl, rfl, Nat.le_refl _, fun _ _ => rfl⟩
  exact (((Below.refl _ w).alloc (Nat.le_refl _) _).trans (hb.mono (by simp))).trans (((hd.alloc (Nat.le_refl _) _).trans (hb2.mono (by simp))).mono (Nat.le_trans (by simp) hb.size))
set_option maxHeartbeats 4000000 in
theorem addr_rr (bn in_ sc di nx : Int) (b0 : Nat) (hb0 : b0 < 16) (i0 : Nat) (hi0 : i0 < 16) (r off c : Nat) (R : Nat → Int) (w : World) (hR : RegsAt r off R w) (hC : ∀ W : World, Calls Tryz.prog 5 #[.agg #[.int .i64 5, .int .i64 (.ofNat b0), .int .i64 5, .int .i64 (.ofNat i0), .int .i64 sc, .int .i64 di, .int .i64 0]] W fun e W' => e = .returned (.int .i64 0) ∧ Below W.heap.size W W') :
    Calls Tryz.prog 9 #[.agg #[.int .i64 5, .int .i64 (.ofNat b0), .int .i64 5, .int .i64 (.ofNat i0), .int .i64 sc, .int .i64 di, .int .i64 0], .slice (some ⟨r, off, none⟩) 16 c, .int .i64 nx] w fun e w' => e = .returned (.tuple #[.int .i64 (sum3 (R b0) (wrap64 (sc * R i0)) di), .int .i64 0]) ∧ Below w.heap.size w w' := by
  go_enter Tryz.func9, Tryz.ntmps9
  go_wp2_with first | (go_at_call 5; refine (hC _).mono ?_; rintro e W' ⟨rfl, hb⟩; obtain ⟨c0, c1, c2, c3, c4, c5⟩ := box_cells hb; have hR' := hR.box hb; have g1 := hR'.2 b0 hb0; have g2 := hR'.2 i0 hi0) | (go_at_call 20; refine (sum_calls _ _ _ _ _ (0, 0) (World.alloc_heap_new _ _)).mono ?_; rintro e W2 ⟨rfl, hb2⟩)
  have hi1 : (i0 : Int) < 16 := by omega
  have hi2 : (0 : Int) ≤ (i0 : Int) := by omega
  go_quiet (fail)
  go_wp2_with (go_at_call 20; refine (sum_calls _ _ _ _ _ (0, 0) (World.alloc_heap_new _ _)).mono ?_; rintro e W2 ⟨rfl, hb2⟩)
  simp [bodyPost, results, Tryz.results9]
  have hd : Below W'.heap.size W' (W'.drewN nq) := ⟨rfl, rfl, rfl, Nat.le_refl _, fun _ _ => rfl⟩
  exact (((Below.refl _ w).alloc (Nat.le_refl _) _).trans (hb.mono (by simp))).trans (((hd.alloc (Nat.le_refl _) _).trans (hb2.mono (by simp))).mono (Nat.le_trans (by simp) hb.size))
end
end Go.Ev.Tw
