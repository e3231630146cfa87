/- mem.Canon where there is an index alone, once: the walk. -/
import Derived.Test.YtpenhcmahojifaaGreatDoorZb
import Derived.RegionTactic
import Derived.ChangeAlike
import Derived.Laws.ResultCell
import Derived.Laws.Rows
import Derived.Test.YtpenhcmahojifaaGreatDoorGi
import Derived.Test.YtpenhcmahojifaaGreatDoorZk
set_option linter.unusedVariables false
set_option linter.unusedSimpArgs false
set_option linter.unusedSectionVars false
namespace Go.Ev.Tw
open Go.Proofs Go.RowKit
noncomputable section
set_option maxRecDepth 1000000
def mB (in_ di : Int) : Obj := .cells #[.int .i64 0, .int .i64 0, .int .i64 5, .int .i64 in_, .int .i64 1, .int .i64 di, .int .i64 0] 25
theorem row_cells {W : World} {r : Nat} {in_ di : Int} (h : W.heap[r]? = some (mB in_ di)) :
    W.cell? ⟨r, 0, none⟩ = some (.int .i64 0) ∧ W.cell? ⟨r, 1, none⟩ = some (.int .i64 0) ∧ W.cell? ⟨r, 2, none⟩ = some (.int .i64 5) ∧ W.cell? ⟨r, 3, none⟩ = some (.int .i64 in_) ∧
    W.cell? ⟨r, 4, none⟩ = some (.int .i64 1) ∧ W.cell? ⟨r, 5, none⟩ = some (.int .i64 di) ∧ W.cell? ⟨r, 6, none⟩ = some (.int .i64 0) := by
  refine ⟨?_, ?_, ?_, ?_, ?_, ?_, ?_⟩
  all_goals (unfold World.cell?; simp only [h, mB]; rfl)
theorem canon_facts {w W' : World} {in_ di : Int} {o : Obj} (hb : Below ((w.alloc (mB in_ di)).alloc o).heap.size ((w.alloc (mB in_ di)).alloc o) W') :
    (w.heap.size + 1 < W'.heap.size ∧ W'.heap[w.heap.size]? = some (mB in_ di)) ∧
    (W'.cell? ⟨w.heap.size, 0, none⟩ = some (.int .i64 0) ∧ W'.cell? ⟨w.heap.size, 1, none⟩ = some (.int .i64 0) ∧ W'.cell? ⟨w.heap.size, 2, none⟩ = some (.int .i64 5) ∧ W'.cell? ⟨w.heap.size, 3, none⟩ = some (.int .i64 in_) ∧
    W'.cell? ⟨w.heap.size, 4, none⟩ = some (.int .i64 1) ∧ W'.cell? ⟨w.heap.size, 5, none⟩ = some (.int .i64 di) ∧ W'.cell? ⟨w.heap.size, 6, none⟩ = some (.int .i64 0)) ∧
    ((W'.alloc (.cells #[.int .i64 0, .int .i64 0] 23)).cell? ⟨w.heap.size, 0, none⟩ = some (.int .i64 0) ∧ (W'.alloc (.cells #[.int .i64 0, .int .i64 0] 23)).cell? ⟨w.heap.size, 1, none⟩ = some (.int .i64 0) ∧ (W'.alloc (.cells #[.int .i64 0, .int .i64 0] 23)).cell? ⟨w.heap.size, 2, none⟩ = some (.int .i64 5) ∧ (W'.alloc (.cells #[.int .i64 0, .int .i64 0] 23)).cell? ⟨w.heap.size, 3, none⟩ = some (.int .i64 in_) ∧
    (W'.alloc (.cells #[.int .i64 0, .int .i64 0] 23)).cell? ⟨w.heap.size, 4, none⟩ = some (.int .i64 1) ∧ (W'.alloc (.cells #[.int .i64 0, .int .i64 0] 23)).cell? ⟨w.heap.size, 5, none⟩ = some (.int .i64 di) ∧ (W'.alloc (.cells #[.int .i64 0, .int .i64 0] 23)).cell? ⟨w.heap.size, 6, none⟩ = some (.int .i64 0)) := by
  have hz : w.heap.size + 1 < W'.heap.size := by have := hb.size; simp at this; omega
  have r0 : W'.heap[w.heap.size]? = some (mB in_ di) := (hb.block _ (by simp; omega)).trans ((Below.heap_alloc _ _ _ (by simp)).trans (World.alloc_heap_new w _))
  exact ⟨⟨hz, r0⟩, row_cells r0, row_cells ((Below.heap_alloc _ _ _ (by omega)).trans r0)⟩
theorem setRow_same {g : Nat} {cs : Array Value} {t : TypeId} {fr : Nat × Nat} (w : World) (i : Nat) (v : Value) (h : w.heap[g]? = some (.cells cs t fr)) : (w.setCell ⟨g, i, none⟩ v).heap[g]? = some (.cells (cs.setIfInBounds i v) t fr) := by
  simp [World.setCell, Array.getElem?_modify, h]
theorem setRow_other {g b : Nat} {o : Option Obj} (hne : g ≠ b) (w : World) (i : Nat) (v : Value) (h : w.heap[g]? = o) : (w.setCell ⟨b, i, none⟩ v).heap[g]? = o := (Below.heap_setCell w ⟨b, i, none⟩ v g hne).trans h
set_option maxHeartbeats 4000000 in
theorem canon_calls (in_ di : Int) (w : World) (hC : ∀ W : World, Calls Tryz.prog 5 #[.agg #[.int .i64 0, .int .i64 0, .int .i64 5, .int .i64 in_, .int .i64 1, .int .i64 di, .int .i64 0]] W fun e W' => e = .returned (.int .i64 0) ∧ Below W.heap.size W W') :
    Calls Tryz.prog 116 #[.agg #[.int .i64 0, .int .i64 0, .int .i64 5, .int .i64 in_, .int .i64 1, .int .i64 di, .int .i64 0]] w fun e w' => e = .returned (.tuple #[.agg #[.int .i64 5, .int .i64 in_, .int .i64 0, .int .i64 0, .int .i64 0, .int .i64 di, .int .i64 0], .int .i64 0]) ∧ Below w.heap.size w w' := by
  letI : TokE := tok3 0 0 0
  have hbuild : ∀ w : World, (Instr.build 23 #[]).run Tryz.prog w = .ok (.agg #[.int .i64 0, .int .i64 0]) w := fun w => semPure_run _ (by kernel_rfl) w
  go_enter Tryz.func116, Tryz.ntmps116
  go_wp2_with (go_at_call 5; refine (hC _).mono ?_; rintro e W' ⟨rfl, hb⟩; obtain ⟨⟨hz, r0⟩, ⟨c0, c1, c2, c3, c4, c5, c6⟩, ⟨d0, d1, d2, d3, d4, d5, d6⟩⟩ := canon_facts hb)
  have hrV : (W'.alloc (.cells #[.int .i64 0, .int .i64 0] 23)).heap[w.heap.size]? = some (mB in_ di) := (Below.heap_alloc _ _ _ (by omega)).trans r0
  have f0 : ∀ k, k < 7 → (W'.alloc (.cells #[.int .i64 0, .int .i64 0] 23)).frozen? ⟨w.heap.size, k, none⟩ = false := fun k hk => by
    unfold World.frozen?
    simp only [hrV, mB]
    rfl
  have e0 : (W'.alloc (.cells #[.int .i64 0, .int .i64 0] 23)).cell? ⟨W'.heap.size, 0, none⟩ = some (.int .i64 0) := by unfold World.cell?; simp only [World.alloc_heap_new]; rfl
  have e1 : (W'.alloc (.cells #[.int .i64 0, .int .i64 0] 23)).cell? ⟨W'.heap.size, 1, none⟩ = some (.int .i64 0) := by unfold World.cell?; simp only [World.alloc_heap_new]; rfl
  have g0 := f0 0 (by decide)
  have g1 := f0 1 (by decide)
  have g2 := f0 2 (by decide)
  have g3 := f0 3 (by decide)
  have g4 := f0 4 (by decide)
  have hne : w.heap.size ≠ W'.heap.size := by omega
  have hne' : W'.heap.size ≠ w.heap.size := by omega
  have hbV : Below w.heap.size w (W'.alloc (.cells #[.int .i64 0, .int .i64 0] 23)) := by
    have h1 : Below w.heap.size w ((w.alloc (mB in_ di)).alloc (.cells #[.int .i64 0, .int .i64 0, .int .i64 0, .int .i64 0, .int .i64 0, .int .i64 0, .int .i64 0] 25)) := ((Below.refl _ w).alloc (Nat.le_refl _) _).alloc (by simp) _
    exact (h1.trans (hb.mono (by simp; omega))).alloc (by omega) _
  have q1 : (W'.alloc (.cells #[.int .i64 0, .int .i64 0] 23)).heap[w.heap.size + 1]? = some (.cells #[.int .i64 0, .int .i64 0, .int .i64 0, .int .i64 0, .int .i64 0, .int .i64 0, .int .i64 0] 25) :=
    (Below.heap_alloc _ _ _ (by omega)).trans ((hb.block _ (by simp)).trans (by have := World.alloc_heap_new (w.alloc (mB in_ di)) (.cells #[.int .i64 0, .int .i64 0, .int .i64 0, .int .i64 0, .int .i64 0, .int .i64 0, .int .i64 0] 25); rw [World.size_alloc] at this; exact this))
  have n1 : w.heap.size + 1 ≠ w.heap.size := by omega
  have n2 : w.heap.size ≠ w.heap.size + 1 := by omega
  revert d0 d1 d2 d3 d4 d5 d6 f0 e0 e1 g0 g1 g2 g3 g4 hbV hrV q1
  generalize (W'.alloc (.cells #[.int .i64 0, .int .i64 0] 23)) = V
  intro d0 d1 d2 d3 d4 d5 d6 hrV f0 e0 e1 g0 g1 g2 g3 g4 hbV q1
  have o : ∀ k, k < 7 → V.cell? ⟨w.heap.size + 1, k, none⟩ = some (.int .i64 0) ∧ V.frozen? ⟨w.heap.size + 1, k, none⟩ = false := fun k hk => by
    constructor
    · match k, hk with
      | 0, _ => unfold World.cell?; simp only [q1]; rfl
      | 1, _ => unfold World.cell?; simp only [q1]; rfl
      | 2, _ => unfold World.cell?; simp only [q1]; rfl
      | 3, _ => unfold World.cell?; simp only [q1]; rfl
      | 4, _ => unfold World.cell?; simp only [q1]; rfl
      | 5, _ => unfold World.cell?; simp only [q1]; rfl
      | 6, _ => unfold World.cell?; simp only [q1]; rfl
    · unfold World.frozen?
      simp only [q1]
      rfl
  obtain ⟨o0, p0⟩ := o 0 (by decide)
  obtain ⟨o1, p1⟩ := o 1 (by decide)
  obtain ⟨o2, p2⟩ := o 2 (by decide)
  obtain ⟨o3, p3⟩ := o 3 (by decide)
  obtain ⟨o4, p4⟩ := o 4 (by decide)
  obtain ⟨o5, p5⟩ := o 5 (by decide)
  obtain ⟨o6, p6⟩ := o 6 (by decide)
  go_region
  go_wp2
  have s5 := setRow_other n1 _ 4 (.int .i64 0) (setRow_other n1 _ 3 (.int .i64 0) (setRow_other n1 _ 2 (.int .i64 0) (setRow_other n1 _ 1 (.int .i64 in_) (setRow_other n1 _ 0 (.int .i64 5) q1))))
  have s12 := setRow_same _ 6 (.int .i64 0) (setRow_same _ 5 (.int .i64 di) (setRow_same _ 4 (.int .i64 0) (setRow_same _ 3 (.int .i64 0) (setRow_same _ 2 (.int .i64 0) (setRow_same _ 1 (.int .i64 in_) (setRow_same _ 0 (.int .i64 5) s5))))))
  have hbE := (((((((((((hbV.setCell (p := ⟨w.heap.size, 0, none⟩) (by simp) (.int .i64 5)).setCell (p := ⟨w.heap.size, 1, none⟩) (by simp) (.int .i64 in_)).setCell (p := ⟨w.heap.size, 2, none⟩) (by simp) (.int .i64 0)).setCell (p := ⟨w.heap.size, 3, none⟩) (by simp) (.int .i64 0)).setCell (p := ⟨w.heap.size, 4, none⟩) (by simp) (.int .i64 0)).setCell (p := ⟨w.heap.size + 1, 0, none⟩) (by simp) (.int .i64 5)).setCell (p := ⟨w.heap.size + 1, 1, none⟩) (by simp) (.int .i64 in_)).setCell (p := ⟨w.heap.size + 1, 2, none⟩) (by simp) (.int .i64 0)).setCell (p := ⟨w.heap.size + 1, 3, none⟩) (by simp) (.int .i64 0)).setCell (p := ⟨w.heap.size + 1, 4, none⟩) (by simp) (.int .i64 0)).setCell (p := ⟨w.heap.size + 1, 5, none⟩) (by simp) (.int .i64 di)).setCell (p := ⟨w.heap.size + 1, 6, none⟩) (by simp) (.int .i64 0)
  revert s12 hbE
  generalize ((((((((((((V.setCell ⟨w.heap.size, 0, none⟩ (.int .i64 5)).setCell ⟨w.heap.size, 1, none⟩ (.int .i64 in_)).setCell ⟨w.heap.size, 2, none⟩ (.int .i64 0)).setCell ⟨w.heap.size, 3, none⟩ (.int .i64 0)).setCell ⟨w.heap.size, 4, none⟩ (.int .i64 0)).setCell ⟨w.heap.size + 1, 0, none⟩ (.int .i64 5)).setCell ⟨w.heap.size + 1, 1, none⟩ (.int .i64 in_)).setCell ⟨w.heap.size + 1, 2, none⟩ (.int .i64 0)).setCell ⟨w.heap.size + 1, 3, none⟩ (.int .i64 0)).setCell ⟨w.heap.size + 1, 4, none⟩ (.int .i64 0)).setCell ⟨w.heap.size + 1, 5, none⟩ (.int .i64 di)).setCell ⟨w.heap.size + 1, 6, none⟩ (.int .i64 0)) = U
  intro s12 hbE
  have hl := run_loadVar_row (P := Tryz.prog) U.drew (w.heap.size + 1) 25 25 _ _ _ s12 Tryz.underlying25 rfl rfl
  refine ⟨rfl, .tuple #[.agg #[.int .i64 5, .int .i64 in_, .int .i64 0, .int .i64 0, .int .i64 0, .int .i64 di, .int .i64 0], .int .i64 0], ?_, rfl, ?_⟩
  · rw [results_cell_tmp Tryz.results116]
    refine Eq.trans (b := ((loadVar 25 ⟨w.heap.size + 1, 0, none⟩).run Tryz.prog U.drew).andThen fun v w₂ => .ok (.tuple #[v, .int .i64 0]) w₂) ?_ ?_
    · rfl
    · rw [hl]; rfl
  · exact hbE.trans ⟨rfl, rfl, rfl, Nat.le_refl _, fun _ _ => rfl⟩
end
end Go.Ev.Tw
namespace Go.Ev.Tw
open Go.Proofs Go.RowKit
noncomputable section
set_option maxRecDepth 1000000
@[reducible] def liftE' (E : TokR) : TokE := { facts := [], rews := [], env := E.env, hid := E.hid, factsOk := fun q hq => (by cases hq), rewsOk := fun q hq => (by cases hq) }
theorem p2n' {α : Type} {a : Bool} {x : Option α} {y : α} (h : pick2 a x none = some y) : a = true ∧ x = some y := by cases a <;> simp_all [pick2]
theorem mapN_eq {α β : Type} (f : α → β) : ∀ l : List α, mapN f l = l.map f
  | [] => rfl
  | a :: l => by rw [List.map_cons, ← mapN_eq f l]; rfl
theorem appN_eq {α : Type} (m : List α) : ∀ l : List α, appN l m = l ++ m
  | [] => rfl
  | a :: l => by rw [List.cons_append, ← appN_eq m l]; rfl
theorem bindN_eq {α β : Type} (f : α → List β) : ∀ l : List α, bindN l f = l.flatMap f
  | [] => rfl
  | a :: l => by rw [List.flatMap_cons, ← bindN_eq f l, ← appN_eq]; rfl
theorem lanes_map {α β : Type} (s : Sh) (f : Nat → Nat → Nat → α) (g : α → β) : s.lanes (fun b i c => g (f b i c)) = (s.lanes f).map g := by
  unfold Sh.lanes
  simp only [bindN_eq, mapN_eq, List.map_flatMap, List.map_map]
  rfl
def Sh.trip (s : Sh) : List (Nat × Nat × Nat) := s.lanes fun b i c => (b, i, c)
theorem trip_get {s : Sh} {j b i c : Nat} (h : s.trip[j]? = some (b, i, c)) {α : Type} (f : Nat → Nat → Nat → α) : (s.lanes f)[j]? = some (f b i c) := by
  have : s.lanes f = s.trip.map fun t => f t.1 t.2.1 t.2.2 := lanes_map s (fun b i c => (b, i, c)) (fun t => f t.1 t.2.1 t.2.2)
  rw [this, List.getElem?_map, h]; rfl
theorem lane_j (j : Nat) (d wh nx ad : Int) : laneOf (envU j d wh nx ad) = j := by
  unfold laneOf envU
  simp
theorem den_vI {j : Nat} {d wh nx ad : Int} {l : List Nat} {n : Nat} (h : l[j]? = some n) : den (envU j d wh nx ad) (vI l) = some (.i64, (n : Int)) := by
  letI : TokE := tok3 0 0 0
  unfold vI
  refine vecR_den (a := int64 n) ?_ rfl
  rw [lane_j, mapN_eq, List.getElem?_map, h]; rfl
theorem kind_vI (l : List Nat) : (kindT (vI l)).isSome = true := by
  letI : TokE := tok3 0 0 0
  unfold vI
  refine vecR_kind fun v hv => ?_
  rw [mapN_eq, List.getElem?_map] at hv
  cases h : l[0]? with
  | none => rw [h] at hv; cases hv
  | some a => rw [h] at hv; cases hv; rfl
/-- What a place of a shape is. -/
def mA (s : Sh) (b i c : Nat) (d : Int) : Array Value := #[.int .i64 s.bc, .int .i64 b, .int .i64 s.ic, .int .i64 i, .int .i64 c, .int .i64 d, .int .i64 0]
/-- A number that is known well enough. -/
def IsN (e : EnvU) (v : Value) (n : Int) : Prop := den (envU e.j e.d e.wh e.nx e.ad) v = some (.i64, n) ∧ (kindT v).isSome = true
theorem IsN.rel {e : EnvU} {v : Value} {n : Int} (h : IsN e v n) (ρ : Ren) : @VRel e.r ρ v (.int .i64 n) := by
  letI : TokE := e.t _ _ rfl rfl
  exact rel_num h.2 h.1
theorem IsN.inv {e : EnvU} {v v' : Value} {n : Int} (h : IsN e v n) {ρ : Ren} (hv : @VRel e.r ρ v v') : v' = .int .i64 n := by
  letI : TokE := e.t _ _ rfl rfl
  obtain ⟨h1, h2⟩ := h
  cases hk : kindT v with
  | none => rw [hk] at h2; cases h2
  | some k =>
    obtain ⟨m, rfl, h3⟩ := num_rel hk hv
    have h3 : den (envU e.j e.d e.wh e.nx e.ad) v = some (k, m) := h3
    rw [h1] at h3
    cases h3
    rfl
theorem isN_int (e : EnvU) (n : Nat) : IsN e (int64 n) n := ⟨rfl, rfl⟩
theorem isN_vI {e : EnvU} {l : List Nat} {n : Nat} (h : l[e.j]? = some n) : IsN e (vI l) n := ⟨den_vI h, kind_vI l⟩
theorem mv_rel {e : EnvU} {s : Sh} {disp : Value} {b i c : Nat} {d : Int} (hj : s.trip[e.j]? = some (b, i, c)) (hd : IsN e disp d) (ρ : Ren) : @VRel e.r ρ (.agg ⟨s.mv disp⟩) (.agg (mA s b i c d)) := by
  letI : TokE := e.t _ _ rfl rfl
  have h : LR (VRel ρ) (s.mv disp) (mA s b i c d).toList :=
    LR.cons ((isN_int e s.bc).rel ρ) (LR.cons ((isN_vI (trip_get hj fun b _ _ => b)).rel ρ) (LR.cons ((isN_int e s.ic).rel ρ) (LR.cons ((isN_vI (trip_get hj fun _ i _ => i)).rel ρ) (LR.cons ((isN_vI (trip_get hj fun _ _ c => c)).rel ρ)
      (LR.cons (hd.rel ρ) (LR.cons ((isN_int e 0).rel ρ) LR.nil))))))
  have h2 := LR.array h
  exact @VRel.agg e.r ρ _ _ h2.1 h2.2
theorem mv_inv {e : EnvU} {s : Sh} {disp : Value} {b i c : Nat} {d : Int} (hj : s.trip[e.j]? = some (b, i, c)) (hd : IsN e disp d) {ρ : Ren} {v' : Value} (h : @VRel e.r ρ (.agg ⟨s.mv disp⟩) v') : v' = .agg (mA s b i c d) := by
  letI : TokE := e.t _ _ rfl rfl
  cases h with
  | agg _ a' sa ha =>
    have hl : LR (VRel ρ) (s.mv disp) a'.toList := AR.list ⟨sa, ha⟩
    obtain ⟨x0, t0, e0, r0, hl⟩ := LR.uncons hl
    obtain ⟨x1, t1, e1, r1, hl⟩ := LR.uncons hl
    obtain ⟨x2, t2, e2, r2, hl⟩ := LR.uncons hl
    obtain ⟨x3, t3, e3, r3, hl⟩ := LR.uncons hl
    obtain ⟨x4, t4, e4, r4, hl⟩ := LR.uncons hl
    obtain ⟨x5, t5, e5, r5, hl⟩ := LR.uncons hl
    obtain ⟨x6, t6, e6, r6, hl⟩ := LR.uncons hl
    have := LR.unnil hl
    subst this
    rw [(isN_int e s.bc).inv r0] at e0
    rw [(isN_vI (trip_get hj fun b _ _ => b)).inv r1] at e1
    rw [(isN_int e s.ic).inv r2] at e2
    rw [(isN_vI (trip_get hj fun _ i _ => i)).inv r3] at e3
    rw [(isN_vI (trip_get hj fun _ _ c => c)).inv r4] at e4
    rw [hd.inv r5] at e5
    rw [(isN_int e 0).inv r6] at e6
    subst e6 e5 e4 e3 e2 e1
    congr 1
    exact Array.toList_inj.1 e0
/-! A check. -/
def mSc : Memo := laneM 14 false tabSc
def okChk (b8 b0 : Bool) (m : List Value) : Bool := packB 0 (@callA (tdU b8 b0) Tryz.prog 0 noKnown 5000 60 (memosD mSc noD) 5 [.agg ⟨m⟩] Mem.empty) (int64 0) [] 0 0 65536
def chkM (m : List Value) : Memo := viewM 5 [.agg ⟨m⟩] [] (int64 0) []
theorem chk_memo (e : EnvU) {b8 b0 : Bool} (h8 : e.b8 = b8) (h0 : e.b0 = b0) (GR : List Blk) {m : List Value} (h : okChk b8 b0 m = true) : @MemoOk e.r Tryz.prog GR (chkM m) := by
  letI E : TokE := e.t b8 b0 h8 h0
  exact @view_memo E _ _ _ _ _ _ _ (@toldV_of E Tryz.prog GR no_own mixed noKnown noKnown_ok.any 5000 60 5 [.agg ⟨m⟩] [] mSc noD (sc_memo GR) noD_ok Mem.empty rfl rfl (fun h => by cases h) (int64 0) [] 0 0 65536 h)
theorem chk_calls (e : EnvU) {b8 b0 : Bool} (h8 : e.b8 = b8) (h0 : e.b0 = b0) {s : Sh} {disp : Value} {b i c : Nat} {d : Int} (hj : s.trip[e.j]? = some (b, i, c)) (hd : IsN e disp d) (h : okChk b8 b0 (s.mv disp) = true) (W : World) :
    Calls Tryz.prog 5 #[.agg (mA s b i c d)] W fun e W' => e = .returned (.int .i64 0) ∧ Below W.heap.size W W' := by
  letI E : TokE := e.t b8 b0 h8 h0
  refine (pack_run (G := 0) (w := W) (args := [.agg (mA s b i c d)]) h fun u H1 hr => (call_okD no_own mixed noKnown_ok.any (sc_memo []) noD_ok hr rfl (.inl fun h => by cases h)
    (c := ⟨Tryz.prog, W.heap.size, 0, 0, W, fun _ => none, fun _ => none, fun _ => none⟩) rfl rfl (RowsAt.nil W) (Nat.zero_le _) (Emb.empty W) (LR.cons (mv_rel hj hd _) LR.nil)).mono fun e w' h => ?_).mono ?_
  · obtain ⟨ρ', v', e1, _, e2, e3⟩ := h
    exact ⟨ρ', v', e1, e2, e3⟩
  · rintro x w' ⟨ρ, v', M, rfl, hv, _, _, hM⟩
    cases hv
    exact ⟨rfl, hM.below⟩
end
end Go.Ev.Tw
namespace Go.Ev.Tw
open Go.Proofs Go.RowKit
noncomputable section
set_option maxRecDepth 1000000
theorem emb_none (E : TokR) {w w' : World} (h : Below w.heap.size w w') : @Emb E ⟨Tryz.prog, w.heap.size, 0, 0, w, fun _ => none, fun _ => none, fun _ => none⟩ (fun _ => none) Mem.empty w' := by
  letI : TokE := liftE' E
  exact @Emb.mk E _ _ _ _ ⟨h, fun r o h => (by cases h), fun r o h => (by cases h)⟩ h.size (fun i x h => by cases h) (Nat.le_refl _) (Nat.le_refl _) (fun g hg => absurd hg (Nat.not_lt_zero _)) (fun i b h => absurd (Mem.get_lt h) (Nat.not_lt_zero _)) (fun i j bi bj r x y h => absurd (Mem.get_lt h) (Nat.not_lt_zero _)) (fun i b h => absurd (Mem.get_lt h) (Nat.not_lt_zero _)) (fun i j bi bj r x y h => absurd (Mem.get_lt h) (Nat.not_lt_zero _)) (fun i x h => by cases h)
/-- What a call of numbers comes to. -/
def Nums (E : TokR) (GR : List Blk) (f : FuncId) (pa : List Value) (v : Value) : Prop := ∀ (ρ : Ren) (args' : List Value), LR (@VRel E ρ) pa args' → ∀ w, RowsAt GR w → Calls Tryz.prog f args'.toArray w fun x w' => ∃ v', x = .returned v' ∧ (∀ ρ, @VRel E ρ v v') ∧ Below w.heap.size w w'
theorem nums_memo (E : TokR) {GR : List Blk} {f : FuncId} {pa : List Value} {v : Value} (h : Nums E GR f pa v) : @MemoOk E Tryz.prog GR (viewM f pa [] v []) := by
  letI : TokE := liftE' E
  refine @view_memo this _ _ _ _ _ _ _ ?_
  intro c hcP ρ w H a args' τ hr he hv hout hs hl
  obtain ⟨t1, t2⟩ := sameL_rel (ρ := ρ) (ρ' := fun i => ρ (τ i)) (σ := τ) (fun _ => rfl) _ _ hs
  have hl' : LR (VRel fun i => ρ (τ i)) pa args' := ⟨t1.trans hl.1, fun i x y hx hy => t2 (fun i => args'[i]?) hl.2 i x y hx hy⟩
  refine (h _ args' hl' w hr).mono ?_
  rintro x w' ⟨v', rfl, h1, h2⟩
  exact ⟨fun _ => none, v', Mem.empty, rfl, h1 _, rfl, fun i b hb => by simp at hb, emb_none E h2⟩
/-! The canon of an index alone. -/
def canM (I : List Nat) (disp : Value) : Memo := viewM 116 [.agg ⟨(⟨0, [0], 5, I, [1]⟩ : Sh).mv disp⟩] [] (.tuple ⟨[.agg ⟨(⟨5, I, 0, [0], [0]⟩ : Sh).mv disp⟩, int64 0]⟩) []
theorem flat_one {α β : Type} (f : α → β) : ∀ l : List α, l.flatMap (fun a => [f a]) = l.map f
  | [] => rfl
  | a :: l => by rw [List.flatMap_cons, flat_one f l]; rfl
theorem trip_one {I : List Nat} {j i : Nat} (h : I[j]? = some i) (bc ic x y : Nat) : (⟨bc, [x], ic, I, [y]⟩ : Sh).trip[j]? = some (x, i, y) := by
  have : (⟨bc, [x], ic, I, [y]⟩ : Sh).trip = I.map fun i => (x, i, y) := by
    unfold Sh.trip Sh.lanes
    simp only [bindN_eq, mapN_eq, List.flatMap_cons, List.flatMap_nil, List.append_nil, List.map_cons, List.map_nil]
    exact flat_one _ _
  rw [this, List.getElem?_map, h]; rfl
theorem trip_base {B : List Nat} {j b : Nat} (h : B[j]? = some b) (bc ic x y : Nat) : (⟨bc, B, ic, [x], [y]⟩ : Sh).trip[j]? = some (b, x, y) := by
  have : (⟨bc, B, ic, [x], [y]⟩ : Sh).trip = B.map fun b => (b, x, y) := by
    unfold Sh.trip Sh.lanes
    simp only [bindN_eq, mapN_eq, List.flatMap_cons, List.flatMap_nil, List.append_nil, List.map_cons, List.map_nil]
    exact flat_one _ _
  rw [this, List.getElem?_map, h]; rfl
theorem can_memo (e : EnvU) {b8 b0 : Bool} (h8 : e.b8 = b8) (h0 : e.b0 = b0) (GR : List Blk) {I : List Nat} {i : Nat} (hi : I[e.j]? = some i) {disp : Value} {d : Int} (hd : IsN e disp d)
    (hc : okChk b8 b0 ((⟨0, [0], 5, I, [1]⟩ : Sh).mv disp) = true) : @MemoOk e.r Tryz.prog GR (canM I disp) := by
  refine nums_memo e.r fun ρ args' hl w _ => ?_
  have hj := trip_one hi 0 5 0 1
  letI : TokE := e.t b8 b0 h8 h0
  obtain ⟨x, t, rfl, hx, hnil⟩ := LR.uncons hl
  have := LR.unnil hnil
  subst this
  have := mv_inv hj hd hx
  subst this
  refine (canon_calls (i : Int) d w fun W => chk_calls e h8 h0 hj hd hc W).mono ?_
  rintro x w' ⟨rfl, hb⟩
  refine ⟨_, rfl, fun ρ => ?_, hb⟩
  have h1 := mv_rel (e := e) (s := ⟨5, I, 0, [0], [0]⟩) (disp := disp) (b := i) (i := 0) (c := 0) (d := d) ?_ hd ρ
  · have h2 := LR.array (LR.cons h1 (LR.cons ((isN_int e 0).rel ρ) LR.nil))
    exact @VRel.tuple e.r ρ _ _ h2.1 h2.2
  · exact trip_base hi 5 0 0 0
/-! Which way. -/
def pickM (n k : Nat) : Memo := viewM 8 [tokVar .i64 1, int64 n] [] (int64 k) []
theorem pick_memo (e : EnvU) (GR : List Blk) {n k : Nat} (hw : -9223372036854775808 ≤ e.wh ∧ e.wh ≤ 9223372036854775807) (hn : 1 ≤ n ∧ n ≤ 1000) (hk : e.wh % (n : Int) = k) : @MemoOk e.r Tryz.prog GR (pickM n k) := by
  refine nums_memo e.r fun ρ args' hl w _ => ?_
  letI : TokE := e.t _ _ rfl rfl
  obtain ⟨x, t, rfl, hx, hl⟩ := LR.uncons hl
  obtain ⟨y, t, rfl, hy, hnil⟩ := LR.uncons hl
  have := LR.unnil hnil
  subst this
  have e1 : IsN e (tokVar .i64 1) e.wh := ⟨rfl, rfl⟩
  rw [e1.inv hx, (isN_int e n).inv hy]
  refine (pick_calls e.wh n hw hn w).mono ?_
  rintro x w' ⟨rfl, rfl⟩
  refine ⟨_, rfl, fun ρ => ?_, Below.refl _ _⟩
  rw [hk]
  exact (isN_int e k).rel ρ
/-! The address. -/
/-- Where a place is. -/
def addrV (bc b ic i c : Nat) (d : Int) (R : Nat → Int) (nx : Int) : Int :=
  sum3 (if bc = 8 then nx else if bc = 5 then R b else 0) (if ic = 5 then wrap64 ((c : Int) * R i) else 0) d
def addM (m : List Value) : Memo := fun f a _ => pick2 (Nat.beq f 9) (match a with
  | [x, .slice (some ⟨0, 0, some 1⟩) 16 0, n] => pick2 (sameV (fun i => i) (.agg ⟨m⟩) x) (pick2 (eqT (tokVar .i64 3) n) (some (.tuple ⟨[tokVar .i64 4, int64 0]⟩, [])) none) none
  | _ => none) none
theorem addM_ok (e : EnvU) {b8 b0 : Bool} (h8 : e.b8 = b8) (h0 : e.b0 = b0) {GR : List Blk} {r off cap : Nat} {R : Nat → Int} (hregs : ∀ w, RowsAt GR w → RegsAt r off R w) (hhid : e.hid = some (⟨r, off, none⟩, 16, cap))
    {s : Sh} {disp : Value} {b i c : Nat} {d : Int} (hj : s.trip[e.j]? = some (b, i, c)) (hd : IsN e disp d) (hc : okChk b8 b0 (s.mv disp) = true) (hb : b < 16) (hi : i < 16)
    (hcls : (s.bc = 0 ∧ s.ic = 0) ∨ (s.bc = 8 ∧ s.ic = 0) ∨ (s.bc = 5 ∧ s.ic = 0) ∨ (s.bc = 0 ∧ s.ic = 5) ∨ (s.bc = 5 ∧ s.ic = 5)) (had : addrV s.bc b s.ic i c d R e.nx = e.ad) : @MemoOk e.r Tryz.prog GR (addM (s.mv disp)) := by
  letI E : TokE := e.t b8 b0 h8 h0
  intro f a H v rows hm c0 hcP ρ w args' hr he hl
  unfold addM at hm
  obtain ⟨hf, hm1⟩ := p2n' hm
  clear hm
  have hf := beqN hf
  subst hf
  split at hm1
  case h_2 => cases hm1
  rename_i x n0
  obtain ⟨hs, hm2⟩ := p2n' hm1
  clear hm1
  obtain ⟨hn, hm3⟩ := p2n' hm2
  clear hm2
  cases hm3
  obtain ⟨x', t, rfl, hx, hl⟩ := LR.uncons hl
  obtain ⟨y', t, rfl, hy, hl⟩ := LR.uncons hl
  obtain ⟨z', t, rfl, hz, hnil⟩ := LR.uncons hl
  have := LR.unnil hnil
  subst this
  have hx2 := sameV_rel (ρ := ρ) (ρ' := ρ) (σ := fun i => i) (fun _ => rfl) _ _ hs _ hx
  have := mv_inv hj hd hx2
  subst this
  have hz2 : VRel ρ (tokVar .i64 3) z' := eqT_tok hn hz
  have e3 : IsN e (tokVar .i64 3) e.nx := ⟨rfl, rfl⟩
  have := e3.inv hz2
  subst this
  have hC := chk_calls e h8 h0 hj hd hc
  have hR := hregs w hr
  have hy2 : y' = .slice (some ⟨r, off, none⟩) 16 cap := by
    cases hy with
    | hid a n c h =>
      have h : e.hid = some (a, 16, c) := h
      rw [hhid] at h
      cases h
      rfl
  subst hy2
  have fin : ∀ z : Int, z = e.ad → (Calls Tryz.prog 9 [.agg (mA s b i c d), .slice (some ⟨r, off, none⟩) 16 cap, .int .i64 e.nx].toArray w fun x w' => x = .returned (.tuple #[.int .i64 z, .int .i64 0]) ∧ Below w.heap.size w w') →
      Calls Tryz.prog 9 [.agg (mA s b i c d), .slice (some ⟨r, off, none⟩) 16 cap, .int .i64 e.nx].toArray w fun x w' => ∃ ρ v' M, x = .returned v' ∧ VRel ρ (.tuple ⟨[tokVar .i64 4, int64 0]⟩) v' ∧ M.size = ([] : List Blk).length ∧ (∀ (i : Nat) (b : Blk), ([] : List Blk)[i]? = some b → (b.live = true ∨ isMapB b = true) → M.get i = some b) ∧
        Emb ⟨Tryz.prog, w.heap.size, 0, 0, w, fun _ => none, fun _ => none, fun _ => none⟩ ρ M w' := fun z hz hcall => by
    refine hcall.mono ?_
    rintro x w' ⟨rfl, hbl⟩
    refine ⟨fun _ => none, _, Mem.empty, rfl, ?_, rfl, fun i b hb => by simp at hb, emb_none _ hbl⟩
    have e4 : IsN e (tokVar .i64 4) e.ad := ⟨rfl, rfl⟩
    rw [hz]
    have h2 := LR.array (LR.cons (e4.rel fun _ => none) (LR.cons ((isN_int e 0).rel fun _ => none) LR.nil))
    exact @VRel.tuple e.r _ _ _ h2.1 h2.2
  refine fin _ had ?_
  unfold mA at hC ⊢
  unfold addrV
  rcases hcls with ⟨q1, q2⟩ | ⟨q1, q2⟩ | ⟨q1, q2⟩ | ⟨q1, q2⟩ | ⟨q1, q2⟩ <;> rw [q1, q2] at hC ⊢
  · exact addr_nn (b : Int) (i : Int) (c : Int) d e.nx r off cap R w hR hC
  · exact addr_pn (b : Int) (i : Int) (c : Int) d e.nx r off cap R w hR hC
  · exact addr_rn (b : Int) (i : Int) (c : Int) d e.nx b hb r off cap R w hR hC
  · exact addr_nr (b : Int) (i : Int) (c : Int) d e.nx i hi r off cap R w hR hC
  · exact addr_rr (b : Int) (i : Int) (c : Int) d e.nx b hb i hi r off cap R w hR hC
end
end Go.Ev.Tw
