/- mem.scaled: the walk. -/
import Derived.Test.YtpenhcmahojifaaGreatDoorZa
import Derived.MapKept
import Derived.Test.YtpenhcmahojifaaGreatDoorGj
set_option linter.unusedVariables false
set_option linter.unusedSimpArgs false
set_option linter.unusedSectionVars false
namespace Go.Ev.Tw
open Go.Proofs Go.RowKit
noncomputable section
set_option maxRecDepth 1000000
def esN (l : List (Int × Int)) (n : Nat) : List MapEntry := match l with
  | [] => []
  | q :: l => ⟨.int .i64 q.1, .int .i64 q.2, n⟩ :: esN l (n + 1)
theorem wb_get {w : World} {r : Nat} {o o' : Obj} (h : w.heap[r]? = some o) : (withBlk w r o').heap[r]? = some o' := by
  unfold withBlk
  have := (Array.getElem?_eq_some_iff.1 h).1
  simp [this]
theorem mset (w : World) (r : Nat) (es : Array MapEntry) (clock : Nat) (k v : Int) (h : w.heap[r]? = some (.map es clock)) (hf : Instr.findNow (.int .i64) (.int .i64 k) es.toList 0 = some none) :
    (Instr.mapUpdate 71 (.map (some r)) (.int .i64 k) (.int .i64 v)).run Tryz.prog w = .ok () (withBlk w r (.map (es.push ⟨.int .i64 k, .int .i64 v, clock⟩) (clock + 1))) := by
  letI : TokE := tok3 0 0 0
  have ht : Tryz.prog.underlying 71 = some (.map 3 3) := Tryz.underlying71
  have hd : Tryz.prog.underlying 3 = some (.int .i64) := Tryz.underlying3
  simp [Instr.mapUpdate, run_underlying ht, Go.MapKept.run_getObj_map h, check_run hd rfl, Go.MapKept.run_findKey hd hf, Go.MapKept.run_setObj_map _ h, Result.andThen, withBlk]
theorem mlook (w : World) (r : Nat) (es : Array MapEntry) (clock : Nat) (k : Int) (h : w.heap[r]? = some (.map es clock)) (hf : Instr.findNow (.int .i64) (.int .i64 k) es.toList 0 = some none) :
    (Instr.lookup 71 (.map (some r)) (.int .i64 k) true).run Tryz.prog w = .ok (.tuple #[.int .i64 0, .bool false]) w := by
  letI : TokE := tok3 0 0 0
  have ht : Tryz.prog.underlying 71 = some (.map 3 3) := Tryz.underlying71
  have hd : Tryz.prog.underlying 3 = some (.int .i64) := Tryz.underlying3
  have hz : (zeroValue 3).run Tryz.prog w = Result.ok (.int .i64 0) w := semPure_run _ (by kernel_rfl) w
  simp only [Instr.lookup, Sem.run_bind, run_underlying ht, Go.MapKept.run_getObj_map h, check_run hd rfl, Go.MapKept.run_findKey hd hf, Sem.run_pure, Result.andThen, hz]
  rfl
theorem mlook' (w : World) (r : Nat) (es : Array MapEntry) (clock : Nat) (k : Int) (j : Nat) (v : Int) (h : w.heap[r]? = some (.map es clock)) (hf : Instr.findNow (.int .i64) (.int .i64 k) es.toList 0 = some (some (j, .int .i64 v))) :
    (Instr.lookup 71 (.map (some r)) (.int .i64 k) true).run Tryz.prog w = .ok (.tuple #[.int .i64 v, .bool true]) w := by
  letI : TokE := tok3 0 0 0
  have ht : Tryz.prog.underlying 71 = some (.map 3 3) := Tryz.underlying71
  have hd : Tryz.prog.underlying 3 = some (.int .i64) := Tryz.underlying3
  simp only [Instr.lookup, Sem.run_bind, run_underlying ht, Go.MapKept.run_getObj_map h, check_run hd rfl, Go.MapKept.run_findKey hd hf, Sem.run_pure, Result.andThen]
  rfl
/-- The four scales. -/
def es4 : Array MapEntry := #[⟨.int .i64 1, .int .i64 0, 0⟩, ⟨.int .i64 2, .int .i64 1, 1⟩, ⟨.int .i64 4, .int .i64 2, 2⟩, ⟨.int .i64 8, .int .i64 3, 3⟩]
set_option maxHeartbeats 4000000 in
theorem scaled_aux (sc v : Int) (b : Bool) (hl : ∀ (W : World) (r : Nat), W.heap[r]? = some (.map es4 4) → (Instr.lookup 71 (.map (some r)) (.int .i64 sc) true).run Tryz.prog W = .ok (.tuple #[.int .i64 v, .bool b]) W) (w : World) :
    Calls Tryz.prog 14 #[.int .i64 sc] w fun e w' => e = .returned (.bool b) ∧ Below w.heap.size w w' := by
  letI : TokE := tok3 0 0 0
  have hmm := @run_makeMap Tryz.prog
  have a1 : (w.alloc (.map #[] 0)).heap[w.heap.size]? = some (.map #[] 0) := World.alloc_heap_new w _
  have u1 : (Instr.mapUpdate 71 (.map (some w.heap.size)) (.int .i64 1) (.int .i64 0)).run Tryz.prog (w.alloc (.map #[] 0)) = .ok () (withBlk (w.alloc (.map #[] 0)) w.heap.size (.map #[⟨.int .i64 1, .int .i64 0, 0⟩] 1)) := mset _ _ _ _ 1 0 a1 rfl
  have a2 : (withBlk (w.alloc (.map #[] 0)) w.heap.size (.map #[⟨.int .i64 1, .int .i64 0, 0⟩] 1)).heap[w.heap.size]? = some (.map #[⟨.int .i64 1, .int .i64 0, 0⟩] 1) := wb_get a1
  have u2 : (Instr.mapUpdate 71 (.map (some w.heap.size)) (.int .i64 2) (.int .i64 1)).run Tryz.prog (withBlk (w.alloc (.map #[] 0)) w.heap.size (.map #[⟨.int .i64 1, .int .i64 0, 0⟩] 1)) = .ok () (withBlk (withBlk (w.alloc (.map #[] 0)) w.heap.size (.map #[⟨.int .i64 1, .int .i64 0, 0⟩] 1)) w.heap.size (.map #[⟨.int .i64 1, .int .i64 0, 0⟩, ⟨.int .i64 2, .int .i64 1, 1⟩] 2)) := mset _ _ _ _ 2 1 a2 rfl
  have a3 : (withBlk (withBlk (w.alloc (.map #[] 0)) w.heap.size (.map #[⟨.int .i64 1, .int .i64 0, 0⟩] 1)) w.heap.size (.map #[⟨.int .i64 1, .int .i64 0, 0⟩, ⟨.int .i64 2, .int .i64 1, 1⟩] 2)).heap[w.heap.size]? = some (.map #[⟨.int .i64 1, .int .i64 0, 0⟩, ⟨.int .i64 2, .int .i64 1, 1⟩] 2) := wb_get a2
  have u3 : (Instr.mapUpdate 71 (.map (some w.heap.size)) (.int .i64 4) (.int .i64 2)).run Tryz.prog (withBlk (withBlk (w.alloc (.map #[] 0)) w.heap.size (.map #[⟨.int .i64 1, .int .i64 0, 0⟩] 1)) w.heap.size (.map #[⟨.int .i64 1, .int .i64 0, 0⟩, ⟨.int .i64 2, .int .i64 1, 1⟩] 2)) = .ok () (withBlk (withBlk (withBlk (w.alloc (.map #[] 0)) w.heap.size (.map #[⟨.int .i64 1, .int .i64 0, 0⟩] 1)) w.heap.size (.map #[⟨.int .i64 1, .int .i64 0, 0⟩, ⟨.int .i64 2, .int .i64 1, 1⟩] 2)) w.heap.size (.map #[⟨.int .i64 1, .int .i64 0, 0⟩, ⟨.int .i64 2, .int .i64 1, 1⟩, ⟨.int .i64 4, .int .i64 2, 2⟩] 3)) := mset _ _ _ _ 4 2 a3 rfl
  have a4 : (withBlk (withBlk (withBlk (w.alloc (.map #[] 0)) w.heap.size (.map #[⟨.int .i64 1, .int .i64 0, 0⟩] 1)) w.heap.size (.map #[⟨.int .i64 1, .int .i64 0, 0⟩, ⟨.int .i64 2, .int .i64 1, 1⟩] 2)) w.heap.size (.map #[⟨.int .i64 1, .int .i64 0, 0⟩, ⟨.int .i64 2, .int .i64 1, 1⟩, ⟨.int .i64 4, .int .i64 2, 2⟩] 3)).heap[w.heap.size]? = some (.map #[⟨.int .i64 1, .int .i64 0, 0⟩, ⟨.int .i64 2, .int .i64 1, 1⟩, ⟨.int .i64 4, .int .i64 2, 2⟩] 3) := wb_get a3
  have u4 : (Instr.mapUpdate 71 (.map (some w.heap.size)) (.int .i64 8) (.int .i64 3)).run Tryz.prog (withBlk (withBlk (withBlk (w.alloc (.map #[] 0)) w.heap.size (.map #[⟨.int .i64 1, .int .i64 0, 0⟩] 1)) w.heap.size (.map #[⟨.int .i64 1, .int .i64 0, 0⟩, ⟨.int .i64 2, .int .i64 1, 1⟩] 2)) w.heap.size (.map #[⟨.int .i64 1, .int .i64 0, 0⟩, ⟨.int .i64 2, .int .i64 1, 1⟩, ⟨.int .i64 4, .int .i64 2, 2⟩] 3)) = .ok () (withBlk (withBlk (withBlk (withBlk (w.alloc (.map #[] 0)) w.heap.size (.map #[⟨.int .i64 1, .int .i64 0, 0⟩] 1)) w.heap.size (.map #[⟨.int .i64 1, .int .i64 0, 0⟩, ⟨.int .i64 2, .int .i64 1, 1⟩] 2)) w.heap.size (.map #[⟨.int .i64 1, .int .i64 0, 0⟩, ⟨.int .i64 2, .int .i64 1, 1⟩, ⟨.int .i64 4, .int .i64 2, 2⟩] 3)) w.heap.size (.map #[⟨.int .i64 1, .int .i64 0, 0⟩, ⟨.int .i64 2, .int .i64 1, 1⟩, ⟨.int .i64 4, .int .i64 2, 2⟩, ⟨.int .i64 8, .int .i64 3, 3⟩] 4)) := mset _ _ _ _ 8 3 a4 rfl
  have a5 : (withBlk (withBlk (withBlk (withBlk (w.alloc (.map #[] 0)) w.heap.size (.map #[⟨.int .i64 1, .int .i64 0, 0⟩] 1)) w.heap.size (.map #[⟨.int .i64 1, .int .i64 0, 0⟩, ⟨.int .i64 2, .int .i64 1, 1⟩] 2)) w.heap.size (.map #[⟨.int .i64 1, .int .i64 0, 0⟩, ⟨.int .i64 2, .int .i64 1, 1⟩, ⟨.int .i64 4, .int .i64 2, 2⟩] 3)) w.heap.size (.map #[⟨.int .i64 1, .int .i64 0, 0⟩, ⟨.int .i64 2, .int .i64 1, 1⟩, ⟨.int .i64 4, .int .i64 2, 2⟩, ⟨.int .i64 8, .int .i64 3, 3⟩] 4)).heap[w.heap.size]? = some (.map #[⟨.int .i64 1, .int .i64 0, 0⟩, ⟨.int .i64 2, .int .i64 1, 1⟩, ⟨.int .i64 4, .int .i64 2, 2⟩, ⟨.int .i64 8, .int .i64 3, 3⟩] 4) := wb_get a4
  have u5 := hl _ _ a5
  have hbe : ∀ (W : World) (o : Obj), Below w.heap.size w W → Below w.heap.size w (withBlk W w.heap.size o) := fun W o h => h.trans ⟨rfl, rfl, rfl, by simp [withBlk], fun i hi => by rw [withBlk_heap _ _ _ _ (by omega)]⟩
  have hB := hbe _ (.map #[⟨.int .i64 1, .int .i64 0, 0⟩, ⟨.int .i64 2, .int .i64 1, 1⟩, ⟨.int .i64 4, .int .i64 2, 2⟩, ⟨.int .i64 8, .int .i64 3, 3⟩] 4) (hbe _ (.map #[⟨.int .i64 1, .int .i64 0, 0⟩, ⟨.int .i64 2, .int .i64 1, 1⟩, ⟨.int .i64 4, .int .i64 2, 2⟩] 3) (hbe _ (.map #[⟨.int .i64 1, .int .i64 0, 0⟩, ⟨.int .i64 2, .int .i64 1, 1⟩] 2) (hbe _ (.map #[⟨.int .i64 1, .int .i64 0, 0⟩] 1) ((Below.refl _ w).alloc (Nat.le_refl _) (.map #[] 0)))))
  go_enter Tryz.func14, Tryz.ntmps14
  go_wp2
  go_ret
  exact ⟨rfl, hB⟩
theorem scaled_yes (sc : Int) (h : sc = 1 ∨ sc = 2 ∨ sc = 4 ∨ sc = 8) (w : World) : Calls Tryz.prog 14 #[.int .i64 sc] w fun e w' => e = .returned (.bool true) ∧ Below w.heap.size w w' := by
  rcases h with rfl | rfl | rfl | rfl
  · exact scaled_aux _ 0 true (fun W r h => mlook' W r es4 4 _ 0 0 h rfl) w
  · exact scaled_aux _ 1 true (fun W r h => mlook' W r es4 4 _ 1 1 h rfl) w
  · exact scaled_aux _ 2 true (fun W r h => mlook' W r es4 4 _ 2 2 h rfl) w
  · exact scaled_aux _ 3 true (fun W r h => mlook' W r es4 4 _ 3 3 h rfl) w
theorem scaled_no (sc : Int) (h : ¬ (sc = 1 ∨ sc = 2 ∨ sc = 4 ∨ sc = 8)) (w : World) : Calls Tryz.prog 14 #[.int .i64 sc] w fun e w' => e = .returned (.bool false) ∧ Below w.heap.size w w' := by
  simp only [not_or] at h
  refine scaled_aux _ 0 false (fun W r hr => mlook W r es4 4 _ hr ?_) w
  have e1 : (sc == 1) = false := by simpa using h.1
  have e2 : (sc == 2) = false := by simpa using h.2.1
  have e3 : (sc == 4) = false := by simpa using h.2.2.1
  have e4 : (sc == 8) = false := by simpa using h.2.2.2
  simp only [Instr.findNow, Instr.sameNow, es4, e1, e2, e3, e4, if_true]
end
end Go.Ev.Tw
namespace Go.Ev.Tw
open Go.Proofs Go.RowKit
noncomputable section
set_option maxRecDepth 1000000
def bcT : Value := tokVar .i64 6
def bnT : Value := tokVar .i64 7
def icT : Value := tokVar .i64 8
def ixT : Value := tokVar .i64 9
def scT : Value := tokVar .i64 10
def envC (d bc bn ic ix sc : Int) (_ : IntKind) (i : Nat) : Int := if i = 2 then d else if i = 6 then bc else if i = 7 then bn else if i = 8 then ic else if i = 9 then ix else sc
def FC (f1 f2 b0 b8 b5 n0 ng nl i0 i5 m0 mg ml s0 m4 s1 n4 : Bool) : List (BinOp × Value × Value × Bool) := [(.lss, dT, .int .i64 (.negSucc 2147483647), f1), (.gtr, dT, int64 2147483647, f2), (.eql, bcT, int64 0, b0), (.eql, bcT, int64 8, b8), (.eql, bcT, int64 5, b5), (.eql, bnT, int64 0, n0), (.geq, bnT, int64 0, ng), (.lss, bnT, int64 16, nl),
  (.eql, icT, int64 0, i0), (.eql, icT, int64 5, i5), (.eql, ixT, int64 0, m0), (.geq, ixT, int64 0, mg), (.lss, ixT, int64 16, ml), (.neq, scT, int64 0, s0), (.eql, ixT, int64 4, m4), (.neq, scT, int64 1, s1), (.eql, bnT, int64 4, n4)]
def FD (d bc bn ic ix sc : Int) := FC (decide (d < -2147483648)) (decide (d > 2147483647)) (decide (bc = 0)) (decide (bc = 8)) (decide (bc = 5)) (decide (bn = 0)) (decide (0 ≤ bn)) (decide (bn < 16)) (decide (ic = 0)) (decide (ic = 5)) (decide (ix = 0)) (decide (0 ≤ ix)) (decide (ix < 16)) (decide (sc ≠ 0)) (decide (ix = 4)) (decide (sc ≠ 1)) (decide (bn = 4))
theorem FD_ok (d bc bn ic ix sc : Int) : ∀ q ∈ FD d bc bn ic ix sc, ∀ k x k' y, den (envC d bc bn ic ix sc) q.2.1 = some (k, x) → den (envC d bc bn ic ix sc) q.2.2.1 = some (k', y) → cmpRun q.1 x y = some q.2.2.2 := by
  intro q hq k x k' y hx hy
  simp only [FD, FC, List.mem_cons, List.not_mem_nil, or_false] at hq
  rcases hq with rfl | rfl | rfl | rfl | rfl | rfl | rfl | rfl | rfl | rfl | rfl | rfl | rfl | rfl | rfl | rfl | rfl
  all_goals (cases hx; cases hy; simp only [cmpRun]; try rfl)
  all_goals (congr 1; first | rfl | (rw [Bool.eq_iff_iff]; simp [envC]))
@[reducible] def tokC (d bc bn ic ix sc : Int) : TokE := { facts := FD d bc bn ic ix sc, rews := [], env := envC d bc bn ic ix sc, hid := none, factsOk := FD_ok d bc bn ic ix sc, rewsOk := fun q hq => (by cases hq) }
/-- The scale, told. -/
def sclM (r : Bool) : Memo := viewM 14 [scT] [] (.bool r) []
theorem scl_memo (d bc bn ic ix sc : Int) (GR : List Blk) : @MemoOk (tokC d bc bn ic ix sc).toTokR Tryz.prog GR (sclM (decide (sc = 1 ∨ sc = 2 ∨ sc = 4 ∨ sc = 8))) := by
  refine nums_memo _ fun ρ args' hl w _ => ?_
  letI : TokE := tokC d bc bn ic ix sc
  obtain ⟨x, t, rfl, hx, hnil⟩ := LR.uncons hl
  have := LR.unnil hnil
  subst this
  obtain ⟨n, rfl, hd⟩ := num_rel (k := .i64) rfl hx
  have hd : (some (IntKind.i64, sc) : Option (IntKind × Int)) = some (.i64, n) := hd
  cases hd
  by_cases h : sc = 1 ∨ sc = 2 ∨ sc = 4 ∨ sc = 8
  · rw [decide_eq_true h]
    refine (scaled_yes sc h w).mono ?_
    rintro x w' ⟨rfl, hb⟩
    exact ⟨_, rfl, fun ρ => .bool _, hb⟩
  · rw [decide_eq_false h]
    refine (scaled_no sc h w).mono ?_
    rintro x w' ⟨rfl, hb⟩
    exact ⟨_, rfl, fun ρ => .bool _, hb⟩
def okRef (F : List (BinOp × Value × Value × Bool)) (r : Bool) (m : List Value) (er : Nat) : Bool := packB 0 (@callA ⟨F, []⟩ Tryz.prog 0 noKnown 5000 60 (memosD (sclM r) noD) 5 [.agg ⟨m⟩] Mem.empty) (int64 er) [] 0 0 65536
theorem ref_calls (d bc bn ic ix sc : Int) {m : List Value} {er : Nat} (h : okRef (FD d bc bn ic ix sc) (decide (sc = 1 ∨ sc = 2 ∨ sc = 4 ∨ sc = 8)) m er = true) {m' : List Value} (hm : @LR (@VRel (tokC d bc bn ic ix sc).toTokR fun _ => none) m m') (W : World) :
    Calls Tryz.prog 5 #[.agg ⟨m'⟩] W fun e W' => e = .returned (.int .i64 er) ∧ Below W.heap.size W W' := by
  letI E : TokE := tokC d bc bn ic ix sc
  have h2 := LR.array hm
  refine (pack_run (G := 0) (w := W) (args := [.agg ⟨m'⟩]) h fun u H1 hr => (call_okD no_own mixed noKnown_ok.any (scl_memo d bc bn ic ix sc []) noD_ok hr rfl (.inl fun h => by cases h)
    (c := ⟨Tryz.prog, W.heap.size, 0, 0, W, fun _ => none, fun _ => none, fun _ => none⟩) rfl rfl (RowsAt.nil W) (Nat.zero_le _) (Emb.empty W) (LR.cons (VRel.agg _ _ (by simpa using h2.1) (by simpa using h2.2)) LR.nil)).mono fun e w' h => ?_).mono ?_
  · obtain ⟨ρ', v', e1, _, e2, e3⟩ := h
    exact ⟨ρ', v', e1, e2, e3⟩
  · rintro x w' ⟨ρ, v', M, rfl, hv, _, _, hM⟩
    cases hv
    exact ⟨rfl, hM.below⟩
theorem lf_d1 (f2 b0 b8 b5 n0 ng nl i0 i5 m0 mg ml s0 m4 s1 n4 : Bool) (r : Bool) : okRef (FC true f2 b0 b8 b5 n0 ng nl i0 i5 m0 mg ml s0 m4 s1 n4) r [bcT, bnT, icT, ixT, scT, dT, int64 0] 5 = true := by kernel_rfl
theorem lf_d2 (b0 b8 b5 n0 ng nl i0 i5 m0 mg ml s0 m4 s1 n4 : Bool) (r : Bool) : okRef (FC false true b0 b8 b5 n0 ng nl i0 i5 m0 mg ml s0 m4 s1 n4) r [bcT, bnT, icT, ixT, scT, dT, int64 0] 5 = true := by kernel_rfl
theorem lf_b1 (n0 ng nl i0 i5 m0 mg ml s0 m4 s1 n4 : Bool) (r : Bool) : okRef (FC false false false false false n0 ng nl i0 i5 m0 mg ml s0 m4 s1 n4) r [bcT, bnT, icT, ixT, scT, dT, int64 0] 2 = true := by kernel_rfl
theorem lf_b2 (b0 b8 b5 ng nl i0 i5 m0 mg ml s0 m4 s1 n4 : Bool) (r : Bool) : okRef (FC false false b0 b8 b5 false ng nl i0 i5 m0 mg ml s0 m4 s1 n4) r [int64 0, bnT, icT, ixT, scT, dT, int64 0] 2 = true := by kernel_rfl
theorem lf_b3 (b0 b8 b5 ng nl i0 i5 m0 mg ml s0 m4 s1 n4 : Bool) (r : Bool) : okRef (FC false false b0 b8 b5 false ng nl i0 i5 m0 mg ml s0 m4 s1 n4) r [int64 8, bnT, icT, ixT, scT, dT, int64 0] 2 = true := by kernel_rfl
theorem lf_b4 (b0 b8 b5 n0 nl i0 i5 m0 mg ml s0 m4 s1 n4 : Bool) (r : Bool) : okRef (FC false false b0 b8 b5 n0 false nl i0 i5 m0 mg ml s0 m4 s1 n4) r [int64 5, bnT, icT, ixT, scT, dT, int64 0] 2 = true := by kernel_rfl
theorem lf_b5 (b0 b8 b5 n0 i0 i5 m0 mg ml s0 m4 s1 n4 : Bool) (r : Bool) : okRef (FC false false b0 b8 b5 n0 true false i0 i5 m0 mg ml s0 m4 s1 n4) r [int64 5, bnT, icT, ixT, scT, dT, int64 0] 2 = true := by kernel_rfl
theorem lf_sa (b0 b8 b5 n0 ng nl i0 i5 m0 mg ml m4 s1 n4 : Bool) (r : Bool) : okRef (FC false false b0 b8 b5 n0 ng nl i0 i5 m0 mg ml true m4 s1 n4) r [int64 0, int64 0, int64 0, int64 0, scT, dT, int64 0] 2 = true := by kernel_rfl
theorem lf_i1a (b0 b8 b5 n0 ng nl m0 mg ml s0 m4 s1 n4 : Bool) (r : Bool) : okRef (FC false false b0 b8 b5 n0 ng nl false false m0 mg ml s0 m4 s1 n4) r [int64 0, int64 0, icT, ixT, scT, dT, int64 0] 2 = true := by kernel_rfl
theorem lf_i2a (b0 b8 b5 n0 ng nl i0 i5 mg ml s0 m4 s1 n4 : Bool) (r : Bool) : okRef (FC false false b0 b8 b5 n0 ng nl i0 i5 false mg ml s0 m4 s1 n4) r [int64 0, int64 0, int64 0, ixT, scT, dT, int64 0] 2 = true := by kernel_rfl
theorem lf_i4a (b0 b8 b5 n0 ng nl i0 i5 m0 ml s0 m4 s1 n4 : Bool) (r : Bool) : okRef (FC false false b0 b8 b5 n0 ng nl i0 i5 m0 false ml s0 m4 s1 n4) r [int64 0, int64 0, int64 5, ixT, scT, dT, int64 0] 2 = true := by kernel_rfl
theorem lf_i5a (b0 b8 b5 n0 ng nl i0 i5 m0 s0 m4 s1 n4 : Bool) (r : Bool) : okRef (FC false false b0 b8 b5 n0 ng nl i0 i5 m0 true false s0 m4 s1 n4) r [int64 0, int64 0, int64 5, ixT, scT, dT, int64 0] 2 = true := by kernel_rfl
theorem lf_ca (b0 b8 b5 n0 ng nl i0 i5 m0 s0 m4 s1 n4 : Bool) : okRef (FC false false b0 b8 b5 n0 ng nl i0 i5 m0 true true s0 m4 s1 n4) false [int64 0, int64 0, int64 5, ixT, scT, dT, int64 0] 2 = true := by kernel_rfl
theorem lf_sr (b0 b8 b5 n0 ng nl i0 i5 m0 mg ml m4 s1 n4 : Bool) (r : Bool) : okRef (FC false false b0 b8 b5 n0 ng nl i0 i5 m0 mg ml true m4 s1 n4) r [int64 8, int64 0, int64 0, int64 0, scT, dT, int64 0] 2 = true := by kernel_rfl
theorem lf_i1r (b0 b8 b5 n0 ng nl m0 mg ml s0 m4 s1 n4 : Bool) (r : Bool) : okRef (FC false false b0 b8 b5 n0 ng nl false false m0 mg ml s0 m4 s1 n4) r [int64 8, int64 0, icT, ixT, scT, dT, int64 0] 2 = true := by kernel_rfl
theorem lf_i2r (b0 b8 b5 n0 ng nl i0 i5 mg ml s0 m4 s1 n4 : Bool) (r : Bool) : okRef (FC false false b0 b8 b5 n0 ng nl i0 i5 false mg ml s0 m4 s1 n4) r [int64 8, int64 0, int64 0, ixT, scT, dT, int64 0] 2 = true := by kernel_rfl
theorem lf_i4r (b0 b8 b5 n0 ng nl i0 i5 m0 ml s0 m4 s1 n4 : Bool) (r : Bool) : okRef (FC false false b0 b8 b5 n0 ng nl i0 i5 m0 false ml s0 m4 s1 n4) r [int64 8, int64 0, int64 5, ixT, scT, dT, int64 0] 2 = true := by kernel_rfl
theorem lf_i5r (b0 b8 b5 n0 ng nl i0 i5 m0 s0 m4 s1 n4 : Bool) (r : Bool) : okRef (FC false false b0 b8 b5 n0 ng nl i0 i5 m0 true false s0 m4 s1 n4) r [int64 8, int64 0, int64 5, ixT, scT, dT, int64 0] 2 = true := by kernel_rfl
theorem lf_cr (b0 b8 b5 n0 ng nl i0 i5 m0 s0 m4 s1 n4 : Bool) : okRef (FC false false b0 b8 b5 n0 ng nl i0 i5 m0 true true s0 m4 s1 n4) false [int64 8, int64 0, int64 5, ixT, scT, dT, int64 0] 2 = true := by kernel_rfl
theorem lf_sw (b0 b8 b5 n0 i0 i5 m0 mg ml m4 s1 n4 : Bool) (r : Bool) : okRef (FC false false b0 b8 b5 n0 true true i0 i5 m0 mg ml true m4 s1 n4) r [int64 5, bnT, int64 0, int64 0, scT, dT, int64 0] 2 = true := by kernel_rfl
theorem lf_i1w (b0 b8 b5 n0 m0 mg ml s0 m4 s1 n4 : Bool) (r : Bool) : okRef (FC false false b0 b8 b5 n0 true true false false m0 mg ml s0 m4 s1 n4) r [int64 5, bnT, icT, ixT, scT, dT, int64 0] 2 = true := by kernel_rfl
theorem lf_i2w (b0 b8 b5 n0 i0 i5 mg ml s0 m4 s1 n4 : Bool) (r : Bool) : okRef (FC false false b0 b8 b5 n0 true true i0 i5 false mg ml s0 m4 s1 n4) r [int64 5, bnT, int64 0, ixT, scT, dT, int64 0] 2 = true := by kernel_rfl
theorem lf_i4w (b0 b8 b5 n0 i0 i5 m0 ml s0 m4 s1 n4 : Bool) (r : Bool) : okRef (FC false false b0 b8 b5 n0 true true i0 i5 m0 false ml s0 m4 s1 n4) r [int64 5, bnT, int64 5, ixT, scT, dT, int64 0] 2 = true := by kernel_rfl
theorem lf_i5w (b0 b8 b5 n0 i0 i5 m0 s0 m4 s1 n4 : Bool) (r : Bool) : okRef (FC false false b0 b8 b5 n0 true true i0 i5 m0 true false s0 m4 s1 n4) r [int64 5, bnT, int64 5, ixT, scT, dT, int64 0] 2 = true := by kernel_rfl
theorem lf_cw (b0 b8 b5 n0 i0 i5 m0 s0 m4 s1 n4 : Bool) : okRef (FC false false b0 b8 b5 n0 true true i0 i5 m0 true true s0 m4 s1 n4) false [int64 5, bnT, int64 5, ixT, scT, dT, int64 0] 2 = true := by kernel_rfl
theorem lf_rr (b0 b8 b5 n0 ng nl i0 i5 m0 s0 m4 s1 n4 : Bool) : okRef (FC false false b0 b8 b5 n0 ng nl i0 i5 m0 true true s0 m4 s1 n4) true [int64 8, int64 0, int64 5, ixT, scT, dT, int64 0] 2 = true := by kernel_rfl
theorem lf_ma (b0 b8 b5 n0 ng nl i0 i5 m0 s0 n4 : Bool) : okRef (FC false false b0 b8 b5 n0 ng nl i0 i5 m0 true true s0 true true n4) true [int64 0, int64 0, int64 5, ixT, scT, dT, int64 0] 2 = true := by kernel_rfl
theorem lf_mw (b0 b8 b5 n0 i0 i5 m0 s0 n4 : Bool) : okRef (FC false false b0 b8 b5 n0 true true i0 i5 m0 true true s0 true true n4) true [int64 5, bnT, int64 5, ixT, scT, dT, int64 0] 2 = true := by kernel_rfl
theorem lf_mm (b0 b8 b5 n0 i0 i5 m0 s0 : Bool) : okRef (FC false false b0 b8 b5 n0 true true i0 i5 m0 true true s0 true false true) true [int64 5, bnT, int64 5, ixT, scT, dT, int64 0] 2 = true := by kernel_rfl
end
end Go.Ev.Tw
namespace Go.Ev.Tw
open Go.Proofs Go.RowKit
set_option maxRecDepth 1000000
def okBase (bc bn : Int) : Prop := (bc = 0 ∧ bn = 0) ∨ (bc = 8 ∧ bn = 0) ∨ (bc = 5 ∧ 0 ≤ bn ∧ bn < 16)
/-- A place that may be. -/
def okMem (d bc bn ic ix sc : Int) : Prop := inD d ∧ okBase bc bn ∧ ((ic = 0 ∧ ix = 0 ∧ sc = 0) ∨ (ic = 5 ∧ 0 ≤ ix ∧ ix < 16 ∧ (sc = 1 ∨ sc = 2 ∨ sc = 4 ∨ sc = 8) ∧ bc ≠ 8 ∧ ¬ (ix = 4 ∧ (sc ≠ 1 ∨ (bc = 5 ∧ bn = 4)))))
/-- It is refused. -/
def Refused (d bc bn ic ix sc : Int) : Prop := ∃ er : Nat, er ≠ 0 ∧ ∀ W, Calls Tryz.prog 5 #[.agg ⟨[.int .i64 bc, .int .i64 bn, .int .i64 ic, .int .i64 ix, .int .i64 sc, .int .i64 d, .int .i64 0]⟩] W fun e W' => e = .returned (.int .i64 er) ∧ Below W.heap.size W W'
theorem refused_of (d bc bn ic ix sc : Int) {m : List Value} {er : Nat} (he : er ≠ 0) (h : okRef (FD d bc bn ic ix sc) (decide (sc = 1 ∨ sc = 2 ∨ sc = 4 ∨ sc = 8)) m er = true) (hm : @LR (@VRel (tokC d bc bn ic ix sc).toTokR fun _ => none) m [.int .i64 bc, .int .i64 bn, .int .i64 ic, .int .i64 ix, .int .i64 sc, .int .i64 d, .int .i64 0]) : Refused d bc bn ic ix sc :=
  ⟨er, he, fun W => ref_calls d bc bn ic ix sc h hm W⟩
theorem ref_a (d ic ix sc : Int) (hd1 : ¬ d < -2147483648) (hd2 : ¬ d > 2147483647) (h : ¬ ((ic = 0 ∧ ix = 0 ∧ sc = 0) ∨ (ic = 5 ∧ 0 ≤ ix ∧ ix < 16 ∧ (sc = 1 ∨ sc = 2 ∨ sc = 4 ∨ sc = 8) ∧ True ∧ ¬ (ix = 4 ∧ (sc ≠ 1 ∨ False))))) : Refused d 0 0 ic ix sc := by
  by_cases hi0 : ic = 0
  · subst hi0
    by_cases hx0 : ix = 0
    · subst hx0
      have hs : sc ≠ 0 := fun e => h (.inl ⟨rfl, rfl, e⟩)
      exact refused_of d 0 0 0 0 sc (er := 2) (by decide) (by simp only [FD, decide_eq_true hs, decide_eq_false hd1, decide_eq_false hd2]; apply lf_sa) (by letI : TokE := tokC d 0 0 0 0 sc; letI : TokR := (tokC d 0 0 0 0 sc).toTokR; exact LR.cons (.int _ _) (LR.cons (.int _ _) (LR.cons (.int _ _) (LR.cons (.int _ _) (LR.cons (.tok _ _ _ _ _ rfl) (LR.cons (.tok _ _ _ _ _ rfl) (LR.cons (.int _ _) (LR.nil))))))))
    · exact refused_of d 0 0 0 ix sc (er := 2) (by decide) (by simp only [FD, decide_eq_false hd1, decide_eq_false hd2, decide_eq_false hx0]; apply lf_i2a) (by letI : TokE := tokC d 0 0 0 ix sc; letI : TokR := (tokC d 0 0 0 ix sc).toTokR; exact LR.cons (.int _ _) (LR.cons (.int _ _) (LR.cons (.int _ _) (LR.cons (.tok _ _ _ _ _ rfl) (LR.cons (.tok _ _ _ _ _ rfl) (LR.cons (.tok _ _ _ _ _ rfl) (LR.cons (.int _ _) (LR.nil))))))))
  by_cases hi5 : ic = 5
  rotate_left
  · exact refused_of d 0 0 ic ix sc (er := 2) (by decide) (by simp only [FD, decide_eq_false hd1, decide_eq_false hd2, decide_eq_false hi0, decide_eq_false hi5]; apply lf_i1a) (by letI : TokE := tokC d 0 0 ic ix sc; letI : TokR := (tokC d 0 0 ic ix sc).toTokR; exact LR.cons (.int _ _) (LR.cons (.int _ _) (LR.cons (.tok _ _ _ _ _ rfl) (LR.cons (.tok _ _ _ _ _ rfl) (LR.cons (.tok _ _ _ _ _ rfl) (LR.cons (.tok _ _ _ _ _ rfl) (LR.cons (.int _ _) (LR.nil))))))))
  subst hi5
  by_cases hg : 0 ≤ ix
  rotate_left
  · exact refused_of d 0 0 5 ix sc (er := 2) (by decide) (by simp only [FD, decide_eq_false hd1, decide_eq_false hd2, decide_eq_false hg]; apply lf_i4a) (by letI : TokE := tokC d 0 0 5 ix sc; letI : TokR := (tokC d 0 0 5 ix sc).toTokR; exact LR.cons (.int _ _) (LR.cons (.int _ _) (LR.cons (.int _ _) (LR.cons (.tok _ _ _ _ _ rfl) (LR.cons (.tok _ _ _ _ _ rfl) (LR.cons (.tok _ _ _ _ _ rfl) (LR.cons (.int _ _) (LR.nil))))))))
  by_cases hl : ix < 16
  rotate_left
  · exact refused_of d 0 0 5 ix sc (er := 2) (by decide) (by simp only [FD, decide_eq_true hg, decide_eq_false hd1, decide_eq_false hd2, decide_eq_false hl]; apply lf_i5a) (by letI : TokE := tokC d 0 0 5 ix sc; letI : TokR := (tokC d 0 0 5 ix sc).toTokR; exact LR.cons (.int _ _) (LR.cons (.int _ _) (LR.cons (.int _ _) (LR.cons (.tok _ _ _ _ _ rfl) (LR.cons (.tok _ _ _ _ _ rfl) (LR.cons (.tok _ _ _ _ _ rfl) (LR.cons (.int _ _) (LR.nil))))))))
  by_cases hsc : sc = 1 ∨ sc = 2 ∨ sc = 4 ∨ sc = 8
  rotate_left
  · exact refused_of d 0 0 5 ix sc (er := 2) (by decide) (by simp only [FD, decide_eq_true hg, decide_eq_true hl, decide_eq_false hd1, decide_eq_false hd2, decide_eq_false hsc]; apply lf_ca) (by letI : TokE := tokC d 0 0 5 ix sc; letI : TokR := (tokC d 0 0 5 ix sc).toTokR; exact LR.cons (.int _ _) (LR.cons (.int _ _) (LR.cons (.int _ _) (LR.cons (.tok _ _ _ _ _ rfl) (LR.cons (.tok _ _ _ _ _ rfl) (LR.cons (.tok _ _ _ _ _ rfl) (LR.cons (.int _ _) (LR.nil))))))))
  have h4 : ix = 4 ∧ (sc ≠ 1 ∨ False) := Classical.byContradiction fun hn => h (.inr ⟨rfl, hg, hl, hsc, trivial, hn⟩)
  obtain ⟨h4, h5⟩ := h4
  by_cases hs1 : sc ≠ 1
  · exact refused_of d 0 0 5 ix sc (er := 2) (by decide) (by simp only [FD, decide_eq_true hg, decide_eq_true hl, decide_eq_true hsc, decide_eq_true h4, decide_eq_true hs1, decide_eq_false hd1, decide_eq_false hd2]; apply lf_ma) (by letI : TokE := tokC d 0 0 5 ix sc; letI : TokR := (tokC d 0 0 5 ix sc).toTokR; exact LR.cons (.int _ _) (LR.cons (.int _ _) (LR.cons (.int _ _) (LR.cons (.tok _ _ _ _ _ rfl) (LR.cons (.tok _ _ _ _ _ rfl) (LR.cons (.tok _ _ _ _ _ rfl) (LR.cons (.int _ _) (LR.nil))))))))
  · exact absurd (h5.resolve_left hs1) id
theorem ref_r (d ic ix sc : Int) (hd1 : ¬ d < -2147483648) (hd2 : ¬ d > 2147483647) (h : ¬ ((ic = 0 ∧ ix = 0 ∧ sc = 0) ∨ (ic = 5 ∧ 0 ≤ ix ∧ ix < 16 ∧ (sc = 1 ∨ sc = 2 ∨ sc = 4 ∨ sc = 8) ∧ False ∧ ¬ (ix = 4 ∧ (sc ≠ 1 ∨ False))))) : Refused d 8 0 ic ix sc := by
  by_cases hi0 : ic = 0
  · subst hi0
    by_cases hx0 : ix = 0
    · subst hx0
      have hs : sc ≠ 0 := fun e => h (.inl ⟨rfl, rfl, e⟩)
      exact refused_of d 8 0 0 0 sc (er := 2) (by decide) (by simp only [FD, decide_eq_true hs, decide_eq_false hd1, decide_eq_false hd2]; apply lf_sr) (by letI : TokE := tokC d 8 0 0 0 sc; letI : TokR := (tokC d 8 0 0 0 sc).toTokR; exact LR.cons (.int _ _) (LR.cons (.int _ _) (LR.cons (.int _ _) (LR.cons (.int _ _) (LR.cons (.tok _ _ _ _ _ rfl) (LR.cons (.tok _ _ _ _ _ rfl) (LR.cons (.int _ _) (LR.nil))))))))
    · exact refused_of d 8 0 0 ix sc (er := 2) (by decide) (by simp only [FD, decide_eq_false hd1, decide_eq_false hd2, decide_eq_false hx0]; apply lf_i2r) (by letI : TokE := tokC d 8 0 0 ix sc; letI : TokR := (tokC d 8 0 0 ix sc).toTokR; exact LR.cons (.int _ _) (LR.cons (.int _ _) (LR.cons (.int _ _) (LR.cons (.tok _ _ _ _ _ rfl) (LR.cons (.tok _ _ _ _ _ rfl) (LR.cons (.tok _ _ _ _ _ rfl) (LR.cons (.int _ _) (LR.nil))))))))
  by_cases hi5 : ic = 5
  rotate_left
  · exact refused_of d 8 0 ic ix sc (er := 2) (by decide) (by simp only [FD, decide_eq_false hd1, decide_eq_false hd2, decide_eq_false hi0, decide_eq_false hi5]; apply lf_i1r) (by letI : TokE := tokC d 8 0 ic ix sc; letI : TokR := (tokC d 8 0 ic ix sc).toTokR; exact LR.cons (.int _ _) (LR.cons (.int _ _) (LR.cons (.tok _ _ _ _ _ rfl) (LR.cons (.tok _ _ _ _ _ rfl) (LR.cons (.tok _ _ _ _ _ rfl) (LR.cons (.tok _ _ _ _ _ rfl) (LR.cons (.int _ _) (LR.nil))))))))
  subst hi5
  by_cases hg : 0 ≤ ix
  rotate_left
  · exact refused_of d 8 0 5 ix sc (er := 2) (by decide) (by simp only [FD, decide_eq_false hd1, decide_eq_false hd2, decide_eq_false hg]; apply lf_i4r) (by letI : TokE := tokC d 8 0 5 ix sc; letI : TokR := (tokC d 8 0 5 ix sc).toTokR; exact LR.cons (.int _ _) (LR.cons (.int _ _) (LR.cons (.int _ _) (LR.cons (.tok _ _ _ _ _ rfl) (LR.cons (.tok _ _ _ _ _ rfl) (LR.cons (.tok _ _ _ _ _ rfl) (LR.cons (.int _ _) (LR.nil))))))))
  by_cases hl : ix < 16
  rotate_left
  · exact refused_of d 8 0 5 ix sc (er := 2) (by decide) (by simp only [FD, decide_eq_true hg, decide_eq_false hd1, decide_eq_false hd2, decide_eq_false hl]; apply lf_i5r) (by letI : TokE := tokC d 8 0 5 ix sc; letI : TokR := (tokC d 8 0 5 ix sc).toTokR; exact LR.cons (.int _ _) (LR.cons (.int _ _) (LR.cons (.int _ _) (LR.cons (.tok _ _ _ _ _ rfl) (LR.cons (.tok _ _ _ _ _ rfl) (LR.cons (.tok _ _ _ _ _ rfl) (LR.cons (.int _ _) (LR.nil))))))))
  by_cases hsc : sc = 1 ∨ sc = 2 ∨ sc = 4 ∨ sc = 8
  rotate_left
  · exact refused_of d 8 0 5 ix sc (er := 2) (by decide) (by simp only [FD, decide_eq_true hg, decide_eq_true hl, decide_eq_false hd1, decide_eq_false hd2, decide_eq_false hsc]; apply lf_cr) (by letI : TokE := tokC d 8 0 5 ix sc; letI : TokR := (tokC d 8 0 5 ix sc).toTokR; exact LR.cons (.int _ _) (LR.cons (.int _ _) (LR.cons (.int _ _) (LR.cons (.tok _ _ _ _ _ rfl) (LR.cons (.tok _ _ _ _ _ rfl) (LR.cons (.tok _ _ _ _ _ rfl) (LR.cons (.int _ _) (LR.nil))))))))
  exact refused_of d 8 0 5 ix sc (er := 2) (by decide) (by simp only [FD, decide_eq_true hg, decide_eq_true hl, decide_eq_true hsc, decide_eq_false hd1, decide_eq_false hd2]; apply lf_rr) (by letI : TokE := tokC d 8 0 5 ix sc; letI : TokR := (tokC d 8 0 5 ix sc).toTokR; exact LR.cons (.int _ _) (LR.cons (.int _ _) (LR.cons (.int _ _) (LR.cons (.tok _ _ _ _ _ rfl) (LR.cons (.tok _ _ _ _ _ rfl) (LR.cons (.tok _ _ _ _ _ rfl) (LR.cons (.int _ _) (LR.nil))))))))
theorem ref_w (d bn ic ix sc : Int) (hd1 : ¬ d < -2147483648) (hd2 : ¬ d > 2147483647) (hng : 0 ≤ bn) (hnl : bn < 16) (h : ¬ ((ic = 0 ∧ ix = 0 ∧ sc = 0) ∨ (ic = 5 ∧ 0 ≤ ix ∧ ix < 16 ∧ (sc = 1 ∨ sc = 2 ∨ sc = 4 ∨ sc = 8) ∧ True ∧ ¬ (ix = 4 ∧ (sc ≠ 1 ∨ bn = 4))))) : Refused d 5 bn ic ix sc := by
  by_cases hi0 : ic = 0
  · subst hi0
    by_cases hx0 : ix = 0
    · subst hx0
      have hs : sc ≠ 0 := fun e => h (.inl ⟨rfl, rfl, e⟩)
      exact refused_of d 5 bn 0 0 sc (er := 2) (by decide) (by simp only [FD, decide_eq_true hng, decide_eq_true hnl, decide_eq_true hs, decide_eq_false hd1, decide_eq_false hd2]; apply lf_sw) (by letI : TokE := tokC d 5 bn 0 0 sc; letI : TokR := (tokC d 5 bn 0 0 sc).toTokR; exact LR.cons (.int _ _) (LR.cons (.tok _ _ _ _ _ rfl) (LR.cons (.int _ _) (LR.cons (.int _ _) (LR.cons (.tok _ _ _ _ _ rfl) (LR.cons (.tok _ _ _ _ _ rfl) (LR.cons (.int _ _) (LR.nil))))))))
    · exact refused_of d 5 bn 0 ix sc (er := 2) (by decide) (by simp only [FD, decide_eq_true hng, decide_eq_true hnl, decide_eq_false hd1, decide_eq_false hd2, decide_eq_false hx0]; apply lf_i2w) (by letI : TokE := tokC d 5 bn 0 ix sc; letI : TokR := (tokC d 5 bn 0 ix sc).toTokR; exact LR.cons (.int _ _) (LR.cons (.tok _ _ _ _ _ rfl) (LR.cons (.int _ _) (LR.cons (.tok _ _ _ _ _ rfl) (LR.cons (.tok _ _ _ _ _ rfl) (LR.cons (.tok _ _ _ _ _ rfl) (LR.cons (.int _ _) (LR.nil))))))))
  by_cases hi5 : ic = 5
  rotate_left
  · exact refused_of d 5 bn ic ix sc (er := 2) (by decide) (by simp only [FD, decide_eq_true hng, decide_eq_true hnl, decide_eq_false hd1, decide_eq_false hd2, decide_eq_false hi0, decide_eq_false hi5]; apply lf_i1w) (by letI : TokE := tokC d 5 bn ic ix sc; letI : TokR := (tokC d 5 bn ic ix sc).toTokR; exact LR.cons (.int _ _) (LR.cons (.tok _ _ _ _ _ rfl) (LR.cons (.tok _ _ _ _ _ rfl) (LR.cons (.tok _ _ _ _ _ rfl) (LR.cons (.tok _ _ _ _ _ rfl) (LR.cons (.tok _ _ _ _ _ rfl) (LR.cons (.int _ _) (LR.nil))))))))
  subst hi5
  by_cases hg : 0 ≤ ix
  rotate_left
  · exact refused_of d 5 bn 5 ix sc (er := 2) (by decide) (by simp only [FD, decide_eq_true hng, decide_eq_true hnl, decide_eq_false hd1, decide_eq_false hd2, decide_eq_false hg]; apply lf_i4w) (by letI : TokE := tokC d 5 bn 5 ix sc; letI : TokR := (tokC d 5 bn 5 ix sc).toTokR; exact LR.cons (.int _ _) (LR.cons (.tok _ _ _ _ _ rfl) (LR.cons (.int _ _) (LR.cons (.tok _ _ _ _ _ rfl) (LR.cons (.tok _ _ _ _ _ rfl) (LR.cons (.tok _ _ _ _ _ rfl) (LR.cons (.int _ _) (LR.nil))))))))
  by_cases hl : ix < 16
  rotate_left
  · exact refused_of d 5 bn 5 ix sc (er := 2) (by decide) (by simp only [FD, decide_eq_true hng, decide_eq_true hnl, decide_eq_true hg, decide_eq_false hd1, decide_eq_false hd2, decide_eq_false hl]; apply lf_i5w) (by letI : TokE := tokC d 5 bn 5 ix sc; letI : TokR := (tokC d 5 bn 5 ix sc).toTokR; exact LR.cons (.int _ _) (LR.cons (.tok _ _ _ _ _ rfl) (LR.cons (.int _ _) (LR.cons (.tok _ _ _ _ _ rfl) (LR.cons (.tok _ _ _ _ _ rfl) (LR.cons (.tok _ _ _ _ _ rfl) (LR.cons (.int _ _) (LR.nil))))))))
  by_cases hsc : sc = 1 ∨ sc = 2 ∨ sc = 4 ∨ sc = 8
  rotate_left
  · exact refused_of d 5 bn 5 ix sc (er := 2) (by decide) (by simp only [FD, decide_eq_true hng, decide_eq_true hnl, decide_eq_true hg, decide_eq_true hl, decide_eq_false hd1, decide_eq_false hd2, decide_eq_false hsc]; apply lf_cw) (by letI : TokE := tokC d 5 bn 5 ix sc; letI : TokR := (tokC d 5 bn 5 ix sc).toTokR; exact LR.cons (.int _ _) (LR.cons (.tok _ _ _ _ _ rfl) (LR.cons (.int _ _) (LR.cons (.tok _ _ _ _ _ rfl) (LR.cons (.tok _ _ _ _ _ rfl) (LR.cons (.tok _ _ _ _ _ rfl) (LR.cons (.int _ _) (LR.nil))))))))
  have h4 : ix = 4 ∧ (sc ≠ 1 ∨ bn = 4) := Classical.byContradiction fun hn => h (.inr ⟨rfl, hg, hl, hsc, trivial, hn⟩)
  obtain ⟨h4, h5⟩ := h4
  by_cases hs1 : sc ≠ 1
  · exact refused_of d 5 bn 5 ix sc (er := 2) (by decide) (by simp only [FD, decide_eq_true hng, decide_eq_true hnl, decide_eq_true hg, decide_eq_true hl, decide_eq_true hsc, decide_eq_true h4, decide_eq_true hs1, decide_eq_false hd1, decide_eq_false hd2]; apply lf_mw) (by letI : TokE := tokC d 5 bn 5 ix sc; letI : TokR := (tokC d 5 bn 5 ix sc).toTokR; exact LR.cons (.int _ _) (LR.cons (.tok _ _ _ _ _ rfl) (LR.cons (.int _ _) (LR.cons (.tok _ _ _ _ _ rfl) (LR.cons (.tok _ _ _ _ _ rfl) (LR.cons (.tok _ _ _ _ _ rfl) (LR.cons (.int _ _) (LR.nil))))))))
  · have hn4 := h5.resolve_left hs1
    exact refused_of d 5 bn 5 ix sc (er := 2) (by decide) (by simp only [FD, decide_eq_true hng, decide_eq_true hnl, decide_eq_true hg, decide_eq_true hl, decide_eq_true hsc, decide_eq_true h4, decide_eq_true hn4, decide_eq_false hd1, decide_eq_false hd2, decide_eq_false hs1]; apply lf_mm) (by letI : TokE := tokC d 5 bn 5 ix sc; letI : TokR := (tokC d 5 bn 5 ix sc).toTokR; exact LR.cons (.int _ _) (LR.cons (.tok _ _ _ _ _ rfl) (LR.cons (.int _ _) (LR.cons (.tok _ _ _ _ _ rfl) (LR.cons (.tok _ _ _ _ _ rfl) (LR.cons (.tok _ _ _ _ _ rfl) (LR.cons (.int _ _) (LR.nil))))))))
theorem check_refuses (d bc bn ic ix sc : Int) (h : ¬ okMem d bc bn ic ix sc) : Refused d bc bn ic ix sc := by
  by_cases hd1 : d < -2147483648
  · exact refused_of d bc bn ic ix sc (er := 5) (by decide) (by simp only [FD, decide_eq_true hd1]; apply lf_d1) (by letI : TokE := tokC d bc bn ic ix sc; letI : TokR := (tokC d bc bn ic ix sc).toTokR; exact LR.cons (.tok _ _ _ _ _ rfl) (LR.cons (.tok _ _ _ _ _ rfl) (LR.cons (.tok _ _ _ _ _ rfl) (LR.cons (.tok _ _ _ _ _ rfl) (LR.cons (.tok _ _ _ _ _ rfl) (LR.cons (.tok _ _ _ _ _ rfl) (LR.cons (.int _ _) (LR.nil))))))))
  by_cases hd2 : d > 2147483647
  · exact refused_of d bc bn ic ix sc (er := 5) (by decide) (by simp only [FD, decide_eq_true hd2, decide_eq_false hd1]; apply lf_d2) (by letI : TokE := tokC d bc bn ic ix sc; letI : TokR := (tokC d bc bn ic ix sc).toTokR; exact LR.cons (.tok _ _ _ _ _ rfl) (LR.cons (.tok _ _ _ _ _ rfl) (LR.cons (.tok _ _ _ _ _ rfl) (LR.cons (.tok _ _ _ _ _ rfl) (LR.cons (.tok _ _ _ _ _ rfl) (LR.cons (.tok _ _ _ _ _ rfl) (LR.cons (.int _ _) (LR.nil))))))))
  have hD : inD d := ⟨by omega, by omega⟩
  by_cases hb0 : bc = 0
  · subst hb0
    by_cases hn0 : bn = 0
    · subst hn0
      refine ref_a d ic ix sc hd1 hd2 fun hh => h ⟨hD, .inl ⟨rfl, rfl⟩, ?_⟩
      rcases hh with hh | ⟨q1, q2, q3, q4, _, q6⟩
      · exact .inl hh
      · exact .inr ⟨q1, q2, q3, q4, by decide, fun q => q6 ⟨q.1, q.2.imp id fun z => by omega⟩⟩
    · exact refused_of d 0 bn ic ix sc (er := 2) (by decide) (by simp only [FD, decide_eq_false hd1, decide_eq_false hd2, decide_eq_false hn0]; apply lf_b2) (by letI : TokE := tokC d 0 bn ic ix sc; letI : TokR := (tokC d 0 bn ic ix sc).toTokR; exact LR.cons (.int _ _) (LR.cons (.tok _ _ _ _ _ rfl) (LR.cons (.tok _ _ _ _ _ rfl) (LR.cons (.tok _ _ _ _ _ rfl) (LR.cons (.tok _ _ _ _ _ rfl) (LR.cons (.tok _ _ _ _ _ rfl) (LR.cons (.int _ _) (LR.nil))))))))
  by_cases hb8 : bc = 8
  · subst hb8
    by_cases hn0 : bn = 0
    · subst hn0
      refine ref_r d ic ix sc hd1 hd2 fun hh => h ⟨hD, .inr (.inl ⟨rfl, rfl⟩), ?_⟩
      rcases hh with hh | ⟨_, _, _, _, q5, _⟩
      · exact .inl hh
      · exact absurd q5 id
    · exact refused_of d 8 bn ic ix sc (er := 2) (by decide) (by simp only [FD, decide_eq_false hd1, decide_eq_false hd2, decide_eq_false hn0]; apply lf_b3) (by letI : TokE := tokC d 8 bn ic ix sc; letI : TokR := (tokC d 8 bn ic ix sc).toTokR; exact LR.cons (.int _ _) (LR.cons (.tok _ _ _ _ _ rfl) (LR.cons (.tok _ _ _ _ _ rfl) (LR.cons (.tok _ _ _ _ _ rfl) (LR.cons (.tok _ _ _ _ _ rfl) (LR.cons (.tok _ _ _ _ _ rfl) (LR.cons (.int _ _) (LR.nil))))))))
  by_cases hb5 : bc = 5
  · subst hb5
    by_cases hg : 0 ≤ bn
    · by_cases hl : bn < 16
      · refine ref_w d bn ic ix sc hd1 hd2 hg hl fun hh => h ⟨hD, .inr (.inr ⟨rfl, hg, hl⟩), ?_⟩
        rcases hh with hh | ⟨q1, q2, q3, q4, _, q6⟩
        · exact .inl hh
        · exact .inr ⟨q1, q2, q3, q4, by decide, fun q => q6 ⟨q.1, q.2.imp id fun z => z.2⟩⟩
      · exact refused_of d 5 bn ic ix sc (er := 2) (by decide) (by simp only [FD, decide_eq_true hg, decide_eq_false hd1, decide_eq_false hd2, decide_eq_false hl]; apply lf_b5) (by letI : TokE := tokC d 5 bn ic ix sc; letI : TokR := (tokC d 5 bn ic ix sc).toTokR; exact LR.cons (.int _ _) (LR.cons (.tok _ _ _ _ _ rfl) (LR.cons (.tok _ _ _ _ _ rfl) (LR.cons (.tok _ _ _ _ _ rfl) (LR.cons (.tok _ _ _ _ _ rfl) (LR.cons (.tok _ _ _ _ _ rfl) (LR.cons (.int _ _) (LR.nil))))))))
    · exact refused_of d 5 bn ic ix sc (er := 2) (by decide) (by simp only [FD, decide_eq_false hd1, decide_eq_false hd2, decide_eq_false hg]; apply lf_b4) (by letI : TokE := tokC d 5 bn ic ix sc; letI : TokR := (tokC d 5 bn ic ix sc).toTokR; exact LR.cons (.int _ _) (LR.cons (.tok _ _ _ _ _ rfl) (LR.cons (.tok _ _ _ _ _ rfl) (LR.cons (.tok _ _ _ _ _ rfl) (LR.cons (.tok _ _ _ _ _ rfl) (LR.cons (.tok _ _ _ _ _ rfl) (LR.cons (.int _ _) (LR.nil))))))))
  · exact refused_of d bc bn ic ix sc (er := 2) (by decide) (by simp only [FD, decide_eq_false hd1, decide_eq_false hd2, decide_eq_false hb0, decide_eq_false hb8, decide_eq_false hb5]; apply lf_b1) (by letI : TokE := tokC d bc bn ic ix sc; letI : TokR := (tokC d bc bn ic ix sc).toTokR; exact LR.cons (.tok _ _ _ _ _ rfl) (LR.cons (.tok _ _ _ _ _ rfl) (LR.cons (.tok _ _ _ _ _ rfl) (LR.cons (.tok _ _ _ _ _ rfl) (LR.cons (.tok _ _ _ _ _ rfl) (LR.cons (.tok _ _ _ _ _ rfl) (LR.cons (.int _ _) (LR.nil))))))))
end Go.Ev.Tw
namespace Go.Ev.Tw
open Go.Proofs Go.RowKit
noncomputable section
set_option maxRecDepth 1000000
variable {GR : List Blk}
theorem rowsAt_below {GR : List Blk} {w w' : World} (h : RowsAt GR w) (hb : Below w.heap.size w w') : RowsAt GR w' :=
  ⟨Nat.le_trans h.1 hb.size, fun i b hi hl => by
    obtain ⟨fr, h1⟩ := h.2 i b hi hl
    exact ⟨fr, (hb.block i (Nat.lt_of_lt_of_le (by letI : TokE := tok3 0 0 0; exact reach_lt hi hl) h.1)).trans h1⟩⟩
theorem arg_cells {w W' : World} {bc bn ic ix sc di sz : Int} (hb : Below (w.alloc (.cells #[.int .i64 bc, .int .i64 bn, .int .i64 ic, .int .i64 ix, .int .i64 sc, .int .i64 di, .int .i64 sz] 25)).heap.size (w.alloc (.cells #[.int .i64 bc, .int .i64 bn, .int .i64 ic, .int .i64 ix, .int .i64 sc, .int .i64 di, .int .i64 sz] 25)) W') :
    (W'.cell? ⟨w.heap.size, 0, none⟩ = some (.int .i64 bc) ∧ W'.cell? ⟨w.heap.size, 1, none⟩ = some (.int .i64 bn) ∧ W'.cell? ⟨w.heap.size, 2, none⟩ = some (.int .i64 ic) ∧ W'.cell? ⟨w.heap.size, 3, none⟩ = some (.int .i64 ix) ∧
    W'.cell? ⟨w.heap.size, 4, none⟩ = some (.int .i64 sc) ∧ W'.cell? ⟨w.heap.size, 5, none⟩ = some (.int .i64 di) ∧ W'.cell? ⟨w.heap.size, 6, none⟩ = some (.int .i64 sz)) ∧ W'.frozen? ⟨w.heap.size, 6, none⟩ = false ∧ Below w.heap.size w W' := by
  have hrow := (hb.block _ (by simp)).trans (World.alloc_heap_new w (.cells #[.int .i64 bc, .int .i64 bn, .int .i64 ic, .int .i64 ix, .int .i64 sc, .int .i64 di, .int .i64 sz] 25))
  refine ⟨⟨?_, ?_, ?_, ?_, ?_, ?_, ?_⟩, ?_, ?_⟩
  · unfold World.cell?; simp only [hrow]; rfl
  · unfold World.cell?; simp only [hrow]; rfl
  · unfold World.cell?; simp only [hrow]; rfl
  · unfold World.cell?; simp only [hrow]; rfl
  · unfold World.cell?; simp only [hrow]; rfl
  · unfold World.cell?; simp only [hrow]; rfl
  · unfold World.cell?; simp only [hrow]; rfl
  · unfold World.frozen?; simp only [hrow]; rfl
  · exact ((Below.refl _ w).alloc (Nat.le_refl _) _).trans (hb.mono (by simp))
set_option maxHeartbeats 4000000 in
theorem law_len (wh nx : Int) (a : Option Addr) (l c : Nat) (hl : l ≠ 16) (w : World) (hA : ∀ W : World, RowsAt GR W → Calls Tryz.prog 4 #[] W fun e W' => e = .returned (.bool true) ∧ Below W.heap.size W W') (hw : RowsAt GR w) (bc bn ic ix sc di sz : Int) :
    Calls Tryz.prog 3 #[.agg #[.int .i64 bc, .int .i64 bn, .int .i64 ic, .int .i64 ix, .int .i64 sc, .int .i64 di, .int .i64 sz], .int .i64 wh, .slice a l c, .int .i64 nx] w fun e w' => e = .returned (.bool true) ∧ Below w.heap.size w w' := by
  have hl' : ¬ ((l : Int) = 16) := by omega
  have hr : ∀ o, RowsAt GR (w.alloc o) := fun o => rowsAt_below hw ((Below.refl _ w).alloc (Nat.le_refl _) o)
  go_enter Tryz.func3, Tryz.ntmps3
  go_wp2_with (go_at_call 4; refine (hA _ (hr _)).mono ?_; rintro e W' ⟨rfl, hb⟩; obtain ⟨⟨c0, c1, c2, c3, c4, c5, c6⟩, f6, hB⟩ := arg_cells hb)
  go_ret
  exact ⟨rfl, hB.setCell (p := ⟨w.heap.size, 6, none⟩) (by simp) _⟩
set_option maxHeartbeats 4000000 in
theorem law_ref (wh nx : Int) (a : Option Addr) (c : Nat) (w : World) (hA : ∀ W : World, RowsAt GR W → Calls Tryz.prog 4 #[] W fun e W' => e = .returned (.bool true) ∧ Below W.heap.size W W') (hw : RowsAt GR w) (bc bn ic ix sc di sz : Int) (h : Refused di bc bn ic ix sc) :
    Calls Tryz.prog 3 #[.agg #[.int .i64 bc, .int .i64 bn, .int .i64 ic, .int .i64 ix, .int .i64 sc, .int .i64 di, .int .i64 sz], .int .i64 wh, .slice a 16 c, .int .i64 nx] w fun e w' => e = .returned (.bool true) ∧ Below w.heap.size w w' := by
  obtain ⟨er, her, hC⟩ := h
  have her' : ¬ ((er : Int) = 0) := by omega
  have hr : ∀ o, RowsAt GR (w.alloc o) := fun o => rowsAt_below hw ((Below.refl _ w).alloc (Nat.le_refl _) o)
  go_enter Tryz.func3, Tryz.ntmps3
  go_wp2_with first | (go_at_call 4; refine (hA _ (hr _)).mono ?_; rintro e W' ⟨rfl, hb⟩; obtain ⟨⟨c0, c1, c2, c3, c4, c5, c6⟩, f6, hB⟩ := arg_cells hb) | (go_at_call 5; refine (hC _).mono ?_; rintro e W2 ⟨rfl, hb2⟩)
  · go_ret
    exact ⟨rfl, (hB.setCell (p := ⟨w.heap.size, 6, none⟩) (by simp) (.int .i64 0)).trans (hb2.mono (by simpa using hB.size))⟩
  all_goals (exfalso; simp_all)
end
end Go.Ev.Tw
