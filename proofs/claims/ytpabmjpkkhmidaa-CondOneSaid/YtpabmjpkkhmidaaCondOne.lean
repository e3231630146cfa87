/-
  'linotypelaw04.CondOne' returns true for every input, and each argument reads behind the call as it read before; no conditions.
-/
import Derived.Test.YtpabmjpkkhmidaaRows
import Derived.Test.YtpabmjpkkhmidaaEvZ
import Derived.Test.YtpabmjpkkhmidaaKn
import Derived.WalkKit
import Derived.ProofKit
import Derived.OpenShut
import Derived.ShutString
import Derived.ChangeOld
import Derived.Below
namespace Go.Proofs.Ytpabmjpkkhmidaa.condOne
open Go.ChangeShapes Go.WideShapes Go.ChangeAt Go.RowKit
open Go.ChangeMaps (open_string shut_string)
set_option linter.unusedVariables false

theorem own : ownKnob Try.prog.godebug = none := by kernel_rfl
theorem laidOut : laidOutB Try.prog = true := by kernel_rfl

theorem run_neg (m : Nat) (c z s o p : Bool) : Ev.answer Try.prog kn 1000 50 7 [.int .i64 (Int.negSucc m), .agg #[.bool c, .bool z, .bool s, .bool o, .bool p]] = some (.bool true) := by kernel_rfl
theorem run_big (m : Nat) (c z s o p : Bool) : Ev.answer Try.prog kn 1000 50 7 [.int .i64 (Int.ofNat (m + 16)), .agg #[.bool c, .bool z, .bool s, .bool o, .bool p]] = some (.bool true) := by kernel_rfl
theorem run_0 (c z s p : Bool) : (both fun o => isT (Ev.answer Try.prog kn 1000 50 7 [.int .i64 (Int.ofNat 0), .agg #[.bool c, .bool z, .bool s, .bool o, .bool p]])) = true := by kernel_rfl
theorem run_1 (c z s p : Bool) : (both fun o => isT (Ev.answer Try.prog kn 1000 50 7 [.int .i64 (Int.ofNat 1), .agg #[.bool c, .bool z, .bool s, .bool o, .bool p]])) = true := by kernel_rfl
theorem run_2 (z s o p : Bool) : (both fun c => isT (Ev.answer Try.prog kn 1000 50 7 [.int .i64 (Int.ofNat 2), .agg #[.bool c, .bool z, .bool s, .bool o, .bool p]])) = true := by kernel_rfl
theorem run_3 (z s o p : Bool) : (both fun c => isT (Ev.answer Try.prog kn 1000 50 7 [.int .i64 (Int.ofNat 3), .agg #[.bool c, .bool z, .bool s, .bool o, .bool p]])) = true := by kernel_rfl
theorem run_4 (c s o p : Bool) : (both fun z => isT (Ev.answer Try.prog kn 1000 50 7 [.int .i64 (Int.ofNat 4), .agg #[.bool c, .bool z, .bool s, .bool o, .bool p]])) = true := by kernel_rfl
theorem run_5 (c s o p : Bool) : (both fun z => isT (Ev.answer Try.prog kn 1000 50 7 [.int .i64 (Int.ofNat 5), .agg #[.bool c, .bool z, .bool s, .bool o, .bool p]])) = true := by kernel_rfl
theorem run_6 (s o p : Bool) : (both fun c => both fun z => isT (Ev.answer Try.prog kn 1000 50 7 [.int .i64 (Int.ofNat 6), .agg #[.bool c, .bool z, .bool s, .bool o, .bool p]])) = true := by kernel_rfl
theorem run_7 (s o p : Bool) : (both fun c => both fun z => isT (Ev.answer Try.prog kn 1000 50 7 [.int .i64 (Int.ofNat 7), .agg #[.bool c, .bool z, .bool s, .bool o, .bool p]])) = true := by kernel_rfl
theorem run_8 (c z o p : Bool) : (both fun s => isT (Ev.answer Try.prog kn 1000 50 7 [.int .i64 (Int.ofNat 8), .agg #[.bool c, .bool z, .bool s, .bool o, .bool p]])) = true := by kernel_rfl
theorem run_9 (c z o p : Bool) : (both fun s => isT (Ev.answer Try.prog kn 1000 50 7 [.int .i64 (Int.ofNat 9), .agg #[.bool c, .bool z, .bool s, .bool o, .bool p]])) = true := by kernel_rfl
theorem run_10 (c z s o : Bool) : (both fun p => isT (Ev.answer Try.prog kn 1000 50 7 [.int .i64 (Int.ofNat 10), .agg #[.bool c, .bool z, .bool s, .bool o, .bool p]])) = true := by kernel_rfl
theorem run_11 (c z s o : Bool) : (both fun p => isT (Ev.answer Try.prog kn 1000 50 7 [.int .i64 (Int.ofNat 11), .agg #[.bool c, .bool z, .bool s, .bool o, .bool p]])) = true := by kernel_rfl
theorem run_12 (c z p : Bool) : (both fun s => both fun o => isT (Ev.answer Try.prog kn 1000 50 7 [.int .i64 (Int.ofNat 12), .agg #[.bool c, .bool z, .bool s, .bool o, .bool p]])) = true := by kernel_rfl
theorem run_13 (c z p : Bool) : (both fun s => both fun o => isT (Ev.answer Try.prog kn 1000 50 7 [.int .i64 (Int.ofNat 13), .agg #[.bool c, .bool z, .bool s, .bool o, .bool p]])) = true := by kernel_rfl
theorem run_14 (c p : Bool) : (both fun z => both fun s => both fun o => isT (Ev.answer Try.prog kn 1000 50 7 [.int .i64 (Int.ofNat 14), .agg #[.bool c, .bool z, .bool s, .bool o, .bool p]])) = true := by kernel_rfl
theorem run_15 (c p : Bool) : (both fun z => both fun s => both fun o => isT (Ev.answer Try.prog kn 1000 50 7 [.int .i64 (Int.ofNat 15), .agg #[.bool c, .bool z, .bool s, .bool o, .bool p]])) = true := by kernel_rfl

theorem parts16 {k : Nat} (h : k < 16) : k = 0 ∨ k = 1 ∨ k = 2 ∨ k = 3 ∨ k = 4 ∨ k = 5 ∨ k = 6 ∨ k = 7 ∨ k = 8 ∨ k = 9 ∨ k = 10 ∨ k = 11 ∨ k = 12 ∨ k = 13 ∨ k = 14 ∨ k = 15 := by omega

theorem walk (a0 : Int) (w0 : (Lit.int .i64 a0).wf = true) (c z s o p : Bool) (w : World) :
    Calls Try.prog 7 #[.int .i64 a0, .agg #[.bool c, .bool z, .bool s, .bool o, .bool p]] w fun e w' => e = .returned (.bool true) ∧ Below w.heap.size w w' := by
  rcases int_parts 16 a0 with ⟨m, rfl⟩ | ⟨k, hk, rfl⟩ | ⟨m, rfl⟩
  · exact Ev.answer_ok noOwn mixed kn_ok (run_neg m c z s o p) w
  · rcases parts16 hk with rfl | rfl | rfl | rfl | rfl | rfl | rfl | rfl | rfl | rfl | rfl | rfl | rfl | rfl | rfl | rfl
    · exact Ev.answer_ok noOwn mixed kn_ok (isT_spec (both_spec (run_0 c z s p) o)) w
    · exact Ev.answer_ok noOwn mixed kn_ok (isT_spec (both_spec (run_1 c z s p) o)) w
    · exact Ev.answer_ok noOwn mixed kn_ok (isT_spec (both_spec (run_2 z s o p) c)) w
    · exact Ev.answer_ok noOwn mixed kn_ok (isT_spec (both_spec (run_3 z s o p) c)) w
    · exact Ev.answer_ok noOwn mixed kn_ok (isT_spec (both_spec (run_4 c s o p) z)) w
    · exact Ev.answer_ok noOwn mixed kn_ok (isT_spec (both_spec (run_5 c s o p) z)) w
    · exact Ev.answer_ok noOwn mixed kn_ok (isT_spec (both_spec (both_spec (run_6 s o p) c) z)) w
    · exact Ev.answer_ok noOwn mixed kn_ok (isT_spec (both_spec (both_spec (run_7 s o p) c) z)) w
    · exact Ev.answer_ok noOwn mixed kn_ok (isT_spec (both_spec (run_8 c z o p) s)) w
    · exact Ev.answer_ok noOwn mixed kn_ok (isT_spec (both_spec (run_9 c z o p) s)) w
    · exact Ev.answer_ok noOwn mixed kn_ok (isT_spec (both_spec (run_10 c z s o) p)) w
    · exact Ev.answer_ok noOwn mixed kn_ok (isT_spec (both_spec (run_11 c z s o) p)) w
    · exact Ev.answer_ok noOwn mixed kn_ok (isT_spec (both_spec (both_spec (run_12 c z p) s) o)) w
    · exact Ev.answer_ok noOwn mixed kn_ok (isT_spec (both_spec (both_spec (run_13 c z p) s) o)) w
    · exact Ev.answer_ok noOwn mixed kn_ok (isT_spec (both_spec (both_spec (both_spec (run_14 c p) z) s) o)) w
    · exact Ev.answer_ok noOwn mixed kn_ok (isT_spec (both_spec (both_spec (both_spec (run_15 c p) z) s) o)) w
  · exact Ev.answer_ok noOwn mixed kn_ok (run_big m c z s o p) w

set_option maxRecDepth 100000 in
theorem lifted (os : Os) (started : os.Started) (H : Type) (enc : TypeId × Value → H) :
    ReturnsInHanded {} Try.checked os 7 .any (Rows.condOneSpec.pre6 enc Try.prog Try.f7 Rows.condOneRow.domain false) (Rows.condOneSpec.post enc Try.prog Try.f7 false true false false) := by
  refine returnsInHanded_of_change (C := Try.checked) own started (by kernel_rfl) Try.func7
    (ChangeSpec.witness6 (enc := enc) (C := Try.checked) false ⟨#[], #[.int .i64 0, .agg #[.bool false, .bool false, .bool false, .bool false, .bool false]], []⟩ 8 (by kernel_rfl) (by kernel_rfl) (by kernel_rfl) (by kernel_rfl)) ?_
  intro W base args ds gs before hval0 hW hcnd _
  have hval : ∀ (j : Nat) t v, Try.f7.params[j]? = some t → args[j]? = some v → Value.okWide Try.prog W .any base t v := hval0
  have hW' := hW
  obtain ⟨p, q, hA0, hV, rfl, hfz, hnd⟩ := hW
  have hA : DataW.TrodAll enc Try.prog W 0 (fun _ => true) true Try.f7.params.toList args.toList ds p := hA0
  rw [Try.params7] at hA hval
  obtain ⟨v0, vs0, d0, ds0, p0, q0, hargs, rfl, rfl, h0, r0⟩ := trodAll_cons hA
  obtain ⟨v1, vs1, d1, ds1, p1, q1, rfl, rfl, rfl, h1, r1⟩ := trodAll_cons r0
  obtain ⟨rfl, rfl, rfl⟩ := trodAll_nil r1
  obtain rfl : args = #[v0, v1] := by cases args; simp_all
  obtain ⟨rfl, rfl⟩ := trodVars_none hV
  obtain ⟨a0, rfl, rfl, rfl, w0⟩ := open_int Try.underlying3 (hval 0 3 v0 rfl rfl) h0
  have k1 := h1
  have lt1 : ∀ x ∈ p1, x.block < W.heap.size := by obtain ⟨m, hm⟩ := k1; exact DataW.trod_lt m _ _ _ hm
  obtain ⟨cs1, rfl, hl1, hc1⟩ := Ev.agg_shape (ts := [4, 4, 4, 4, 4]) Try.underlying41 (by kernel_rfl) (by kernel_rfl) (hval 1 41 v1 rfl rfl)
  obtain ⟨q1x0, q1x1, q1x2, q1x3, q1x4, rfl⟩ := Ev.len5 hl1
  obtain ⟨a1x0, rfl⟩ := Ev.cell_bool Try.underlying4 (hc1 0 4 q1x0 rfl rfl)
  obtain ⟨a1x1, rfl⟩ := Ev.cell_bool Try.underlying4 (hc1 1 4 q1x1 rfl rfl)
  obtain ⟨a1x2, rfl⟩ := Ev.cell_bool Try.underlying4 (hc1 2 4 q1x2 rfl rfl)
  obtain ⟨a1x3, rfl⟩ := Ev.cell_bool Try.underlying4 (hc1 3 4 q1x3 rfl rfl)
  obtain ⟨a1x4, rfl⟩ := Ev.cell_bool Try.underlying4 (hc1 4 4 q1x4 rfl rfl)
  clear hA0 hval0
  refine (walk a0 w0 a1x0 a1x1 a1x2 a1x3 a1x4 W ).mono fun e W' ⟨he, bel⟩ => ?_
  subst he
  exact ⟨_, rfl, _, _, _, [], _, [], hW', trodAll_mk1 (shut_bool Try.underlying4 _), trodAll_cons_mk (shut_int Try.underlying3 w0) (trodAll_cons_mk (Below.trod laidOut (by kernel_rfl) (of_decide_eq_true (by kernel_rfl)) k1 bel lt1) (trodAll_mk0)), rfl, bel.frame _, fun h => by cases h⟩

theorem over : Rows.condOneRow.holds Try.pinned (OpenSpec.ofChange Rows.condOneSpec) :=
  OpenClaim.holds_of_wide 7 Try.f7 rfl rfl rfl rfl rfl rfl rfl ⟨rfl, rfl, rfl, rfl, rfl⟩ rfl rfl rfl rfl rfl (by kernel_rfl) Try.func7 (by kernel_rfl)
    (of_decide_eq_true (by kernel_rfl)) (by unfold Func.isWrapper; first | (rw [if_pos (by decide +kernel)]; kernel_rfl) | (rw [if_neg (by decide +kernel)]; exact ⟨rfl, rfl⟩))
    (fun os started H enc _ => lifted os started H enc)

theorem proved : Rows.CondOneSaid := over
#print axioms proved
end Go.Proofs.Ytpabmjpkkhmidaa.condOne
