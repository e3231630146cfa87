/-
  'linotypelaw04.CondTells' returns true for every input, and each argument reads behind the call as it read before; no conditions.
-/
import Derived.Test.YtpabmjpkkhmidaaRows
import Derived.Test.YtpabmjpkkhmidaaEc
import Derived.Test.YtpabmjpkkhmidaaKn
import Derived.Test.YtpabmjpkkhmidaaCt4
import Derived.WalkKit
import Derived.ProofKit
import Derived.OpenShut
import Derived.ShutString
import Derived.ChangeOld
import Derived.Below
namespace Go.Proofs.Ytpabmjpkkhmidaa.condTells
open Go.ChangeShapes Go.WideShapes Go.ChangeAt Go.RowKit
open Go.ChangeMaps (open_string shut_string)
set_option linter.unusedVariables false

theorem own : ownKnob Try.prog.godebug = none := by kernel_rfl
theorem laidOut : laidOutB Try.prog = true := by kernel_rfl

theorem walk (a0 : Int) (w0 : (Lit.int .i64 a0).wf = true) (a1 : ByteArray) (w1 : a1.size ≤ maxLen) (a2x0 : Bool) (a2x1 : Bool) (a2x2 : Bool) (a2x3 : Bool) (a2x4 : Bool) (w : World) :
    Calls Try.prog 9 #[.int .i64 a0, .string a1, .agg #[.bool a2x0, .bool a2x1, .bool a2x2, .bool a2x3, .bool a2x4]] w fun e w' => e = .returned (.bool true) ∧ Below w.heap.size w w' :=
  tells_true (args := [.int .i64 a0, .string a1, .agg #[.bool a2x0, .bool a2x1, .bool a2x2, .bool a2x3, .bool a2x4]]) (Tv.LV.cons (.int .i64 a0) (Tv.LV.cons (str_arg w a1) (Tv.LV.cons (agg_vr a2x0 a2x1 a2x2 a2x3 a2x4) Tv.LV.nil)))

set_option maxRecDepth 100000 in
theorem lifted (os : Os) (started : os.Started) (H : Type) (enc : TypeId × Value → H) :
    ReturnsInHanded {} Try.checked os 9 .any (Rows.condTellsSpec.pre6 enc Try.prog Try.f9 Rows.condTellsRow.domain false) (Rows.condTellsSpec.post enc Try.prog Try.f9 false true false false) := by
  refine returnsInHanded_of_change (C := Try.checked) own started (by kernel_rfl) Try.func9
    (ChangeSpec.witness6 (enc := enc) (C := Try.checked) false ⟨#[], #[.int .i64 0, .string ⟨#[]⟩, .agg #[.bool false, .bool false, .bool false, .bool false, .bool false]], []⟩ 8 (by kernel_rfl) (by kernel_rfl) (by kernel_rfl) (by kernel_rfl)) ?_
  intro W base args ds gs before hval0 hW hcnd _
  have hval : ∀ (j : Nat) t v, Try.f9.params[j]? = some t → args[j]? = some v → Value.okWide Try.prog W .any base t v := hval0
  have hW' := hW
  obtain ⟨p, q, hA0, hV, rfl, hfz, hnd⟩ := hW
  have hA : DataW.TrodAll enc Try.prog W 0 (fun _ => true) true Try.f9.params.toList args.toList ds p := hA0
  rw [Try.params9] at hA hval
  obtain ⟨v0, vs0, d0, ds0, p0, q0, hargs, rfl, rfl, h0, r0⟩ := trodAll_cons hA
  obtain ⟨v1, vs1, d1, ds1, p1, q1, rfl, rfl, rfl, h1, r1⟩ := trodAll_cons r0
  obtain ⟨v2, vs2, d2, ds2, p2, q2, rfl, rfl, rfl, h2, r2⟩ := trodAll_cons r1
  obtain ⟨rfl, rfl, rfl⟩ := trodAll_nil r2
  obtain rfl : args = #[v0, v1, v2] := by cases args; simp_all
  obtain ⟨rfl, rfl⟩ := trodVars_none hV
  obtain ⟨a0, rfl, rfl, rfl, w0⟩ := open_int Try.underlying3 (hval 0 3 v0 rfl rfl) h0
  obtain ⟨a1, rfl, rfl, rfl, w1⟩ := open_string Try.underlying9 (hval 1 9 v1 rfl rfl) h1
  have k2 := h2
  have lt2 : ∀ x ∈ p2, x.block < W.heap.size := by obtain ⟨m, hm⟩ := k2; exact DataW.trod_lt m _ _ _ hm
  obtain ⟨cs2, rfl, hl2, hc2⟩ := Ev.agg_shape (ts := [4, 4, 4, 4, 4]) Try.underlying41 (by kernel_rfl) (by kernel_rfl) (hval 2 41 v2 rfl rfl)
  obtain ⟨q2x0, q2x1, q2x2, q2x3, q2x4, rfl⟩ := Ev.len5 hl2
  obtain ⟨a2x0, rfl⟩ := Ev.cell_bool Try.underlying4 (hc2 0 4 q2x0 rfl rfl)
  obtain ⟨a2x1, rfl⟩ := Ev.cell_bool Try.underlying4 (hc2 1 4 q2x1 rfl rfl)
  obtain ⟨a2x2, rfl⟩ := Ev.cell_bool Try.underlying4 (hc2 2 4 q2x2 rfl rfl)
  obtain ⟨a2x3, rfl⟩ := Ev.cell_bool Try.underlying4 (hc2 3 4 q2x3 rfl rfl)
  obtain ⟨a2x4, rfl⟩ := Ev.cell_bool Try.underlying4 (hc2 4 4 q2x4 rfl rfl)
  clear hA0 hval0
  refine (walk a0 w0 a1 w1 a2x0 a2x1 a2x2 a2x3 a2x4 W ).mono fun e W' ⟨he, bel⟩ => ?_
  subst he
  exact ⟨_, rfl, _, _, _, [], _, [], hW', trodAll_mk1 (shut_bool Try.underlying4 _), trodAll_cons_mk (shut_int Try.underlying3 w0) (trodAll_cons_mk (shut_string Try.underlying9 w1) (trodAll_cons_mk (Below.trod laidOut (by kernel_rfl) (of_decide_eq_true (by kernel_rfl)) k2 bel lt2) (trodAll_mk0))), rfl, bel.frame _, fun h => by cases h⟩

theorem over : Rows.condTellsRow.holds Try.pinned (OpenSpec.ofChange Rows.condTellsSpec) :=
  OpenClaim.holds_of_wide 9 Try.f9 rfl rfl rfl rfl rfl rfl rfl ⟨rfl, rfl, rfl, rfl, rfl⟩ rfl rfl rfl rfl rfl (by kernel_rfl) Try.func9 (by kernel_rfl)
    (of_decide_eq_true (by kernel_rfl)) (by unfold Func.isWrapper; first | (rw [if_pos (by decide +kernel)]; kernel_rfl) | (rw [if_neg (by decide +kernel)]; exact ⟨rfl, rfl⟩))
    (fun os started H enc _ => lifted os started H enc)

theorem proved : Rows.CondTellsSaid := over
#print axioms proved
end Go.Proofs.Ytpabmjpkkhmidaa.condTells
