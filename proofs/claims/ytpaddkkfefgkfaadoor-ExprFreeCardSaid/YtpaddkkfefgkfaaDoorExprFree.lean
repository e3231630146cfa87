/-
  'linotypelaw23.ExprFree' returns true for every input, and each argument reads behind the call as it read before; no conditions.
-/
import Derived.Test.YtpaddkkfefgkfaaDoorRows
import Derived.Test.YtpaddkkfefgkfaaDoorLyc
import Derived.Test.YtpaddkkfefgkfaaDoorTie
import Derived.Test.YtpaddkkfefgkfaaDoorCards
import Derived.MakeChecks
import Derived.LaidMore
import Derived.Lay
import Derived.SevenTiedAt
import Derived.Stop.Joined
import Derived.Test.YtpaddkkfefgkfaaDoorEl
import Derived.WalkKit
import Derived.ProofKit
import Derived.OpenShut
import Derived.ShutString
import Derived.ChangeOld
import Derived.Below
namespace Go.Proofs.YtpaddkkfefgkfaaDoor.exprFree
open Go.ChangeShapes Go.WideShapes Go.ChangeAt Go.RowKit
open Go.ChangeMaps (open_string shut_string)
set_option linter.unusedVariables false

theorem own : ownKnob Tryd.prog.godebug = none := by kernel_rfl
theorem laidOut : laidOutB Tryd.prog = true := by kernel_rfl
def cells0 : List Value := [.string ⟨#[36, 36]⟩, .string ⟨#[60, 60]⟩, .string ⟨#[62, 62]⟩, .string ⟨#[43]⟩, .string ⟨#[45]⟩, .string ⟨#[42]⟩, .string ⟨#[47]⟩, .string ⟨#[37]⟩, .string ⟨#[38]⟩, .string ⟨#[124]⟩, .string ⟨#[94]⟩, .string ⟨#[126]⟩, .string ⟨#[40]⟩, .string ⟨#[41]⟩, .string ⟨#[91]⟩, .string ⟨#[93]⟩, .string ⟨#[44]⟩, .string ⟨#[58]⟩, .string ⟨#[36]⟩]

/-- The listed variables, as rows. -/
def rows (t : Nat → TypeId) : List Ev.Blk := [⟨cells0, t 0, true, false⟩]

theorem rowsAt {W : World} (hL : laidMetH Tryd.prog Rows.exprFreeRow.laid W) : ∃ t, Ev.RowsAt (rows t) W := by
  rw [MakeChecks.laidMetH_plain _ _ _ (by kernel_rfl)] at hL
  obtain ⟨t0, h0⟩ := Ev.laid_at hL (k := 0) (cv := cells0) (nm := "linotype/token.signs") (d := Rows.laid_linotype_token_signs) (g := 0) (t := 89) (n := 19) (e := 9) (by kernel_rfl) (by kernel_rfl) (by kernel_rfl) (by kernel_rfl) (by kernel_rfl) (.inr (by kernel_rfl)) (by kernel_rfl) (by kernel_rfl) (by kernel_rfl)
  refine ⟨fun i => t0, Ev.row_lt h0, fun i b hi hl => ?_⟩
  match i, hi with
  | 0, hi => cases hi; exact Ev.row_at h0

theorem walk (v0 : Value) (z0 : List (Tv.Ty.den (.pair (.int .i64) (.pair (.int .i64) (.pair (.str) (.pair (.int .i64) (.int .i64))))))) (v1 : Value) (z1 : List (Tv.Ty.den (.pair (.str) (.pair (.int .i64) (.bool))))) (a2 : Int) (w2 : (Lit.int .i64 a2).wf = true) (a3 : Int) (w3 : (Lit.int .i64 a3).wf = true) (w : World) (y0 : Tv.VR (Tv.woOf w) (.lst (.pair (.int .i64) (.pair (.int .i64) (.pair (.str) (.pair (.int .i64) (.int .i64))))) z0) v0) (w0 : ∀ y ∈ z0, Tv.wfD (.pair (.int .i64) (.pair (.int .i64) (.pair (.str) (.pair (.int .i64) (.int .i64))))) y) (x0 : z0.length ≤ maxLen) (y1 : Tv.VR (Tv.woOf w) (.lst (.pair (.str) (.pair (.int .i64) (.bool))) z1) v1) (w1 : ∀ y ∈ z1, Tv.wfD (.pair (.str) (.pair (.int .i64) (.bool))) y) (x1 : z1.length ≤ maxLen) (t : Nat → TypeId) (hr : Ev.RowsAt (rows t) w) :
    Calls Tryd.prog 3 #[v0, v1, .int .i64 a2, .int .i64 a3] w fun e w' => e = .returned (.bool true) ∧ Below w.heap.size w w' :=
  ex.top (ex.cN_ok ex.M15_ok ex.n0) (ex.freeE z0 (Nat.le_trans x0 (by decide)) z1 (Nat.le_trans x1 (by decide)) a2 a3) hr.1 (ex.glob (rows := rows t) ⟨_, rfl, rfl, by kernel_rfl⟩ hr) (args' := [v0, v1, .int .i64 a2, .int .i64 a3])
    (Tv.LV.cons y0 (Tv.LV.cons y1 (Tv.LV.cons (.int .i64 a2) (Tv.LV.cons (.int .i64 a3) Tv.LV.nil)))) rfl

set_option maxRecDepth 100000 in
theorem lifted (os : Os) (started : os.Started) (H : Type) (enc : TypeId × Value → H) :
    ReturnsInHanded {} Tryd.checked os 3 .any (fun w args => (Rows.exprFreeSpec.pre enc Tryd.prog Tryd.f3 Rows.exprFreeRow.domain false w args ∧ laidMetH Tryd.prog Rows.exprFreeRow.laid w) ∧ sizedMet enc Tryd.prog Tryd.f3 (OpenSpec.ofChange Rows.exprFreeSpec) false w args) (Rows.exprFreeSpec.post enc Tryd.prog Tryd.f3 false true false false) := by
  refine returnsInHanded_of_change_and (C := Tryd.checked) (X := fun w _ => laidMetH Tryd.prog Rows.exprFreeRow.laid w) (fun _ _ _ hh h => h.of_heap hh) own started (by kernel_rfl) Tryd.func3
    (ChangeSpec.witness_shaped (enc := enc) (C := Tryd.checked) (os := os) (X := fun w _ => laidMetH Tryd.prog Rows.exprFreeRow.laid w) false (World.laidAll Tryd.prog os Rows.exprFreeRow.laid) #[.slice none 0 0, .slice none 0 0, .int .i64 0, .int .i64 0] 8 (World.laidAll_os _ _ _)
      (World.shaped_of_ZipB (by kernel_rfl) (by kernel_rfl)) (by kernel_rfl) (by kernel_rfl) (by kernel_rfl)
      (by rw [MakeChecks.laidMetH_plain _ _ _ (by kernel_rfl)]; exact laidMet_laidAll _ (by kernel_rfl) (by kernel_rfl))) ?_
  intro W base args ds gs before hval0 hW hcnd _ hL _
  obtain ⟨t, hr⟩ := rowsAt hL
  have hval : ∀ (j : Nat) t v, Tryd.f3.params[j]? = some t → args[j]? = some v → Value.okWide Tryd.prog W .any base t v := hval0
  have hW' := hW
  obtain ⟨p, q, hA0, hV, rfl, hfz, hnd⟩ := hW
  have hA : DataW.TrodAll enc Tryd.prog W 0 (fun _ => true) true Tryd.f3.params.toList args.toList ds p := hA0
  rw [Tryd.params3] at hA hval
  obtain ⟨v0, vs0, d0, ds0, p0, q0, hargs, rfl, rfl, h0, r0⟩ := trodAll_cons hA
  obtain ⟨v1, vs1, d1, ds1, p1, q1, rfl, rfl, rfl, h1, r1⟩ := trodAll_cons r0
  obtain ⟨v2, vs2, d2, ds2, p2, q2, rfl, rfl, rfl, h2, r2⟩ := trodAll_cons r1
  obtain ⟨v3, vs3, d3, ds3, p3, q3, rfl, rfl, rfl, h3, r3⟩ := trodAll_cons r2
  obtain ⟨rfl, rfl, rfl⟩ := trodAll_nil r3
  obtain rfl : args = #[v0, v1, v2, v3] := by cases args; simp_all
  obtain ⟨rfl, rfl⟩ := trodVars_none hV
  have k0 := h0
  have lt0 : ∀ x ∈ p0, x.block < W.heap.size := by obtain ⟨m, hm⟩ := k0; exact DataW.trod_lt m _ _ _ hm
  obtain ⟨z0, y0, w0, x0⟩ := Tv.list_arg (ty := .pair (.int .i64) (.pair (.int .i64) (.pair (.str) (.pair (.int .i64) (.int .i64))))) (d := 5) Tryd.underlying22 (by kernel_rfl) (by kernel_rfl) (by kernel_rfl) (hval 0 22 v0 rfl rfl) h0
  have k1 := h1
  have lt1 : ∀ x ∈ p1, x.block < W.heap.size := by obtain ⟨m, hm⟩ := k1; exact DataW.trod_lt m _ _ _ hm
  obtain ⟨z1, y1, w1, x1⟩ := Tv.list_arg (ty := .pair (.str) (.pair (.int .i64) (.bool))) (d := 5) Tryd.underlying23 (by kernel_rfl) (by kernel_rfl) (by kernel_rfl) (hval 1 23 v1 rfl rfl) h1
  obtain ⟨a2, rfl, rfl, rfl, w2⟩ := open_int Tryd.underlying3 (hval 2 3 v2 rfl rfl) h2
  obtain ⟨a3, rfl, rfl, rfl, w3⟩ := open_int Tryd.underlying3 (hval 3 3 v3 rfl rfl) h3
  clear hA0 hval0
  refine (walk v0 z0 v1 z1 a2 w2 a3 w3 W y0 w0 x0 y1 w1 x1 t hr).mono fun e W' ⟨he, bel⟩ => ?_
  subst he
  exact ⟨_, rfl, _, _, _, [], _, [], hW', trodAll_mk1 (shut_bool Tryd.underlying4 _), trodAll_cons_mk (Below.trod laidOut (by kernel_rfl) (of_decide_eq_true (by kernel_rfl)) k0 bel lt0) (trodAll_cons_mk (Below.trod laidOut (by kernel_rfl) (of_decide_eq_true (by kernel_rfl)) k1 bel lt1) (trodAll_cons_mk (shut_int Tryd.underlying3 w2) (trodAll_cons_mk (shut_int Tryd.underlying3 w3) (trodAll_mk0)))), rfl, bel.frame _, fun h => by cases h⟩

theorem over : Rows.exprFreeRow.holds Tryd.pinned (OpenSpec.ofChange Rows.exprFreeSpec) :=
  OpenClaim.holds_of_wide 3 Tryd.f3 rfl rfl rfl rfl rfl rfl rfl ⟨rfl, rfl, rfl, rfl, rfl⟩ rfl rfl rfl rfl rfl (by kernel_rfl) Tryd.func3 (by kernel_rfl)
    (of_decide_eq_true (by kernel_rfl)) (by unfold Func.isWrapper; first | (rw [if_pos (by decide +kernel)]; kernel_rfl) | (rw [if_neg (by decide +kernel)]; exact ⟨rfl, rfl⟩))
    (fun os started H enc _ => lifted os started H enc)

theorem proved : Rows.ExprFreeCardSaid :=
  Claim7.holds_tied_plain_at .later [] [.data] true (true, "a945322cb877bda5c9dfd2181554ca085bba4c5a7a3336c19406c422f56a3ef9") false over (fun _ h => by cases h) (by kernel_rfl) (fun _ h => by cases h) exprFree_row_tie rfl ⟨rfl, rfl⟩ (by kernel_rfl) rfl
    (fun f fn hf hfn => by
      obtain rfl : f = 3 := Option.some.inj ((show Tryd.prog.funcNamed "linotype/linotypelaw23.ExprFree" = some 3 by kernel_rfl).symm.trans hf) |>.symm
      obtain rfl : fn = Tryd.f3 := (Option.some.inj (Tryd.func3.symm.trans hfn)).symm
      exact ⟨by kernel_rfl, fun j t ht => by
        rw [Tryd.params3] at ht
        have hm : t ∈ ([22, 23, 3, 3] : List TypeId) := by simpa using Array.mem_of_getElem? ht
        have hall : (([22, 23, 3, 3] : List TypeId).all fun u => !Tryd.prog.wantsStandIn u) = true := by kernel_rfl
        exact (show Tryd.prog.wantsStandIn t = false by simpa using List.all_eq_true.1 hall t hm)⟩)
    (by kernel_rfl)
#print axioms proved
end Go.Proofs.YtpaddkkfefgkfaaDoor.exprFree
