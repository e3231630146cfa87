/-
  'linotypelaw26.SourceKnown' returns true for every input, and each argument reads behind the call as it read before; no conditions.
-/
import Derived.Test.YtfggompceldfgaaGreatDoorRows
import Derived.Test.YtfggompceldfgaaGreatDoorLyc
import Derived.Test.YtfggompceldfgaaGreatDoorTie
import Derived.Test.YtfggompceldfgaaGreatDoorCards
import Derived.MakeChecks
import Derived.LaidMore
import Derived.Lay
import Derived.SevenTiedAt
import Derived.Stop.Joined
import Derived.Test.YtfggompceldfgaaGreatDoorSk
import Derived.WalkKit
import Derived.ProofKit
import Derived.OpenShut
import Derived.ShutString
import Derived.ChangeOld
import Derived.Below
namespace Go.Proofs.YtfggompceldfgaaGreatDoor.sourceKnown
open Go.ChangeShapes Go.WideShapes Go.ChangeAt Go.RowKit
open Go.ChangeMaps (open_string shut_string)
set_option linter.unusedVariables false

theorem own : ownKnob Tryz.prog.godebug = none := by kernel_rfl
theorem laidOut : laidOutB Tryz.prog = true := by kernel_rfl
def cells1 : List Value := [.string ⟨#[36, 36]⟩, .string ⟨#[60, 60]⟩, .string ⟨#[62, 62]⟩, .string ⟨#[43]⟩, .string ⟨#[45]⟩, .string ⟨#[42]⟩, .string ⟨#[47]⟩, .string ⟨#[37]⟩, .string ⟨#[38]⟩, .string ⟨#[124]⟩, .string ⟨#[94]⟩, .string ⟨#[126]⟩, .string ⟨#[40]⟩, .string ⟨#[41]⟩, .string ⟨#[91]⟩, .string ⟨#[93]⟩, .string ⟨#[44]⟩, .string ⟨#[58]⟩, .string ⟨#[36]⟩]
def cells8 : List Value := [.int .u8 0, .int .u8 0, .int .u8 0, .int .u8 0, .int .u8 0, .int .u8 0, .int .u8 0, .int .u8 0, .int .u8 0, .int .u8 1, .int .u8 1, .int .u8 1, .int .u8 1, .int .u8 1, .int .u8 0, .int .u8 0, .int .u8 0, .int .u8 0, .int .u8 0, .int .u8 0, .int .u8 0, .int .u8 0, .int .u8 0, .int .u8 0, .int .u8 0, .int .u8 0, .int .u8 0, .int .u8 0, .int .u8 0, .int .u8 0, .int .u8 0, .int .u8 0, .int .u8 1, .int .u8 0, .int .u8 0, .int .u8 0, .int .u8 0, .int .u8 0, .int .u8 0, .int .u8 0, .int .u8 0, .int .u8 0, .int .u8 0, .int .u8 0, .int .u8 0, .int .u8 0, .int .u8 0, .int .u8 0, .int .u8 0, .int .u8 0, .int .u8 0, .int .u8 0, .int .u8 0, .int .u8 0, .int .u8 0, .int .u8 0, .int .u8 0, .int .u8 0, .int .u8 0, .int .u8 0, .int .u8 0, .int .u8 0, .int .u8 0, .int .u8 0, .int .u8 0, .int .u8 0, .int .u8 0, .int .u8 0, .int .u8 0, .int .u8 0, .int .u8 0, .int .u8 0, .int .u8 0, .int .u8 0, .int .u8 0, .int .u8 0, .int .u8 0, .int .u8 0, .int .u8 0, .int .u8 0, .int .u8 0, .int .u8 0, .int .u8 0, .int .u8 0, .int .u8 0, .int .u8 0, .int .u8 0, .int .u8 0, .int .u8 0, .int .u8 0, .int .u8 0, .int .u8 0, .int .u8 0, .int .u8 0, .int .u8 0, .int .u8 0, .int .u8 0, .int .u8 0, .int .u8 0, .int .u8 0, .int .u8 0, .int .u8 0, .int .u8 0, .int .u8 0, .int .u8 0, .int .u8 0, .int .u8 0, .int .u8 0, .int .u8 0, .int .u8 0, .int .u8 0, .int .u8 0, .int .u8 0, .int .u8 0, .int .u8 0, .int .u8 0, .int .u8 0, .int .u8 0, .int .u8 0, .int .u8 0, .int .u8 0, .int .u8 0, .int .u8 0, .int .u8 0, .int .u8 0, .int .u8 0, .int .u8 0, .int .u8 0, .int .u8 0, .int .u8 0, .int .u8 0, .int .u8 0, .int .u8 0, .int .u8 0, .int .u8 0, .int .u8 0, .int .u8 0, .int .u8 0, .int .u8 0, .int .u8 0, .int .u8 0, .int .u8 0, .int .u8 0, .int .u8 0, .int .u8 0, .int .u8 0, .int .u8 0, .int .u8 0, .int .u8 0, .int .u8 0, .int .u8 0, .int .u8 0, .int .u8 0, .int .u8 0, .int .u8 0, .int .u8 0, .int .u8 0, .int .u8 0, .int .u8 0, .int .u8 0, .int .u8 0, .int .u8 0, .int .u8 0, .int .u8 0, .int .u8 0, .int .u8 0, .int .u8 0, .int .u8 0, .int .u8 0, .int .u8 0, .int .u8 0, .int .u8 0, .int .u8 0, .int .u8 0, .int .u8 0, .int .u8 0, .int .u8 0, .int .u8 0, .int .u8 0, .int .u8 0, .int .u8 0, .int .u8 0, .int .u8 0, .int .u8 0, .int .u8 0, .int .u8 0, .int .u8 0, .int .u8 0, .int .u8 0, .int .u8 0, .int .u8 0, .int .u8 0, .int .u8 0, .int .u8 0, .int .u8 0, .int .u8 0, .int .u8 0, .int .u8 0, .int .u8 0, .int .u8 0, .int .u8 0, .int .u8 0, .int .u8 0, .int .u8 0, .int .u8 0, .int .u8 0, .int .u8 0, .int .u8 0, .int .u8 0, .int .u8 0, .int .u8 0, .int .u8 0, .int .u8 0, .int .u8 0, .int .u8 0, .int .u8 0, .int .u8 0, .int .u8 0, .int .u8 0, .int .u8 0, .int .u8 0, .int .u8 0, .int .u8 0, .int .u8 0, .int .u8 0, .int .u8 0, .int .u8 0, .int .u8 0, .int .u8 0, .int .u8 0, .int .u8 0, .int .u8 0, .int .u8 0, .int .u8 0, .int .u8 0, .int .u8 0, .int .u8 0, .int .u8 0, .int .u8 0, .int .u8 0, .int .u8 0, .int .u8 0, .int .u8 0, .int .u8 0, .int .u8 0, .int .u8 0, .int .u8 0, .int .u8 0, .int .u8 0, .int .u8 0, .int .u8 0, .int .u8 0, .int .u8 0, .int .u8 0, .int .u8 0, .int .u8 0]

/-- The listed variables, as rows. -/
def rows (t : Nat → TypeId) : List Ev.Blk := [Ev.deadRow, ⟨cells1, t 1, true, false⟩, Ev.deadRow, Ev.deadRow, Ev.deadRow, Ev.deadRow, Ev.deadRow, Ev.deadRow, ⟨cells8, t 8, true, false⟩]

theorem rowsAt {W : World} (hL : laidMetH Tryz.prog Rows.sourceKnownRow.laid W) : ∃ t, Ev.RowsAt (rows t) W := by
  rw [MakeChecks.laidMetH_plain _ _ _ (by kernel_rfl)] at hL
  obtain ⟨t1, h1⟩ := Ev.laid_at hL (k := 3) (cv := cells1) (nm := "linotype/token.signs") (d := Rows.laid_linotype_token_signs) (g := 1) (t := 137) (n := 19) (e := 9) (by kernel_rfl) (by kernel_rfl) (by kernel_rfl) (by kernel_rfl) (by kernel_rfl) (.inr (by kernel_rfl)) (by kernel_rfl) (by kernel_rfl) (by kernel_rfl)
  obtain ⟨t8, h8⟩ := Ev.laid_at hL (k := 2) (cv := cells8) (nm := "strings.asciiSpace") (d := Rows.laid_strings_asciiSpace) (g := 8) (t := 218) (n := 256) (e := 5) (by kernel_rfl) (by kernel_rfl) (by kernel_rfl) (by kernel_rfl) (by kernel_rfl) (.inl ⟨.u8, by kernel_rfl⟩) (by kernel_rfl) (by kernel_rfl) (by kernel_rfl)
  refine ⟨fun i => if i = 1 then t1 else t8, Ev.row_lt h8, fun i b hi hl => ?_⟩
  match i, hi with
  | 0, hi => cases hi; cases hl
  | 1, hi => cases hi; exact Ev.row_at h1
  | 2, hi => cases hi; cases hl
  | 3, hi => cases hi; cases hl
  | 4, hi => cases hi; cases hl
  | 5, hi => cases hi; cases hl
  | 6, hi => cases hi; cases hl
  | 7, hi => cases hi; cases hl
  | 8, hi => cases hi; exact Ev.row_at h8

theorem run0 (t : Nat → TypeId) : Ev.answerG Tryz.prog rg.kS (rows t) 1000 60 13 [] = some (.bool true) := by kernel_rfl
theorem run1 (t : Nat → TypeId) : Ev.answerG Tryz.prog rg.kS (rows t) 1000 60 24 [.string ⟨#[116, 105, 109, 101, 115, 32, 50, 32, 110, 111, 112, 10, 97, 58, 10, 97, 58]⟩, .int .i64 (7), .int .i64 (3)] = some (.bool true) := by kernel_rfl
theorem run2 (t : Nat → TypeId) : Ev.answerG Tryz.prog rg.kS (rows t) 1000 60 24 [.string ⟨#[120, 32, 101, 113, 117, 32, 121]⟩, .int .i64 (6), .int .i64 (1)] = some (.bool true) := by kernel_rfl
theorem run3 (t : Nat → TypeId) : Ev.answerG Tryz.prog rg.kS (rows t) 1000 60 24 [.string ⟨#[110, 111, 112, 10, 111, 114, 103, 32, 53]⟩, .int .i64 (8), .int .i64 (2)] = some (.bool true) := by kernel_rfl
theorem run4 (t : Nat → TypeId) : Ev.answerG Tryz.prog rg.kS (rows t) 1000 60 24 [.string ⟨#[97, 108, 105, 103, 110, 32, 51]⟩, .int .i64 (5), .int .i64 (1)] = some (.bool true) := by kernel_rfl
theorem run5 (t : Nat → TypeId) : Ev.answerG Tryz.prog rg.kS (rows t) 1000 60 24 [.string ⟨#[115, 116, 114, 117, 99, 32, 112]⟩, .int .i64 (8), .int .i64 (1)] = some (.bool true) := by kernel_rfl
theorem known (t : Nat → TypeId) : Ev.KnownOkR Tryz.prog (rows t) rg.kS := rg.kS_ok (GR := rows t) rfl rfl (by kernel_rfl)
def tab : List (FuncId × List Value) := [(13, []), (24, [.string ⟨#[116, 105, 109, 101, 115, 32, 50, 32, 110, 111, 112, 10, 97, 58, 10, 97, 58]⟩, .int .i64 (7), .int .i64 (3)]), (24, [.string ⟨#[120, 32, 101, 113, 117, 32, 121]⟩, .int .i64 (6), .int .i64 (1)]), (24, [.string ⟨#[110, 111, 112, 10, 111, 114, 103, 32, 53]⟩, .int .i64 (8), .int .i64 (2)]), (24, [.string ⟨#[97, 108, 105, 103, 110, 32, 51]⟩, .int .i64 (5), .int .i64 (1)]), (24, [.string ⟨#[115, 116, 114, 117, 99, 32, 112]⟩, .int .i64 (8), .int .i64 (1)])]
theorem run (t : Nat → TypeId) : Ev.answerG Tryz.prog (rg.kT tab rg.kS) (rows t) 1000 60 8 [] = some (.bool true) := by kernel_rfl

theorem tab_ok (t : Nat → TypeId) : ∀ q ∈ tab, ∀ w, Ev.RowsAt (rows t) w → Calls Tryz.prog q.1 q.2.toArray w fun e w' => e = .returned (.bool true) ∧ Below w.heap.size w w' := by
  intro q hq w hw
  simp only [tab, List.mem_cons, List.not_mem_nil, or_false] at hq
  rcases hq with rfl | rfl | rfl | rfl | rfl | rfl
  · exact Ev.answerGR_ok rg.noOwn rg.mixed (known t) (run0 t) w hw
  · exact Ev.answerGR_ok rg.noOwn rg.mixed (known t) (run1 t) w hw
  · exact Ev.answerGR_ok rg.noOwn rg.mixed (known t) (run2 t) w hw
  · exact Ev.answerGR_ok rg.noOwn rg.mixed (known t) (run3 t) w hw
  · exact Ev.answerGR_ok rg.noOwn rg.mixed (known t) (run4 t) w hw
  · exact Ev.answerGR_ok rg.noOwn rg.mixed (known t) (run5 t) w hw

theorem walk (w : World) (t : Nat → TypeId) (hr : Ev.RowsAt (rows t) w) :
    Calls Tryz.prog 8 #[] w fun e w' => e = .returned (.bool true) ∧ Below w.heap.size w w' :=
  Ev.answerGR_ok (Ev.noOwn_of (by kernel_rfl)) (by kernel_rfl) (rg.kT_ok (known t) (tab_ok t)) (run t) w hr

set_option maxRecDepth 100000 in
theorem lifted (os : Os) (started : os.Started) (H : Type) (enc : TypeId × Value → H) :
    ReturnsInHanded {} Tryz.checked os 8 .any (fun w args => (Rows.sourceKnownSpec.pre enc Tryz.prog Tryz.f8 Rows.sourceKnownRow.domain false w args ∧ laidMetH Tryz.prog Rows.sourceKnownRow.laid w) ∧ sizedMet enc Tryz.prog Tryz.f8 (OpenSpec.ofChange Rows.sourceKnownSpec) false w args) (Rows.sourceKnownSpec.post enc Tryz.prog Tryz.f8 false true false false) := by
  refine returnsInHanded_of_change_and (C := Tryz.checked) (X := fun w _ => laidMetH Tryz.prog Rows.sourceKnownRow.laid w) (fun _ _ _ hh h => h.of_heap hh) own started (by kernel_rfl) Tryz.func8
    (ChangeSpec.witness_shaped (enc := enc) (C := Tryz.checked) (os := os) (X := fun w _ => laidMetH Tryz.prog Rows.sourceKnownRow.laid w) false (World.laidAll Tryz.prog os Rows.sourceKnownRow.laid) #[] 8 (World.laidAll_os _ _ _)
      (World.shaped_of_ZipB (by kernel_rfl) (by kernel_rfl)) (by kernel_rfl) (by kernel_rfl) (by kernel_rfl)
      (by rw [MakeChecks.laidMetH_plain _ _ _ (by kernel_rfl)]; exact laidMet_laidAll _ (by kernel_rfl) (by kernel_rfl))) ?_
  intro W base args ds gs before hval0 hW hcnd _ hL _
  obtain ⟨t, hr⟩ := rowsAt hL
  have hval : ∀ (j : Nat) t v, Tryz.f8.params[j]? = some t → args[j]? = some v → Value.okWide Tryz.prog W .any base t v := hval0
  have hW' := hW
  obtain ⟨p, q, hA0, hV, rfl, hfz, hnd⟩ := hW
  have hA : DataW.TrodAll enc Tryz.prog W 0 (fun _ => true) true Tryz.f8.params.toList args.toList ds p := hA0
  rw [Tryz.params8] at hA hval
  obtain ⟨hargs, rfl, rfl⟩ := trodAll_nil hA
  obtain rfl : args = #[] := by cases args; simp_all
  obtain ⟨rfl, rfl⟩ := trodVars_none hV

  clear hA0 hval0
  refine (walk  W  t hr).mono fun e W' ⟨he, bel⟩ => ?_
  subst he
  exact ⟨_, rfl, _, _, _, [], _, [], hW', trodAll_mk1 (shut_bool Tryz.underlying4 _), trodAll_mk0, rfl, bel.frame _, fun h => by cases h⟩

theorem over : Rows.sourceKnownRow.holds Tryz.pinned (OpenSpec.ofChange Rows.sourceKnownSpec) :=
  OpenClaim.holds_of_wide 8 Tryz.f8 rfl rfl rfl rfl rfl rfl rfl ⟨rfl, rfl, rfl, rfl, rfl⟩ rfl rfl rfl rfl rfl (by kernel_rfl) Tryz.func8 (by kernel_rfl)
    (of_decide_eq_true (by kernel_rfl)) (by unfold Func.isWrapper; first | (rw [if_pos (by decide +kernel)]; kernel_rfl) | (rw [if_neg (by decide +kernel)]; exact ⟨rfl, rfl⟩))
    (fun os started H enc _ => lifted os started H enc)

theorem proved : Rows.SourceKnownCardSaid :=
  Claim7.holds_tied_plain_at .later [] [.data, .listed, .data, .data, .pinned] true (true, "ab2f1abe102c5c1bdcf1f10b3ee4796e1bd55df6dd762d6aae65777fe5402683") false over (fun _ h => by cases h) (by kernel_rfl) (fun _ h => by cases h) sourceKnown_row_tie rfl ⟨rfl, rfl⟩ (by kernel_rfl) rfl
    (fun f fn hf hfn => by
      obtain rfl : f = 8 := Option.some.inj ((show Tryz.prog.funcNamed "linotype/linotypelaw26.SourceKnown" = some 8 by kernel_rfl).symm.trans hf) |>.symm
      obtain rfl : fn = Tryz.f8 := (Option.some.inj (Tryz.func8.symm.trans hfn)).symm
      exact ⟨by kernel_rfl, fun j t ht => by
        rw [Tryz.params8] at ht
        have hm : t ∈ ([] : List TypeId) := by simpa using Array.mem_of_getElem? ht
        have hall : (([] : List TypeId).all fun u => !Tryz.prog.wantsStandIn u) = true := by kernel_rfl
        exact (show Tryz.prog.wantsStandIn t = false by simpa using List.all_eq_true.1 hall t hm)⟩)
    (by kernel_rfl)
#print axioms proved
end Go.Proofs.YtfggompceldfgaaGreatDoor.sourceKnown
