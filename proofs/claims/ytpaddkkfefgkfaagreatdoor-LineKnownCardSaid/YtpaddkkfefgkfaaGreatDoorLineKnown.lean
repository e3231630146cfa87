/-
  'linotypelaw25.LineKnown' returns true for every input, and each argument reads behind the call as it read before; no conditions.
-/
import Derived.Test.YtpaddkkfefgkfaaGreatDoorRows
import Derived.Test.YtpaddkkfefgkfaaGreatDoorLyc
import Derived.Test.YtpaddkkfefgkfaaGreatDoorTie
import Derived.Test.YtpaddkkfefgkfaaGreatDoorCards
import Derived.MakeChecks
import Derived.LaidMore
import Derived.Lay
import Derived.SevenTiedAt
import Derived.Stop.Joined
import Derived.Test.YtpaddkkfefgkfaaGreatDoorZg
import Derived.WalkKit
import Derived.ProofKit
import Derived.OpenShut
import Derived.ShutString
import Derived.ChangeOld
import Derived.Below
namespace Go.Proofs.YtpaddkkfefgkfaaGreatDoor.lineKnown
open Go.ChangeShapes Go.WideShapes Go.ChangeAt Go.RowKit
open Go.ChangeMaps (open_string shut_string)
set_option linter.unusedVariables false

theorem own : ownKnob Tryz.prog.godebug = none := by kernel_rfl
theorem laidOut : laidOutB Tryz.prog = true := by kernel_rfl
def cells0 : List Value := [.string ⟨#[36, 36]⟩, .string ⟨#[60, 60]⟩, .string ⟨#[62, 62]⟩, .string ⟨#[43]⟩, .string ⟨#[45]⟩, .string ⟨#[42]⟩, .string ⟨#[47]⟩, .string ⟨#[37]⟩, .string ⟨#[38]⟩, .string ⟨#[124]⟩, .string ⟨#[94]⟩, .string ⟨#[126]⟩, .string ⟨#[40]⟩, .string ⟨#[41]⟩, .string ⟨#[91]⟩, .string ⟨#[93]⟩, .string ⟨#[44]⟩, .string ⟨#[58]⟩, .string ⟨#[36]⟩]
def cells1 : List Value := [.int .u8 0, .int .u8 0, .int .u8 0, .int .u8 0, .int .u8 0, .int .u8 0, .int .u8 0, .int .u8 0, .int .u8 0, .int .u8 1, .int .u8 1, .int .u8 1, .int .u8 1, .int .u8 1, .int .u8 0, .int .u8 0, .int .u8 0, .int .u8 0, .int .u8 0, .int .u8 0, .int .u8 0, .int .u8 0, .int .u8 0, .int .u8 0, .int .u8 0, .int .u8 0, .int .u8 0, .int .u8 0, .int .u8 0, .int .u8 0, .int .u8 0, .int .u8 0, .int .u8 1, .int .u8 0, .int .u8 0, .int .u8 0, .int .u8 0, .int .u8 0, .int .u8 0, .int .u8 0, .int .u8 0, .int .u8 0, .int .u8 0, .int .u8 0, .int .u8 0, .int .u8 0, .int .u8 0, .int .u8 0, .int .u8 0, .int .u8 0, .int .u8 0, .int .u8 0, .int .u8 0, .int .u8 0, .int .u8 0, .int .u8 0, .int .u8 0, .int .u8 0, .int .u8 0, .int .u8 0, .int .u8 0, .int .u8 0, .int .u8 0, .int .u8 0, .int .u8 0, .int .u8 0, .int .u8 0, .int .u8 0, .int .u8 0, .int .u8 0, .int .u8 0, .int .u8 0, .int .u8 0, .int .u8 0, .int .u8 0, .int .u8 0, .int .u8 0, .int .u8 0, .int .u8 0, .int .u8 0, .int .u8 0, .int .u8 0, .int .u8 0, .int .u8 0, .int .u8 0, .int .u8 0, .int .u8 0, .int .u8 0, .int .u8 0, .int .u8 0, .int .u8 0, .int .u8 0, .int .u8 0, .int .u8 0, .int .u8 0, .int .u8 0, .int .u8 0, .int .u8 0, .int .u8 0, .int .u8 0, .int .u8 0, .int .u8 0, .int .u8 0, .int .u8 0, .int .u8 0, .int .u8 0, .int .u8 0, .int .u8 0, .int .u8 0, .int .u8 0, .int .u8 0, .int .u8 0, .int .u8 0, .int .u8 0, .int .u8 0, .int .u8 0, .int .u8 0, .int .u8 0, .int .u8 0, .int .u8 0, .int .u8 0, .int .u8 0, .int .u8 0, .int .u8 0, .int .u8 0, .int .u8 0, .int .u8 0, .int .u8 0, .int .u8 0, .int .u8 0, .int .u8 0, .int .u8 0, .int .u8 0, .int .u8 0, .int .u8 0, .int .u8 0, .int .u8 0, .int .u8 0, .int .u8 0, .int .u8 0, .int .u8 0, .int .u8 0, .int .u8 0, .int .u8 0, .int .u8 0, .int .u8 0, .int .u8 0, .int .u8 0, .int .u8 0, .int .u8 0, .int .u8 0, .int .u8 0, .int .u8 0, .int .u8 0, .int .u8 0, .int .u8 0, .int .u8 0, .int .u8 0, .int .u8 0, .int .u8 0, .int .u8 0, .int .u8 0, .int .u8 0, .int .u8 0, .int .u8 0, .int .u8 0, .int .u8 0, .int .u8 0, .int .u8 0, .int .u8 0, .int .u8 0, .int .u8 0, .int .u8 0, .int .u8 0, .int .u8 0, .int .u8 0, .int .u8 0, .int .u8 0, .int .u8 0, .int .u8 0, .int .u8 0, .int .u8 0, .int .u8 0, .int .u8 0, .int .u8 0, .int .u8 0, .int .u8 0, .int .u8 0, .int .u8 0, .int .u8 0, .int .u8 0, .int .u8 0, .int .u8 0, .int .u8 0, .int .u8 0, .int .u8 0, .int .u8 0, .int .u8 0, .int .u8 0, .int .u8 0, .int .u8 0, .int .u8 0, .int .u8 0, .int .u8 0, .int .u8 0, .int .u8 0, .int .u8 0, .int .u8 0, .int .u8 0, .int .u8 0, .int .u8 0, .int .u8 0, .int .u8 0, .int .u8 0, .int .u8 0, .int .u8 0, .int .u8 0, .int .u8 0, .int .u8 0, .int .u8 0, .int .u8 0, .int .u8 0, .int .u8 0, .int .u8 0, .int .u8 0, .int .u8 0, .int .u8 0, .int .u8 0, .int .u8 0, .int .u8 0, .int .u8 0, .int .u8 0, .int .u8 0, .int .u8 0, .int .u8 0, .int .u8 0, .int .u8 0, .int .u8 0, .int .u8 0, .int .u8 0, .int .u8 0, .int .u8 0, .int .u8 0, .int .u8 0, .int .u8 0, .int .u8 0, .int .u8 0, .int .u8 0, .int .u8 0, .int .u8 0, .int .u8 0, .int .u8 0, .int .u8 0, .int .u8 0, .int .u8 0, .int .u8 0]
def cells3 : List Value := [.int .u64 1, .int .u64 10, .int .u64 100, .int .u64 1000, .int .u64 10000, .int .u64 100000, .int .u64 1000000, .int .u64 10000000, .int .u64 100000000, .int .u64 1000000000, .int .u64 10000000000, .int .u64 100000000000, .int .u64 1000000000000, .int .u64 10000000000000, .int .u64 100000000000000, .int .u64 1000000000000000, .int .u64 10000000000000000, .int .u64 100000000000000000, .int .u64 1000000000000000000, .int .u64 10000000000000000000]
def cells7 : List Value := [.int .u8 0, .int .u8 1, .int .u8 28, .int .u8 2, .int .u8 29, .int .u8 14, .int .u8 24, .int .u8 3, .int .u8 30, .int .u8 22, .int .u8 20, .int .u8 15, .int .u8 25, .int .u8 17, .int .u8 4, .int .u8 8, .int .u8 31, .int .u8 27, .int .u8 13, .int .u8 23, .int .u8 21, .int .u8 19, .int .u8 16, .int .u8 7, .int .u8 26, .int .u8 12, .int .u8 18, .int .u8 6, .int .u8 11, .int .u8 5, .int .u8 10, .int .u8 9]
def cells8 : List Value := [.int .u8 0, .int .u8 1, .int .u8 56, .int .u8 2, .int .u8 57, .int .u8 49, .int .u8 28, .int .u8 3, .int .u8 61, .int .u8 58, .int .u8 42, .int .u8 50, .int .u8 38, .int .u8 29, .int .u8 17, .int .u8 4, .int .u8 62, .int .u8 47, .int .u8 59, .int .u8 36, .int .u8 45, .int .u8 43, .int .u8 51, .int .u8 22, .int .u8 53, .int .u8 39, .int .u8 33, .int .u8 30, .int .u8 24, .int .u8 18, .int .u8 12, .int .u8 5, .int .u8 63, .int .u8 55, .int .u8 48, .int .u8 27, .int .u8 60, .int .u8 41, .int .u8 37, .int .u8 16, .int .u8 46, .int .u8 35, .int .u8 44, .int .u8 21, .int .u8 52, .int .u8 32, .int .u8 23, .int .u8 11, .int .u8 54, .int .u8 26, .int .u8 40, .int .u8 15, .int .u8 34, .int .u8 20, .int .u8 31, .int .u8 10, .int .u8 25, .int .u8 14, .int .u8 19, .int .u8 9, .int .u8 13, .int .u8 8, .int .u8 7, .int .u8 6]

/-- The listed variables, as rows. -/
def rows (t : Nat → TypeId) : List Ev.Blk := [⟨cells0, t 0, true, false⟩, ⟨cells1, t 1, true, false⟩, Ev.deadRow, ⟨cells3, t 3, true, false⟩, Ev.deadRow, Ev.deadRow, Ev.deadRow, ⟨cells7, t 7, true, false⟩, ⟨cells8, t 8, true, false⟩]

theorem rowsAt {W : World} (hL : laidMetH Tryz.prog Rows.lineKnownRow.laid W) : ∃ t, Ev.RowsAt (rows t) W := by
  rw [MakeChecks.laidMetH_plain _ _ _ (by kernel_rfl)] at hL
  obtain ⟨t0, h0⟩ := Ev.laid_at hL (k := 6) (cv := cells0) (nm := "linotype/token.signs") (d := Rows.laid_linotype_token_signs) (g := 0) (t := 164) (n := 19) (e := 9) (by kernel_rfl) (by kernel_rfl) (by kernel_rfl) (by kernel_rfl) (by kernel_rfl) (.inr (by kernel_rfl)) (by kernel_rfl) (by kernel_rfl) (by kernel_rfl)
  obtain ⟨t1, h1⟩ := Ev.laid_at hL (k := 5) (cv := cells1) (nm := "strings.asciiSpace") (d := Rows.laid_strings_asciiSpace) (g := 1) (t := 189) (n := 256) (e := 5) (by kernel_rfl) (by kernel_rfl) (by kernel_rfl) (by kernel_rfl) (by kernel_rfl) (.inl ⟨.u8, by kernel_rfl⟩) (by kernel_rfl) (by kernel_rfl) (by kernel_rfl)
  obtain ⟨t3, h3⟩ := Ev.laid_at hL (k := 2) (cv := cells3) (nm := "internal/strconv.uint64pow10") (d := Rows.laid_internal_strconv_uint64pow10) (g := 3) (t := 233) (n := 20) (e := 104) (by kernel_rfl) (by kernel_rfl) (by kernel_rfl) (by kernel_rfl) (by kernel_rfl) (.inl ⟨.u64, by kernel_rfl⟩) (by kernel_rfl) (by kernel_rfl) (by kernel_rfl)
  obtain ⟨t7, h7⟩ := Ev.laid_at hL (k := 0) (cv := cells7) (nm := "math/bits.deBruijn32tab") (d := Rows.laid_math_bits_deBruijn32tab) (g := 7) (t := 268) (n := 32) (e := 5) (by kernel_rfl) (by kernel_rfl) (by kernel_rfl) (by kernel_rfl) (by kernel_rfl) (.inl ⟨.u8, by kernel_rfl⟩) (by kernel_rfl) (by kernel_rfl) (by kernel_rfl)
  obtain ⟨t8, h8⟩ := Ev.laid_at hL (k := 1) (cv := cells8) (nm := "math/bits.deBruijn64tab") (d := Rows.laid_math_bits_deBruijn64tab) (g := 8) (t := 269) (n := 64) (e := 5) (by kernel_rfl) (by kernel_rfl) (by kernel_rfl) (by kernel_rfl) (by kernel_rfl) (.inl ⟨.u8, by kernel_rfl⟩) (by kernel_rfl) (by kernel_rfl) (by kernel_rfl)
  refine ⟨fun i => if i = 0 then t0 else if i = 1 then t1 else if i = 3 then t3 else if i = 7 then t7 else t8, Ev.row_lt h8, fun i b hi hl => ?_⟩
  match i, hi with
  | 0, hi => cases hi; exact Ev.row_at h0
  | 1, hi => cases hi; exact Ev.row_at h1
  | 2, hi => cases hi; cases hl
  | 3, hi => cases hi; exact Ev.row_at h3
  | 4, hi => cases hi; cases hl
  | 5, hi => cases hi; cases hl
  | 6, hi => cases hi; cases hl
  | 7, hi => cases hi; exact Ev.row_at h7
  | 8, hi => cases hi; exact Ev.row_at h8

theorem run0 (t : Nat → TypeId) : Ev.answerG Tryz.prog rg.kR (rows t) 1000 60 12 [] = some (.bool true) := by kernel_rfl
theorem run1 (t : Nat → TypeId) : Ev.answerG Tryz.prog rg.kR (rows t) 1000 60 17 [.string ⟨#[101, 97, 120, 58, 32, 110, 111, 112]⟩, .int .i64 (7), .int .i64 (0)] = some (.bool true) := by kernel_rfl
theorem run2 (t : Nat → TypeId) : Ev.answerG Tryz.prog rg.kR (rows t) 1000 60 17 [.string ⟨#[97, 58, 32, 111, 114, 103, 32, 53]⟩, .int .i64 (4), .int .i64 (3)] = some (.bool true) := by kernel_rfl
theorem run3 (t : Nat → TypeId) : Ev.answerG Tryz.prog rg.kR (rows t) 1000 60 17 [.string ⟨#[116, 105, 109, 101, 115, 32, 50, 32, 97, 108, 105, 103, 110, 32, 52]⟩, .int .i64 (4), .int .i64 (8)] = some (.bool true) := by kernel_rfl
theorem run4 (t : Nat → TypeId) : Ev.answerG Tryz.prog rg.kR (rows t) 1000 60 17 [.string ⟨#[102, 111, 111, 32, 49]⟩, .int .i64 (4), .int .i64 (0)] = some (.bool true) := by kernel_rfl
theorem run5 (t : Nat → TypeId) : Ev.answerG Tryz.prog rg.kR (rows t) 1000 60 17 [.string ⟨#[100, 98, 32, 49, 32, 50]⟩, .int .i64 (4), .int .i64 (5)] = some (.bool true) := by kernel_rfl
theorem known (t : Nat → TypeId) : Ev.KnownOkR Tryz.prog (rows t) rg.kR := rg.kR_ok (GR := rows t) rfl rfl (by kernel_rfl)
def tab : List (FuncId × List Value) := [(12, []), (17, [.string ⟨#[101, 97, 120, 58, 32, 110, 111, 112]⟩, .int .i64 (7), .int .i64 (0)]), (17, [.string ⟨#[97, 58, 32, 111, 114, 103, 32, 53]⟩, .int .i64 (4), .int .i64 (3)]), (17, [.string ⟨#[116, 105, 109, 101, 115, 32, 50, 32, 97, 108, 105, 103, 110, 32, 52]⟩, .int .i64 (4), .int .i64 (8)]), (17, [.string ⟨#[102, 111, 111, 32, 49]⟩, .int .i64 (4), .int .i64 (0)]), (17, [.string ⟨#[100, 98, 32, 49, 32, 50]⟩, .int .i64 (4), .int .i64 (5)])]
theorem run (t : Nat → TypeId) : Ev.answerG Tryz.prog (rg.kT tab rg.kR) (rows t) 1000 60 11 [] = some (.bool true) := by kernel_rfl

theorem tab_ok (t : Nat → TypeId) : ∀ q ∈ tab, ∀ w, Ev.RowsAt (rows t) w → Calls Tryz.prog q.1 q.2.toArray w fun e w' => e = .returned (.bool true) ∧ Below w.heap.size w w' := by
  intro q hq w hw
  simp only [tab, List.mem_cons, List.not_mem_nil, or_false] at hq
  rcases hq with rfl | rfl | rfl | rfl | rfl | rfl
  · exact Ev.answerGR_ok rg.noOwn rg.mixed (known t) (run0 t) w hw
  · exact Ev.answerGR_ok rg.noOwn rg.mixed (known t) (run1 t) w hw
  · exact Ev.answerGR_ok rg.noOwn rg.mixed (known t) (run2 t) w hw
  · exact Ev.answerGR_ok rg.noOwn rg.mixed (known t) (run3 t) w hw
  · exact Ev.answerGR_ok rg.noOwn rg.mixed (known t) (run4 t) w hw
  · exact Ev.answerGR_ok rg.noOwn rg.mixed (known t) (run5 t) w hw

theorem walk (w : World) (t : Nat → TypeId) (hr : Ev.RowsAt (rows t) w) :
    Calls Tryz.prog 11 #[] w fun e w' => e = .returned (.bool true) ∧ Below w.heap.size w w' :=
  Ev.answerGR_ok (Ev.noOwn_of (by kernel_rfl)) (by kernel_rfl) (rg.kT_ok (known t) (tab_ok t)) (run t) w hr

set_option maxRecDepth 100000 in
theorem lifted (os : Os) (started : os.Started) (H : Type) (enc : TypeId × Value → H) :
    ReturnsInHanded {} Tryz.checked os 11 .any (fun w args => (Rows.lineKnownSpec.pre enc Tryz.prog Tryz.f11 Rows.lineKnownRow.domain false w args ∧ laidMetH Tryz.prog Rows.lineKnownRow.laid w) ∧ sizedMet enc Tryz.prog Tryz.f11 (OpenSpec.ofChange Rows.lineKnownSpec) false w args) (Rows.lineKnownSpec.post enc Tryz.prog Tryz.f11 false true false false) := by
  refine returnsInHanded_of_change_and (C := Tryz.checked) (X := fun w _ => laidMetH Tryz.prog Rows.lineKnownRow.laid w) (fun _ _ _ hh h => h.of_heap hh) own started (by kernel_rfl) Tryz.func11
    (ChangeSpec.witness_shaped (enc := enc) (C := Tryz.checked) (os := os) (X := fun w _ => laidMetH Tryz.prog Rows.lineKnownRow.laid w) false (World.laidAll Tryz.prog os Rows.lineKnownRow.laid) #[] 8 (World.laidAll_os _ _ _)
      (World.shaped_of_ZipB (by kernel_rfl) (by kernel_rfl)) (by kernel_rfl) (by kernel_rfl) (by kernel_rfl)
      (by rw [MakeChecks.laidMetH_plain _ _ _ (by kernel_rfl)]; exact laidMet_laidAll _ (by kernel_rfl) (by kernel_rfl))) ?_
  intro W base args ds gs before hval0 hW hcnd _ hL _
  obtain ⟨t, hr⟩ := rowsAt hL
  have hval : ∀ (j : Nat) t v, Tryz.f11.params[j]? = some t → args[j]? = some v → Value.okWide Tryz.prog W .any base t v := hval0
  have hW' := hW
  obtain ⟨p, q, hA0, hV, rfl, hfz, hnd⟩ := hW
  have hA : DataW.TrodAll enc Tryz.prog W 0 (fun _ => true) true Tryz.f11.params.toList args.toList ds p := hA0
  rw [Tryz.params11] at hA hval
  obtain ⟨hargs, rfl, rfl⟩ := trodAll_nil hA
  obtain rfl : args = #[] := by cases args; simp_all
  obtain ⟨rfl, rfl⟩ := trodVars_none hV

  clear hA0 hval0
  refine (walk  W  t hr).mono fun e W' ⟨he, bel⟩ => ?_
  subst he
  exact ⟨_, rfl, _, _, _, [], _, [], hW', trodAll_mk1 (shut_bool Tryz.underlying4 _), trodAll_mk0, rfl, bel.frame _, fun h => by cases h⟩

theorem over : Rows.lineKnownRow.holds Tryz.pinned (OpenSpec.ofChange Rows.lineKnownSpec) :=
  OpenClaim.holds_of_wide 11 Tryz.f11 rfl rfl rfl rfl rfl rfl rfl ⟨rfl, rfl, rfl, rfl, rfl⟩ rfl rfl rfl rfl rfl (by kernel_rfl) Tryz.func11 (by kernel_rfl)
    (of_decide_eq_true (by kernel_rfl)) (by unfold Func.isWrapper; first | (rw [if_pos (by decide +kernel)]; kernel_rfl) | (rw [if_neg (by decide +kernel)]; exact ⟨rfl, rfl⟩))
    (fun os started H enc _ => lifted os started H enc)

theorem proved : Rows.LineKnownCardSaid :=
  Claim7.holds_tied_plain_at .later [] [.data, .data, .data, .data, .listed, .data, .data, .pinned] true (true, "bc3286729510592b51449412ff59556d32ef40e7873c17ccf4409e23baa7cd8d") false over (fun _ h => by cases h) (by kernel_rfl) (fun _ h => by cases h) lineKnown_row_tie rfl ⟨rfl, rfl⟩ (by kernel_rfl) rfl
    (fun f fn hf hfn => by
      obtain rfl : f = 11 := Option.some.inj ((show Tryz.prog.funcNamed "linotype/linotypelaw25.LineKnown" = some 11 by kernel_rfl).symm.trans hf) |>.symm
      obtain rfl : fn = Tryz.f11 := (Option.some.inj (Tryz.func11.symm.trans hfn)).symm
      exact ⟨by kernel_rfl, fun j t ht => by
        rw [Tryz.params11] at ht
        have hm : t ∈ ([] : List TypeId) := by simpa using Array.mem_of_getElem? ht
        have hall : (([] : List TypeId).all fun u => !Tryz.prog.wantsStandIn u) = true := by kernel_rfl
        exact (show Tryz.prog.wantsStandIn t = false by simpa using List.all_eq_true.1 hall t hm)⟩)
    (by kernel_rfl)
#print axioms proved
end Go.Proofs.YtpaddkkfefgkfaaGreatDoor.lineKnown
