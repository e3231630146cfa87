/-
  'linotypetop.TopWhere' returns true for every input, and each argument reads behind the call as it read before; no conditions.
-/
import Derived.Test.YtpenhcmahojifaaGreatDoorRows
import Derived.Test.YtpenhcmahojifaaGreatDoorLye
import Derived.Test.YtpenhcmahojifaaGreatDoorTk
import Derived.Test.YtpenhcmahojifaaGreatDoorCards
import Derived.MakeChecks
import Derived.LaidMore
import Derived.Lay
import Derived.SevenTiedAt
import Derived.Stop.Joined
import Derived.Test.YtpenhcmahojifaaGreatDoorGo
import Derived.Test.YtpenhcmahojifaaGreatDoorTl
import Derived.WalkKit
import Derived.ProofKit
import Derived.OpenShut
import Derived.ShutString
import Derived.ChangeOld
import Derived.Below
import Derived.DataShut
set_option linter.unusedVariables false
set_option linter.unusedSimpArgs false
set_option linter.unusedSectionVars false
namespace Go.Proofs.YtpenhcmahojifaaGreatDoor.topWhere
open Go.ChangeShapes Go.WideShapes Go.ChangeAt Go.RowKit
open Go.ChangeMaps (open_string shut_string)
set_option linter.unusedVariables false
theorem own : ownKnob Tryz.prog.godebug = none := by kernel_rfl
theorem laidOut : laidOutB Tryz.prog = true := j1
/-- A slice of integers that came in: it is nil; or it leads to a row of 'cap' cells, the numbers 'zs', each fitting its kind. -/
def IsRow (k : IntKind) (w : World) (a : Option Addr) (len cap : Nat) (zs : List Int) : Prop :=
  (a = none ∧ len = 0 ∧ cap = 0 ∧ zs = []) ∨
  ∃ x, a = some x ∧ len ≤ cap ∧ cap ≤ maxLen ∧ zs.length = cap ∧ (∀ i, i < zs.length → w.cell? (x.add i) = some (.int k (zs.getD i 0))) ∧ ∀ n ∈ zs, (Lit.int k n).wf = true
theorem rowsAt {W : World} (hL : laidMetH Tryz.prog Rows.topWhereRow.laid W) : ∃ t, Ev.RowsAt (Ev.Tw.GRq t) W := by
  letI : Ev.TokE := Ev.Tw.tok3 0 0 0
  rw [MakeChecks.laidMetH_plain _ _ _ (by kernel_rfl)] at hL
  obtain ⟨t0, h0⟩ := Ev.laid_at hL (k := 2) (cv := (Ev.Tw.rAscii 0).cells) (nm := "strings.asciiSpace") (d := Rows.laid_strings_asciiSpace) (g := 0) (t := 389) (n := 256) (e := 5) (by kernel_rfl) (by kernel_rfl) (by kernel_rfl) (by kernel_rfl) (by kernel_rfl) (.inl ⟨.u8, by kernel_rfl⟩) (by kernel_rfl) (by kernel_rfl) (by kernel_rfl)
  obtain ⟨t1, h1⟩ := Ev.laid_at hL (k := 9) (cv := (Ev.Tw.rSigns 0).cells) (nm := "linotype/token.signs") (d := Rows.laid_linotype_token_signs) (g := 1) (t := 425) (n := 19) (e := 9) (by kernel_rfl) (by kernel_rfl) (by kernel_rfl) (by kernel_rfl) (by kernel_rfl) (.inr (by kernel_rfl)) (by kernel_rfl) (by kernel_rfl) (by kernel_rfl)
  obtain ⟨t9, h9⟩ := Ev.laid_at hL (k := 6) (cv := (Ev.Tw.rPow 0).cells) (nm := "internal/strconv.uint64pow10") (d := Rows.laid_internal_strconv_uint64pow10) (g := 9) (t := 554) (n := 20) (e := 121) (by kernel_rfl) (by kernel_rfl) (by kernel_rfl) (by kernel_rfl) (by kernel_rfl) (.inl ⟨.u64, by kernel_rfl⟩) (by kernel_rfl) (by kernel_rfl) (by kernel_rfl)
  obtain ⟨t10, h10⟩ := Ev.laid_at hL (k := 7) (cv := (Ev.Tw.rB32 0).cells) (nm := "math/bits.deBruijn32tab") (d := Rows.laid_math_bits_deBruijn32tab) (g := 10) (t := 556) (n := 32) (e := 5) (by kernel_rfl) (by kernel_rfl) (by kernel_rfl) (by kernel_rfl) (by kernel_rfl) (.inl ⟨.u8, by kernel_rfl⟩) (by kernel_rfl) (by kernel_rfl) (by kernel_rfl)
  obtain ⟨t11, h11⟩ := Ev.laid_at hL (k := 8) (cv := (Ev.Tw.rB64 0).cells) (nm := "math/bits.deBruijn64tab") (d := Rows.laid_math_bits_deBruijn64tab) (g := 11) (t := 557) (n := 64) (e := 5) (by kernel_rfl) (by kernel_rfl) (by kernel_rfl) (by kernel_rfl) (by kernel_rfl) (.inl ⟨.u8, by kernel_rfl⟩) (by kernel_rfl) (by kernel_rfl) (by kernel_rfl)
  have fin : ∀ (i : Nat) b, (Ev.Tw.GRq fun i => if i = 0 then t0 else if i = 1 then t1 else if i = 9 then t9 else if i = 10 then t10 else t11)[i]? = some b → b.live = true → ∃ fr, W.heap[i]? = some (.cells b.cells.toArray b.elem fr) := fun i b hi hl => by
    match i, hi with
    | 0, hi => cases hi; exact ⟨_, h0⟩
    | 1, hi => cases hi; exact ⟨_, h1⟩
    | 2, hi => cases hi; cases hl
    | 3, hi => cases hi; cases hl
    | 4, hi => cases hi; cases hl
    | 5, hi => cases hi; cases hl
    | 6, hi => cases hi; cases hl
    | 7, hi => cases hi; cases hl
    | 8, hi => cases hi; cases hl
    | 9, hi => cases hi; exact ⟨_, h9⟩
    | 10, hi => cases hi; exact ⟨_, h10⟩
    | 11, hi => cases hi; exact ⟨_, h11⟩
    | 12, hi => cases hi; cases hl
  exact ⟨_, Ev.Tw.reach_le fun i b hi hl => by obtain ⟨fr, h⟩ := fin i b hi hl; exact (Array.getElem?_eq_some_iff.1 h).1, fin⟩
theorem walk (a0 a1 a2 a3 a4 a5 a6 : Int) (x1 : Int) (w1 : (Lit.int .i64 x1).wf = true) (b2 : Option Addr) (len2 cap2 : Nat) (z2 : List Int) (x3 : Int) (w : World) (w2 : IsRow .i64 w b2 len2 cap2 z2) (t : Nat → TypeId) (hr : Ev.RowsAt (Ev.Tw.GRq t) w) :
    Calls Tryz.prog 3 #[.agg #[.int .i64 a0, .int .i64 a1, .int .i64 a2, .int .i64 a3, .int .i64 a4, .int .i64 a5, .int .i64 a6], .int .i64 x1, .slice b2 len2 cap2, .int .i64 x3] w fun e w' => e = .returned (.bool true) ∧ Below w.heap.size w w' := by
  by_cases hl : len2 = 16
  · subst hl
    have hwh : -9223372036854775808 ≤ x1 ∧ x1 ≤ 9223372036854775807 := by
      have := (Lit.wf_int_iff .i64 x1).1 w1
      simpa [IntKind.min, IntKind.max, IntKind.signed, IntKind.bits] using this
    rcases w2 with ⟨_, h0, _⟩ | ⟨x, rfl, q1, q2, q3, q4, q5⟩
    · cases h0
    · have c0 := q4 0 (by omega)
      have e0 : x.add 0 = x := by simp [Addr.add]
      rw [e0] at c0
      obtain ⟨r, off, sp⟩ := x
      unfold World.cell? at c0
      cases hh : w.heap[r]? with
      | none => rw [hh] at c0; cases c0
      | some o =>
        rw [hh] at c0
        cases o with
        | cells C ty fr =>
          cases sp with
          | some s => simp at c0
          | none =>
            refine Ev.Tw.law_row hr hh (R := fun i => z2.getD i 0) (fun i hi => ?_) a5 a0 a1 a2 a3 a4 a6 x1 x3 hwh
            have ci := q4 i (by omega)
            have ea : (⟨r, off, none⟩ : Addr).add i = ⟨r, off + i, none⟩ := by
              unfold Addr.add
              split
              · rename_i h; rw [h]; rfl
              · rfl
            rw [ea] at ci
            unfold World.cell? at ci
            simp only [hh] at ci
            simpa using ci
        | _ => cases c0
  · exact Ev.Tw.law_not16 t b2 len2 cap2 hl a5 a0 a1 a2 a3 a4 a6 x1 x3 w hr
set_option maxRecDepth 100000 in
theorem lifted (os : Os) (started : os.Started) (H : Type) (enc : TypeId × Value → H) :
    ReturnsInHanded {} Tryz.checked os 3 .any (fun w args => (Rows.topWhereSpec.pre enc Tryz.prog Tryz.f3 Rows.topWhereRow.domain false w args ∧ laidMetH Tryz.prog Rows.topWhereRow.laid w) ∧ sizedMet enc Tryz.prog Tryz.f3 (OpenSpec.ofChange Rows.topWhereSpec) false w args) (Rows.topWhereSpec.post enc Tryz.prog Tryz.f3 false true false false) := by
  refine returnsInHanded_of_change_and (C := Tryz.checked) (X := fun w _ => laidMetH Tryz.prog Rows.topWhereRow.laid w) (fun _ _ _ hh h => h.of_heap hh) own started (by kernel_rfl) Tryz.func3
    (ChangeSpec.witness_shaped (enc := enc) (C := Tryz.checked) (os := os) (X := fun w _ => laidMetH Tryz.prog Rows.topWhereRow.laid w) false (World.laidAll Tryz.prog os Rows.topWhereRow.laid) #[.agg #[.int .i64 0, .int .i64 0, .int .i64 0, .int .i64 0, .int .i64 0, .int .i64 0, .int .i64 0], .int .i64 0, .slice none 0 0, .int .i64 0] 8 (World.laidAll_os _ _ _)
      (World.shaped_of_ZipB (by kernel_rfl) (by kernel_rfl)) (by kernel_rfl) (by kernel_rfl) (by kernel_rfl)
      (by rw [MakeChecks.laidMetH_plain _ _ _ (by kernel_rfl)]; exact laidMet_laidAll _ (by kernel_rfl) (by kernel_rfl))) ?_
  intro W base args ds gs before hval0 hW hcnd _ hL _
  obtain ⟨t, hr⟩ := rowsAt hL
  letI : Ev.TokE := Ev.Tw.tok3 0 0 0
  have hval : ∀ (j : Nat) t v, Tryz.f3.params[j]? = some t → args[j]? = some v → Value.okWide Tryz.prog W .any base t v := hval0
  have hW' := hW
  obtain ⟨p, q, hA0, hV, rfl, hfz, hnd⟩ := hW
  have hA : DataW.TrodAll enc Tryz.prog W 0 (fun _ => true) true Tryz.f3.params.toList args.toList ds p := hA0
  rw [Tryz.params3] at hA hval
  obtain ⟨v0, vs0, d0, ds0, p0, q0, hargs, rfl, rfl, h0, r0⟩ := trodAll_cons hA
  obtain ⟨v1, vs1, d1, ds1, p1, q1, rfl, rfl, rfl, h1, r1⟩ := trodAll_cons r0
  obtain ⟨v2, vs2, d2, ds2, p2, q2, rfl, rfl, rfl, h2, r2⟩ := trodAll_cons r1
  obtain ⟨v3, vs3, d3, ds3, p3, q3, rfl, rfl, rfl, h3, r3⟩ := trodAll_cons r2
  obtain ⟨rfl, rfl, rfl⟩ := trodAll_nil r3
  obtain rfl : args = #[v0, v1, v2, v3] := by cases args; simp_all
  obtain ⟨rfl, rfl⟩ := trodVars_none hV
  have k0 := h0
  have lt0 : ∀ x ∈ p0, x.block < W.heap.size := by obtain ⟨m, hm⟩ := k0; exact DataW.trod_lt m _ _ _ hm
  obtain ⟨cs0, rfl, hl0, hc0⟩ := Ev.agg_shape (ts := [3, 3, 3, 3, 3, 3, 3]) Tryz.underlying25 (by kernel_rfl) (by kernel_rfl) (hval 0 25 v0 rfl rfl)
  obtain ⟨q0x0, q0x1, q0x2, q0x3, q0x4, q0x5, q0x6, rfl⟩ := Ev.len7 hl0
  obtain ⟨a0x0, rfl, w0x0⟩ := Ev.cell_int Tryz.underlying3 (hc0 0 3 q0x0 rfl rfl)
  obtain ⟨a0x1, rfl, w0x1⟩ := Ev.cell_int Tryz.underlying3 (hc0 1 3 q0x1 rfl rfl)
  obtain ⟨a0x2, rfl, w0x2⟩ := Ev.cell_int Tryz.underlying3 (hc0 2 3 q0x2 rfl rfl)
  obtain ⟨a0x3, rfl, w0x3⟩ := Ev.cell_int Tryz.underlying3 (hc0 3 3 q0x3 rfl rfl)
  obtain ⟨a0x4, rfl, w0x4⟩ := Ev.cell_int Tryz.underlying3 (hc0 4 3 q0x4 rfl rfl)
  obtain ⟨a0x5, rfl, w0x5⟩ := Ev.cell_int Tryz.underlying3 (hc0 5 3 q0x5 rfl rfl)
  obtain ⟨a0x6, rfl, w0x6⟩ := Ev.cell_int Tryz.underlying3 (hc0 6 3 q0x6 rfl rfl)
  obtain ⟨a1, rfl, rfl, rfl, w1⟩ := open_int Tryz.underlying3 (hval 1 3 v1 rfl rfl) h1
  obtain ⟨b2, len2, cap2, rfl⟩ := okWide_slice Tryz.underlying26 (hval 2 26 v2 rfl rfl)
  have k2 := h2
  have lt2 : ∀ x ∈ p2, x.block < W.heap.size := by obtain ⟨m, hm⟩ := k2; exact DataW.trod_lt m _ _ _ hm
  obtain ⟨z2, w2⟩ : ∃ zs, IsRow .i64 W b2 len2 cap2 zs := by
    obtain ⟨fuel, hf⟩ := h2
    rcases open_ints Tryz.underlying26 Tryz.underlying3 (by kernel_rfl) hf with ⟨hcs, _⟩ | ⟨x, l, c, zs, hcs, _, hl, hm, hz, _, hcell, hwz⟩
    · simp [Value.cells] at hcs
      obtain ⟨rfl, rfl, rfl⟩ := hcs
      exact ⟨[], .inl ⟨rfl, rfl, rfl, rfl⟩⟩
    · simp [Value.cells] at hcs
      obtain ⟨rfl, rfl, rfl⟩ := hcs
      exact ⟨zs, .inr ⟨_, rfl, hl, hm, by simpa using hz, hcell, hwz⟩⟩
  obtain ⟨a3, rfl, rfl, rfl, w3⟩ := open_int Tryz.underlying3 (hval 3 3 v3 rfl rfl) h3
  clear hA0 hval0
  refine (walk a0x0 a0x1 a0x2 a0x3 a0x4 a0x5 a0x6 a1 w1 b2 len2 cap2 z2 a3 W w2 t hr).mono fun e W' ⟨he, bel⟩ => ?_
  subst he
  exact ⟨_, rfl, _, _, _, [], _, [], hW', trodAll_mk1 (shut_bool Tryz.underlying4 _), trodAll_cons_mk (Below.trod laidOut (by kernel_rfl) (of_decide_eq_true (by kernel_rfl)) k0 bel lt0) (trodAll_cons_mk (shut_int Tryz.underlying3 w1) (trodAll_cons_mk (Below.trod laidOut (by kernel_rfl) (of_decide_eq_true (by kernel_rfl)) k2 bel lt2) (trodAll_cons_mk (shut_int Tryz.underlying3 w3) (trodAll_mk0)))), rfl, bel.frame _, fun h => by cases h⟩
theorem over : Rows.topWhereRow.holds Tryz.pinned (OpenSpec.ofChange Rows.topWhereSpec) :=
  OpenClaim.holds_of_wide 3 Tryz.f3 rfl rfl rfl rfl rfl rfl rfl ⟨rfl, rfl, rfl, rfl, rfl⟩ rfl rfl rfl rfl rfl isNamed Tryz.func3 joined isInst isWrap
    (fun os started H enc _ => lifted os started H enc)
theorem byText : Rows.topWhereRow.wfByText (OpenSpec.ofChange Rows.topWhereSpec) = true := by kernel_rfl
theorem mainIs : Tryz.pinned.checked.prog.mainIs = some (true, ("7d6d2c99c5ba639cffec2b6c0d3738c62a4151f3e49c9d67c3b9dee003b79266" : String).toList) := by kernel_rfl
theorem looked : true = Tryz.pinned.checked.prog.looks [] := by kernel_rfl
theorem noStand : (([25, 3, 26, 3] : List TypeId).all fun u => !Tryz.prog.wantsStandIn u) = true := by kernel_rfl
theorem noGo : Tryz.prog.funcs.any Func.goes = false := by kernel_rfl
theorem goes_none (P : Program) (h : P.funcs.any Func.goes = false) (f : FuncId) : P.goes f = false := by
  unfold Program.goes
  rw [h, Bool.and_false, Bool.or_false, List.any_eq_false]
  intro g _
  cases hg : P.funcs[g]? with
  | none => simp
  | some fn =>
    have := Array.any_eq_false.1 h g (Array.getElem?_eq_some_iff.1 hg).1
    simpa [(Array.getElem?_eq_some_iff.1 hg).2] using this
theorem goesNot : false = Rows.topWhereRow.goesBy Tryz.pinned.checked.prog := by
  have h : ∀ f, Tryz.pinned.checked.prog.goes f = false := goes_none _ noGo
  unfold OpenClaim.goesBy Program.goesAt Program.goesFrom
  rw [show Rows.topWhereRow.start = Start.entering from rfl]
  cases Tryz.pinned.checked.prog.funcNamed Rows.topWhereRow.func with
  | none => rfl
  | some f => simp [h f]
theorem proved : Rows.TopWhereCardSaid :=
  Claim7.holds_tied_plain_at .later [] [.pinned, .data, .data, .listed, .sentinel, .sentinel, .data, .data, .data, .data] true (true, "7d6d2c99c5ba639cffec2b6c0d3738c62a4151f3e49c9d67c3b9dee003b79266") true over (fun _ h => by cases h) byText (fun _ h => by cases h) topWhere_row_tie rfl ⟨rfl, rfl⟩ mainIs rfl
    (fun f fn hf hfn => by
      obtain rfl : f = 3 := Option.some.inj (isNamed.symm.trans hf) |>.symm
      obtain rfl : fn = Tryz.f3 := (Option.some.inj (Tryz.func3.symm.trans hfn)).symm
      exact ⟨looked, fun j t ht => by
        rw [Tryz.params3] at ht
        have hm : t ∈ ([25, 3, 26, 3] : List TypeId) := by simpa using Array.mem_of_getElem? ht
        exact (show Tryz.prog.wantsStandIn t = false by simpa using List.all_eq_true.1 noStand t hm)⟩)
    goesNot
#print axioms proved
end Go.Proofs.YtpenhcmahojifaaGreatDoor.topWhere
