/-
  'linotypelaw11.VexBack' returns true for every input, and each argument reads behind the call as it read before; no conditions.
-/
import Derived.Test.YtpabmjpkkhmidaaRows
import Derived.Test.YtpabmjpkkhmidaaEc
import Derived.Test.YtpabmjpkkhmidaaKn
import Derived.Test.YtpabmjpkkhmidaaVyb
import Derived.WalkKit
import Derived.ProofKit
import Derived.OpenShut
import Derived.ShutString
import Derived.ChangeOld
import Derived.Below
namespace Go.Proofs.Ytpabmjpkkhmidaa.vexBack
open Go.ChangeShapes Go.WideShapes Go.ChangeAt Go.RowKit
open Go.ChangeMaps (open_string shut_string)
set_option linter.unusedVariables false

theorem own : ownKnob Try.prog.godebug = none := by kernel_rfl
theorem laidOut : laidOutB Try.prog = true := by kernel_rfl

/-- A slice of integers that came in: it is nil; or it leads to a row of 'cap' cells, the numbers 'zs', each fitting its kind. -/
def IsRow (k : IntKind) (w : World) (a : Option Addr) (len cap : Nat) (zs : List Int) : Prop :=
  (a = none ∧ len = 0 ∧ cap = 0 ∧ zs = []) ∨
  ∃ x, a = some x ∧ len ≤ cap ∧ cap ≤ maxLen ∧ zs.length = cap ∧ (∀ i, i < zs.length → w.cell? (x.add i) = some (.int k (zs.getD i 0))) ∧ ∀ n ∈ zs, (Lit.int k n).wf = true

theorem walk (a0x0 : Int) (w0x0 : IntKind.has .i64 a0x0) (a0x1 : Int) (w0x1 : IntKind.has .i64 a0x1) (a0x2 : Int) (w0x2 : IntKind.has .i64 a0x2) (a0x3 : Int) (w0x3 : IntKind.has .i64 a0x3) (a0x4 : Int) (w0x4 : IntKind.has .i64 a0x4) (a0x5 : Int) (w0x5 : IntKind.has .i64 a0x5) (a0x6 : Int) (w0x6 : IntKind.has .i64 a0x6) (a0x7 : Int) (w0x7 : IntKind.has .i64 a0x7) (a1 : Bool) (b2 : Option Addr) (len2 cap2 : Nat) (z2 : List Int) (w : World) (w2 : IsRow .u8 w b2 len2 cap2 z2) (y2 : Tv.VR (Tv.woOf w) (.lst (.int .u8) (z2.take len2)) (.slice b2 len2 cap2)) :
    Calls Try.prog 14 #[.agg #[.int .i64 a0x0, .int .i64 a0x1, .int .i64 a0x2, .int .i64 a0x3, .int .i64 a0x4, .int .i64 a0x5, .int .i64 a0x6, .int .i64 a0x7], .bool a1, .slice b2 len2 cap2] w fun e w' => e = .returned (.bool true) ∧ Below w.heap.size w w' := by
  have hb : okB (z2.take len2) = true := okB_row (zs := z2) fun n hn => by
    rcases w2 with ⟨_, _, _, rfl⟩ | ⟨_, _, _, _, _, _, hz⟩
    · cases hn
    · exact hz n hn
  exact back_true (args := [.agg #[.int .i64 a0x0, .int .i64 a0x1, .int .i64 a0x2, .int .i64 a0x3, .int .i64 a0x4, .int .i64 a0x5, .int .i64 a0x6, .int .i64 a0x7], .bool a1, .slice b2 len2 cap2]) hb (Tv.LV.cons (agg_vr a0x0 a0x1 a0x2 a0x3 a0x4 a0x5 a0x6 a0x7) (Tv.LV.cons (.bool a1) (Tv.LV.cons y2 Tv.LV.nil)))

set_option maxRecDepth 100000 in
theorem lifted (os : Os) (started : os.Started) (H : Type) (enc : TypeId × Value → H) :
    ReturnsInHanded {} Try.checked os 14 .any (Rows.vexBackSpec.pre6 enc Try.prog Try.f14 Rows.vexBackRow.domain false) (Rows.vexBackSpec.post enc Try.prog Try.f14 false true false false) := by
  refine returnsInHanded_of_change (C := Try.checked) own started (by kernel_rfl) Try.func14
    (ChangeSpec.witness6 (enc := enc) (C := Try.checked) false ⟨#[], #[.agg #[.int .i64 0, .int .i64 0, .int .i64 0, .int .i64 0, .int .i64 0, .int .i64 0, .int .i64 0, .int .i64 0], .bool false, .slice none 0 0], []⟩ 8 (by kernel_rfl) (by kernel_rfl) (by kernel_rfl) (by kernel_rfl)) ?_
  intro W base args ds gs before hval0 hW hcnd _
  have hval : ∀ (j : Nat) t v, Try.f14.params[j]? = some t → args[j]? = some v → Value.okWide Try.prog W .any base t v := hval0
  have hW' := hW
  obtain ⟨p, q, hA0, hV, rfl, hfz, hnd⟩ := hW
  have hA : DataW.TrodAll enc Try.prog W 0 (fun _ => true) true Try.f14.params.toList args.toList ds p := hA0
  rw [Try.params14] at hA hval
  obtain ⟨v0, vs0, d0, ds0, p0, q0, hargs, rfl, rfl, h0, r0⟩ := trodAll_cons hA
  obtain ⟨v1, vs1, d1, ds1, p1, q1, rfl, rfl, rfl, h1, r1⟩ := trodAll_cons r0
  obtain ⟨v2, vs2, d2, ds2, p2, q2, rfl, rfl, rfl, h2, r2⟩ := trodAll_cons r1
  obtain ⟨rfl, rfl, rfl⟩ := trodAll_nil r2
  obtain rfl : args = #[v0, v1, v2] := by cases args; simp_all
  obtain ⟨rfl, rfl⟩ := trodVars_none hV
  have k0 := h0
  have lt0 : ∀ x ∈ p0, x.block < W.heap.size := by obtain ⟨m, hm⟩ := k0; exact DataW.trod_lt m _ _ _ hm
  obtain ⟨cs0, rfl, hl0, hc0⟩ := Ev.agg_shape (ts := [3, 3, 3, 3, 3, 3, 3, 3]) Try.underlying59 (by kernel_rfl) (by kernel_rfl) (hval 0 59 v0 rfl rfl)
  obtain ⟨q0x0, q0x1, q0x2, q0x3, q0x4, q0x5, q0x6, q0x7, rfl⟩ := Ev.len8 hl0
  obtain ⟨a0x0, rfl, w0x0⟩ := Ev.cell_int Try.underlying3 (hc0 0 3 q0x0 rfl rfl)
  obtain ⟨a0x1, rfl, w0x1⟩ := Ev.cell_int Try.underlying3 (hc0 1 3 q0x1 rfl rfl)
  obtain ⟨a0x2, rfl, w0x2⟩ := Ev.cell_int Try.underlying3 (hc0 2 3 q0x2 rfl rfl)
  obtain ⟨a0x3, rfl, w0x3⟩ := Ev.cell_int Try.underlying3 (hc0 3 3 q0x3 rfl rfl)
  obtain ⟨a0x4, rfl, w0x4⟩ := Ev.cell_int Try.underlying3 (hc0 4 3 q0x4 rfl rfl)
  obtain ⟨a0x5, rfl, w0x5⟩ := Ev.cell_int Try.underlying3 (hc0 5 3 q0x5 rfl rfl)
  obtain ⟨a0x6, rfl, w0x6⟩ := Ev.cell_int Try.underlying3 (hc0 6 3 q0x6 rfl rfl)
  obtain ⟨a0x7, rfl, w0x7⟩ := Ev.cell_int Try.underlying3 (hc0 7 3 q0x7 rfl rfl)
  obtain ⟨a1, rfl, rfl, rfl⟩ := open_bool Try.underlying4 (hval 1 4 v1 rfl rfl) h1
  obtain ⟨b2, len2, cap2, rfl⟩ := okWide_slice Try.underlying22 (hval 2 22 v2 rfl rfl)
  have k2 := h2
  have lt2 : ∀ x ∈ p2, x.block < W.heap.size := by obtain ⟨m, hm⟩ := k2; exact DataW.trod_lt m _ _ _ hm
  obtain ⟨z2, w2⟩ : ∃ zs, IsRow .u8 W b2 len2 cap2 zs := by
    obtain ⟨fuel, hf⟩ := h2
    rcases open_ints Try.underlying22 Try.underlying5 (by kernel_rfl) hf with ⟨hcs, _⟩ | ⟨x, l, c, zs, hcs, _, hl, hm, hz, _, hcell, hwz⟩
    · simp [Value.cells] at hcs
      obtain ⟨rfl, rfl, rfl⟩ := hcs
      exact ⟨[], .inl ⟨rfl, rfl, rfl, rfl⟩⟩
    · simp [Value.cells] at hcs
      obtain ⟨rfl, rfl, rfl⟩ := hcs
      exact ⟨zs, .inr ⟨_, rfl, hl, hm, by simpa using hz, hcell, hwz⟩⟩
  have y2 := Tv.ints_arg (k := .u8) Try.underlying22 (hval 2 22 _ rfl rfl) w2
  clear hA0 hval0
  refine (walk a0x0 w0x0 a0x1 w0x1 a0x2 w0x2 a0x3 w0x3 a0x4 w0x4 a0x5 w0x5 a0x6 w0x6 a0x7 w0x7 a1 b2 len2 cap2 z2 W w2 y2).mono fun e W' ⟨he, bel⟩ => ?_
  subst he
  exact ⟨_, rfl, _, _, _, [], _, [], hW', trodAll_mk1 (shut_bool Try.underlying4 _), trodAll_cons_mk (Below.trod laidOut (by kernel_rfl) (of_decide_eq_true (by kernel_rfl)) k0 bel lt0) (trodAll_cons_mk (shut_bool Try.underlying4 a1) (trodAll_cons_mk (Below.trod laidOut (by kernel_rfl) (of_decide_eq_true (by kernel_rfl)) k2 bel lt2) (trodAll_mk0))), rfl, bel.frame _, fun h => by cases h⟩

theorem over : Rows.vexBackRow.holds Try.pinned (OpenSpec.ofChange Rows.vexBackSpec) :=
  OpenClaim.holds_of_wide 14 Try.f14 rfl rfl rfl rfl rfl rfl rfl ⟨rfl, rfl, rfl, rfl, rfl⟩ rfl rfl rfl rfl rfl (by kernel_rfl) Try.func14 (by kernel_rfl)
    (of_decide_eq_true (by kernel_rfl)) (by unfold Func.isWrapper; first | (rw [if_pos (by decide +kernel)]; kernel_rfl) | (rw [if_neg (by decide +kernel)]; exact ⟨rfl, rfl⟩))
    (fun os started H enc _ => lifted os started H enc)

theorem proved : Rows.VexBackSaid := over
#print axioms proved
end Go.Proofs.Ytpabmjpkkhmidaa.vexBack
