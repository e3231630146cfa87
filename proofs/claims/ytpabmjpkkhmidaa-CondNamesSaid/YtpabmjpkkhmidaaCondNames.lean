/-
  'linotypelaw04.CondNames' returns true for every input, and each argument reads behind the call as it read before; no conditions.
-/
import Derived.Test.YtpabmjpkkhmidaaRows
import Derived.Test.YtpabmjpkkhmidaaEvZ
import Derived.Test.YtpabmjpkkhmidaaKn
import Derived.WalkKit
import Derived.ProofKit
import Derived.OpenShut
import Derived.ShutString
import Derived.ChangeOld
import Derived.Below
namespace Go.Proofs.Ytpabmjpkkhmidaa.condNames
open Go.ChangeShapes Go.WideShapes Go.ChangeAt Go.RowKit
open Go.ChangeMaps (open_string shut_string)
set_option linter.unusedVariables false

theorem own : ownKnob Try.prog.godebug = none := by kernel_rfl
theorem laidOut : laidOutB Try.prog = true := by kernel_rfl

def ms (x : Nat) : List Int := [Int.negSucc x] ++ ((List.range 16).map Int.ofNat ++ [Int.ofNat (x + 16)])
theorem run_neg (y x : Nat) : ((ms x).all fun m => isT (Ev.answer Try.prog kn 1000 50 10 [.int .i64 (Int.negSucc y), .int .i64 m])) = true := by kernel_rfl
theorem run_big (y x : Nat) : ((ms x).all fun m => isT (Ev.answer Try.prog kn 1000 50 10 [.int .i64 (Int.ofNat (y + 16)), .int .i64 m])) = true := by kernel_rfl
theorem run_0 (x : Nat) : ((ms x).all fun m => isT (Ev.answer Try.prog kn 1000 50 10 [.int .i64 (Int.ofNat 0), .int .i64 m])) = true := by kernel_rfl
theorem run_1 (x : Nat) : ((ms x).all fun m => isT (Ev.answer Try.prog kn 1000 50 10 [.int .i64 (Int.ofNat 1), .int .i64 m])) = true := by kernel_rfl
theorem run_2 (x : Nat) : ((ms x).all fun m => isT (Ev.answer Try.prog kn 1000 50 10 [.int .i64 (Int.ofNat 2), .int .i64 m])) = true := by kernel_rfl
theorem run_3 (x : Nat) : ((ms x).all fun m => isT (Ev.answer Try.prog kn 1000 50 10 [.int .i64 (Int.ofNat 3), .int .i64 m])) = true := by kernel_rfl
theorem run_4 (x : Nat) : ((ms x).all fun m => isT (Ev.answer Try.prog kn 1000 50 10 [.int .i64 (Int.ofNat 4), .int .i64 m])) = true := by kernel_rfl
theorem run_5 (x : Nat) : ((ms x).all fun m => isT (Ev.answer Try.prog kn 1000 50 10 [.int .i64 (Int.ofNat 5), .int .i64 m])) = true := by kernel_rfl
theorem run_6 (x : Nat) : ((ms x).all fun m => isT (Ev.answer Try.prog kn 1000 50 10 [.int .i64 (Int.ofNat 6), .int .i64 m])) = true := by kernel_rfl
theorem run_7 (x : Nat) : ((ms x).all fun m => isT (Ev.answer Try.prog kn 1000 50 10 [.int .i64 (Int.ofNat 7), .int .i64 m])) = true := by kernel_rfl
theorem run_8 (x : Nat) : ((ms x).all fun m => isT (Ev.answer Try.prog kn 1000 50 10 [.int .i64 (Int.ofNat 8), .int .i64 m])) = true := by kernel_rfl
theorem run_9 (x : Nat) : ((ms x).all fun m => isT (Ev.answer Try.prog kn 1000 50 10 [.int .i64 (Int.ofNat 9), .int .i64 m])) = true := by kernel_rfl
theorem run_10 (x : Nat) : ((ms x).all fun m => isT (Ev.answer Try.prog kn 1000 50 10 [.int .i64 (Int.ofNat 10), .int .i64 m])) = true := by kernel_rfl
theorem run_11 (x : Nat) : ((ms x).all fun m => isT (Ev.answer Try.prog kn 1000 50 10 [.int .i64 (Int.ofNat 11), .int .i64 m])) = true := by kernel_rfl
theorem run_12 (x : Nat) : ((ms x).all fun m => isT (Ev.answer Try.prog kn 1000 50 10 [.int .i64 (Int.ofNat 12), .int .i64 m])) = true := by kernel_rfl
theorem run_13 (x : Nat) : ((ms x).all fun m => isT (Ev.answer Try.prog kn 1000 50 10 [.int .i64 (Int.ofNat 13), .int .i64 m])) = true := by kernel_rfl
theorem run_14 (x : Nat) : ((ms x).all fun m => isT (Ev.answer Try.prog kn 1000 50 10 [.int .i64 (Int.ofNat 14), .int .i64 m])) = true := by kernel_rfl
theorem run_15 (x : Nat) : ((ms x).all fun m => isT (Ev.answer Try.prog kn 1000 50 10 [.int .i64 (Int.ofNat 15), .int .i64 m])) = true := by kernel_rfl

theorem in_ms (a : Int) : ∃ x, a ∈ ms x := by
  rcases int_parts 16 a with ⟨m, rfl⟩ | ⟨k, hk, rfl⟩ | ⟨m, rfl⟩
  · exact ⟨m, by simp [ms]⟩
  · exact ⟨0, by simp only [ms, List.mem_append, List.mem_map, List.mem_range]; exact .inr (.inl ⟨k, hk, rfl⟩)⟩
  · exact ⟨m, by simp [ms]⟩

theorem parts16 {k : Nat} (h : k < 16) : k = 0 ∨ k = 1 ∨ k = 2 ∨ k = 3 ∨ k = 4 ∨ k = 5 ∨ k = 6 ∨ k = 7 ∨ k = 8 ∨ k = 9 ∨ k = 10 ∨ k = 11 ∨ k = 12 ∨ k = 13 ∨ k = 14 ∨ k = 15 := by omega

theorem walk (a0 : Int) (w0 : (Lit.int .i64 a0).wf = true) (a1 : Int) (w1 : (Lit.int .i64 a1).wf = true) (w : World) :
    Calls Try.prog 10 #[.int .i64 a0, .int .i64 a1] w fun e w' => e = .returned (.bool true) ∧ Below w.heap.size w w' := by
  obtain ⟨x, hx⟩ := in_ms a1
  rcases int_parts 16 a0 with ⟨m, rfl⟩ | ⟨k, hk, rfl⟩ | ⟨m, rfl⟩
  · exact Ev.answer_ok noOwn mixed kn_ok (isT_spec (List.all_eq_true.1 (run_neg m x) _ hx)) w
  · rcases parts16 hk with rfl | rfl | rfl | rfl | rfl | rfl | rfl | rfl | rfl | rfl | rfl | rfl | rfl | rfl | rfl | rfl
    · exact Ev.answer_ok noOwn mixed kn_ok (isT_spec (List.all_eq_true.1 (run_0 x) _ hx)) w
    · exact Ev.answer_ok noOwn mixed kn_ok (isT_spec (List.all_eq_true.1 (run_1 x) _ hx)) w
    · exact Ev.answer_ok noOwn mixed kn_ok (isT_spec (List.all_eq_true.1 (run_2 x) _ hx)) w
    · exact Ev.answer_ok noOwn mixed kn_ok (isT_spec (List.all_eq_true.1 (run_3 x) _ hx)) w
    · exact Ev.answer_ok noOwn mixed kn_ok (isT_spec (List.all_eq_true.1 (run_4 x) _ hx)) w
    · exact Ev.answer_ok noOwn mixed kn_ok (isT_spec (List.all_eq_true.1 (run_5 x) _ hx)) w
    · exact Ev.answer_ok noOwn mixed kn_ok (isT_spec (List.all_eq_true.1 (run_6 x) _ hx)) w
    · exact Ev.answer_ok noOwn mixed kn_ok (isT_spec (List.all_eq_true.1 (run_7 x) _ hx)) w
    · exact Ev.answer_ok noOwn mixed kn_ok (isT_spec (List.all_eq_true.1 (run_8 x) _ hx)) w
    · exact Ev.answer_ok noOwn mixed kn_ok (isT_spec (List.all_eq_true.1 (run_9 x) _ hx)) w
    · exact Ev.answer_ok noOwn mixed kn_ok (isT_spec (List.all_eq_true.1 (run_10 x) _ hx)) w
    · exact Ev.answer_ok noOwn mixed kn_ok (isT_spec (List.all_eq_true.1 (run_11 x) _ hx)) w
    · exact Ev.answer_ok noOwn mixed kn_ok (isT_spec (List.all_eq_true.1 (run_12 x) _ hx)) w
    · exact Ev.answer_ok noOwn mixed kn_ok (isT_spec (List.all_eq_true.1 (run_13 x) _ hx)) w
    · exact Ev.answer_ok noOwn mixed kn_ok (isT_spec (List.all_eq_true.1 (run_14 x) _ hx)) w
    · exact Ev.answer_ok noOwn mixed kn_ok (isT_spec (List.all_eq_true.1 (run_15 x) _ hx)) w
  · exact Ev.answer_ok noOwn mixed kn_ok (isT_spec (List.all_eq_true.1 (run_big m x) _ hx)) w

set_option maxRecDepth 100000 in
theorem lifted (os : Os) (started : os.Started) (H : Type) (enc : TypeId × Value → H) :
    ReturnsInHanded {} Try.checked os 10 .any (Rows.condNamesSpec.pre6 enc Try.prog Try.f10 Rows.condNamesRow.domain false) (Rows.condNamesSpec.post enc Try.prog Try.f10 false true false false) := by
  refine returnsInHanded_of_change (C := Try.checked) own started (by kernel_rfl) Try.func10
    (ChangeSpec.witness6 (enc := enc) (C := Try.checked) false ⟨#[], #[.int .i64 0, .int .i64 0], []⟩ 8 (by kernel_rfl) (by kernel_rfl) (by kernel_rfl) (by kernel_rfl)) ?_
  intro W base args ds gs before hval0 hW hcnd _
  have hval : ∀ (j : Nat) t v, Try.f10.params[j]? = some t → args[j]? = some v → Value.okWide Try.prog W .any base t v := hval0
  have hW' := hW
  obtain ⟨p, q, hA0, hV, rfl, hfz, hnd⟩ := hW
  have hA : DataW.TrodAll enc Try.prog W 0 (fun _ => true) true Try.f10.params.toList args.toList ds p := hA0
  rw [Try.params10] at hA hval
  obtain ⟨v0, vs0, d0, ds0, p0, q0, hargs, rfl, rfl, h0, r0⟩ := trodAll_cons hA
  obtain ⟨v1, vs1, d1, ds1, p1, q1, rfl, rfl, rfl, h1, r1⟩ := trodAll_cons r0
  obtain ⟨rfl, rfl, rfl⟩ := trodAll_nil r1
  obtain rfl : args = #[v0, v1] := by cases args; simp_all
  obtain ⟨rfl, rfl⟩ := trodVars_none hV
  obtain ⟨a0, rfl, rfl, rfl, w0⟩ := open_int Try.underlying3 (hval 0 3 v0 rfl rfl) h0
  obtain ⟨a1, rfl, rfl, rfl, w1⟩ := open_int Try.underlying3 (hval 1 3 v1 rfl rfl) h1
  clear hA0 hval0
  refine (walk a0 w0 a1 w1 W ).mono fun e W' ⟨he, bel⟩ => ?_
  subst he
  exact ⟨_, rfl, _, _, _, [], _, [], hW', trodAll_mk1 (shut_bool Try.underlying4 _), trodAll_cons_mk (shut_int Try.underlying3 w0) (trodAll_cons_mk (shut_int Try.underlying3 w1) (trodAll_mk0)), rfl, bel.frame _, fun h => by cases h⟩

theorem over : Rows.condNamesRow.holds Try.pinned (OpenSpec.ofChange Rows.condNamesSpec) :=
  OpenClaim.holds_of_wide 10 Try.f10 rfl rfl rfl rfl rfl rfl rfl ⟨rfl, rfl, rfl, rfl, rfl⟩ rfl rfl rfl rfl rfl (by kernel_rfl) Try.func10 (by kernel_rfl)
    (of_decide_eq_true (by kernel_rfl)) (by unfold Func.isWrapper; first | (rw [if_pos (by decide +kernel)]; kernel_rfl) | (rw [if_neg (by decide +kernel)]; exact ⟨rfl, rfl⟩))
    (fun os started H enc _ => lifted os started H enc)

theorem proved : Rows.CondNamesSaid := over
#print axioms proved
end Go.Proofs.Ytpabmjpkkhmidaa.condNames
