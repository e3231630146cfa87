/- The deferred closure of asm.Assemble does nothing where nothing panics. -/
import Derived.Test.YtpenhcmahojifaaGreatDoorChecked
import Derived.Test.YtpenhcmahojifaaGreatDoorLyd
import Derived.RecoverIn
import Derived.Tactics
import Derived.Tactics2
set_option linter.unusedVariables false
set_option linter.unusedSimpArgs false
set_option linter.unusedSectionVars false
namespace Go.Ev.Tw
open Go.Proofs Go.RowKit
variable [TokE]
theorem ta40 (w : World) : (Instr.typeAssert .nilIface 20 94 true).run Tryz.prog w = .ok (.tuple #[.agg #[.int .i64 0, .int .i64 0], .bool false]) w := semPure_run _ (by kernel_rfl) w
theorem harm40 : Harm Tryz.prog 40 := by
  intro args w
  refine callsDIn_of_wpSIn Tryz.func40 rfl (by simp [Fence.wide]) fun c₀ cs hu => ?_
  have hT : 16 ≤ (args ++ Array.replicate (Tryz.f40.ntmps - args.size) undef).size := by
    rw [Array.size_append, Array.size_replicate]
    have : Tryz.f40.ntmps = 16 := rfl
    omega
  revert hT
  generalize args ++ Array.replicate (Tryz.f40.ntmps - args.size) undef = T
  intro hT
  apply wpSIn_seq
  apply wpSIn_region
  have g2 : 2 < T.size := by omega
  have g3 : 3 < T.size := by omega
  have g4 : 4 < T.size := by omega
  have g5 : 5 < T.size := by omega
  have g6 : 6 < T.size := by omega
  have g7 : 7 < T.size := by omega
  have g8 : 8 < T.size := by omega
  have g9 : 9 < T.size := by omega
  simp [wpOpsSIn, go_sem, recoverD, hu, Exit.thenS, g2, g3, g4, g5, g6, g7, g8, g9, ta40]
  apply wpSIn_seq
  apply wpSIn_region
  simp [wpOpsSIn, go_sem, Exit.thenS, g2, g3, g4, g5, g6, g7, g8, g9]
  refine wpSIn_cond (t := false) (by simp [Act.eval, g9]) ?_
  simp only [Bool.false_eq_true, if_false]
  refine wpSIn_of_wpIn rfl (wpIn_skip ?_)
  cases c₀
  simp_all [bodyPostS, results, Tryz.results40, settle]
  exact (Below.refl _ _).alloc (Nat.le_refl _) _
end Go.Ev.Tw
