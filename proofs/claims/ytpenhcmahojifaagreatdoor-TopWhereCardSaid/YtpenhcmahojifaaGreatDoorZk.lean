/- linotypekit.Pick: the walk. -/
import Derived.Test.YtpenhcmahojifaaGreatDoorZa
import Derived.IntWalk
set_option linter.unusedVariables false
set_option linter.unusedSimpArgs false
set_option linter.unusedSectionVars false
namespace Go.Ev.Tw
open Go.Proofs Go.RowKit
noncomputable section
set_option maxRecDepth 1000000
theorem i64_wrap64 (n : Int) : IntKind.i64.wrap n = wrap64 n := IntWalk.i64_left n
set_option maxHeartbeats 2000000 in
theorem pick_calls (x : Int) (n : Nat) (hx : -9223372036854775808 ≤ x ∧ x ≤ 9223372036854775807) (hn : 1 ≤ n ∧ n ≤ 1000) (w : World) :
    Calls Tryz.prog 8 #[.int .i64 x, .int .i64 (n : Int)] w fun e w' => e = .returned (.int .i64 (x % (n : Int))) ∧ w' = w := by
  go_enter Tryz.func8, Tryz.ntmps8
  go_wp2
  · have h1 : x.tmod (n : Int) < 0 := by assumption
    have hpos : (0 : Int) < (n : Int) := by omega
    have hb := Int.emod_lt_of_pos x hpos
    have hc := Int.emod_nonneg x (by omega : (n : Int) ≠ 0)
    have e : wrap64 (x.tmod (n : Int) + (n : Int)) = x % (n : Int) := by
      rw [Int.tmod_eq_emod] at h1 ⊢
      split at h1
      · omega
      · rename_i hcond
        rw [if_neg hcond]
        have : ((n : Int).natAbs : Int) = n := by simp
        rw [this, ← i64_wrap64]
        rw [IntKind.wrap_i64]; omega
    simp [bodyPost, results, Tryz.results8, e]
  · have h1 : ¬ x.tmod (n : Int) < 0 := by first | assumption | (simp only [Int.not_lt]; assumption)
    have hpos : (0 : Int) < (n : Int) := by omega
    have hb := Int.emod_lt_of_pos x hpos
    have e : x.tmod (n : Int) = x % (n : Int) := by
      rw [Int.tmod_eq_emod] at h1 ⊢
      split at h1
      · rename_i hcond
        rw [if_pos hcond]; simp
      · have : ((n : Int).natAbs : Int) = n := by simp
        rw [this] at h1; omega
    simp [bodyPost, results, Tryz.results8, e]
end
end Go.Ev.Tw
