/- RexLays: its trees, by classes of its two numbers (1). -/
import Derived.Test.YtpabmjpkkhmidaaKy
namespace Go.Proofs.Ytpabmjpkkhmidaa.rexLays
open Go.Tv Go.Ev
theorem e1_N (m k : Nat) (w r x b : Int) : run4 1 (Int.negSucc (k + 1)) w r x b = fin4 w r x b := by kernel_rfl
theorem e1_M (m k : Nat) (w r x b : Int) : run4 1 (-1) w r x b = fin4 w r x b := by kernel_rfl
theorem e1_0 (m k : Nat) (w r x b : Int) : run4 1 0 w r x b = fin4 w r x b := by kernel_rfl
theorem e1_1 (m k : Nat) (w r x b : Int) : run4 1 1 w r x b = fin4 w r x b := by kernel_rfl
theorem e1_2 (m k : Nat) (w r x b : Int) : run4 1 2 w r x b = fin4 w r x b := by kernel_rfl
theorem e1_3 (m k : Nat) (w r x b : Int) : run4 1 3 w r x b = fin4 w r x b := by kernel_rfl
theorem e1_4 (m k : Nat) (w r x b : Int) : run4 1 4 w r x b = fin4 w r x b := by kernel_rfl
theorem e1_5 (m k : Nat) (w r x b : Int) : run4 1 5 w r x b = fin4 w r x b := by kernel_rfl
theorem e1_6 (m k : Nat) (w r x b : Int) : run4 1 6 w r x b = fin4 w r x b := by kernel_rfl
theorem e1_7 (m k : Nat) (w r x b : Int) : run4 1 7 w r x b = fin4 w r x b := by kernel_rfl
theorem e1_8 (m k : Nat) (w r x b : Int) : run4 1 8 w r x b = fin4 w r x b := by kernel_rfl
theorem e1_9 (m k : Nat) (w r x b : Int) : run4 1 9 w r x b = fin4 w r x b := by kernel_rfl
theorem e1_10 (m k : Nat) (w r x b : Int) : run4 1 10 w r x b = fin4 w r x b := by kernel_rfl
theorem e1_11 (m k : Nat) (w r x b : Int) : run4 1 11 w r x b = fin4 w r x b := by kernel_rfl
theorem e1_12 (m k : Nat) (w r x b : Int) : run4 1 12 w r x b = fin4 w r x b := by kernel_rfl
theorem e1_13 (m k : Nat) (w r x b : Int) : run4 1 13 w r x b = fin4 w r x b := by kernel_rfl
theorem e1_14 (m k : Nat) (w r x b : Int) : run4 1 14 w r x b = fin4 w r x b := by kernel_rfl
theorem e1_15 (m k : Nat) (w r x b : Int) : run4 1 15 w r x b = fin4 w r x b := by kernel_rfl
theorem e1_B (m k : Nat) (w r x b : Int) : run4 1 (Int.ofNat (k + 16)) w r x b = fin4 w r x b := by kernel_rfl
theorem e2_N (m k : Nat) (w r x b : Int) : run4 2 (Int.negSucc (k + 1)) w r x b = fin4 w r x b := by kernel_rfl
theorem e2_M (m k : Nat) (w r x b : Int) : run4 2 (-1) w r x b = fin4 w r x b := by kernel_rfl
theorem e2_0 (m k : Nat) (w r x b : Int) : run4 2 0 w r x b = fin4 w r x b := by kernel_rfl
theorem e2_1 (m k : Nat) (w r x b : Int) : run4 2 1 w r x b = fin4 w r x b := by kernel_rfl
theorem e2_2 (m k : Nat) (w r x b : Int) : run4 2 2 w r x b = fin4 w r x b := by kernel_rfl
theorem e2_3 (m k : Nat) (w r x b : Int) : run4 2 3 w r x b = fin4 w r x b := by kernel_rfl
theorem e2_4 (m k : Nat) (w r x b : Int) : run4 2 4 w r x b = fin4 w r x b := by kernel_rfl
theorem e2_5 (m k : Nat) (w r x b : Int) : run4 2 5 w r x b = fin4 w r x b := by kernel_rfl
theorem e2_6 (m k : Nat) (w r x b : Int) : run4 2 6 w r x b = fin4 w r x b := by kernel_rfl
theorem e2_7 (m k : Nat) (w r x b : Int) : run4 2 7 w r x b = fin4 w r x b := by kernel_rfl
theorem e2_8 (m k : Nat) (w r x b : Int) : run4 2 8 w r x b = fin4 w r x b := by kernel_rfl
theorem e2_9 (m k : Nat) (w r x b : Int) : run4 2 9 w r x b = fin4 w r x b := by kernel_rfl
theorem e2_10 (m k : Nat) (w r x b : Int) : run4 2 10 w r x b = fin4 w r x b := by kernel_rfl
theorem e2_11 (m k : Nat) (w r x b : Int) : run4 2 11 w r x b = fin4 w r x b := by kernel_rfl
theorem e2_12 (m k : Nat) (w r x b : Int) : run4 2 12 w r x b = fin4 w r x b := by kernel_rfl
theorem e2_13 (m k : Nat) (w r x b : Int) : run4 2 13 w r x b = fin4 w r x b := by kernel_rfl
theorem e2_14 (m k : Nat) (w r x b : Int) : run4 2 14 w r x b = fin4 w r x b := by kernel_rfl
theorem e2_15 (m k : Nat) (w r x b : Int) : run4 2 15 w r x b = fin4 w r x b := by kernel_rfl
theorem e2_B (m k : Nat) (w r x b : Int) : run4 2 (Int.ofNat (k + 16)) w r x b = fin4 w r x b := by kernel_rfl
end Go.Proofs.Ytpabmjpkkhmidaa.rexLays
