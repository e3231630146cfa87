/- RexLays: its trees, by classes of its two numbers (3). -/
import Derived.Test.YtpabmjpkkhmidaaKy
namespace Go.Proofs.Ytpabmjpkkhmidaa.rexLays
open Go.Tv Go.Ev
theorem e5_N (m k : Nat) (w r x b : Int) : run4 5 (Int.negSucc (k + 1)) w r x b = fin4 w r x b := by kernel_rfl
theorem e5_M (m k : Nat) (w r x b : Int) : run4 5 (-1) w r x b = fin4 w r x b := by kernel_rfl
theorem e5_0 (m k : Nat) (w r x b : Int) : run4 5 0 w r x b = fin4 w r x b := by kernel_rfl
theorem e5_1 (m k : Nat) (w r x b : Int) : run4 5 1 w r x b = fin4 w r x b := by kernel_rfl
theorem e5_2 (m k : Nat) (w r x b : Int) : run4 5 2 w r x b = fin4 w r x b := by kernel_rfl
theorem e5_3 (m k : Nat) (w r x b : Int) : run4 5 3 w r x b = fin4 w r x b := by kernel_rfl
theorem e5_4 (m k : Nat) (w r x b : Int) : run4 5 4 w r x b = fin4 w r x b := by kernel_rfl
theorem e5_5 (m k : Nat) (w r x b : Int) : run4 5 5 w r x b = fin4 w r x b := by kernel_rfl
theorem e5_6 (m k : Nat) (w r x b : Int) : run4 5 6 w r x b = fin4 w r x b := by kernel_rfl
theorem e5_7 (m k : Nat) (w r x b : Int) : run4 5 7 w r x b = fin4 w r x b := by kernel_rfl
theorem e5_8 (m k : Nat) (w r x b : Int) : run4 5 8 w r x b = fin4 w r x b := by kernel_rfl
theorem e5_9 (m k : Nat) (w r x b : Int) : run4 5 9 w r x b = fin4 w r x b := by kernel_rfl
theorem e5_10 (m k : Nat) (w r x b : Int) : run4 5 10 w r x b = fin4 w r x b := by kernel_rfl
theorem e5_11 (m k : Nat) (w r x b : Int) : run4 5 11 w r x b = fin4 w r x b := by kernel_rfl
theorem e5_12 (m k : Nat) (w r x b : Int) : run4 5 12 w r x b = fin4 w r x b := by kernel_rfl
theorem e5_13 (m k : Nat) (w r x b : Int) : run4 5 13 w r x b = fin4 w r x b := by kernel_rfl
theorem e5_14 (m k : Nat) (w r x b : Int) : run4 5 14 w r x b = fin4 w r x b := by kernel_rfl
theorem e5_15 (m k : Nat) (w r x b : Int) : run4 5 15 w r x b = fin4 w r x b := by kernel_rfl
theorem e5_B (m k : Nat) (w r x b : Int) : run4 5 (Int.ofNat (k + 16)) w r x b = fin4 w r x b := by kernel_rfl
theorem e6_N (m k : Nat) (w r x b : Int) : run4 6 (Int.negSucc (k + 1)) w r x b = fin4 w r x b := by kernel_rfl
theorem e6_M (m k : Nat) (w r x b : Int) : run4 6 (-1) w r x b = fin4 w r x b := by kernel_rfl
theorem e6_0 (m k : Nat) (w r x b : Int) : run4 6 0 w r x b = fin4 w r x b := by kernel_rfl
theorem e6_1 (m k : Nat) (w r x b : Int) : run4 6 1 w r x b = fin4 w r x b := by kernel_rfl
theorem e6_2 (m k : Nat) (w r x b : Int) : run4 6 2 w r x b = fin4 w r x b := by kernel_rfl
theorem e6_3 (m k : Nat) (w r x b : Int) : run4 6 3 w r x b = fin4 w r x b := by kernel_rfl
theorem e6_4 (m k : Nat) (w r x b : Int) : run4 6 4 w r x b = fin4 w r x b := by kernel_rfl
theorem e6_5 (m k : Nat) (w r x b : Int) : run4 6 5 w r x b = fin4 w r x b := by kernel_rfl
theorem e6_6 (m k : Nat) (w r x b : Int) : run4 6 6 w r x b = fin4 w r x b := by kernel_rfl
theorem e6_7 (m k : Nat) (w r x b : Int) : run4 6 7 w r x b = fin4 w r x b := by kernel_rfl
theorem e6_8 (m k : Nat) (w r x b : Int) : run4 6 8 w r x b = fin4 w r x b := by kernel_rfl
theorem e6_9 (m k : Nat) (w r x b : Int) : run4 6 9 w r x b = fin4 w r x b := by kernel_rfl
theorem e6_10 (m k : Nat) (w r x b : Int) : run4 6 10 w r x b = fin4 w r x b := by kernel_rfl
theorem e6_11 (m k : Nat) (w r x b : Int) : run4 6 11 w r x b = fin4 w r x b := by kernel_rfl
theorem e6_12 (m k : Nat) (w r x b : Int) : run4 6 12 w r x b = fin4 w r x b := by kernel_rfl
theorem e6_13 (m k : Nat) (w r x b : Int) : run4 6 13 w r x b = fin4 w r x b := by kernel_rfl
theorem e6_14 (m k : Nat) (w r x b : Int) : run4 6 14 w r x b = fin4 w r x b := by kernel_rfl
theorem e6_15 (m k : Nat) (w r x b : Int) : run4 6 15 w r x b = fin4 w r x b := by kernel_rfl
theorem e6_B (m k : Nat) (w r x b : Int) : run4 6 (Int.ofNat (k + 16)) w r x b = fin4 w r x b := by kernel_rfl
end Go.Proofs.Ytpabmjpkkhmidaa.rexLays
