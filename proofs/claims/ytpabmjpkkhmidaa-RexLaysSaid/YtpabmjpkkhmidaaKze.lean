/- RexLays: its trees, by classes of its two numbers (4). -/
import Derived.Test.YtpabmjpkkhmidaaKy
namespace Go.Proofs.Ytpabmjpkkhmidaa.rexLays
open Go.Tv Go.Ev
theorem e7_N (m k : Nat) (w r x b : Int) : run4 7 (Int.negSucc (k + 1)) w r x b = fin4 w r x b := by kernel_rfl
theorem e7_M (m k : Nat) (w r x b : Int) : run4 7 (-1) w r x b = fin4 w r x b := by kernel_rfl
theorem e7_0 (m k : Nat) (w r x b : Int) : run4 7 0 w r x b = fin4 w r x b := by kernel_rfl
theorem e7_1 (m k : Nat) (w r x b : Int) : run4 7 1 w r x b = fin4 w r x b := by kernel_rfl
theorem e7_2 (m k : Nat) (w r x b : Int) : run4 7 2 w r x b = fin4 w r x b := by kernel_rfl
theorem e7_3 (m k : Nat) (w r x b : Int) : run4 7 3 w r x b = fin4 w r x b := by kernel_rfl
theorem e7_4 (m k : Nat) (w r x b : Int) : run4 7 4 w r x b = fin4 w r x b := by kernel_rfl
theorem e7_5 (m k : Nat) (w r x b : Int) : run4 7 5 w r x b = fin4 w r x b := by kernel_rfl
theorem e7_6 (m k : Nat) (w r x b : Int) : run4 7 6 w r x b = fin4 w r x b := by kernel_rfl
theorem e7_7 (m k : Nat) (w r x b : Int) : run4 7 7 w r x b = fin4 w r x b := by kernel_rfl
theorem e7_8 (m k : Nat) (w r x b : Int) : run4 7 8 w r x b = fin4 w r x b := by kernel_rfl
theorem e7_9 (m k : Nat) (w r x b : Int) : run4 7 9 w r x b = fin4 w r x b := by kernel_rfl
theorem e7_10 (m k : Nat) (w r x b : Int) : run4 7 10 w r x b = fin4 w r x b := by kernel_rfl
theorem e7_11 (m k : Nat) (w r x b : Int) : run4 7 11 w r x b = fin4 w r x b := by kernel_rfl
theorem e7_12 (m k : Nat) (w r x b : Int) : run4 7 12 w r x b = fin4 w r x b := by kernel_rfl
theorem e7_13 (m k : Nat) (w r x b : Int) : run4 7 13 w r x b = fin4 w r x b := by kernel_rfl
theorem e7_14 (m k : Nat) (w r x b : Int) : run4 7 14 w r x b = fin4 w r x b := by kernel_rfl
theorem e7_15 (m k : Nat) (w r x b : Int) : run4 7 15 w r x b = fin4 w r x b := by kernel_rfl
theorem e7_B (m k : Nat) (w r x b : Int) : run4 7 (Int.ofNat (k + 16)) w r x b = fin4 w r x b := by kernel_rfl
theorem eB_N (m k : Nat) (w r x b : Int) : run4 (Int.ofNat (m + 8)) (Int.negSucc (k + 1)) w r x b = fin4 w r x b := by kernel_rfl
theorem eB_M (m k : Nat) (w r x b : Int) : run4 (Int.ofNat (m + 8)) (-1) w r x b = fin4 w r x b := by kernel_rfl
theorem eB_0 (m k : Nat) (w r x b : Int) : run4 (Int.ofNat (m + 8)) 0 w r x b = fin4 w r x b := by kernel_rfl
theorem eB_1 (m k : Nat) (w r x b : Int) : run4 (Int.ofNat (m + 8)) 1 w r x b = fin4 w r x b := by kernel_rfl
theorem eB_2 (m k : Nat) (w r x b : Int) : run4 (Int.ofNat (m + 8)) 2 w r x b = fin4 w r x b := by kernel_rfl
theorem eB_3 (m k : Nat) (w r x b : Int) : run4 (Int.ofNat (m + 8)) 3 w r x b = fin4 w r x b := by kernel_rfl
theorem eB_4 (m k : Nat) (w r x b : Int) : run4 (Int.ofNat (m + 8)) 4 w r x b = fin4 w r x b := by kernel_rfl
theorem eB_5 (m k : Nat) (w r x b : Int) : run4 (Int.ofNat (m + 8)) 5 w r x b = fin4 w r x b := by kernel_rfl
theorem eB_6 (m k : Nat) (w r x b : Int) : run4 (Int.ofNat (m + 8)) 6 w r x b = fin4 w r x b := by kernel_rfl
theorem eB_7 (m k : Nat) (w r x b : Int) : run4 (Int.ofNat (m + 8)) 7 w r x b = fin4 w r x b := by kernel_rfl
theorem eB_8 (m k : Nat) (w r x b : Int) : run4 (Int.ofNat (m + 8)) 8 w r x b = fin4 w r x b := by kernel_rfl
theorem eB_9 (m k : Nat) (w r x b : Int) : run4 (Int.ofNat (m + 8)) 9 w r x b = fin4 w r x b := by kernel_rfl
theorem eB_10 (m k : Nat) (w r x b : Int) : run4 (Int.ofNat (m + 8)) 10 w r x b = fin4 w r x b := by kernel_rfl
theorem eB_11 (m k : Nat) (w r x b : Int) : run4 (Int.ofNat (m + 8)) 11 w r x b = fin4 w r x b := by kernel_rfl
theorem eB_12 (m k : Nat) (w r x b : Int) : run4 (Int.ofNat (m + 8)) 12 w r x b = fin4 w r x b := by kernel_rfl
theorem eB_13 (m k : Nat) (w r x b : Int) : run4 (Int.ofNat (m + 8)) 13 w r x b = fin4 w r x b := by kernel_rfl
theorem eB_14 (m k : Nat) (w r x b : Int) : run4 (Int.ofNat (m + 8)) 14 w r x b = fin4 w r x b := by kernel_rfl
theorem eB_15 (m k : Nat) (w r x b : Int) : run4 (Int.ofNat (m + 8)) 15 w r x b = fin4 w r x b := by kernel_rfl
theorem eB_B (m k : Nat) (w r x b : Int) : run4 (Int.ofNat (m + 8)) (Int.ofNat (k + 16)) w r x b = fin4 w r x b := by kernel_rfl
end Go.Proofs.Ytpabmjpkkhmidaa.rexLays
