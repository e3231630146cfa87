/- RexLays: its trees, by classes of its two numbers (0). -/
import Derived.Test.YtpabmjpkkhmidaaKy
namespace Go.Proofs.Ytpabmjpkkhmidaa.rexLays
open Go.Tv Go.Ev
theorem eN_N (m k : Nat) (w r x b : Int) : run4 (Int.negSucc m) (Int.negSucc (k + 1)) w r x b = fin4 w r x b := by kernel_rfl
theorem eN_M (m k : Nat) (w r x b : Int) : run4 (Int.negSucc m) (-1) w r x b = fin4 w r x b := by kernel_rfl
theorem eN_0 (m k : Nat) (w r x b : Int) : run4 (Int.negSucc m) 0 w r x b = fin4 w r x b := by kernel_rfl
theorem eN_1 (m k : Nat) (w r x b : Int) : run4 (Int.negSucc m) 1 w r x b = fin4 w r x b := by kernel_rfl
theorem eN_2 (m k : Nat) (w r x b : Int) : run4 (Int.negSucc m) 2 w r x b = fin4 w r x b := by kernel_rfl
theorem eN_3 (m k : Nat) (w r x b : Int) : run4 (Int.negSucc m) 3 w r x b = fin4 w r x b := by kernel_rfl
theorem eN_4 (m k : Nat) (w r x b : Int) : run4 (Int.negSucc m) 4 w r x b = fin4 w r x b := by kernel_rfl
theorem eN_5 (m k : Nat) (w r x b : Int) : run4 (Int.negSucc m) 5 w r x b = fin4 w r x b := by kernel_rfl
theorem eN_6 (m k : Nat) (w r x b : Int) : run4 (Int.negSucc m) 6 w r x b = fin4 w r x b := by kernel_rfl
theorem eN_7 (m k : Nat) (w r x b : Int) : run4 (Int.negSucc m) 7 w r x b = fin4 w r x b := by kernel_rfl
theorem eN_8 (m k : Nat) (w r x b : Int) : run4 (Int.negSucc m) 8 w r x b = fin4 w r x b := by kernel_rfl
theorem eN_9 (m k : Nat) (w r x b : Int) : run4 (Int.negSucc m) 9 w r x b = fin4 w r x b := by kernel_rfl
theorem eN_10 (m k : Nat) (w r x b : Int) : run4 (Int.negSucc m) 10 w r x b = fin4 w r x b := by kernel_rfl
theorem eN_11 (m k : Nat) (w r x b : Int) : run4 (Int.negSucc m) 11 w r x b = fin4 w r x b := by kernel_rfl
theorem eN_12 (m k : Nat) (w r x b : Int) : run4 (Int.negSucc m) 12 w r x b = fin4 w r x b := by kernel_rfl
theorem eN_13 (m k : Nat) (w r x b : Int) : run4 (Int.negSucc m) 13 w r x b = fin4 w r x b := by kernel_rfl
theorem eN_14 (m k : Nat) (w r x b : Int) : run4 (Int.negSucc m) 14 w r x b = fin4 w r x b := by kernel_rfl
theorem eN_15 (m k : Nat) (w r x b : Int) : run4 (Int.negSucc m) 15 w r x b = fin4 w r x b := by kernel_rfl
theorem eN_B (m k : Nat) (w r x b : Int) : run4 (Int.negSucc m) (Int.ofNat (k + 16)) w r x b = fin4 w r x b := by kernel_rfl
theorem e0_N (m k : Nat) (w r x b : Int) : run4 0 (Int.negSucc (k + 1)) w r x b = fin4 w r x b := by kernel_rfl
theorem e0_M (m k : Nat) (w r x b : Int) : run4 0 (-1) w r x b = fin4 w r x b := by kernel_rfl
theorem e0_0 (m k : Nat) (w r x b : Int) : run4 0 0 w r x b = fin4 w r x b := by kernel_rfl
theorem e0_1 (m k : Nat) (w r x b : Int) : run4 0 1 w r x b = fin4 w r x b := by kernel_rfl
theorem e0_2 (m k : Nat) (w r x b : Int) : run4 0 2 w r x b = fin4 w r x b := by kernel_rfl
theorem e0_3 (m k : Nat) (w r x b : Int) : run4 0 3 w r x b = fin4 w r x b := by kernel_rfl
theorem e0_4 (m k : Nat) (w r x b : Int) : run4 0 4 w r x b = fin4 w r x b := by kernel_rfl
theorem e0_5 (m k : Nat) (w r x b : Int) : run4 0 5 w r x b = fin4 w r x b := by kernel_rfl
theorem e0_6 (m k : Nat) (w r x b : Int) : run4 0 6 w r x b = fin4 w r x b := by kernel_rfl
theorem e0_7 (m k : Nat) (w r x b : Int) : run4 0 7 w r x b = fin4 w r x b := by kernel_rfl
theorem e0_8 (m k : Nat) (w r x b : Int) : run4 0 8 w r x b = fin4 w r x b := by kernel_rfl
theorem e0_9 (m k : Nat) (w r x b : Int) : run4 0 9 w r x b = fin4 w r x b := by kernel_rfl
theorem e0_10 (m k : Nat) (w r x b : Int) : run4 0 10 w r x b = fin4 w r x b := by kernel_rfl
theorem e0_11 (m k : Nat) (w r x b : Int) : run4 0 11 w r x b = fin4 w r x b := by kernel_rfl
theorem e0_12 (m k : Nat) (w r x b : Int) : run4 0 12 w r x b = fin4 w r x b := by kernel_rfl
theorem e0_13 (m k : Nat) (w r x b : Int) : run4 0 13 w r x b = fin4 w r x b := by kernel_rfl
theorem e0_14 (m k : Nat) (w r x b : Int) : run4 0 14 w r x b = fin4 w r x b := by kernel_rfl
theorem e0_15 (m k : Nat) (w r x b : Int) : run4 0 15 w r x b = fin4 w r x b := by kernel_rfl
theorem e0_B (m k : Nat) (w r x b : Int) : run4 0 (Int.ofNat (k + 16)) w r x b = fin4 w r x b := by kernel_rfl
end Go.Proofs.Ytpabmjpkkhmidaa.rexLays
