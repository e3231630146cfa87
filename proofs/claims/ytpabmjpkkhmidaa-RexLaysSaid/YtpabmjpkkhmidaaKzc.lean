/- RexLays: its trees, by classes of its two numbers (2). -/
import Derived.Test.YtpabmjpkkhmidaaKy
namespace Go.Proofs.Ytpabmjpkkhmidaa.rexLays
open Go.Tv Go.Ev
theorem e3_N (m k : Nat) (w r x b : Int) : run4 3 (Int.negSucc (k + 1)) w r x b = fin4 w r x b := by kernel_rfl
theorem e3_M (m k : Nat) (w r x b : Int) : run4 3 (-1) w r x b = fin4 w r x b := by kernel_rfl
theorem e3_0 (m k : Nat) (w r x b : Int) : run4 3 0 w r x b = fin4 w r x b := by kernel_rfl
theorem e3_1 (m k : Nat) (w r x b : Int) : run4 3 1 w r x b = fin4 w r x b := by kernel_rfl
theorem e3_2 (m k : Nat) (w r x b : Int) : run4 3 2 w r x b = fin4 w r x b := by kernel_rfl
theorem e3_3 (m k : Nat) (w r x b : Int) : run4 3 3 w r x b = fin4 w r x b := by kernel_rfl
theorem e3_4 (m k : Nat) (w r x b : Int) : run4 3 4 w r x b = fin4 w r x b := by kernel_rfl
theorem e3_5 (m k : Nat) (w r x b : Int) : run4 3 5 w r x b = fin4 w r x b := by kernel_rfl
theorem e3_6 (m k : Nat) (w r x b : Int) : run4 3 6 w r x b = fin4 w r x b := by kernel_rfl
theorem e3_7 (m k : Nat) (w r x b : Int) : run4 3 7 w r x b = fin4 w r x b := by kernel_rfl
theorem e3_8 (m k : Nat) (w r x b : Int) : run4 3 8 w r x b = fin4 w r x b := by kernel_rfl
theorem e3_9 (m k : Nat) (w r x b : Int) : run4 3 9 w r x b = fin4 w r x b := by kernel_rfl
theorem e3_10 (m k : Nat) (w r x b : Int) : run4 3 10 w r x b = fin4 w r x b := by kernel_rfl
theorem e3_11 (m k : Nat) (w r x b : Int) : run4 3 11 w r x b = fin4 w r x b := by kernel_rfl
theorem e3_12 (m k : Nat) (w r x b : Int) : run4 3 12 w r x b = fin4 w r x b := by kernel_rfl
theorem e3_13 (m k : Nat) (w r x b : Int) : run4 3 13 w r x b = fin4 w r x b := by kernel_rfl
theorem e3_14 (m k : Nat) (w r x b : Int) : run4 3 14 w r x b = fin4 w r x b := by kernel_rfl
theorem e3_15 (m k : Nat) (w r x b : Int) : run4 3 15 w r x b = fin4 w r x b := by kernel_rfl
theorem e3_B (m k : Nat) (w r x b : Int) : run4 3 (Int.ofNat (k + 16)) w r x b = fin4 w r x b := by kernel_rfl
theorem e4_N (m k : Nat) (w r x b : Int) : run4 4 (Int.negSucc (k + 1)) w r x b = fin4 w r x b := by kernel_rfl
theorem e4_M (m k : Nat) (w r x b : Int) : run4 4 (-1) w r x b = fin4 w r x b := by kernel_rfl
theorem e4_0 (m k : Nat) (w r x b : Int) : run4 4 0 w r x b = fin4 w r x b := by kernel_rfl
theorem e4_1 (m k : Nat) (w r x b : Int) : run4 4 1 w r x b = fin4 w r x b := by kernel_rfl
theorem e4_2 (m k : Nat) (w r x b : Int) : run4 4 2 w r x b = fin4 w r x b := by kernel_rfl
theorem e4_3 (m k : Nat) (w r x b : Int) : run4 4 3 w r x b = fin4 w r x b := by kernel_rfl
theorem e4_4 (m k : Nat) (w r x b : Int) : run4 4 4 w r x b = fin4 w r x b := by kernel_rfl
theorem e4_5 (m k : Nat) (w r x b : Int) : run4 4 5 w r x b = fin4 w r x b := by kernel_rfl
theorem e4_6 (m k : Nat) (w r x b : Int) : run4 4 6 w r x b = fin4 w r x b := by kernel_rfl
theorem e4_7 (m k : Nat) (w r x b : Int) : run4 4 7 w r x b = fin4 w r x b := by kernel_rfl
theorem e4_8 (m k : Nat) (w r x b : Int) : run4 4 8 w r x b = fin4 w r x b := by kernel_rfl
theorem e4_9 (m k : Nat) (w r x b : Int) : run4 4 9 w r x b = fin4 w r x b := by kernel_rfl
theorem e4_10 (m k : Nat) (w r x b : Int) : run4 4 10 w r x b = fin4 w r x b := by kernel_rfl
theorem e4_11 (m k : Nat) (w r x b : Int) : run4 4 11 w r x b = fin4 w r x b := by kernel_rfl
theorem e4_12 (m k : Nat) (w r x b : Int) : run4 4 12 w r x b = fin4 w r x b := by kernel_rfl
theorem e4_13 (m k : Nat) (w r x b : Int) : run4 4 13 w r x b = fin4 w r x b := by kernel_rfl
theorem e4_14 (m k : Nat) (w r x b : Int) : run4 4 14 w r x b = fin4 w r x b := by kernel_rfl
theorem e4_15 (m k : Nat) (w r x b : Int) : run4 4 15 w r x b = fin4 w r x b := by kernel_rfl
theorem e4_B (m k : Nat) (w r x b : Int) : run4 4 (Int.ofNat (k + 16)) w r x b = fin4 w r x b := by kernel_rfl
end Go.Proofs.Ytpabmjpkkhmidaa.rexLays
