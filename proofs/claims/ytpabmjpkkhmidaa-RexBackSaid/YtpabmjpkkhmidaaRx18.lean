/- Runs of Read, byte by byte (printed by gen_rx.py). -/
import Derived.Test.YtpabmjpkkhmidaaRx
namespace Go.Proofs.Ytpabmjpkkhmidaa
open Go.Tv Go.Ev

theorem e18 : reads 18 [] = true := by kernel_rfl
theorem r18h0_0 (t : List Int) : allN (fun i => pick2 (end1 i) true (reads 18 (Int.ofNat i :: t))) 0 64 = true := by kernel_rfl
theorem r18h0_1 (t : List Int) : allN (fun i => pick2 (end1 i) true (reads 18 (Int.ofNat i :: t))) 64 64 = true := by kernel_rfl
theorem r18h0_2 (t : List Int) : allN (fun i => pick2 (end1 i) true (reads 18 (Int.ofNat i :: t))) 128 64 = true := by kernel_rfl
theorem r18h0_3 (t : List Int) : allN (fun i => pick2 (end1 i) true (reads 18 (Int.ofNat i :: t))) 192 64 = true := by kernel_rfl
theorem e18h102 : reads 18 [102] = true := by kernel_rfl
theorem r18h102_0 (t : List Int) : allN (fun i => pick2 (end2 i) true (reads 18 (102 :: Int.ofNat i :: t))) 0 64 = true := by kernel_rfl
theorem r18h102_1 (t : List Int) : allN (fun i => pick2 (end2 i) true (reads 18 (102 :: Int.ofNat i :: t))) 64 64 = true := by kernel_rfl
theorem r18h102_2 (t : List Int) : allN (fun i => pick2 (end2 i) true (reads 18 (102 :: Int.ofNat i :: t))) 128 64 = true := by kernel_rfl
theorem r18h102_3 (t : List Int) : allN (fun i => pick2 (end2 i) true (reads 18 (102 :: Int.ofNat i :: t))) 192 64 = true := by kernel_rfl
theorem e18h102n242 : reads 18 [102, 242] = true := by kernel_rfl
theorem r18h102n242_0 (t : List Int) : allN (fun i => reads 18 (102 :: 242 :: Int.ofNat i :: t)) 0 64 = true := by kernel_rfl
theorem r18h102n242_1 (t : List Int) : allN (fun i => reads 18 (102 :: 242 :: Int.ofNat i :: t)) 64 64 = true := by kernel_rfl
theorem r18h102n242_2 (t : List Int) : allN (fun i => reads 18 (102 :: 242 :: Int.ofNat i :: t)) 128 64 = true := by kernel_rfl
theorem r18h102n242_3 (t : List Int) : allN (fun i => reads 18 (102 :: 242 :: Int.ofNat i :: t)) 192 64 = true := by kernel_rfl
theorem e18h102n243 : reads 18 [102, 243] = true := by kernel_rfl
theorem r18h102n243_0 (t : List Int) : allN (fun i => reads 18 (102 :: 243 :: Int.ofNat i :: t)) 0 64 = true := by kernel_rfl
theorem r18h102n243_1 (t : List Int) : allN (fun i => reads 18 (102 :: 243 :: Int.ofNat i :: t)) 64 64 = true := by kernel_rfl
theorem r18h102n243_2 (t : List Int) : allN (fun i => reads 18 (102 :: 243 :: Int.ofNat i :: t)) 128 64 = true := by kernel_rfl
theorem r18h102n243_3 (t : List Int) : allN (fun i => reads 18 (102 :: 243 :: Int.ofNat i :: t)) 192 64 = true := by kernel_rfl
theorem e18h242 : reads 18 [242] = true := by kernel_rfl
theorem r18h242_0 (t : List Int) : allN (fun i => reads 18 (242 :: Int.ofNat i :: t)) 0 64 = true := by kernel_rfl
theorem r18h242_1 (t : List Int) : allN (fun i => reads 18 (242 :: Int.ofNat i :: t)) 64 64 = true := by kernel_rfl
theorem r18h242_2 (t : List Int) : allN (fun i => reads 18 (242 :: Int.ofNat i :: t)) 128 64 = true := by kernel_rfl
theorem r18h242_3 (t : List Int) : allN (fun i => reads 18 (242 :: Int.ofNat i :: t)) 192 64 = true := by kernel_rfl
theorem e18h243 : reads 18 [243] = true := by kernel_rfl
theorem r18h243_0 (t : List Int) : allN (fun i => reads 18 (243 :: Int.ofNat i :: t)) 0 64 = true := by kernel_rfl
theorem r18h243_1 (t : List Int) : allN (fun i => reads 18 (243 :: Int.ofNat i :: t)) 64 64 = true := by kernel_rfl
theorem r18h243_2 (t : List Int) : allN (fun i => reads 18 (243 :: Int.ofNat i :: t)) 128 64 = true := by kernel_rfl
theorem r18h243_3 (t : List Int) : allN (fun i => reads 18 (243 :: Int.ofNat i :: t)) 192 64 = true := by kernel_rfl
end Go.Proofs.Ytpabmjpkkhmidaa
