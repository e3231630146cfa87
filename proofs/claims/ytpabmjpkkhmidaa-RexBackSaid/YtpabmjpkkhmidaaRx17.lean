/- Runs of Read, byte by byte (printed by gen_rx.py). -/
import Derived.Test.YtpabmjpkkhmidaaRx
namespace Go.Proofs.Ytpabmjpkkhmidaa
open Go.Tv Go.Ev

theorem e17 : reads 17 [] = true := by kernel_rfl
theorem r17h0_0 (t : List Int) : allN (fun i => pick2 (end1 i) true (reads 17 (Int.ofNat i :: t))) 0 64 = true := by kernel_rfl
theorem r17h0_1 (t : List Int) : allN (fun i => pick2 (end1 i) true (reads 17 (Int.ofNat i :: t))) 64 64 = true := by kernel_rfl
theorem r17h0_2 (t : List Int) : allN (fun i => pick2 (end1 i) true (reads 17 (Int.ofNat i :: t))) 128 64 = true := by kernel_rfl
theorem r17h0_3 (t : List Int) : allN (fun i => pick2 (end1 i) true (reads 17 (Int.ofNat i :: t))) 192 64 = true := by kernel_rfl
theorem e17h102 : reads 17 [102] = true := by kernel_rfl
theorem r17h102_0 (t : List Int) : allN (fun i => pick2 (end2 i) true (reads 17 (102 :: Int.ofNat i :: t))) 0 64 = true := by kernel_rfl
theorem r17h102_1 (t : List Int) : allN (fun i => pick2 (end2 i) true (reads 17 (102 :: Int.ofNat i :: t))) 64 64 = true := by kernel_rfl
theorem r17h102_2 (t : List Int) : allN (fun i => pick2 (end2 i) true (reads 17 (102 :: Int.ofNat i :: t))) 128 64 = true := by kernel_rfl
theorem r17h102_3 (t : List Int) : allN (fun i => pick2 (end2 i) true (reads 17 (102 :: Int.ofNat i :: t))) 192 64 = true := by kernel_rfl
theorem e17h102n242 : reads 17 [102, 242] = true := by kernel_rfl
theorem r17h102n242_0 (t : List Int) : allN (fun i => reads 17 (102 :: 242 :: Int.ofNat i :: t)) 0 64 = true := by kernel_rfl
theorem r17h102n242_1 (t : List Int) : allN (fun i => reads 17 (102 :: 242 :: Int.ofNat i :: t)) 64 64 = true := by kernel_rfl
theorem r17h102n242_2 (t : List Int) : allN (fun i => reads 17 (102 :: 242 :: Int.ofNat i :: t)) 128 64 = true := by kernel_rfl
theorem r17h102n242_3 (t : List Int) : allN (fun i => reads 17 (102 :: 242 :: Int.ofNat i :: t)) 192 64 = true := by kernel_rfl
theorem e17h102n243 : reads 17 [102, 243] = true := by kernel_rfl
theorem r17h102n243_0 (t : List Int) : allN (fun i => reads 17 (102 :: 243 :: Int.ofNat i :: t)) 0 64 = true := by kernel_rfl
theorem r17h102n243_1 (t : List Int) : allN (fun i => reads 17 (102 :: 243 :: Int.ofNat i :: t)) 64 64 = true := by kernel_rfl
theorem r17h102n243_2 (t : List Int) : allN (fun i => reads 17 (102 :: 243 :: Int.ofNat i :: t)) 128 64 = true := by kernel_rfl
theorem r17h102n243_3 (t : List Int) : allN (fun i => reads 17 (102 :: 243 :: Int.ofNat i :: t)) 192 64 = true := by kernel_rfl
theorem e17h242 : reads 17 [242] = true := by kernel_rfl
theorem r17h242_0 (t : List Int) : allN (fun i => reads 17 (242 :: Int.ofNat i :: t)) 0 64 = true := by kernel_rfl
theorem r17h242_1 (t : List Int) : allN (fun i => reads 17 (242 :: Int.ofNat i :: t)) 64 64 = true := by kernel_rfl
theorem r17h242_2 (t : List Int) : allN (fun i => reads 17 (242 :: Int.ofNat i :: t)) 128 64 = true := by kernel_rfl
theorem r17h242_3 (t : List Int) : allN (fun i => reads 17 (242 :: Int.ofNat i :: t)) 192 64 = true := by kernel_rfl
theorem e17h243 : reads 17 [243] = true := by kernel_rfl
theorem r17h243_0 (t : List Int) : allN (fun i => reads 17 (243 :: Int.ofNat i :: t)) 0 64 = true := by kernel_rfl
theorem r17h243_1 (t : List Int) : allN (fun i => reads 17 (243 :: Int.ofNat i :: t)) 64 64 = true := by kernel_rfl
theorem r17h243_2 (t : List Int) : allN (fun i => reads 17 (243 :: Int.ofNat i :: t)) 128 64 = true := by kernel_rfl
theorem r17h243_3 (t : List Int) : allN (fun i => reads 17 (243 :: Int.ofNat i :: t)) 192 64 = true := by kernel_rfl
end Go.Proofs.Ytpabmjpkkhmidaa
