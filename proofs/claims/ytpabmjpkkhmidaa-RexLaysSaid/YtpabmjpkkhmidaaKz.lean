/- RexLays comes to true. -/
import Derived.Test.YtpabmjpkkhmidaaKza
import Derived.Test.YtpabmjpkkhmidaaKzb
import Derived.Test.YtpabmjpkkhmidaaKzc
import Derived.Test.YtpabmjpkkhmidaaKzd
import Derived.Test.YtpabmjpkkhmidaaKze
import Derived.Test.YtpabmjpkkhmidaaTd
namespace Go.Proofs.Ytpabmjpkkhmidaa.rexLays
open Go.Tv Go.Ev
theorem n_cases (n : Int) : (∃ k : Nat, n = Int.negSucc (k + 1)) ∨ n = -1 ∨ (0 ≤ n ∧ n < 16) ∨ ∃ k : Nat, n = Int.ofNat (k + 16) := by
  cases n with
  | negSucc j => cases j with
    | zero => exact .inr (.inl rfl)
    | succ k => exact .inl ⟨k, rfl⟩
  | ofNat j =>
    by_cases h : j < 16
    · exact .inr (.inr (.inl ⟨Int.natCast_nonneg _, by show (j : Int) < 16; omega⟩))
    · exact .inr (.inr (.inr ⟨j - 16, by show (j : Int) = ((j - 16 + 16 : Nat) : Int); omega⟩))
theorem p_cases (n : Int) : (∃ k : Nat, n = Int.negSucc k) ∨ (0 ≤ n ∧ n < 8) ∨ ∃ k : Nat, n = Int.ofNat (k + 8) := by
  cases n with
  | negSucc j => exact .inl ⟨j, rfl⟩
  | ofNat j =>
    by_cases h : j < 8
    · exact .inr (.inl ⟨Int.natCast_nonneg _, by show (j : Int) < 8; omega⟩)
    · exact .inr (.inr ⟨j - 8, by show (j : Int) = ((j - 8 + 8 : Nat) : Int); omega⟩)
theorem low16 {n : Int} (h : 0 ≤ n ∧ n < 16) : n = 0 ∨ n = 1 ∨ n = 2 ∨ n = 3 ∨ n = 4 ∨ n = 5 ∨ n = 6 ∨ n = 7 ∨ n = 8 ∨ n = 9 ∨ n = 10 ∨ n = 11 ∨ n = 12 ∨ n = 13 ∨ n = 14 ∨ n = 15 := by omega
theorem low8 {n : Int} (h : 0 ≤ n ∧ n < 8) : n = 0 ∨ n = 1 ∨ n = 2 ∨ n = 3 ∨ n = 4 ∨ n = 5 ∨ n = 6 ∨ n = 7 := by omega
theorem lN (m : Nat) (n w r x b : Int) : run4 (Int.negSucc m) n w r x b = some (.bool true) := by
  rcases n_cases n with ⟨k, rfl⟩ | rfl | h | ⟨k, rfl⟩
  · exact (eN_N m k w r x b).trans (fin4_ok ..)
  · exact (eN_M m 0 w r x b).trans (fin4_ok ..)
  · rcases low16 h with rfl | rfl | rfl | rfl | rfl | rfl | rfl | rfl | rfl | rfl | rfl | rfl | rfl | rfl | rfl | rfl
    · exact (eN_0 m 0 w r x b).trans (fin4_ok ..)
    · exact (eN_1 m 0 w r x b).trans (fin4_ok ..)
    · exact (eN_2 m 0 w r x b).trans (fin4_ok ..)
    · exact (eN_3 m 0 w r x b).trans (fin4_ok ..)
    · exact (eN_4 m 0 w r x b).trans (fin4_ok ..)
    · exact (eN_5 m 0 w r x b).trans (fin4_ok ..)
    · exact (eN_6 m 0 w r x b).trans (fin4_ok ..)
    · exact (eN_7 m 0 w r x b).trans (fin4_ok ..)
    · exact (eN_8 m 0 w r x b).trans (fin4_ok ..)
    · exact (eN_9 m 0 w r x b).trans (fin4_ok ..)
    · exact (eN_10 m 0 w r x b).trans (fin4_ok ..)
    · exact (eN_11 m 0 w r x b).trans (fin4_ok ..)
    · exact (eN_12 m 0 w r x b).trans (fin4_ok ..)
    · exact (eN_13 m 0 w r x b).trans (fin4_ok ..)
    · exact (eN_14 m 0 w r x b).trans (fin4_ok ..)
    · exact (eN_15 m 0 w r x b).trans (fin4_ok ..)
  · exact (eN_B m k w r x b).trans (fin4_ok ..)
theorem l0 (m : Nat) (n w r x b : Int) : run4 0 n w r x b = some (.bool true) := by
  rcases n_cases n with ⟨k, rfl⟩ | rfl | h | ⟨k, rfl⟩
  · exact (e0_N m k w r x b).trans (fin4_ok ..)
  · exact (e0_M m 0 w r x b).trans (fin4_ok ..)
  · rcases low16 h with rfl | rfl | rfl | rfl | rfl | rfl | rfl | rfl | rfl | rfl | rfl | rfl | rfl | rfl | rfl | rfl
    · exact (e0_0 m 0 w r x b).trans (fin4_ok ..)
    · exact (e0_1 m 0 w r x b).trans (fin4_ok ..)
    · exact (e0_2 m 0 w r x b).trans (fin4_ok ..)
    · exact (e0_3 m 0 w r x b).trans (fin4_ok ..)
    · exact (e0_4 m 0 w r x b).trans (fin4_ok ..)
    · exact (e0_5 m 0 w r x b).trans (fin4_ok ..)
    · exact (e0_6 m 0 w r x b).trans (fin4_ok ..)
    · exact (e0_7 m 0 w r x b).trans (fin4_ok ..)
    · exact (e0_8 m 0 w r x b).trans (fin4_ok ..)
    · exact (e0_9 m 0 w r x b).trans (fin4_ok ..)
    · exact (e0_10 m 0 w r x b).trans (fin4_ok ..)
    · exact (e0_11 m 0 w r x b).trans (fin4_ok ..)
    · exact (e0_12 m 0 w r x b).trans (fin4_ok ..)
    · exact (e0_13 m 0 w r x b).trans (fin4_ok ..)
    · exact (e0_14 m 0 w r x b).trans (fin4_ok ..)
    · exact (e0_15 m 0 w r x b).trans (fin4_ok ..)
  · exact (e0_B m k w r x b).trans (fin4_ok ..)
theorem l1 (m : Nat) (n w r x b : Int) : run4 1 n w r x b = some (.bool true) := by
  rcases n_cases n with ⟨k, rfl⟩ | rfl | h | ⟨k, rfl⟩
  · exact (e1_N m k w r x b).trans (fin4_ok ..)
  · exact (e1_M m 0 w r x b).trans (fin4_ok ..)
  · rcases low16 h with rfl | rfl | rfl | rfl | rfl | rfl | rfl | rfl | rfl | rfl | rfl | rfl | rfl | rfl | rfl | rfl
    · exact (e1_0 m 0 w r x b).trans (fin4_ok ..)
    · exact (e1_1 m 0 w r x b).trans (fin4_ok ..)
    · exact (e1_2 m 0 w r x b).trans (fin4_ok ..)
    · exact (e1_3 m 0 w r x b).trans (fin4_ok ..)
    · exact (e1_4 m 0 w r x b).trans (fin4_ok ..)
    · exact (e1_5 m 0 w r x b).trans (fin4_ok ..)
    · exact (e1_6 m 0 w r x b).trans (fin4_ok ..)
    · exact (e1_7 m 0 w r x b).trans (fin4_ok ..)
    · exact (e1_8 m 0 w r x b).trans (fin4_ok ..)
    · exact (e1_9 m 0 w r x b).trans (fin4_ok ..)
    · exact (e1_10 m 0 w r x b).trans (fin4_ok ..)
    · exact (e1_11 m 0 w r x b).trans (fin4_ok ..)
    · exact (e1_12 m 0 w r x b).trans (fin4_ok ..)
    · exact (e1_13 m 0 w r x b).trans (fin4_ok ..)
    · exact (e1_14 m 0 w r x b).trans (fin4_ok ..)
    · exact (e1_15 m 0 w r x b).trans (fin4_ok ..)
  · exact (e1_B m k w r x b).trans (fin4_ok ..)
theorem l2 (m : Nat) (n w r x b : Int) : run4 2 n w r x b = some (.bool true) := by
  rcases n_cases n with ⟨k, rfl⟩ | rfl | h | ⟨k, rfl⟩
  · exact (e2_N m k w r x b).trans (fin4_ok ..)
  · exact (e2_M m 0 w r x b).trans (fin4_ok ..)
  · rcases low16 h with rfl | rfl | rfl | rfl | rfl | rfl | rfl | rfl | rfl | rfl | rfl | rfl | rfl | rfl | rfl | rfl
    · exact (e2_0 m 0 w r x b).trans (fin4_ok ..)
    · exact (e2_1 m 0 w r x b).trans (fin4_ok ..)
    · exact (e2_2 m 0 w r x b).trans (fin4_ok ..)
    · exact (e2_3 m 0 w r x b).trans (fin4_ok ..)
    · exact (e2_4 m 0 w r x b).trans (fin4_ok ..)
    · exact (e2_5 m 0 w r x b).trans (fin4_ok ..)
    · exact (e2_6 m 0 w r x b).trans (fin4_ok ..)
    · exact (e2_7 m 0 w r x b).trans (fin4_ok ..)
    · exact (e2_8 m 0 w r x b).trans (fin4_ok ..)
    · exact (e2_9 m 0 w r x b).trans (fin4_ok ..)
    · exact (e2_10 m 0 w r x b).trans (fin4_ok ..)
    · exact (e2_11 m 0 w r x b).trans (fin4_ok ..)
    · exact (e2_12 m 0 w r x b).trans (fin4_ok ..)
    · exact (e2_13 m 0 w r x b).trans (fin4_ok ..)
    · exact (e2_14 m 0 w r x b).trans (fin4_ok ..)
    · exact (e2_15 m 0 w r x b).trans (fin4_ok ..)
  · exact (e2_B m k w r x b).trans (fin4_ok ..)
theorem l3 (m : Nat) (n w r x b : Int) : run4 3 n w r x b = some (.bool true) := by
  rcases n_cases n with ⟨k, rfl⟩ | rfl | h | ⟨k, rfl⟩
  · exact (e3_N m k w r x b).trans (fin4_ok ..)
  · exact (e3_M m 0 w r x b).trans (fin4_ok ..)
  · rcases low16 h with rfl | rfl | rfl | rfl | rfl | rfl | rfl | rfl | rfl | rfl | rfl | rfl | rfl | rfl | rfl | rfl
    · exact (e3_0 m 0 w r x b).trans (fin4_ok ..)
    · exact (e3_1 m 0 w r x b).trans (fin4_ok ..)
    · exact (e3_2 m 0 w r x b).trans (fin4_ok ..)
    · exact (e3_3 m 0 w r x b).trans (fin4_ok ..)
    · exact (e3_4 m 0 w r x b).trans (fin4_ok ..)
    · exact (e3_5 m 0 w r x b).trans (fin4_ok ..)
    · exact (e3_6 m 0 w r x b).trans (fin4_ok ..)
    · exact (e3_7 m 0 w r x b).trans (fin4_ok ..)
    · exact (e3_8 m 0 w r x b).trans (fin4_ok ..)
    · exact (e3_9 m 0 w r x b).trans (fin4_ok ..)
    · exact (e3_10 m 0 w r x b).trans (fin4_ok ..)
    · exact (e3_11 m 0 w r x b).trans (fin4_ok ..)
    · exact (e3_12 m 0 w r x b).trans (fin4_ok ..)
    · exact (e3_13 m 0 w r x b).trans (fin4_ok ..)
    · exact (e3_14 m 0 w r x b).trans (fin4_ok ..)
    · exact (e3_15 m 0 w r x b).trans (fin4_ok ..)
  · exact (e3_B m k w r x b).trans (fin4_ok ..)
theorem l4 (m : Nat) (n w r x b : Int) : run4 4 n w r x b = some (.bool true) := by
  rcases n_cases n with ⟨k, rfl⟩ | rfl | h | ⟨k, rfl⟩
  · exact (e4_N m k w r x b).trans (fin4_ok ..)
  · exact (e4_M m 0 w r x b).trans (fin4_ok ..)
  · rcases low16 h with rfl | rfl | rfl | rfl | rfl | rfl | rfl | rfl | rfl | rfl | rfl | rfl | rfl | rfl | rfl | rfl
    · exact (e4_0 m 0 w r x b).trans (fin4_ok ..)
    · exact (e4_1 m 0 w r x b).trans (fin4_ok ..)
    · exact (e4_2 m 0 w r x b).trans (fin4_ok ..)
    · exact (e4_3 m 0 w r x b).trans (fin4_ok ..)
    · exact (e4_4 m 0 w r x b).trans (fin4_ok ..)
    · exact (e4_5 m 0 w r x b).trans (fin4_ok ..)
    · exact (e4_6 m 0 w r x b).trans (fin4_ok ..)
    · exact (e4_7 m 0 w r x b).trans (fin4_ok ..)
    · exact (e4_8 m 0 w r x b).trans (fin4_ok ..)
    · exact (e4_9 m 0 w r x b).trans (fin4_ok ..)
    · exact (e4_10 m 0 w r x b).trans (fin4_ok ..)
    · exact (e4_11 m 0 w r x b).trans (fin4_ok ..)
    · exact (e4_12 m 0 w r x b).trans (fin4_ok ..)
    · exact (e4_13 m 0 w r x b).trans (fin4_ok ..)
    · exact (e4_14 m 0 w r x b).trans (fin4_ok ..)
    · exact (e4_15 m 0 w r x b).trans (fin4_ok ..)
  · exact (e4_B m k w r x b).trans (fin4_ok ..)
theorem l5 (m : Nat) (n w r x b : Int) : run4 5 n w r x b = some (.bool true) := by
  rcases n_cases n with ⟨k, rfl⟩ | rfl | h | ⟨k, rfl⟩
  · exact (e5_N m k w r x b).trans (fin4_ok ..)
  · exact (e5_M m 0 w r x b).trans (fin4_ok ..)
  · rcases low16 h with rfl | rfl | rfl | rfl | rfl | rfl | rfl | rfl | rfl | rfl | rfl | rfl | rfl | rfl | rfl | rfl
    · exact (e5_0 m 0 w r x b).trans (fin4_ok ..)
    · exact (e5_1 m 0 w r x b).trans (fin4_ok ..)
    · exact (e5_2 m 0 w r x b).trans (fin4_ok ..)
    · exact (e5_3 m 0 w r x b).trans (fin4_ok ..)
    · exact (e5_4 m 0 w r x b).trans (fin4_ok ..)
    · exact (e5_5 m 0 w r x b).trans (fin4_ok ..)
    · exact (e5_6 m 0 w r x b).trans (fin4_ok ..)
    · exact (e5_7 m 0 w r x b).trans (fin4_ok ..)
    · exact (e5_8 m 0 w r x b).trans (fin4_ok ..)
    · exact (e5_9 m 0 w r x b).trans (fin4_ok ..)
    · exact (e5_10 m 0 w r x b).trans (fin4_ok ..)
    · exact (e5_11 m 0 w r x b).trans (fin4_ok ..)
    · exact (e5_12 m 0 w r x b).trans (fin4_ok ..)
    · exact (e5_13 m 0 w r x b).trans (fin4_ok ..)
    · exact (e5_14 m 0 w r x b).trans (fin4_ok ..)
    · exact (e5_15 m 0 w r x b).trans (fin4_ok ..)
  · exact (e5_B m k w r x b).trans (fin4_ok ..)
theorem l6 (m : Nat) (n w r x b : Int) : run4 6 n w r x b = some (.bool true) := by
  rcases n_cases n with ⟨k, rfl⟩ | rfl | h | ⟨k, rfl⟩
  · exact (e6_N m k w r x b).trans (fin4_ok ..)
  · exact (e6_M m 0 w r x b).trans (fin4_ok ..)
  · rcases low16 h with rfl | rfl | rfl | rfl | rfl | rfl | rfl | rfl | rfl | rfl | rfl | rfl | rfl | rfl | rfl | rfl
    · exact (e6_0 m 0 w r x b).trans (fin4_ok ..)
    · exact (e6_1 m 0 w r x b).trans (fin4_ok ..)
    · exact (e6_2 m 0 w r x b).trans (fin4_ok ..)
    · exact (e6_3 m 0 w r x b).trans (fin4_ok ..)
    · exact (e6_4 m 0 w r x b).trans (fin4_ok ..)
    · exact (e6_5 m 0 w r x b).trans (fin4_ok ..)
    · exact (e6_6 m 0 w r x b).trans (fin4_ok ..)
    · exact (e6_7 m 0 w r x b).trans (fin4_ok ..)
    · exact (e6_8 m 0 w r x b).trans (fin4_ok ..)
    · exact (e6_9 m 0 w r x b).trans (fin4_ok ..)
    · exact (e6_10 m 0 w r x b).trans (fin4_ok ..)
    · exact (e6_11 m 0 w r x b).trans (fin4_ok ..)
    · exact (e6_12 m 0 w r x b).trans (fin4_ok ..)
    · exact (e6_13 m 0 w r x b).trans (fin4_ok ..)
    · exact (e6_14 m 0 w r x b).trans (fin4_ok ..)
    · exact (e6_15 m 0 w r x b).trans (fin4_ok ..)
  · exact (e6_B m k w r x b).trans (fin4_ok ..)
theorem l7 (m : Nat) (n w r x b : Int) : run4 7 n w r x b = some (.bool true) := by
  rcases n_cases n with ⟨k, rfl⟩ | rfl | h | ⟨k, rfl⟩
  · exact (e7_N m k w r x b).trans (fin4_ok ..)
  · exact (e7_M m 0 w r x b).trans (fin4_ok ..)
  · rcases low16 h with rfl | rfl | rfl | rfl | rfl | rfl | rfl | rfl | rfl | rfl | rfl | rfl | rfl | rfl | rfl | rfl
    · exact (e7_0 m 0 w r x b).trans (fin4_ok ..)
    · exact (e7_1 m 0 w r x b).trans (fin4_ok ..)
    · exact (e7_2 m 0 w r x b).trans (fin4_ok ..)
    · exact (e7_3 m 0 w r x b).trans (fin4_ok ..)
    · exact (e7_4 m 0 w r x b).trans (fin4_ok ..)
    · exact (e7_5 m 0 w r x b).trans (fin4_ok ..)
    · exact (e7_6 m 0 w r x b).trans (fin4_ok ..)
    · exact (e7_7 m 0 w r x b).trans (fin4_ok ..)
    · exact (e7_8 m 0 w r x b).trans (fin4_ok ..)
    · exact (e7_9 m 0 w r x b).trans (fin4_ok ..)
    · exact (e7_10 m 0 w r x b).trans (fin4_ok ..)
    · exact (e7_11 m 0 w r x b).trans (fin4_ok ..)
    · exact (e7_12 m 0 w r x b).trans (fin4_ok ..)
    · exact (e7_13 m 0 w r x b).trans (fin4_ok ..)
    · exact (e7_14 m 0 w r x b).trans (fin4_ok ..)
    · exact (e7_15 m 0 w r x b).trans (fin4_ok ..)
  · exact (e7_B m k w r x b).trans (fin4_ok ..)
theorem lB (m : Nat) (n w r x b : Int) : run4 (Int.ofNat (m + 8)) n w r x b = some (.bool true) := by
  rcases n_cases n with ⟨k, rfl⟩ | rfl | h | ⟨k, rfl⟩
  · exact (eB_N m k w r x b).trans (fin4_ok ..)
  · exact (eB_M m 0 w r x b).trans (fin4_ok ..)
  · rcases low16 h with rfl | rfl | rfl | rfl | rfl | rfl | rfl | rfl | rfl | rfl | rfl | rfl | rfl | rfl | rfl | rfl
    · exact (eB_0 m 0 w r x b).trans (fin4_ok ..)
    · exact (eB_1 m 0 w r x b).trans (fin4_ok ..)
    · exact (eB_2 m 0 w r x b).trans (fin4_ok ..)
    · exact (eB_3 m 0 w r x b).trans (fin4_ok ..)
    · exact (eB_4 m 0 w r x b).trans (fin4_ok ..)
    · exact (eB_5 m 0 w r x b).trans (fin4_ok ..)
    · exact (eB_6 m 0 w r x b).trans (fin4_ok ..)
    · exact (eB_7 m 0 w r x b).trans (fin4_ok ..)
    · exact (eB_8 m 0 w r x b).trans (fin4_ok ..)
    · exact (eB_9 m 0 w r x b).trans (fin4_ok ..)
    · exact (eB_10 m 0 w r x b).trans (fin4_ok ..)
    · exact (eB_11 m 0 w r x b).trans (fin4_ok ..)
    · exact (eB_12 m 0 w r x b).trans (fin4_ok ..)
    · exact (eB_13 m 0 w r x b).trans (fin4_ok ..)
    · exact (eB_14 m 0 w r x b).trans (fin4_ok ..)
    · exact (eB_15 m 0 w r x b).trans (fin4_ok ..)
  · exact (eB_B m k w r x b).trans (fin4_ok ..)
theorem law4 (p n w r x b : Int) : run4 p n w r x b = some (.bool true) := by
  rcases p_cases p with ⟨m, rfl⟩ | h | ⟨m, rfl⟩
  · exact lN m n w r x b
  · rcases low8 h with rfl | rfl | rfl | rfl | rfl | rfl | rfl | rfl
    · exact l0 0 n w r x b
    · exact l1 0 n w r x b
    · exact l2 0 n w r x b
    · exact l3 0 n w r x b
    · exact l4 0 n w r x b
    · exact l5 0 n w r x b
    · exact l6 0 n w r x b
    · exact l7 0 n w r x b
  · exact lB m n w r x b
theorem lays_true {wd : World} {args : List Value} {p n w r x b : Int} (ha : LV (woOf wd) [.int .i64 p, .int .i64 n, .int .i64 w, .int .i64 r, .int .i64 x, .int .i64 b] args) :
    Calls Try.prog 4 args.toArray wd fun e w' => e = .returned (.bool true) ∧ RowKit.Below wd.heap.size wd w' :=
  top_ok (X := X2) noOwn mixed kn2_ok (v := .bool true) (fun S x hx => hx.bool_inv) rfl (fun S E argsE hr hg hl => top_run (inl2_ok 4 rfl) dK1_ok (law4 p n w r x b) S E argsE hr hg hl) (Nat.zero_le _) (fun g hg => absurd hg (Nat.not_lt_zero _)) ha rfl
end Go.Proofs.Ytpabmjpkkhmidaa.rexLays
