/- CondTells comes to true, number by number. -/
import Derived.Test.YtpabmjpkkhmidaaCt2
namespace Go.Proofs.Ytpabmjpkkhmidaa.condTells
open Go.Tv Go.Ev
noncomputable section
def outer (s : List UInt8) (x : Option AV) : Option AV := pick2 (ltI 100 ↑(List.length s)) (some (.bool true)) (pick2 (eqI (pI s) (pI s)) (pick2 (pB s == pB s) x (some (.bool false))) (some (.bool false)))
def leafB (c : Bool) : Option AV := pick2 c (some (.bool true)) (some (.bool false))
def oneB (g : Bool) (p : Int) : Option AV := leafB ((g == eqI p 0) == (g == eqI p 0))
def twoB (a h : Bool) (p : Int) : Option AV := pick2 a (pick2 a (some (.bool true)) (leafB ((true == eqI p 0) == (h == eqI p 0)))) (pick2 a (leafB ((h == eqI p 0) == (true == eqI p 0))) (leafB ((h == eqI p 0) == (h == eqI p 0))))
def run9 (n : Int) (s : List UInt8) (f1 f2 f3 f4 f5 : Bool) : Option AV := enterT X1 (dT1 AV) an0 20 9 [.int .i64 n, .str s, .agg [.bool f1, .bool f2, .bool f3, .bool f4, .bool f5]] TMem.empty fun v _ => some v
end
theorem outer_ok {s : List UInt8} {x : Option AV} (h : x = some (.bool true)) : outer s x = some (.bool true) := by
  unfold outer
  rw [h, eqT rfl, beq_self_eq_true]
  cases ltI 100 ↑(List.length s) <;> rfl
theorem one_ok (g : Bool) (p : Int) : oneB g p = some (.bool true) := by
  unfold oneB leafB
  rw [beq_self_eq_true]
theorem two_ok (a h : Bool) (p : Int) : twoB a h p = some (.bool true) := by
  unfold twoB leafB
  rw [beq_self_eq_true]
  cases a <;> rfl
section
variable (s : List UInt8) (f1 f2 f3 f4 f5 : Bool)
theorem r0 : run9 0 s f1 f2 f3 f4 f5 = outer s (oneB f4 0) := by kernel_rfl
theorem r1 : run9 1 s f1 f2 f3 f4 f5 = outer s (oneB f4 1) := by kernel_rfl
theorem r2 : run9 2 s f1 f2 f3 f4 f5 = outer s (oneB f1 0) := by kernel_rfl
theorem r3 : run9 3 s f1 f2 f3 f4 f5 = outer s (oneB f1 1) := by kernel_rfl
theorem r4 : run9 4 s f1 f2 f3 f4 f5 = outer s (oneB f2 0) := by kernel_rfl
theorem r5 : run9 5 s f1 f2 f3 f4 f5 = outer s (oneB f2 1) := by kernel_rfl
theorem r6 : run9 6 s f1 f2 f3 f4 f5 = outer s (twoB f1 f2 0) := by kernel_rfl
theorem r7 : run9 7 s f1 f2 f3 f4 f5 = outer s (twoB f1 f2 1) := by kernel_rfl
theorem r8 : run9 8 s f1 f2 f3 f4 f5 = outer s (oneB f3 0) := by kernel_rfl
theorem r9 : run9 9 s f1 f2 f3 f4 f5 = outer s (oneB f3 1) := by kernel_rfl
theorem r10 : run9 10 s f1 f2 f3 f4 f5 = outer s (oneB f5 0) := by kernel_rfl
theorem r11 : run9 11 s f1 f2 f3 f4 f5 = outer s (oneB f5 1) := by kernel_rfl
theorem r12 : run9 12 s f1 f2 f3 f4 f5 = outer s (oneB (!(f3 == f4)) 0) := by kernel_rfl
theorem r13 : run9 13 s f1 f2 f3 f4 f5 = outer s (oneB (!(f3 == f4)) 1) := by kernel_rfl
theorem r14 : run9 14 s f1 f2 f3 f4 f5 = outer s (twoB f2 (!(f3 == f4)) 0) := by kernel_rfl
theorem r15 : run9 15 s f1 f2 f3 f4 f5 = outer s (twoB f2 (!(f3 == f4)) 1) := by kernel_rfl
theorem rneg (m : Nat) : run9 (Int.negSucc m) s f1 f2 f3 f4 f5 = outer s (some (.bool true)) := by kernel_rfl
theorem rbig (m : Nat) : run9 (Int.ofNat (m + 16)) s f1 f2 f3 f4 f5 = outer s (some (.bool true)) := by kernel_rfl
end
theorem law9 (n : Int) (s : List UInt8) (f1 f2 f3 f4 f5 : Bool) : run9 n s f1 f2 f3 f4 f5 = some (.bool true) := by
  cases n with
  | negSucc m => exact (rneg ..).trans (outer_ok rfl)
  | ofNat n =>
    by_cases h16 : 16 ≤ n
    · obtain ⟨m, rfl⟩ : ∃ m, n = m + 16 := ⟨n - 16, by omega⟩
      exact (rbig ..).trans (outer_ok rfl)
    · have : n = 0 ∨ n = 1 ∨ n = 2 ∨ n = 3 ∨ n = 4 ∨ n = 5 ∨ n = 6 ∨ n = 7 ∨ n = 8 ∨ n = 9 ∨ n = 10 ∨ n = 11 ∨ n = 12 ∨ n = 13 ∨ n = 14 ∨ n = 15 := by omega
      rcases this with rfl | rfl | rfl | rfl | rfl | rfl | rfl | rfl | rfl | rfl | rfl | rfl | rfl | rfl | rfl | rfl
      · exact (r0 ..).trans (outer_ok (one_ok ..))
      · exact (r1 ..).trans (outer_ok (one_ok ..))
      · exact (r2 ..).trans (outer_ok (one_ok ..))
      · exact (r3 ..).trans (outer_ok (one_ok ..))
      · exact (r4 ..).trans (outer_ok (one_ok ..))
      · exact (r5 ..).trans (outer_ok (one_ok ..))
      · exact (r6 ..).trans (outer_ok (two_ok ..))
      · exact (r7 ..).trans (outer_ok (two_ok ..))
      · exact (r8 ..).trans (outer_ok (one_ok ..))
      · exact (r9 ..).trans (outer_ok (one_ok ..))
      · exact (r10 ..).trans (outer_ok (one_ok ..))
      · exact (r11 ..).trans (outer_ok (one_ok ..))
      · exact (r12 ..).trans (outer_ok (one_ok ..))
      · exact (r13 ..).trans (outer_ok (one_ok ..))
      · exact (r14 ..).trans (outer_ok (two_ok ..))
      · exact (r15 ..).trans (outer_ok (two_ok ..))
end Go.Proofs.Ytpabmjpkkhmidaa.condTells
