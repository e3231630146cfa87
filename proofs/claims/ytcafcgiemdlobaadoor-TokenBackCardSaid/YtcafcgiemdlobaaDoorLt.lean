/- Literals: contracts of the small functions. -/
import Derived.Test.YtcafcgiemdlobaaDoorTd
import Derived.Test.YtcafcgiemdlobaaDoorRows
namespace Go.Proofs.YtcafcgiemdlobaaDoor.lt
open Go.Tv Go.Ev
noncomputable section

noncomputable def arT : TypeId → Bool := fun t => Nat.beq t 90 || Nat.beq t 102
noncomputable def Xg (gv : Nat → List AV) : Cfg := { P := Tryd.prog, G := Nat.succ (gv 77).length, gv := gv, ar := arT }
noncomputable def an0 : FnAnn := ⟨.none, .none, []⟩
noncomputable def inl : FuncId → Bool := fun _ => true
theorem nk (f : FuncId) (args : List Value) : noKnown f args = none := rfl
noncomputable def K0 : KT2 := fun _ => none
section
variable (gv : Nat → List AV)
noncomputable def c0 (β : Type) : CallT β := callT (Xg gv) K0 inl 200 β 20
theorem c0_ok (β : Type) : CallTOk (Xg gv) (cfOf (Xg gv) noKnown) (c0 gv β) := callT_ok (by intro id s g h; cases h) (fun _ _ _ => rfl) 200 20 β
end

/-! Bytes -/
/-- What a byte is worth as a digit, or -1. -/
def digI (n : Int) : Int := if 48 ≤ n ∧ n ≤ 57 then n - 48 else if 97 ≤ n ∧ n ≤ 102 then n - 87 else if 65 ≤ n ∧ n ≤ 70 then n - 55 else -1
def wordI (n : Int) : Bool := decide (48 ≤ n ∧ n ≤ 57 ∨ 97 ≤ n ∧ n ≤ 122 ∨ 65 ≤ n ∧ n ≤ 90 ∨ n = 95)

theorem run43 (gv : Nat → List AV) (n : Int) : enterT (Xg gv) (c0 gv AV) an0 5 43 [.int .u8 n] TMem.empty (fun v _ => some v) = some (.bool (wordI n)) := by
  have h : enterT (Xg gv) (c0 gv AV) an0 5 43 [.int .u8 n] TMem.empty (fun v _ => some v) = pickR n 48 57 (some (.bool true)) (pickR n 97 122 (some (.bool true)) (pickR n 65 90 (some (.bool true)) (some (.bool (eqI n 95))))) := by kernel_rfl
  rw [h]
  simp only [pickR_eq, eqI_spec]
  unfold wordI
  repeat' split
  all_goals congr 2
  all_goals first | (symm; rw [decide_eq_true_eq]; omega) | (rw [Bool.eq_iff_iff, beq_iff_eq, decide_eq_true_eq]; omega)

theorem run64 (gv : Nat → List AV) (n : Int) : enterT (Xg gv) (c0 gv AV) an0 5 64 [.int .u8 n] TMem.empty (fun v _ => some v) = some (.int .i64 (digI n)) := by
  have h : enterT (Xg gv) (c0 gv AV) an0 5 64 [.int .u8 n] TMem.empty (fun v _ => some v) =
    pickR n 48 57 (some (.int .i64 (IntKind.wrap .i64 (IntKind.wrap .u8 (n - 48))))) (pickR n 97 102 (some (.int .i64 (IntKind.wrap .i64 (IntKind.wrap .i64 (IntKind.wrap .u8 (n - 97)) + 10)))) (pickR n 65 70 (some (.int .i64 (IntKind.wrap .i64 (IntKind.wrap .i64 (IntKind.wrap .u8 (n - 65)) + 10)))) (some (.int .i64 (-1))))) := by kernel_rfl
  rw [h]
  simp only [pickR_eq]
  unfold digI
  split
  · rw [u8_in (by omega) (by omega), i64_in (by omega) (by omega)]
  · split
    · rw [u8_in (by omega) (by omega), i64_in (n := n - 97) (by omega) (by omega), i64_in (by omega) (by omega)]
      congr 2; omega
    · split
      · rw [u8_in (by omega) (by omega), i64_in (n := n - 65) (by omega) (by omega), i64_in (by omega) (by omega)]
        congr 2; omega
      · rfl

noncomputable def gWord (args : List AV) : Option (Bool × List PRes) :=
  match args with
  | [.int .u8 n] => some (true, [.val (.bool (wordI n))])
  | _ => none
noncomputable def gDig (args : List AV) : Option (Bool × List PRes) :=
  match args with
  | [.int .u8 n] => some (true, [.val (.int .i64 (digI n))])
  | _ => none
theorem con43 (gv : Nat → List AV) : ConOk (Xg gv) (cfOf (Xg gv) noKnown) 43 gWord :=
  con_vals (nk 43) (c0_ok gv) fun args rs hg => by
    unfold gWord at hg
    split at hg
    · rename_i n
      simp only [Option.some.injEq, Prod.mk.injEq] at hg
      obtain ⟨h1, rfl⟩ := hg
      exact ⟨[.bool (wordI n)], an0, 5, run43 gv n, rfl, rfl⟩
    · cases hg
theorem con64 (gv : Nat → List AV) : ConOk (Xg gv) (cfOf (Xg gv) noKnown) 64 gDig :=
  con_vals (nk 64) (c0_ok gv) fun args rs hg => by
    unfold gDig at hg
    split at hg
    · rename_i n
      simp only [Option.some.injEq, Prod.mk.injEq] at hg
      obtain ⟨h1, rfl⟩ := hg
      exact ⟨[.int .i64 (digI n)], an0, 5, run64 gv n, rfl, rfl⟩
    · cases hg

/-! A product of two words -/
noncomputable def mulTree (x y : Int) : AV :=
  let w := IntKind.wrap .u64
  let x0 : Int := w ↑(BitVec.toNat (BitVec.ofInt 64 x &&& BitVec.ofInt 64 4294967295))
  let y0 : Int := w ↑(BitVec.toNat (BitVec.ofInt 64 y &&& BitVec.ofInt 64 4294967295))
  let x1 := Int.fdiv x 4294967296
  let y1 := Int.fdiv y 4294967296
  let t := w (w (x1 * y0) + Int.fdiv (w (x0 * y0)) 4294967296)
  .tup [.int .u64 (w (w (w (x1 * y1) + Int.fdiv t 4294967296) + Int.fdiv (w (w ↑(BitVec.toNat (BitVec.ofInt 64 t &&& BitVec.ofInt 64 4294967295)) + w (x0 * y1))) 4294967296)), .int .u64 (w (x * y))]
theorem tree65 (gv : Nat → List AV) (x y : Int) : enterT (Xg gv) (c0 gv AV) an0 5 65 [.int .u64 x, .int .u64 y] TMem.empty (fun v _ => some v) = some (mulTree x y) := by kernel_rfl

theorem fdiv32 {a : Int} : Int.fdiv a 4294967296 = a / 4294967296 := Int.fdiv_eq_ediv_of_nonneg _ (by omega)
theorem mul_eq {x y : Int} (h0 : 0 ≤ x) (h1 : x < 18446744073709551616) (h2 : 0 ≤ y) (h3 : y < 4294967296) : mulTree x y = .tup [.int .u64 (x * y / 18446744073709551616), .int .u64 (x * y % 18446744073709551616)] := by
  have low : ∀ {a : Int}, 0 ≤ a → a < 18446744073709551616 → ((BitVec.ofInt 64 a &&& BitVec.ofInt 64 4294967295).toNat : Int) = a % 4294967296 := fun {a} ha hb => and_low ha hb 32 (by omega)
  have hx0 : IntKind.wrap .u64 ↑(BitVec.toNat (BitVec.ofInt 64 x &&& BitVec.ofInt 64 4294967295)) = x % 4294967296 := by rw [low h0 h1, u64_in (by omega) (by omega)]
  have hy0 : IntKind.wrap .u64 ↑(BitVec.toNat (BitVec.ofInt 64 y &&& BitVec.ofInt 64 4294967295)) = y := by rw [low h2 (by omega), u64_in (by omega) (by omega)]; omega
  have hy1 : y / 4294967296 = 0 := by omega
  unfold mulTree
  simp only [hx0, hy0, fdiv32, hy1, Int.mul_zero]
  obtain ⟨a, ha⟩ : ∃ a, x / 4294967296 * y = a := ⟨_, rfl⟩
  obtain ⟨b, hb⟩ : ∃ b, x % 4294967296 * y = b := ⟨_, rfl⟩
  have hxy : x * y = a * 4294967296 + b := by
    rw [← ha, ← hb]
    have := Int.mul_ediv_add_emod x 4294967296
    calc x * y = (4294967296 * (x / 4294967296) + x % 4294967296) * y := by rw [this]
      _ = _ := by rw [Int.add_mul, Int.mul_assoc, Int.mul_comm 4294967296]
  have ha0 : 0 ≤ a := by rw [← ha]; exact Int.mul_nonneg (by omega) h2
  have hb0 : 0 ≤ b := by rw [← hb]; exact Int.mul_nonneg (by omega) h2
  have ha1 : a ≤ 4294967295 * 4294967295 := by
    rw [← ha]
    exact Int.le_trans (Int.mul_le_mul_of_nonneg_right (show x / 4294967296 ≤ 4294967295 by omega) h2) (Int.mul_le_mul_of_nonneg_left (show y ≤ 4294967295 by omega) (by omega))
  have hb1 : b ≤ 4294967295 * 4294967295 := by
    rw [← hb]
    exact Int.le_trans (Int.mul_le_mul_of_nonneg_right (show x % 4294967296 ≤ 4294967295 by omega) h2) (Int.mul_le_mul_of_nonneg_left (show y ≤ 4294967295 by omega) (by omega))
  rw [ha, hb, hxy]
  have w1 : IntKind.wrap .u64 b = b := u64_in hb0 (by omega)
  have w2 : IntKind.wrap .u64 a = a := u64_in ha0 (by omega)
  have w3 : IntKind.wrap .u64 (a + b / 4294967296) = a + b / 4294967296 := u64_in (by omega) (by omega)
  have w4 : IntKind.wrap .u64 0 = 0 := u64_in (by omega) (by omega)
  rw [w1, w2, w3, low (by omega) (by omega), w4, Int.zero_add, Int.add_zero]
  have w5 : IntKind.wrap .u64 ((a + b / 4294967296) % 4294967296) = (a + b / 4294967296) % 4294967296 := u64_in (by omega) (by omega)
  have w6 : IntKind.wrap .u64 ((a + b / 4294967296) / 4294967296) = (a + b / 4294967296) / 4294967296 := u64_in (by omega) (by omega)
  rw [w5, w5, w6]
  have w7 : (a + b / 4294967296) % 4294967296 / 4294967296 = 0 := by omega
  rw [w7, Int.add_zero, w6, u64_mod]
  have e1 : (a + b / 4294967296) / 4294967296 = (a * 4294967296 + b) / 18446744073709551616 := by omega
  rw [e1]

noncomputable def gMul (args : List AV) : Option (Bool × List PRes) :=
  match args with
  | [.int .u64 x, .int .u64 y] => some (!ltI x 0 && ltI x 18446744073709551616 && !ltI y 0 && ltI y 4294967296, [.val (.int .u64 (x * y / 18446744073709551616)), .val (.int .u64 (x * y % 18446744073709551616))])
  | _ => none
theorem con65 (gv : Nat → List AV) : ConOk (Xg gv) (cfOf (Xg gv) noKnown) 65 gMul :=
  con_vals (nk 65) (c0_ok gv) fun args rs hg => by
    unfold gMul at hg
    split at hg
    · rename_i x y
      simp only [Option.some.injEq, Prod.mk.injEq, Bool.and_eq_true, ltI_spec, Bool.not_eq_true', decide_eq_false_iff_not, decide_eq_true_eq] at hg
      obtain ⟨h1, rfl⟩ := hg
      exact ⟨[.int .u64 (x * y / 18446744073709551616), .int .u64 (x * y % 18446744073709551616)], an0, 5, (tree65 gv x y).trans (congrArg some (mul_eq (x := x) (y := y) (by omega) (by omega) (by omega) (by omega))), rfl, rfl⟩
    · cases hg
end
end Go.Proofs.YtcafcgiemdlobaaDoor.lt
