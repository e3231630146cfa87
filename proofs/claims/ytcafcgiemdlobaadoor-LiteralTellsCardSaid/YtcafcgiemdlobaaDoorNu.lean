/- Numbers, bytes and lists: lemmas for what runs of the symbolic layer come to. -/
import Derived.Test.YtcafcgiemdlobaaDoorTvN
namespace Go.Tv
open Go.Ev (pick2 pick2_eq ltI eqI ltI_spec eqI_spec)

theorem i64_of (n : Int) : IntKind.wrap .i64 n = if n % 18446744073709551616 < 9223372036854775808 then n % 18446744073709551616 else n % 18446744073709551616 - 18446744073709551616 := by
  have e : IntKind.wrap .i64 n = if n % (2 ^ 64 : Int) ≥ (2 ^ 63 : Int) then n % (2 ^ 64 : Int) - (2 ^ 64 : Int) else n % (2 ^ 64 : Int) := by
    unfold IntKind.wrap
    by_cases h : n % (2 ^ 64 : Int) ≥ (2 ^ 63 : Int)
    · rw [if_pos h]
      exact if_pos (by show (true && decide (n % (2 ^ 64 : Int) ≥ (2 ^ 63 : Int))) = true; simpa using h)
    · rw [if_neg h]
      exact if_neg (by show ¬ (true && decide (n % (2 ^ 64 : Int) ≥ (2 ^ 63 : Int))) = true; simp; omega)
  rw [e]
  split <;> split <;> omega
theorem i64_in {n : Int} (h0 : -9223372036854775808 ≤ n) (h1 : n < 9223372036854775808) : IntKind.wrap .i64 n = n := by
  rw [i64_of]
  split <;> omega
theorem u64_mod (n : Int) : IntKind.wrap .u64 n = n % 18446744073709551616 := by
  unfold IntKind.wrap
  simp only [IntKind.bits, IntKind.signed, Bool.false_and, Bool.false_eq_true, if_false]
  rfl
theorem u64_in {n : Int} (h0 : 0 ≤ n) (h1 : n < 18446744073709551616) : IntKind.wrap .u64 n = n := by rw [u64_mod]; omega
theorem u32_mod (n : Int) : IntKind.wrap .u32 n = n % 4294967296 := by
  unfold IntKind.wrap
  simp only [IntKind.bits, IntKind.signed, Bool.false_and, Bool.false_eq_true, if_false]
  rfl
theorem u8_mod (n : Int) : IntKind.wrap .u8 n = n % 256 := by
  unfold IntKind.wrap
  simp only [IntKind.bits, IntKind.signed, Bool.false_and, Bool.false_eq_true, if_false]
  rfl
theorem u8_in {n : Int} (h0 : 0 ≤ n) (h1 : n < 256) : IntKind.wrap .u8 n = n := by rw [u8_mod]; omega
theorem ltT {a b : Int} (h : a < b) : ltI a b = true := by rw [ltI_spec]; simpa using h
theorem ltF {a b : Int} (h : b ≤ a) : ltI a b = false := by rw [ltI_spec]; simpa using h
theorem eqT {a b : Int} (h : a = b) : eqI a b = true := by rw [eqI_spec, h]; simp
theorem eqF {a b : Int} (h : a ≠ b) : eqI a b = false := by rw [eqI_spec]; simpa using h

theorem u8I_nn (c : UInt8) : 0 ≤ u8I c := Int.natCast_nonneg _
theorem u8I_lt (c : UInt8) : u8I c < 256 := by have := c.toNat_lt; unfold u8I; simp; omega
theorem iU8_u8I (c : UInt8) : iU8 (u8I c) = c := by unfold iU8 u8I; simp
theorem u8I_inj {a b : UInt8} (h : u8I a = u8I b) : a = b := by rw [← iU8_u8I a, h, iU8_u8I]
theorem map_iU8 (s : List UInt8) : (s.map u8I).map iU8 = s := by
  rw [List.map_map]
  have : iU8 ∘ u8I = id := funext iU8_u8I
  rw [this, List.map_id]

theorem getI_nat {α : Type} (l : List α) (n : Nat) : getI l (n : Int) = l[n]? := rfl
theorem getI_at {α : Type} (pre r : List α) (c : α) : getI (pre ++ c :: r) (pre.length : Int) = some c := by rw [getI_nat]; simp

theorem bleT {a b : Nat} (h : a ≤ b) : Nat.ble a b = true := Nat.ble_eq_true_of_le h
theorem cut_part {s w : List UInt8} {a n : Nat} (he : (s.drop a).take n = w) (f t : Nat) (ht : t ≤ n) : cutL s ((a + f : Nat) : Int) ((a + t : Nat) : Int) = (w.take t).drop f := by
  unfold cutL
  simp only [Int.toNat_natCast]
  rw [← he, List.take_take, List.drop_take, List.drop_drop, Nat.min_eq_left ht]
  congr 1; omega

/-- The low bits. -/
theorem and_low {a : Int} (h0 : 0 ≤ a) (h1 : a < 18446744073709551616) (k : Nat) (hk : k ≤ 64) : ((BitVec.ofInt 64 a &&& BitVec.ofInt 64 ((2 ^ k - 1 : Nat) : Int)).toNat : Int) = a % (2 ^ k : Nat) := by
  obtain ⟨n, rfl⟩ : ∃ n : Nat, a = n := ⟨a.toNat, by omega⟩
  rw [BitVec.toNat_and, BitVec.ofInt_natCast, BitVec.ofInt_natCast, BitVec.toNat_ofNat, BitVec.toNat_ofNat]
  have h2 : n % 2 ^ 64 = n := Nat.mod_eq_of_lt (by omega)
  have hp : 2 ^ k ≤ 2 ^ 64 := Nat.pow_le_pow_right (by omega) hk
  have hpos : 0 < 2 ^ k := Nat.two_pow_pos k
  have h3 : (2 ^ k - 1) % 2 ^ 64 = 2 ^ k - 1 := Nat.mod_eq_of_lt (by omega)
  rw [h2, h3, Nat.and_two_pow_sub_one_eq_mod]
  simp
/-! Tables of contracts -/
abbrev Con := FuncId × List (Option Ty) × (List AV → Option (Bool × List PRes))
noncomputable def tab (l : List Con) : KT2 := fun f => List.rec (motive := fun _ => Option (List (Option Ty) × (List AV → Option (Bool × List PRes)))) none (fun e _ r => pick2 (Nat.beq f e.1) (some e.2) r) l
def TabOk (X : Cfg) (cf : Nat × Nat → Ev.CallF) (l : List Con) : Prop := ∀ id sig g, tab l id = some (sig, g) → ConOk X cf id g
theorem TabOk.nil {X : Cfg} {cf : Nat × Nat → Ev.CallF} : TabOk X cf [] := fun _ _ _ h => by cases h
theorem TabOk.cons {X : Cfg} {cf : Nat × Nat → Ev.CallF} {f : FuncId} {sig : List (Option Ty)} {g : List AV → Option (Bool × List PRes)} {l : List Con} (h : ConOk X cf f g) (t : TabOk X cf l) : TabOk X cf ((f, sig, g) :: l) := fun id sig' g' hk => by
  have hk : pick2 (Nat.beq id f) (some (sig, g)) (tab l id) = some (sig', g') := hk
  cases hb : Nat.beq id f with
  | true =>
    rw [hb] at hk
    have he : id = f := Nat.eq_of_beq_eq_true hb
    have hk : (sig, g) = (sig', g') := Option.some.inj hk
    cases hk
    rw [he]; exact h
  | false => rw [hb] at hk; exact t id sig' g' hk

/-- A choice by a range. -/
noncomputable def pickR {α : Type} (n a b : Int) (x y : α) : α := pick2 (!ltI n a) (pick2 (!ltI b n) x y) y
theorem pickR_eq {α : Type} (n a b : Int) (x y : α) : pickR n a b x y = if a ≤ n ∧ n ≤ b then x else y := by
  unfold pickR
  simp only [pick2_eq, ltI_spec, Bool.not_eq_true', decide_eq_false_iff_not]
  by_cases h1 : n < a
  · rw [if_neg (by simpa using h1), if_neg (by omega)]
  · rw [if_pos h1]
    by_cases h2 : b < n
    · rw [if_neg (by simpa using h2), if_neg (by omega)]
    · rw [if_pos h2, if_pos (by omega)]
theorem pick_lt {α : Type} (a b : Int) (x y : α) : pick2 (ltI a b) x y = if a < b then x else y := by rw [pick2_eq, ltI_spec]; simp
theorem pick_nlt {α : Type} (a b : Int) (x y : α) : pick2 (!ltI a b) x y = if b ≤ a then x else y := by
  rw [pick2_eq, ltI_spec]
  by_cases h : a < b
  · rw [if_neg (by simpa using h), if_neg (by omega)]
  · rw [if_pos (by simpa using h), if_pos (by omega)]
theorem pick_eq {α : Type} (a b : Int) (x y : α) : pick2 (eqI a b) x y = if a = b then x else y := by rw [pick2_eq, eqI_spec]; simp
theorem pick_neq {α : Type} (a b : Int) (x y : α) : pick2 (!eqI a b) x y = if a = b then y else x := by
  rw [pick2_eq, eqI_spec]
  by_cases h : a = b
  · rw [if_neg (by simpa using h), if_pos h]
  · rw [if_pos (by simpa using h), if_neg h]
end Go.Tv
