/- A place's numbers that are not known: tokens. -/
import Derived.Test.YtpenhcmahojifaaGreatDoorGa
import Derived.IntWalk
set_option linter.unusedVariables false
set_option linter.unusedSimpArgs false
set_option linter.unusedSectionVars false
namespace Go.Ev.Tw
open Go.Proofs
noncomputable section
def u8 (n : Nat) : Value := .int .u8 (.ofNat n)
/-- The displacement. -/
def dT : Value := tokVar .i64 2
def cU (x : Value) : Value := tokConv .u64 x
def cI (x : Value) : Value := tokConv .i64 x
def cB (x : Value) : Value := tokConv .u8 x
def shl (x : Value) (n : Nat) : Value := tokBin 8 .u64 x (int64 n)
def shrU (x : Value) (n : Nat) : Value := tokBin 9 .u64 x (int64 n)
def shrI (x : Value) (n : Nat) : Value := tokBin 9 .i64 x (int64 n)
def sgn (x : Value) (bits : Nat) : Value := shrI (cI (shl (cU x) (64 - bits))) (64 - bits)
/-- Its bytes. -/
def byT (i : Nat) : Value := cB (shrU (cU dT) (8 * i))
def orU (x y : Value) : Value := tokBin 5 .u64 x y
def get1 : Value := orU (.int .u64 0) (shl (cU (byT 0)) 0)
def get4 : Value := orU (orU (orU (orU (.int .u64 0) (shl (cU (byT 0)) 0)) (shl (cU (byT 1)) 8)) (shl (cU (byT 2)) 16)) (shl (cU (byT 3)) 24)
/-- Whether it is one of 8 bits, whether it is 0. -/
def factsU (b8 b0 : Bool) : List (BinOp × Value × Value × Bool) := [(.lss, dT, .int .i64 (.negSucc 2147483647), false), (.gtr, dT, int64 2147483647, false), (.eql, sgn dT 8, dT, b8), (.eql, dT, int64 0, b0),
  (.lss, sgn dT 8, .int .i64 (.negSucc 2147483647), false), (.gtr, sgn dT 8, int64 2147483647, false)]
def rewsU : List (Value × Value) := [(sgn dT 32, dT), (sgn (cI get4) 32, dT), (sgn (cI get1) 8, sgn dT 8)]
@[reducible] def tdU (b8 b0 : Bool) : TokD := ⟨factsU b8 b0, rewsU⟩
end
end Go.Ev.Tw
namespace Go.Ev.Tw
open Go.Proofs Go.RowKit
noncomputable section
set_option maxRecDepth 1000000
/-- A number's lowest bits, by their sign. -/
def sg (g : Nat) (x : Int) : Int := (IntKind.i64.wrap (IntKind.u64.wrap (IntKind.u64.wrap x * 2 ^ g))).fdiv (2 ^ g)
def by' (i : Nat) (d : Int) : Int := IntKind.u8.wrap ((IntKind.u64.wrap d).fdiv (2 ^ (8 * i)))
def or64 (x y : Int) : Int := IntKind.u64.wrap (BitVec.ofInt 64 x ||| BitVec.ofInt 64 y).toNat
def g1 (d : Int) : Int := or64 0 (IntKind.u64.wrap (IntKind.u64.wrap (by' 0 d) * 2 ^ 0))
def g4 (d : Int) : Int := or64 (or64 (or64 (or64 0 (IntKind.u64.wrap (IntKind.u64.wrap (by' 0 d) * 2 ^ 0))) (IntKind.u64.wrap (IntKind.u64.wrap (by' 1 d) * 2 ^ 8))) (IntKind.u64.wrap (IntKind.u64.wrap (by' 2 d) * 2 ^ 16))) (IntKind.u64.wrap (IntKind.u64.wrap (by' 3 d) * 2 ^ 24))
theorem wu64 (n : Int) : IntKind.u64.wrap n = n % 18446744073709551616 := by simp [IntKind.wrap, IntKind.bits, IntKind.signed]
theorem fdiv_pow (x : Int) (n : Nat) : x.fdiv (2 ^ n) = x / 2 ^ n := Int.fdiv_eq_ediv_of_nonneg x (Int.pow_nonneg (by decide))
theorem or_low (a b i : Nat) (hb : b < 2 ^ i) (h : a * 2 ^ i + b < 2 ^ 64) : or64 (b : Int) ((a * 2 ^ i : Nat) : Int) = ((a * 2 ^ i + b : Nat) : Int) := by
  unfold or64
  have hb' : b < 2 ^ 64 := by omega
  have ha' : a * 2 ^ i < 2 ^ 64 := by omega
  have e : (BitVec.ofInt 64 (b : Int) ||| BitVec.ofInt 64 ((a * 2 ^ i : Nat) : Int)).toNat = a * 2 ^ i + b := by
    rw [BitVec.toNat_or, BitVec.ofInt_natCast, BitVec.ofInt_natCast, BitVec.toNat_ofNat, BitVec.toNat_ofNat, Nat.mod_eq_of_lt hb', Nat.mod_eq_of_lt ha', Nat.or_comm, ← Nat.shiftLeft_eq, ← Nat.shiftLeft_add_eq_or_of_lt hb]
  rw [e, wu64]
  omega
theorem by_val (i : Nat) (d : Int) : by' i d = (d % 18446744073709551616) / 2 ^ (8 * i) % 256 := by
  unfold by'
  rw [fdiv_pow, IntKind.wrap_u8, wu64]
theorem sg56 (x : Int) : sg 56 x = (x + 128) % 256 - 128 := by
  unfold sg
  rw [fdiv_pow, IntKind.wrap_i64, wu64, wu64]
  omega
theorem sg32 (x : Int) : sg 32 x = (x + 2147483648) % 4294967296 - 2147483648 := by
  unfold sg
  rw [fdiv_pow, IntKind.wrap_i64, wu64, wu64]
  omega
theorem g1_val (d : Int) : g1 d = d % 256 := by
  have e0 := by_val 0 d
  simp only [Nat.mul_zero, Int.pow_zero, Int.ediv_one] at e0
  have h : g1 d = or64 (0 : Nat) (((d % 256).toNat * 2 ^ 0 : Nat) : Int) := by
    unfold g1
    rw [e0, wu64, wu64]
    congr 1
    omega
  rw [h, or_low _ 0 0 (by decide) (by omega)]
  omega
theorem g4_val (d : Int) : g4 d = d % 4294967296 := by
  have e0 := by_val 0 d
  have e1 := by_val 1 d
  have e2 := by_val 2 d
  have e3 := by_val 3 d
  simp only [Nat.mul_zero, Int.pow_zero, Int.ediv_one] at e0
  have p1 : ((2 : Int) ^ (8 * 1)) = 256 := by decide
  have p2 : ((2 : Int) ^ (8 * 2)) = 65536 := by decide
  have p3 : ((2 : Int) ^ (8 * 3)) = 16777216 := by decide
  rw [p1] at e1; rw [p2] at e2; rw [p3] at e3
  have s0 : or64 0 (IntKind.u64.wrap (IntKind.u64.wrap (by' 0 d) * 2 ^ 0)) = (((d % 256).toNat : Nat) : Int) := by
    have := g1_val d
    unfold g1 at this
    rw [this]; omega
  have s1 : or64 (((d % 256).toNat : Nat) : Int) (IntKind.u64.wrap (IntKind.u64.wrap (by' 1 d) * 2 ^ 8)) = (((d % 65536).toNat : Nat) : Int) := by
    have : IntKind.u64.wrap (IntKind.u64.wrap (by' 1 d) * 2 ^ 8) = (((d / 256 % 256).toNat * 2 ^ 8 : Nat) : Int) := by rw [e1, wu64, wu64]; omega
    rw [this, or_low _ _ 8 (by omega) (by omega)]; omega
  have s2 : or64 (((d % 65536).toNat : Nat) : Int) (IntKind.u64.wrap (IntKind.u64.wrap (by' 2 d) * 2 ^ 16)) = (((d % 16777216).toNat : Nat) : Int) := by
    have : IntKind.u64.wrap (IntKind.u64.wrap (by' 2 d) * 2 ^ 16) = (((d / 65536 % 256).toNat * 2 ^ 16 : Nat) : Int) := by rw [e2, wu64, wu64]; omega
    rw [this, or_low _ _ 16 (by omega) (by omega)]; omega
  have s3 : or64 (((d % 16777216).toNat : Nat) : Int) (IntKind.u64.wrap (IntKind.u64.wrap (by' 3 d) * 2 ^ 24)) = (((d % 4294967296).toNat : Nat) : Int) := by
    have : IntKind.u64.wrap (IntKind.u64.wrap (by' 3 d) * 2 ^ 24) = (((d / 16777216 % 256).toNat * 2 ^ 24 : Nat) : Int) := by rw [e3, wu64, wu64]; omega
    rw [this, or_low _ _ 24 (by omega) (by omega)]; omega
  unfold g4
  rw [s0, s1, s2, s3]; omega
/-- The numbers: the lane, the displacement, which way, what stands behind, the address. -/
def envU (j : Nat) (d wh nx ad : Int) (_ : IntKind) (i : Nat) : Int := if i = 2 then d else if i = 1 then wh else if i = 3 then nx else if i = 4 then ad else (j : Int)
theorem den_dT (j : Nat) (d wh nx ad : Int) : den (envU j d wh nx ad) dT = some (.i64, d) := rfl
theorem den_shlG (env : IntKind → Nat → Int) (x : Value) (m : Int) (n : Nat) (hx : den env x = some (.u64, m)) (hn : n ≤ 64) : den env (shl x n) = some (.u64, IntKind.u64.wrap (m * 2 ^ n)) := by
  unfold shl
  simp only [tokBin, den, denA, denL, hx, int64, tokV]
  have hneg : ¬ ((n : Int) < 0) := by omega
  simp [nBin, intRun, IntKind.bits, Nat.min_eq_left hn, hneg]
theorem den_shrUG (env : IntKind → Nat → Int) (x : Value) (m : Int) (n : Nat) (hx : den env x = some (.u64, m)) (hn : n ≤ 64) : den env (shrU x n) = some (.u64, m.fdiv (2 ^ n)) := by
  unfold shrU
  simp only [tokBin, den, denA, denL, hx, int64, tokV]
  have hneg : ¬ ((n : Int) < 0) := by omega
  simp [nBin, intRun, IntKind.bits, Nat.min_eq_left hn, hneg]
theorem den_shrIG (env : IntKind → Nat → Int) (x : Value) (m : Int) (n : Nat) (hx : den env x = some (.i64, m)) (hn : n ≤ 64) : den env (shrI x n) = some (.i64, m.fdiv (2 ^ n)) := by
  unfold shrI
  simp only [tokBin, den, denA, denL, hx, int64, tokV]
  have hneg : ¬ ((n : Int) < 0) := by omega
  simp [nBin, intRun, IntKind.bits, Nat.min_eq_left hn, hneg]
theorem den_conv (env : IntKind → Nat → Int) (x : Value) (m : Int) (k k' : IntKind) (hx : den env x = some (k, m)) : den env (tokConv k' x) = some (k', k'.wrap m) := by
  simp only [tokConv, den, denA, denL, hx, tokV]
  simp
theorem den_sgn (j : Nat) (d wh nx ad : Int) (x : Value) (n : Int) (bits : Nat) (hx : den (envU j d wh nx ad) x = some (.i64, n)) (hb : 64 - bits ≤ 64) : den (envU j d wh nx ad) (sgn x bits) = some (.i64, sg (64 - bits) n) :=
  den_shrIG _ _ _ _ (den_conv _ _ _ _ _ (den_shlG _ _ _ _ (den_conv _ _ _ _ _ hx) hb)) hb
theorem den_by (j : Nat) (d wh nx ad : Int) (i : Nat) (hi : i ≤ 7) : den (envU j d wh nx ad) (byT i) = some (.u8, by' i d) :=
  den_conv _ _ _ _ _ (den_shrUG _ _ _ _ (den_conv _ _ _ _ _ (den_dT _ _ _ _ _)) (by omega))
theorem den_or (j : Nat) (d wh nx ad : Int) (x y : Value) (m n : Int) (hx : den (envU j d wh nx ad) x = some (.u64, m)) (hy : den (envU j d wh nx ad) y = some (.u64, n)) : den (envU j d wh nx ad) (orU x y) = some (.u64, or64 m n) := by
  unfold orU
  simp only [tokBin, den, denA, denL, hx, hy, tokV]
  rfl
theorem den_shl (j : Nat) (d wh nx ad : Int) (x : Value) (m : Int) (n : Nat) (hx : den (envU j d wh nx ad) x = some (.u8, m)) (hn : n ≤ 64) : den (envU j d wh nx ad) (shl (cU x) n) = some (.u64, IntKind.u64.wrap (IntKind.u64.wrap m * 2 ^ n)) := by
  unfold shl cU
  simp only [tokBin, tokConv, den, denA, denL, hx, int64, tokV]
  have hneg : ¬ ((n : Int) < 0) := by omega
  simp [nBin, intRun, IntKind.bits, Nat.min_eq_left hn, hneg]
theorem den_cI (j : Nat) (d wh nx ad : Int) (x : Value) (m : Int) (hx : den (envU j d wh nx ad) x = some (.u64, m)) : den (envU j d wh nx ad) (cI x) = some (.i64, IntKind.i64.wrap m) := by
  unfold cI
  simp only [tokConv, den, denA, denL, hx, tokV]
  simp
theorem den_g1 (j : Nat) (d wh nx ad : Int) : den (envU j d wh nx ad) get1 = some (.u64, g1 d) := den_or _ _ _ _ _ _ _ _ _ rfl (den_shl _ _ _ _ _ _ _ _ (den_by _ _ _ _ _ 0 (by omega)) (by omega))
theorem den_g4 (j : Nat) (d wh nx ad : Int) : den (envU j d wh nx ad) get4 = some (.u64, g4 d) :=
  den_or _ _ _ _ _ _ _ _ _ (den_or _ _ _ _ _ _ _ _ _ (den_or _ _ _ _ _ _ _ _ _ (den_or _ _ _ _ _ _ _ _ _ rfl (den_shl _ _ _ _ _ _ _ _ (den_by _ _ _ _ _ 0 (by omega)) (by omega))) (den_shl _ _ _ _ _ _ _ _ (den_by _ _ _ _ _ 1 (by omega)) (by omega))) (den_shl _ _ _ _ _ _ _ _ (den_by _ _ _ _ _ 2 (by omega)) (by omega))) (den_shl _ _ _ _ _ _ _ _ (den_by _ _ _ _ _ 3 (by omega)) (by omega))
/-- A displacement's bounds. -/
def inD (d : Int) : Prop := -2147483648 ≤ d ∧ d ≤ 2147483647
theorem factsU_ok (j : Nat) (d wh nx ad : Int) (hd : inD d) : ∀ q ∈ factsU (decide (sg 56 d = d)) (decide (d = 0)), ∀ k x k' y, den (envU j d wh nx ad) q.2.1 = some (k, x) → den (envU j d wh nx ad) q.2.2.1 = some (k', y) → cmpRun q.1 x y = some q.2.2.2 := by
  have s8 := den_sgn j d wh nx ad dT d 8 rfl (by omega)
  have v8 := sg56 d
  obtain ⟨h1, h2⟩ := hd
  intro q hq k x k' y hx hy
  simp only [factsU, List.mem_cons, List.not_mem_nil, or_false] at hq
  rcases hq with rfl | rfl | rfl | rfl | rfl | rfl
  · rw [den_dT] at hx; cases hx; cases hy
    simp [cmpRun]; omega
  · rw [den_dT] at hx; cases hx; cases hy
    simp [cmpRun]; omega
  · rw [s8] at hx; cases hx; rw [den_dT] at hy; cases hy
    rfl
  · rw [den_dT] at hx; cases hx; cases hy
    rfl
  · rw [s8] at hx; cases hx; cases hy
    have : sg (64 - 8) d = sg 56 d := rfl
    simp [cmpRun, this, v8]; omega
  · rw [s8] at hx; cases hx; cases hy
    have : sg (64 - 8) d = sg 56 d := rfl
    simp [cmpRun, this, v8]; omega
theorem rewsU_ok (j : Nat) (d wh nx ad : Int) (hd : inD d) : ∀ q ∈ rewsU, ∀ k x, den (envU j d wh nx ad) q.1 = some (k, x) → den (envU j d wh nx ad) q.2 = some (k, x) ∧ (kindT q.2).isSome = true := by
  obtain ⟨h1, h2⟩ := hd
  intro q hq k x hx
  simp only [rewsU, List.mem_cons, List.not_mem_nil, or_false] at hq
  rcases hq with rfl | rfl | rfl
  · rw [den_sgn j d wh nx ad dT d 32 rfl (by omega)] at hx
    cases hx
    refine ⟨?_, rfl⟩
    rw [den_dT]
    have := sg32 d
    have e : sg (64 - 32) d = sg 32 d := rfl
    rw [e, this]
    congr 2; omega
  · rw [den_sgn j d wh nx ad (cI get4) _ 32 (den_cI _ _ _ _ _ _ _ (den_g4 _ _ _ _ _)) (by omega)] at hx
    cases hx
    refine ⟨?_, rfl⟩
    rw [den_dT]
    have e : ∀ z, sg (64 - 32) z = sg 32 z := fun _ => rfl
    rw [e, sg32, g4_val, IntKind.wrap_i64]
    congr 2; omega
  · rw [den_sgn j d wh nx ad (cI get1) _ 8 (den_cI _ _ _ _ _ _ _ (den_g1 _ _ _ _ _)) (by omega)] at hx
    cases hx
    refine ⟨?_, rfl⟩
    rw [den_sgn j d wh nx ad dT d 8 rfl (by omega)]
    have e : ∀ z, sg (64 - 8) z = sg 56 z := fun _ => rfl
    rw [e, e, sg56, sg56, g1_val, IntKind.wrap_i64]
    congr 2; omega
/-- All that is known in a case. -/
structure EnvU where
  j : Nat
  d : Int
  wh : Int
  nx : Int
  ad : Int
  hid : Option (Addr × Nat × Nat)
  hd : inD d
@[reducible] def EnvU.r (e : EnvU) : TokR := { env := envU e.j e.d e.wh e.nx e.ad, hid := e.hid }
def EnvU.b8 (e : EnvU) : Bool := decide (sg 56 e.d = e.d)
def EnvU.b0 (e : EnvU) : Bool := decide (e.d = 0)
@[reducible] def EnvU.t (e : EnvU) (b8 b0 : Bool) (h8 : e.b8 = b8) (h0 : e.b0 = b0) : TokE := { toTokD := tdU b8 b0, toTokR := e.r, factsOk := by subst h8; subst h0; exact factsU_ok _ _ _ _ _ e.hd, rewsOk := rewsU_ok _ _ _ _ _ e.hd }
end
end Go.Ev.Tw
namespace Go.Ev.Tw
open Go.Proofs Go.RowKit
noncomputable section
set_option maxRecDepth 1000000
variable [TokE]
def lookV (l : List (Value × Value)) (v : Value) : Option Value := List.rec (motive := fun _ => Option Value) none (fun q _ ih => pick2 (eqT q.1 v) (some q.2) ih) l
theorem lookV_mem {v y : Value} : ∀ {l : List (Value × Value)}, lookV l v = some y → ∃ q ∈ l, eqT q.1 v = true ∧ q.2 = y
  | [], h => by cases h
  | q :: l, h => by
    have h : pick2 (eqT q.1 v) (some q.2) (lookV l v) = some y := h
    rw [pick2_eq] at h
    split at h
    · rename_i he
      cases h
      exact ⟨q, List.mem_cons_self .., he, rfl⟩
    · obtain ⟨q', h1, h2⟩ := lookV_mem h
      exact ⟨q', List.mem_cons_of_mem _ h1, h2⟩
/-- The answers, lane by lane. -/
def laneAns : Bool → List Value → Option Value
  | true, ys => some (vecR .i64 ys)
  | false, ys => match laneB ys with
    | some b => some (.bool b)
    | none => none
def laneM (f : FuncId) (int : Bool) (l : List (Value × Value)) : Memo := fun g a _ => pick2 (Nat.beq g f) (match a with
  | [x] => match lanesT x with
    | some xs => match mapL (lookV l) xs with
      | some ys => match laneAns int ys with
        | some v => some (v, [])
        | none => none
      | none => none
    | none => none
  | _ => none) none
def isI64 : Value → Bool
  | .int .i64 _ => true
  | _ => false
theorem lane_memo {P : Program} {GR : List Blk} {f : FuncId} {int : Bool} {l : List (Value × Value)} (hall : ∀ q ∈ l, (∃ k m, q.1 = .int k m) ∧ (int = true → isI64 q.2 = true) ∧ Told P GR f [q.1] q.2 []) : MemoOk P GR (laneM f int l) := by
  intro g a H v rows hm c hcP ρ w args' hr he hl
  unfold laneM at hm
  rw [pick2_eq] at hm
  split at hm
  case isFalse => cases hm
  rename_i hg
  have hg := beqN hg
  subst hg
  split at hm
  case h_2 => cases hm
  rename_i x
  split at hm
  case h_2 => cases hm
  rename_i xs hxs
  split at hm
  case h_2 => cases hm
  rename_i ys hys
  split at hm
  case h_2 => cases hm
  rename_i v0 hv0
  cases hm
  obtain ⟨x', t1, rfl, hx, hnil⟩ := LR.uncons hl
  have := LR.unnil hnil
  subst this
  have hnum : ∃ k n, x' = .int k n ∧ den TokR.env x = some (k, n) := by
    obtain ⟨u, rfl⟩ := lanesT_spec hxs
    cases hx with
    | tok _ _ _ k n h => exact ⟨k, n, rfl, h⟩
    | func fn a a' b b' sa ha sb hb hy => cases hy
  obtain ⟨k, n, rfl, hd⟩ := hnum
  obtain ⟨a, ha, da⟩ := lanes_den hxs hd
  obtain ⟨y, hy, hyl⟩ := mapL_get hys ha
  obtain ⟨q, hq, he1, rfl⟩ := lookV_mem hy
  obtain ⟨⟨k1, m1, e1⟩, hi, ht⟩ := hall q hq
  have hd1 := eqT_den (env := TokR.env) _ _ he1
  rw [e1, da] at hd1
  simp only [den, Option.some.injEq, Prod.mk.injEq] at hd1
  rw [e1, hd1.1, hd1.2] at ht
  refine (ht w hr).mono ?_
  rintro e w' ⟨ρ1, v', M, rfl, hv, hs, hg2, hM⟩
  refine ⟨ρ1, v', M, rfl, ?_, hs, hg2, hM⟩
  cases int with
  | true =>
    cases hv0
    have hi := hi rfl
    cases h2 : q.2 with
    | int k2 z =>
      rw [h2] at hv hyl hi
      cases hv
      cases k2 <;> first | (cases hi; done) | skip
      refine rel_num (vecR_kind fun u hu => ?_) (vecR_den hyl rfl)
      obtain ⟨a0, ha0⟩ := mapL_all hys (List.mem_of_getElem? hu)
      obtain ⟨q0, hq0, _, rfl⟩ := lookV_mem ha0
      have := (hall q0 hq0).2.1 rfl
      cases h3 : q0.2 with
      | int => rfl
      | _ => rw [h3] at this; cases this
    | _ => rw [h2] at hi; cases hi
  | false =>
    unfold laneAns at hv0
    simp only [] at hv0
    split at hv0
    case h_2 => cases hv0
    rename_i b hb
    cases hv0
    have := laneB_get hb hyl
    rw [this] at hv
    cases hv
    exact .bool _
/-- A scale that is no 1. -/
def tabSc : List (Value × Value) := [(int64 2, .bool true), (int64 4, .bool true), (int64 8, .bool true)]
def tabTz : List (Value × Value) := [(.int .u8 2, int64 1), (.int .u8 4, int64 2), (.int .u8 8, int64 3)]
theorem sc_memo (GR : List Blk) : MemoOk Tryz.prog GR (laneM 14 false tabSc) := lane_memo fun p hp => by
  simp only [tabSc, List.mem_cons, List.not_mem_nil, or_false] at hp
  rcases hp with rfl | rfl | rfl
  all_goals exact ⟨⟨_, _, rfl⟩, (fun h => by cases h), told_of0 (rounds := 100) (k := 20) no_own mixed noKnown_ok.any (noMemo_ok _ _) noD_ok (by rfl) (by rfl) (fun h => by cases h) (n := 0) (lit := 0) (base := 65536) (by kernel_rfl)⟩
theorem tz_memo (GR : List Blk) : MemoOk Tryz.prog GR (laneM 423 true tabTz) := lane_memo fun p hp => by
  simp only [tabTz, List.mem_cons, List.not_mem_nil, or_false] at hp
  rcases hp with rfl | rfl | rfl
  all_goals exact ⟨⟨_, _, rfl⟩, fun _ => rfl, told_of0 (rounds := 100) (k := 20) no_own mixed noKnown_ok.any (noMemo_ok _ _) noD_ok (by rfl) (by rfl) (fun h => by cases h) (n := 0) (lit := 0) (base := 65536) (by kernel_rfl)⟩
end
end Go.Ev.Tw
namespace Go.Ev.Tw
open Go.Proofs Go.RowKit
noncomputable section
set_option maxRecDepth 1000000
/-- Base, index, scale: their classes, in each case their numbers. -/
structure Sh where
  bc : Nat
  B : List Nat
  ic : Nat
  I : List Nat
  S : List Nat
def mapN {α β : Type} (f : α → β) (l : List α) : List β := List.rec (motive := fun _ => List β) [] (fun a _ ih => f a :: ih) l
def appN {α : Type} (l m : List α) : List α := List.rec (motive := fun _ => List α) m (fun a _ ih => a :: ih) l
def bindN {α β : Type} (l : List α) (f : α → List β) : List β := List.rec (motive := fun _ => List β) [] (fun a _ ih => appN (f a) ih) l
/-- The cases, one by one. -/
def Sh.lanes {α : Type} (s : Sh) (f : Nat → Nat → Nat → α) : List α := bindN s.B fun b => bindN s.I fun i => mapN (f b i) s.S
def vI (l : List Nat) : Value := vecR .i64 (mapN int64 l)
def vB (l : List Nat) : Value := vecR .u8 (mapN u8 l)
/-- A place of this shape. -/
def Sh.mv (s : Sh) (disp : Value) : List Value := [int64 s.bc, vI (s.lanes fun b _ _ => b), int64 s.ic, vI (s.lanes fun _ i _ => i), vI (s.lanes fun _ _ c => c), disp, int64 0]
def isOne (l : List Nat) (n : Nat) : Bool := match l with
  | [a] => Nat.beq a n
  | _ => false
/-- The canon of a place. -/
def Sh.canon (s : Sh) : Sh := pick2 (!Nat.beq s.ic 0 && isOne s.S 1) (pick2 (Nat.beq s.bc 0) ⟨5, s.I, 0, [0], [0]⟩ (pick2 (isOne s.I 4) ⟨5, [4], 5, s.B, [1]⟩ s)) s
/-- How it is laid: the bits X and B, the byte of ModRM, a SIB, how many bytes the displacement has. -/
structure Enc where
  x : Nat
  b : Nat
  mr : Value
  sib : Option Value
  nd : Nat
  back : Sh
  can : Bool
def hd0 (l : List Nat) : Nat := match l with
  | a :: _ => a
  | [] => 0
def hi (l : List Nat) : Nat := Nat.div (hd0 l) 8
def lowIs (l : List Nat) (n : Nat) : Bool := Nat.beq (Nat.mod (hd0 l) 8) n && List.rec (motive := fun _ => Bool) true (fun a _ ih => Nat.beq (Nat.mod a 8) n && ih) l
def scN (c : Nat) : Nat := pick2 (Nat.beq c 8) 3 (pick2 (Nat.beq c 4) 2 (pick2 (Nat.beq c 2) 1 0))
def Sh.sib (s : Sh) (f : Nat → Nat → Nat → Nat) : Value := vB (s.lanes f)
def Sh.spread (s : Sh) (b8 b0 : Bool) (rm : Option Nat) (sib : Option Value) (back : Sh) : List Enc :=
  (fun m : Nat → Value => appN (pick2 (b0 && !lowIs s.B 5) [⟨hi s.I, hi s.B, m 0, sib, 0, back, false⟩] []) (appN (pick2 b8 [⟨hi s.I, hi s.B, m 64, sib, 1, back, false⟩] []) [⟨hi s.I, hi s.B, m 128, sib, 4, back, false⟩]))
    (fun mod => match rm with
      | some r => u8 (Nat.add mod r)
      | none => vB (s.lanes fun b _ _ => Nat.add mod (Nat.mod b 8)))
def Sh.encs (s : Sh) (b8 b0 : Bool) : List Enc :=
  pick2 (Nat.beq s.bc 8) [⟨0, 0, u8 5, none, 4, s, false⟩]
    (pick2 (Nat.beq s.bc 0) [pick2 (Nat.beq s.ic 0) ⟨0, 0, u8 4, some (u8 37), 4, s, false⟩ ⟨hi s.I, 0, u8 4, some (s.sib fun _ i c => Nat.add (Nat.add (Nat.mul 64 (scN c)) (Nat.mul 8 (Nat.mod i 8))) 5), 4, s, false⟩]
      (pick2 (!Nat.beq s.ic 0) (s.spread b8 b0 (some 4) (some (s.sib fun b i c => Nat.add (Nat.add (Nat.mul 64 (scN c)) (Nat.mul 8 (Nat.mod i 8))) (Nat.mod b 8))) s)
        (appN (pick2 (lowIs s.B 4) [] (s.spread b8 b0 none none s)) (appN (s.spread b8 b0 (some 4) (some (s.sib fun b _ _ => Nat.add 32 (Nat.mod b 8))) s)
          (pick2 (isOne s.B 4) [] [⟨hi s.B, 0, u8 4, some (s.sib fun b _ _ => Nat.add (Nat.mul 8 (Nat.mod b 8)) 5), 4, s, true⟩])))))
def dispB (nd : Nat) : List Value := pick2 (Nat.beq nd 0) [] (pick2 (Nat.beq nd 1) [byT 0] [byT 0, byT 1, byT 2, byT 3])
def Enc.bytes (e : Enc) : List Value := u8 (Nat.add 72 (Nat.add (Nat.mul 2 e.x) e.b)) :: u8 141 :: e.mr :: appN (match e.sib with
  | some v => [v]
  | none => []) (dispB e.nd)
def Enc.disp (e : Enc) : Value := pick2 (Nat.beq e.nd 0) (int64 0) (pick2 (Nat.beq e.nd 1) (sgn dT 8) dT)
/-- The row of operands. -/
def argsRow (fx : Bool) (m : List Value) : Blk := ⟨int64 1 :: int64 5 :: int64 0 :: int64 0 :: int64 0 :: int64 0 :: int64 0 :: int64 0 :: int64 0 :: int64 0 :: int64 0 :: int64 2 :: int64 0 :: int64 0 :: appN m [int64 0], 31, true, fx⟩
def leaV : Value := .agg ⟨[int64 12, sl 0 2 2]⟩
def allRows (l : List Enc) : List Blk := appN (mapN (fun e => (⟨e.bytes, 5, true, false⟩ : Blk)) l)
  [⟨(List.rec (motive := fun _ => Nat → List Value) (fun _ => []) (fun e _ go k => (fun n => sl k n n :: int64 2 :: int64 e.nd :: go (Nat.add k 1)) (lenL e.bytes)) l) 0, 42, true, false⟩]
def allVal (l : List Enc) : Value := (fun n => .tuple ⟨[sl n n n, int64 0]⟩) (List.rec (motive := fun _ => Nat) 0 (fun _ _ n => Nat.add n 1) l)
def decRows (e : Enc) : List Blk := [argsRow false (e.back.mv e.disp)]
def decVal (e : Enc) : Value := .tuple ⟨[leaV, int64 (lenL e.bytes), int64 0]⟩
/-- A row of slices' own rows, and it; or one row: by which numbers a run has them. -/
def litL (l : List Nat) : Nat := List.rec (motive := fun _ => Nat) 0 (fun a _ ih => Nat.add a (Nat.mul 65536 ih)) l
def refsOf (H : Mem) (u : Value) : List Nat := match refsV u [] with
  | [k] => match H.get k with
    | some b => appN (refsL b.cells []) [k]
    | none => []
  | _ => []
def oneOf : Value → Value
  | .tuple ⟨a :: _⟩ => a
  | v => v
/-- A run's result, held against what is told. -/
def packX (L : Nat) (r : Option (Value × Mem)) (v : Value) (rows : List Blk) : Bool := match r with
  | some (u, H) => (fun l => packB L r v rows (lenL (mapN (fun _ => int64 0) l)) (litL l) 65536) (refsOf H (oneOf u))
  | none => false
theorem packX_spec {L : Nat} {r : Option (Value × Mem)} {v : Value} {rows : List Blk} (h : packX L r v rows = true) : ∃ n lit, packB L r v rows n lit 65536 = true := by
  unfold packX at h
  split at h
  · exact ⟨_, _, h⟩
  · cases h
end
end Go.Ev.Tw
