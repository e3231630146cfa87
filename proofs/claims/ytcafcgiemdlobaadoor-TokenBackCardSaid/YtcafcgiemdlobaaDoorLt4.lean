/- Literals: a text's literal. -/
import Derived.Test.YtcafcgiemdlobaaDoorLt3
namespace Go.Proofs.YtcafcgiemdlobaaDoor.lt
open Go.Tv Go.Ev

def pT : List Bool := [true, true, false, true, false]
noncomputable def anT : FnAnn := ⟨annOf [0, 1, 6, 7, 8] pT, .none, []⟩
noncomputable def stT (s : List UInt8) (at' n i : Int) : TFr := frOf 67 [(0, .str s), (1, .int .i64 at'), (6, .ptr 0 0), (7, .int .u64 n), (8, .int .i64 i)]
noncomputable def mT : TMem := memOf [.cells 27 [.int .i64 0, .int .i64 0]]
noncomputable def jT (gv : Nat → List AV) (s : List UInt8) (at' : Int) (r m : Nat) (n i : Int) : Option AV := loopN (Xg gv) (c0 gv AV) anT r 42 pT (fun v _ => some v) m (stT s at' n i) mT

/-- A number, where it ends, a fault. -/
def outT (n e f a : Int) : Option AV := some (.tup [.int .i64 n, .int .i64 e, .agg [.int .i64 f, .int .i64 a]])
noncomputable def cntT (at' i : Int) : Int := IntKind.wrap .i64 (IntKind.wrap .i64 (i - at') - 1)
noncomputable def orT (n c k : Int) : Int := IntKind.wrap .u64 ↑(BitVec.toNat (BitVec.ofInt 64 n ||| BitVec.ofInt 64 (IntKind.wrap .u64 (IntKind.wrap .u64 c * 2 ^ (min (Int.toNat (IntKind.wrap .i64 (8 * k))) 64)))))
noncomputable def restT (at' n i : Int) (c : UInt8) (go : Int → Int → Option AV) : Option AV :=
  pick2 (eqI (u8I c) 39) (outT (IntKind.wrap .i64 n) (IntKind.wrap .i64 (i + 1)) 0 0)
    (pick2 (ltI (u8I c) 32) (outT 0 0 4 i) (pick2 (ltI 126 (u8I c)) (outT 0 0 4 i) (pick2 (eqI (cntT at' i) 8) (outT 0 0 3 i)
      (pick2 (ltI (IntKind.wrap .i64 (8 * cntT at' i)) 0) none (go (orT n (u8I c) (cntT at' i)) (IntKind.wrap .i64 (i + 1)))))))
noncomputable def treeT (s : List UInt8) (at' n i : Int) (go : Int → Int → Option AV) : Option AV :=
  pick2 (ltI i ↑s.length)
    (Option.rec (motive := fun _ => Option AV) none (fun c => pick2 (eqI (u8I c) 39) (pick2 (eqI (cntT at' i) 0) (outT 0 0 4 i) (restT at' n i c go)) (restT at' n i c go)) (getI s i))
    (outT 0 0 4 ↑s.length)
theorem stepT' (gv : Nat → List AV) (s : List UInt8) (at' : Int) (r m : Nat) (n i : Int) : jT gv s at' r (m + 1) n i = treeT s at' n i (jT gv s at' r m) := by kernel_rfl
theorem enterT' (gv : Nat → List AV) (s : List UInt8) (at' : Int) (m : Nat) : enterT (Xg gv) (c0 gv AV) anT m 42 [.str s, .int .i64 at'] TMem.empty (fun v _ => some v) = jT gv s at' m m 0 (IntKind.wrap .i64 (at' + 1)) := by kernel_rfl

/-- What a text's literal comes to: what is left, how many bytes were read, their number, the place. -/
def textL (len : Nat) : List UInt8 → Nat → Nat → Nat → Int × Int × Int × Int
  | [], _, _, _ => (0, 0, 4, len)
  | c :: r, k, N, i =>
    if u8I c = 39 then (if k = 0 then (0, 0, 4, i) else (IntKind.wrap .i64 N, i + 1, 0, 0))
    else if u8I c < 32 ∨ 126 < u8I c then (0, 0, 4, i) else if k = 8 then (0, 0, 3, i) else textL len r (k + 1) (N + c.toNat * 256 ^ k) (i + 1)

theorem or_sum {N k : Nat} {c : UInt8} (hk : k < 8) (hN : N < 256 ^ k) : orT N (u8I c) k = ((N + c.toNat * 256 ^ k : Nat) : Int) ∧ N + c.toNat * 256 ^ k < 256 ^ (k + 1) := by
  have hc := c.toNat_lt
  have hlt : N + c.toNat * 256 ^ k < 256 ^ (k + 1) := by
    rw [Nat.pow_succ, Nat.mul_comm (256 ^ k) 256]
    have : c.toNat * 256 ^ k ≤ 255 * 256 ^ k := Nat.mul_le_mul_right _ (by omega)
    omega
  have h64 : 256 ^ (k + 1) ≤ 2 ^ 64 := by
    have : 256 ^ (k + 1) ≤ 256 ^ 8 := Nat.pow_le_pow_right (by omega) (by omega)
    exact this
  have hpow : (2 : Nat) ^ (8 * k) = 256 ^ k := by rw [Nat.pow_mul]
  have hpos : 0 < 256 ^ k := Nat.pow_pos (by omega)
  have hle : c.toNat * 256 ^ k < 2 ^ 64 := by omega
  have hN64 : N < 2 ^ 64 := by omega
  refine ⟨?_, hlt⟩
  unfold orT
  rw [i64_in (by omega) (by omega)]
  have e1 : min (Int.toNat (8 * (k : Int))) 64 = 8 * k := by omega
  rw [e1]
  have e2 : IntKind.wrap .u64 (u8I c) = (c.toNat : Int) := u64_in (u8I_nn c) (by have := u8I_lt c; omega)
  rw [e2]
  have e3 : (c.toNat : Int) * 2 ^ (8 * k) = ((c.toNat * 256 ^ k : Nat) : Int) := by
    rw [Int.natCast_mul, ← hpow, Int.natCast_pow]; rfl
  rw [e3, u64_in (n := ((c.toNat * 256 ^ k : Nat) : Int)) (by omega) (by omega), BitVec.toNat_or, BitVec.ofInt_natCast, BitVec.ofInt_natCast, BitVec.toNat_ofNat, BitVec.toNat_ofNat, Nat.mod_eq_of_lt hN64, Nat.mod_eq_of_lt hle]
  have e4 : N ||| c.toNat * 256 ^ k = N + c.toNat * 256 ^ k := by
    have h := Nat.shiftLeft_add_eq_or_of_lt (b := N) (i := 8 * k) (by rw [hpow]; exact hN) c.toNat
    rw [Nat.shiftLeft_eq, hpow] at h
    rw [Nat.or_comm, ← h, Nat.add_comm]
  rw [e4, u64_in (by omega) (by omega)]

theorem loopText (gv : Nat → List AV) (s : List UInt8) (hs : s.length < 1000000) (a r : Nat) : ∀ (rest pre : List UInt8) (m k N : Nat), s = pre ++ rest → rest.length < m → pre.length = a + 1 + k → k ≤ 8 → N < 256 ^ k →
    jT gv s a r m N pre.length = outT (textL s.length rest k N pre.length).1 (textL s.length rest k N pre.length).2.1 (textL s.length rest k N pre.length).2.2.1 (textL s.length rest k N pre.length).2.2.2 := by
  intro rest
  induction rest with
  | nil =>
    intro pre m k N he hm hp hk hN
    obtain ⟨m, rfl⟩ : ∃ m', m = m' + 1 := ⟨m - 1, by simp at hm; omega⟩
    rw [stepT']
    unfold treeT
    have hl : s.length = pre.length := by rw [he]; simp
    rw [ltF (by omega)]
    rfl
  | cons c rest ih =>
    intro pre m k N he hm hp hk hN
    obtain ⟨m, rfl⟩ : ∃ m', m = m' + 1 := ⟨m - 1, by simp at hm; omega⟩
    have hl : s.length = pre.length + (rest.length + 1) := by rw [he]; simp
    have hg : getI s (pre.length : Int) = some c := by rw [he]; exact getI_at pre rest c
    have hnext : IntKind.wrap .i64 ((pre.length : Int) + 1) = ((pre ++ [c]).length : Int) := by rw [i64_in (by omega) (by omega)]; simp
    have hcnt : cntT (a : Int) (pre.length : Int) = (k : Int) := by
      unfold cntT
      rw [i64_in (n := (pre.length : Int) - a) (by omega) (by omega), i64_in (by omega) (by omega)]; omega
    rw [stepT']
    unfold treeT
    rw [ltT (by omega), hg, hcnt]
    show pick2 (eqI (u8I c) 39) _ _ = _
    have hw : textL s.length (c :: rest) k N pre.length = if u8I c = 39 then (if k = 0 then (0, 0, 4, (pre.length : Int)) else (IntKind.wrap .i64 N, (pre.length : Int) + 1, 0, 0))
      else if u8I c < 32 ∨ 126 < u8I c then (0, 0, 4, (pre.length : Int)) else if k = 8 then (0, 0, 3, (pre.length : Int)) else textL s.length rest (k + 1) (N + c.toNat * 256 ^ k) (pre.length + 1) := by
      rw [textL]
    rw [hw]
    unfold restT
    rw [hcnt, hnext]
    by_cases hc : u8I c = 39
    · rw [eqT hc, if_pos hc]
      show pick2 (eqI (k : Int) 0) _ _ = _
      by_cases hk0 : k = 0
      · rw [eqT (by omega), if_pos hk0]
      · rw [eqF (by omega), if_neg hk0]
        show outT _ ((pre ++ [c]).length : Int) 0 0 = _
        rw [List.length_append, List.length_singleton]; rfl
    · rw [eqF hc, if_neg hc]
      show pick2 (ltI (u8I c) 32) _ _ = _
      by_cases h32 : u8I c < 32
      · rw [ltT h32, if_pos (.inl h32)]
      · rw [ltF (by omega)]
        show pick2 (ltI 126 (u8I c)) _ _ = _
        by_cases h126 : 126 < u8I c
        · rw [ltT h126, if_pos (.inr h126)]
        · rw [ltF (by omega), if_neg (by omega)]
          show pick2 (eqI (k : Int) 8) _ _ = _
          by_cases hk8 : k = 8
          · rw [eqT (by omega), if_pos hk8]
          · rw [eqF (by omega), if_neg hk8]
            show pick2 (ltI (IntKind.wrap .i64 (8 * (k : Int))) 0) none _ = _
            rw [i64_in (by omega) (by omega), ltF (by omega)]
            obtain ⟨o1, o2⟩ := or_sum (c := c) (show k < 8 by omega) hN
            show jT gv s a r m (orT N (u8I c) k) ((pre ++ [c]).length : Int) = _
            rw [o1, ih (pre ++ [c]) m (k + 1) (N + c.toNat * 256 ^ k) (by rw [he]; simp) (by simp at hm; omega) (by simp; omega) (by omega) o2, List.length_append, List.length_singleton]

/-- What stands behind the quote at a place. -/
def textS (s : List UInt8) (a : Nat) : Int × Int × Int × Int := textL s.length (s.drop (a + 1)) 0 0 (a + 1)
theorem runText (gv : Nat → List AV) (s : List UInt8) (hs : s.length < 1000000) (a : Nat) (ha : a < s.length) :
    enterT (Xg gv) (c0 gv AV) anT (s.length + 1) 42 [.str s, .int .i64 a] TMem.empty (fun v _ => some v) = outT (textS s a).1 (textS s a).2.1 (textS s a).2.2.1 (textS s a).2.2.2 := by
  rw [enterT', i64_in (by omega) (by omega)]
  have hl : (s.take (a + 1)).length = a + 1 := by simp; omega
  have := loopText gv s hs a (s.length + 1) (s.drop (a + 1)) (s.take (a + 1)) (s.length + 1) 0 0 (by simp) (by simp; omega) (by omega) (by omega) (by simp)
  rw [hl] at this
  exact this

noncomputable def gText (args : List AV) : Option (Bool × List PRes) :=
  match args with
  | [.str s, .int .i64 a] => some (!ltI a 0 && ltI a ↑s.length && Nat.ble s.length 999999, [.val (.int .i64 (textS s a.toNat).1), .val (.int .i64 (textS s a.toNat).2.1), .val (.agg [.int .i64 (textS s a.toNat).2.2.1, .int .i64 (textS s a.toNat).2.2.2])])
  | _ => none
theorem con42 (gv : Nat → List AV) : ConOk (Xg gv) (cfOf (Xg gv) noKnown) 42 gText :=
  con_vals (nk 42) (c0_ok gv) fun args rs hg => by
    unfold gText at hg
    split at hg
    · rename_i s a
      simp only [Option.some.injEq, Prod.mk.injEq, Bool.and_eq_true, ltI_spec, Bool.not_eq_true', decide_eq_false_iff_not, decide_eq_true_eq, Nat.ble_eq] at hg
      obtain ⟨⟨⟨h1, h2⟩, h3⟩, rfl⟩ := hg
      obtain ⟨n, rfl⟩ : ∃ n : Nat, a = n := ⟨a.toNat, by omega⟩
      rw [Int.toNat_natCast]
      exact ⟨[.int .i64 (textS s n).1, .int .i64 (textS s n).2.1, .agg [.int .i64 (textS s n).2.2.1, .int .i64 (textS s n).2.2.2]], anT, s.length + 1, runText gv s (by omega) n (by omega), rfl, rfl⟩
    · cases hg

noncomputable def L2 : List Con := (42, [none, none], gText) :: (44, [none], gParts) :: (45, [none, none], gDigits) :: L1
theorem L2_ok (gv : Nat → List AV) : TabOk (Xg gv) (cfOf (Xg gv) noKnown) L2 := .cons (con42 gv) (.cons (con44 gv) (.cons (con45 gv) (L1_ok gv)))
noncomputable def c2 (gv : Nat → List AV) (β : Type) : CallT β := callT (Xg gv) (tab L2) inl 200 β 20
theorem c2_ok (gv : Nat → List AV) (β : Type) : CallTOk (Xg gv) (cfOf (Xg gv) noKnown) (c2 gv β) := callT_ok (L2_ok gv) (fun _ _ _ => rfl) 200 20 β
def pS : List Bool := [true, true, true, true, true, false, false]
noncomputable def anS : FnAnn := ⟨annOf [0, 1, 6, 7] pS, .none, []⟩
noncomputable def stS (s : List UInt8) (at' e : Int) : TFr := frOf 102 [(0, .str s), (1, .int .i64 at'), (6, .ptr 0 0), (7, .int .i64 e)]
end Go.Proofs.YtcafcgiemdlobaaDoor.lt
