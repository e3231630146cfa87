/- Literals, by the document: a text's literal. -/
import Derived.Test.YtcafcgiemdlobaaDoorLr2
namespace Go.Proofs.YtcafcgiemdlobaaDoor.lt
open Go.Tv Go.Ev

noncomputable def jR (gv : Nat → List AV) (s : List UInt8) (a : Int) (r m : Nat) (n i : Int) : Option AV := loopN (Xg gv) (c4 gv AV) anR r 46 pR (fun v _ => some v) m (stR s a n i) mT
noncomputable def orR (n c k : Int) : Int := IntKind.wrap .i64 ↑(BitVec.toNat (BitVec.ofInt 64 n ||| BitVec.ofInt 64 (IntKind.wrap .i64 (IntKind.wrap .i64 c * 2 ^ (min (Int.toNat (IntKind.wrap .i64 (8 * k))) 64)))))
noncomputable def atK (s : List UInt8) (i : Int) (k : UInt8 → Option AV) : Option AV := Option.rec (motive := fun _ => Option AV) none k (getI s i)
noncomputable def restR (s : List UInt8) (a n i : Int) (go : Int → Int → Option AV) : Option AV :=
  atK s i fun c => pick2 (eqI (u8I c) 39) (outT n (IntKind.wrap .i64 (i + 1)) 0 0)
    (atK s i fun c => pick2 (ltI (u8I c) 32) (outT 0 0 4 i) (atK s i fun c => pick2 (ltI 126 (u8I c)) (outT 0 0 4 i) (pick2 (eqI (cntT a i) 8) (outT 0 0 3 i)
      (atK s i fun c => pick2 (ltI (IntKind.wrap .i64 (8 * cntT a i)) 0) none (go (orR n (u8I c) (cntT a i)) (IntKind.wrap .i64 (i + 1)))))))
noncomputable def treeR (s : List UInt8) (a n i : Int) (go : Int → Int → Option AV) : Option AV :=
  pick2 (ltI i ↑s.length) (atK s i fun c => pick2 (eqI (u8I c) 39) (pick2 (eqI (cntT a i) 0) (outT 0 0 4 i) (restR s a n i go)) (restR s a n i go)) (outT 0 0 4 ↑s.length)
theorem stepR (gv : Nat → List AV) (s : List UInt8) (a : Int) (r m : Nat) (n i : Int) : jR gv s a r (m + 1) n i = treeR s a n i (jR gv s a r m) := by kernel_rfl
theorem enterR (gv : Nat → List AV) (s : List UInt8) (a : Int) (m : Nat) : enterT (Xg gv) (c4 gv AV) anR m 46 [.str s, .int .i64 a] TMem.empty (fun v _ => some v) = jR gv s a m m 0 (IntKind.wrap .i64 (a + 1)) := by kernel_rfl

theorem or_sumR {N k : Nat} {c : UInt8} (hk : k < 8) (hN : 2 * N < 256 ^ k) (hc : u8I c ≤ 126) : orR N (u8I c) k = ((N + c.toNat * 256 ^ k : Nat) : Int) ∧ 2 * (N + c.toNat * 256 ^ k) < 256 ^ (k + 1) := by
  have hc : c.toNat ≤ 126 := by unfold u8I at hc; simp at hc; omega
  have hlt : 2 * (N + c.toNat * 256 ^ k) < 256 ^ (k + 1) := by
    rw [Nat.pow_succ, Nat.mul_comm (256 ^ k) 256]
    have : c.toNat * 256 ^ k ≤ 126 * 256 ^ k := Nat.mul_le_mul_right _ (by omega)
    omega
  have h64 : 256 ^ (k + 1) ≤ 2 ^ 64 := by
    have : 256 ^ (k + 1) ≤ 256 ^ 8 := Nat.pow_le_pow_right (by omega) (by omega)
    exact this
  have hpow : (2 : Nat) ^ (8 * k) = 256 ^ k := by rw [Nat.pow_mul]
  have hpos : 0 < 256 ^ k := Nat.pow_pos (by omega)
  have hle : c.toNat * 256 ^ k < 2 ^ 63 := by omega
  have hN64 : N < 2 ^ 63 := by omega
  refine ⟨?_, hlt⟩
  unfold orR
  rw [i64_in (n := 8 * (k : Int)) (by omega) (by omega)]
  have e1 : min (Int.toNat (8 * (k : Int))) 64 = 8 * k := by omega
  rw [e1]
  have e2 : IntKind.wrap .i64 (u8I c) = (c.toNat : Int) := i64_in (by have := u8I_nn c; omega) (by have := u8I_lt c; omega)
  rw [e2]
  have e3 : (c.toNat : Int) * 2 ^ (8 * k) = ((c.toNat * 256 ^ k : Nat) : Int) := by
    rw [Int.natCast_mul, ← hpow, Int.natCast_pow]; rfl
  rw [e3, i64_in (n := ((c.toNat * 256 ^ k : Nat) : Int)) (by omega) (by omega), BitVec.toNat_or, BitVec.ofInt_natCast, BitVec.ofInt_natCast, BitVec.toNat_ofNat, BitVec.toNat_ofNat, Nat.mod_eq_of_lt (show N < 2 ^ 64 by omega), Nat.mod_eq_of_lt (show c.toNat * 256 ^ k < 2 ^ 64 by omega)]
  have e4 : N ||| c.toNat * 256 ^ k = N + c.toNat * 256 ^ k := by
    have h := Nat.shiftLeft_add_eq_or_of_lt (b := N) (i := 8 * k) (by rw [hpow]; omega) c.toNat
    rw [Nat.shiftLeft_eq, hpow] at h
    rw [Nat.or_comm, ← h, Nat.add_comm]
  rw [e4, i64_in (by omega) (by omega)]

theorem loopR (gv : Nat → List AV) (s : List UInt8) (hs : s.length < 1000000) (a r : Nat) : ∀ (rest pre : List UInt8) (m k N : Nat), s = pre ++ rest → rest.length < m → pre.length = a + 1 + k → k ≤ 8 → 2 * N < 256 ^ k →
    jR gv s a r m N pre.length = outT (textL s.length rest k N pre.length).1 (textL s.length rest k N pre.length).2.1 (textL s.length rest k N pre.length).2.2.1 (textL s.length rest k N pre.length).2.2.2 := by
  intro rest
  induction rest with
  | nil =>
    intro pre m k N he hm hp hk hN
    obtain ⟨m, rfl⟩ : ∃ m', m = m' + 1 := ⟨m - 1, by simp at hm; omega⟩
    rw [stepR]
    unfold treeR
    have hl : s.length = pre.length := by rw [he]; simp
    rw [ltF (by omega)]
    rfl
  | cons c rest ih =>
    intro pre m k N he hm hp hk hN
    obtain ⟨m, rfl⟩ : ∃ m', m = m' + 1 := ⟨m - 1, by simp at hm; omega⟩
    have hl : s.length = pre.length + (rest.length + 1) := by rw [he]; simp
    have hg : getI s (pre.length : Int) = some c := by rw [he]; exact getI_at pre rest c
    have hnext : IntKind.wrap .i64 ((pre.length : Int) + 1) = ((pre ++ [c]).length : Int) := by rw [i64_in (by omega) (by omega)]; simp
    have hcnt : cntT (a : Int) (pre.length : Int) = (k : Int) := by
      unfold cntT
      rw [i64_in (n := (pre.length : Int) - a) (by omega) (by omega), i64_in (by omega) (by omega)]; omega
    have h8 : 256 ^ k ≤ 2 ^ 64 := by
      have : 256 ^ k ≤ 256 ^ 8 := Nat.pow_le_pow_right (by omega) (by omega)
      exact this
    rw [stepR]
    unfold treeR restR atK
    rw [ltT (by omega), hg, hcnt, hnext]
    show pick2 (eqI (u8I c) 39) (pick2 (eqI (k : Int) 0) _ (pick2 (eqI (u8I c) 39) _ (pick2 (ltI (u8I c) 32) _ (pick2 (ltI 126 (u8I c)) _ (pick2 (eqI (k : Int) 8) _ (pick2 (ltI (IntKind.wrap .i64 (8 * (k : Int))) 0) none (jR gv s a r m (orR N (u8I c) k) _))))))) (pick2 (eqI (u8I c) 39) _ (pick2 (ltI (u8I c) 32) _ (pick2 (ltI 126 (u8I c)) _ (pick2 (eqI (k : Int) 8) _ (pick2 (ltI (IntKind.wrap .i64 (8 * (k : Int))) 0) none (jR gv s a r m (orR N (u8I c) k) _)))))) = _
    have hw : textL s.length (c :: rest) k N pre.length = if u8I c = 39 then (if k = 0 then (0, 0, 4, (pre.length : Int)) else (IntKind.wrap .i64 N, (pre.length : Int) + 1, 0, 0))
      else if u8I c < 32 ∨ 126 < u8I c then (0, 0, 4, (pre.length : Int)) else if k = 8 then (0, 0, 3, (pre.length : Int)) else textL s.length rest (k + 1) (N + c.toNat * 256 ^ k) (pre.length + 1) := by
      rw [textL]
    rw [hw]
    by_cases hc : u8I c = 39
    · rw [eqT hc, if_pos hc]
      show pick2 (eqI (k : Int) 0) _ _ = _
      by_cases hk0 : k = 0
      · rw [eqT (by omega), if_pos hk0]
      · rw [eqF (by omega), if_neg hk0, i64_in (n := (N : Int)) (by omega) (by omega)]
        show outT _ ((pre ++ [c]).length : Int) 0 0 = _
        rw [List.length_append, List.length_singleton]; rfl
    · rw [eqF hc, if_neg hc]
      show pick2 (ltI (u8I c) 32) _ _ = _
      by_cases h32 : u8I c < 32
      · rw [ltT h32, if_pos (.inl h32)]
      · rw [ltF (by omega)]
        show pick2 (ltI 126 (u8I c)) _ _ = _
        by_cases h126 : 126 < u8I c
        · rw [ltT h126, if_pos (.inr h126)]
        · rw [ltF (by omega), if_neg (by omega)]
          show pick2 (eqI (k : Int) 8) _ _ = _
          by_cases hk8 : k = 8
          · rw [eqT (by omega), if_pos hk8]
          · rw [eqF (by omega), if_neg hk8]
            show pick2 (ltI (IntKind.wrap .i64 (8 * (k : Int))) 0) none _ = _
            rw [i64_in (by omega) (by omega), ltF (by omega)]
            obtain ⟨o1, o2⟩ := or_sumR (c := c) (show k < 8 by omega) hN (by omega)
            show jR gv s a r m (orR N (u8I c) k) ((pre ++ [c]).length : Int) = _
            rw [o1, ih (pre ++ [c]) m (k + 1) (N + c.toNat * 256 ^ k) (by rw [he]; simp) (by simp at hm; omega) (by simp; omega) (by omega) o2, List.length_append, List.length_singleton]

theorem runR (gv : Nat → List AV) (s : List UInt8) (hs : s.length < 1000000) (a : Nat) (ha : a < s.length) :
    enterT (Xg gv) (c4 gv AV) anR (s.length + 1) 46 [.str s, .int .i64 a] TMem.empty (fun v _ => some v) = outT (textS s a).1 (textS s a).2.1 (textS s a).2.2.1 (textS s a).2.2.2 := by
  rw [enterR, i64_in (by omega) (by omega)]
  have hl : (s.take (a + 1)).length = a + 1 := by simp; omega
  have := loopR gv s hs a (s.length + 1) (s.drop (a + 1)) (s.take (a + 1)) (s.length + 1) 0 0 (by simp) (by simp; omega) (by omega) (by omega) (by simp)
  rw [hl] at this
  exact this
theorem con46 (gv : Nat → List AV) : ConOk (Xg gv) (cfOf (Xg gv) noKnown) 46 gText :=
  con_vals (nk 46) (c4_ok gv) fun args rs hg => by
    unfold gText at hg
    split at hg
    · rename_i s a
      simp only [Option.some.injEq, Prod.mk.injEq, Bool.and_eq_true, ltI_spec, Bool.not_eq_true', decide_eq_false_iff_not, decide_eq_true_eq, Nat.ble_eq] at hg
      obtain ⟨⟨⟨h1, h2⟩, h3⟩, rfl⟩ := hg
      obtain ⟨n, rfl⟩ : ∃ n : Nat, a = n := ⟨a.toNat, by omega⟩
      rw [Int.toNat_natCast]
      exact ⟨[.int .i64 (textS s n).1, .int .i64 (textS s n).2.1, .agg [.int .i64 (textS s n).2.2.1, .int .i64 (textS s n).2.2.2]], anR, s.length + 1, runR gv s (by omega) n (by omega), rfl, rfl⟩
    · cases hg

noncomputable def L5 : List Con := (46, [none, none], gText) :: (49, [none], gNum) :: L4
theorem L5_ok (gv : Nat → List AV) : TabOk (Xg gv) (cfOf (Xg gv) noKnown) L5 := .cons (con46 gv) (.cons (con49 gv) (L4_ok gv))
noncomputable def c5 (gv : Nat → List AV) (β : Type) : CallT β := callT (Xg gv) (tab L5) inl 200 β 20
theorem c5_ok (gv : Nat → List AV) (β : Type) : CallTOk (Xg gv) (cfOf (Xg gv) noKnown) (c5 gv β) := callT_ok (L5_ok gv) (fun _ _ _ => rfl) 200 20 β
def pQ : List Bool := [true, true, true, false, false]
noncomputable def anQ : FnAnn := ⟨annOf [0, 1, 6, 7] pQ, .none, []⟩
end Go.Proofs.YtcafcgiemdlobaaDoor.lt
