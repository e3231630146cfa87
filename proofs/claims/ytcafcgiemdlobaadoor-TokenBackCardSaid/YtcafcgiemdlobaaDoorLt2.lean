/- Literals: digits. -/
import Derived.Test.YtcafcgiemdlobaaDoorLt
namespace Go.Proofs.YtcafcgiemdlobaaDoor.lt
open Go.Tv Go.Ev

noncomputable def L1 : List Con := [(43, [none], gWord), (64, [none], gDig), (65, [none, none], gMul)]
theorem L1_ok (gv : Nat → List AV) : TabOk (Xg gv) (cfOf (Xg gv) noKnown) L1 := .cons (con43 gv) (.cons (con64 gv) (.cons (con65 gv) .nil))
noncomputable def c1 (gv : Nat → List AV) (β : Type) : CallT β := callT (Xg gv) (tab L1) inl 200 β 20
theorem c1_ok (gv : Nat → List AV) (β : Type) : CallTOk (Xg gv) (cfOf (Xg gv) noKnown) (c1 gv β) := callT_ok (L1_ok gv) (fun _ _ _ => rfl) 200 20 β

noncomputable def anD : FnAnn := ⟨.none, .node (some [0, 1, 7, 8, 9]) .none .none, []⟩
noncomputable def stD (d : List UInt8) (b n i : Int) (big : Bool) : TFr := frOf 83 [(0, .str d), (1, .int .i64 b), (7, .int .u64 n), (8, .int .i64 i), (9, .bool big)]
noncomputable def jD (gv : Nat → List AV) (d : List UInt8) (b : Int) (r m : Nat) (n i : Int) (big : Bool) : Option AV := jumpN (Xg gv) (c1 gv AV) anD r 45 [true] 0 (fun v _ => some v) m (stD d b n i big) TMem.empty

def outD (n i : Int) (big : Bool) : Option AV := some (.tup [.int .u64 n, .int .i64 i, .bool big])
noncomputable def sumD (b n v : Int) : Int := Int.ofNat ((Int.toNat (n * IntKind.wrap .u64 b % 18446744073709551616) + Int.toNat (IntKind.wrap .u64 v) + 0) % Extern.MathBitsCarry.m64)
noncomputable def carD (b n v : Int) : Int := Int.ofNat ((Int.toNat (n * IntKind.wrap .u64 b % 18446744073709551616) + Int.toNat (IntKind.wrap .u64 v) + 0) / Extern.MathBitsCarry.m64)
noncomputable def treeD (d : List UInt8) (b n i : Int) (big : Bool) (go : Int → Int → Bool → Option AV) : Option AV :=
  pick2 (eqI i ↑d.length)
    (pick2 (eqI i 0) (outD 0 0 false) (outD n (-1) big))
    (Option.rec (motive := fun _ => Option AV) none (fun c => pick2 (eqI (u8I c) 95)
      (pick2 (eqI i 0) (outD 0 i false) (pick2 (eqI i (IntKind.wrap .i64 (↑d.length - 1))) (outD 0 i false)
        (Option.rec (motive := fun _ => Option AV) none (fun c => pick2 (eqI (u8I c) 95) (outD 0 i false) (go n (IntKind.wrap .i64 (i + 1)) big)) (getI d (IntKind.wrap .i64 (i - 1))))))
      (Option.rec (motive := fun _ => Option AV) none (fun c => pick2 (ltI (digI (u8I c)) 0) (outD 0 i false) (pick2 (!ltI (digI (u8I c)) b) (outD 0 i false)
        (pick2 (!ltI n 0 && ltI n 18446744073709551616 && !ltI (IntKind.wrap .u64 b) 0 && ltI (IntKind.wrap .u64 b) 4294967296)
          (pick2 big (go (sumD b n (digI (u8I c))) (IntKind.wrap .i64 (i + 1)) true)
            (pick2 (!eqI (n * IntKind.wrap .u64 b / 18446744073709551616) 0) (go (sumD b n (digI (u8I c))) (IntKind.wrap .i64 (i + 1)) true)
              (go (sumD b n (digI (u8I c))) (IntKind.wrap .i64 (i + 1)) (!eqI (carD b n (digI (u8I c))) 0))))
          none))) (getI d i))) (getI d i))

theorem stepD (gv : Nat → List AV) (d : List UInt8) (b : Int) (r m : Nat) (n i : Int) (big : Bool) : jD gv d b r (m + 1) n i big = treeD d b n i big (jD gv d b r m) := by kernel_rfl
theorem enterD (gv : Nat → List AV) (d : List UInt8) (b : Int) (m : Nat) : enterT (Xg gv) (c1 gv AV) anD m 45 [.str d, .int .i64 b] TMem.empty (fun v _ => some v) = treeD d b 0 0 false (jD gv d b m m) := by kernel_rfl

/-! What they come to -/
/-- Where the first wrong digit stands. -/
def wrongD (b : Int) : Bool → Bool → List UInt8 → Nat → Option Nat
  | first, _, [], _ => if first then some 0 else none
  | first, prev, c :: r, i => if u8I c = 95 then (if first = true ∨ r = [] ∨ prev = true then some i else wrongD b false true r (i + 1)) else if digI (u8I c) < 0 ∨ b ≤ digI (u8I c) then some i else wrongD b false false r (i + 1)
/-- The number of digits. -/
def valD (b : Nat) : List UInt8 → Nat → Nat
  | [], N => N
  | c :: r, N => if u8I c = 95 then valD b r N else valD b r (N * b + (digI (u8I c)).toNat)
def digS (b : Nat) (d : List UInt8) : Int × Int × Bool :=
  match wrongD b true false d 0 with
  | some i => (0, (i : Int), false)
  | none => (((valD b d 0 % 18446744073709551616 : Nat) : Int), -1, decide (18446744073709551616 ≤ valD b d 0))

theorem next_sum {b N v : Nat} (hb : b ≤ 16) (hv : v < 16) : sumD b ((N % 18446744073709551616 : Nat) : Int) v = (((N * b + v) % 18446744073709551616 : Nat) : Int) ∧ ((N : Int) < 18446744073709551616 → (((N % 18446744073709551616 : Nat) : Int) * IntKind.wrap .u64 b / 18446744073709551616 = 0 ↔ N * b < 18446744073709551616) ∧ (N * b < 18446744073709551616 → (carD b ((N % 18446744073709551616 : Nat) : Int) v = 0 ↔ N * b + v < 18446744073709551616))) := by
  have wb : IntKind.wrap .u64 (b : Int) = b := u64_in (by omega) (by omega)
  have wv : IntKind.wrap .u64 (v : Int) = v := u64_in (by omega) (by omega)
  have e1 : ((N % 18446744073709551616 : Nat) : Int) * (b : Int) % 18446744073709551616 = ((N % 18446744073709551616 * b % 18446744073709551616 : Nat) : Int) := by
    rw [Int.natCast_emod (N % 18446744073709551616 * b), Int.natCast_mul]; rfl
  have hm : Extern.MathBitsCarry.m64 = 18446744073709551616 := by kernel_rfl
  unfold sumD carD
  rw [wb, wv, e1, hm]
  simp only [Int.toNat_natCast, Nat.add_zero]
  refine ⟨?_, fun hN => ?_⟩
  · show ((_ : Nat) : Int) = _
    congr 1
    rw [Nat.add_mod (N * b), Nat.mul_mod N b, Nat.add_mod (N % 18446744073709551616 * b % 18446744073709551616), Nat.mod_mod, Nat.mul_mod (N % 18446744073709551616) b, Nat.mod_mod]
  · have hN' : N % 18446744073709551616 = N := Nat.mod_eq_of_lt (by omega)
    rw [hN']
    generalize hP : N * b = P
    refine ⟨?_, fun hl => ?_⟩
    · have : ((N : Int) * (b : Int)) = (P : Int) := by rw [← hP, Int.natCast_mul]
      rw [this]; omega
    · show ((((P % 18446744073709551616 + v) / 18446744073709551616 : Nat)) : Int) = 0 ↔ _
      omega

theorem dig_le (n : Int) : digI n < 16 := by unfold digI; repeat' split <;> omega

theorem loopD (gv : Nat → List AV) {b : Nat} (hb2 : 2 ≤ b) (hb : b ≤ 16) (d : List UInt8) (hd : d.length < 1000000) (r : Nat) : ∀ (rest pre : List UInt8) (m : Nat) (N : Nat) (prev : Bool), d = pre ++ rest → rest.length < m → pre ≠ [] → (prev = true ↔ ∃ q, pre = q ++ [95]) →
    jD gv d b r m ((N % 18446744073709551616 : Nat) : Int) pre.length (decide (18446744073709551616 ≤ N)) =
      match wrongD b false prev rest pre.length with
      | some i => outD 0 i false
      | none => outD ((valD b rest N % 18446744073709551616 : Nat) : Int) (-1) (decide (18446744073709551616 ≤ valD b rest N)) := by
  intro rest
  induction rest with
  | nil =>
    intro pre m N prev he hm hne hprev
    obtain ⟨m, rfl⟩ : ∃ m', m = m' + 1 := ⟨m - 1, by simp at hm; omega⟩
    rw [stepD]
    unfold treeD
    have hl : d.length = pre.length := by rw [he]; simp
    have hp : 0 < pre.length := List.length_pos_iff.2 hne
    rw [eqT (a := (pre.length : Int)) (b := (d.length : Int)) (by omega), eqF (a := (pre.length : Int)) (b := 0) (by omega)]
    rfl
  | cons c rest ih =>
    intro pre m N prev he hm hne hprev
    obtain ⟨m, rfl⟩ : ∃ m', m = m' + 1 := ⟨m - 1, by simp at hm; omega⟩
    have hl : d.length = pre.length + (rest.length + 1) := by rw [he]; simp
    have hp : 0 < pre.length := List.length_pos_iff.2 hne
    have hg : getI d (pre.length : Int) = some c := by rw [he]; exact getI_at pre rest c
    have hnext : IntKind.wrap .i64 ((pre.length : Int) + 1) = ((pre ++ [c]).length : Int) := by rw [i64_in (by omega) (by omega)]; simp
    have he' : d = (pre ++ [c]) ++ rest := by rw [he]; simp
    have hm' : rest.length < m := by simp at hm; omega
    rw [stepD]
    unfold treeD
    rw [eqF (a := (pre.length : Int)) (b := (d.length : Int)) (by omega), eqF (a := (pre.length : Int)) (b := 0) (by omega), hg, hnext]
    show pick2 (eqI (u8I c) 95) _ _ = _
    by_cases hc : u8I c = 95
    · rw [eqT hc]
      show pick2 (eqI (pre.length : Int) (IntKind.wrap .i64 (↑d.length - 1))) _ _ = _
      rw [i64_in (by omega) (by omega)]
      have hw : wrongD b false prev (c :: rest) pre.length = if rest = [] ∨ prev = true then some pre.length else wrongD b false true rest (pre.length + 1) := by
        rw [wrongD, if_pos hc]; simp
      rw [hw]
      by_cases hr : rest = []
      · rw [eqT (by rw [hl, hr]; simp), if_pos (.inl hr)]
      · have hrl : 0 < rest.length := List.length_pos_iff.2 hr
        rw [eqF (by omega)]
        obtain ⟨q, x, hq⟩ : ∃ q x, pre = q ++ [x] := ⟨pre.dropLast, pre.getLast hne, (List.dropLast_concat_getLast hne).symm⟩
        have hgx : getI d (IntKind.wrap .i64 ((pre.length : Int) - 1)) = some x := by
          rw [i64_in (by omega) (by omega)]
          have : (pre.length : Int) - 1 = (q.length : Int) := by rw [hq]; simp
          rw [this, he, hq, List.append_assoc]
          exact getI_at q (c :: rest) x
        rw [hgx]
        show pick2 (eqI (u8I x) 95) _ _ = _
        by_cases hx : u8I x = 95
        · have : prev = true := hprev.2 ⟨q, by rw [hq]; congr 2; exact u8I_inj (a := x) (b := 95) hx⟩
          rw [eqT hx, if_pos (.inr this)]
        · have hpf : prev = false := by
            cases hpv : prev with
            | false => rfl
            | true =>
              obtain ⟨q', hq'⟩ := hprev.1 hpv
              rw [hq] at hq'
              have := (List.append_inj' hq' rfl).2
              simp at this
              exact absurd (by rw [this]; rfl) hx
          rw [eqF hx, if_neg (by simp [hr, hpf])]
          have hcc : c = 95 := u8I_inj (a := c) (b := 95) hc
          have := ih (pre ++ [c]) m N true he' hm' (by simp) ⟨fun _ => ⟨pre, by rw [hcc]⟩, fun _ => rfl⟩
          rw [List.length_append, List.length_singleton] at this
          show jD gv d b r m _ ((pre ++ [c]).length : Int) _ = _
          rw [List.length_append, List.length_singleton, this]
          have hv : valD b (c :: rest) N = valD b rest N := by rw [valD, if_pos hc]
          rw [hv]
    · rw [eqF hc]
      show pick2 (ltI (digI (u8I c)) 0) _ _ = _
      have hw : wrongD b false prev (c :: rest) pre.length = if digI (u8I c) < 0 ∨ (b : Int) ≤ digI (u8I c) then some pre.length else wrongD b false false rest (pre.length + 1) := by
        rw [wrongD, if_neg hc]
      rw [hw]
      by_cases h0 : digI (u8I c) < 0
      · rw [ltT h0, if_pos (.inl h0)]
      · rw [ltF (by omega)]
        show pick2 (!ltI (digI (u8I c)) b) _ _ = _
        by_cases h1 : (b : Int) ≤ digI (u8I c)
        · rw [ltF h1, if_pos (.inr h1)]; rfl
        · rw [ltT (by omega), if_neg (by omega)]
          have wb : IntKind.wrap .u64 (b : Int) = b := u64_in (by omega) (by omega)
          have hcond : (!ltI ((N % 18446744073709551616 : Nat) : Int) 0 && ltI ((N % 18446744073709551616 : Nat) : Int) 18446744073709551616 && !ltI (IntKind.wrap .u64 (b : Int)) 0 && ltI (IntKind.wrap .u64 (b : Int)) 4294967296) = true := by
            rw [wb, ltF (by omega), ltT (by omega), ltF (by omega), ltT (by omega)]; rfl
          obtain ⟨v, hv⟩ : ∃ v : Nat, digI (u8I c) = v := ⟨(digI (u8I c)).toNat, by omega⟩
          have hv16 : v < 16 := by have := dig_le (u8I c); omega
          obtain ⟨s1, s2⟩ := next_sum (N := N) hb hv16
          have hval : valD b (c :: rest) N = valD b rest (N * b + v) := by rw [valD, if_neg hc, hv]; rfl
          have goal : ∀ big, big = decide (18446744073709551616 ≤ N * b + v) → jD gv d b r m (sumD b ((N % 18446744073709551616 : Nat) : Int) (digI (u8I c))) ((pre ++ [c]).length : Int) big =
              match wrongD b false false rest (pre.length + 1) with
              | some i => outD 0 i false
              | none => outD ((valD b (c :: rest) N % 18446744073709551616 : Nat) : Int) (-1) (decide (18446744073709551616 ≤ valD b (c :: rest) N)) := fun big hbig => by
            have hno : ¬ ∃ q, pre ++ [c] = q ++ [95] := fun ⟨q, hq⟩ => by
              have := (List.append_inj' hq rfl).2
              simp at this
              exact hc (by rw [this]; rfl)
            have := ih (pre ++ [c]) m (N * b + v) false he' hm' (by simp) ⟨fun h => (by cases h), fun h => absurd h hno⟩
            rw [hv, s1, hbig, this, hval]
            simp
          show pick2 (_ && _ && _ && _) _ _ = _
          rw [hcond]
          show pick2 (decide (18446744073709551616 ≤ N)) _ _ = _
          by_cases hN : 18446744073709551616 ≤ N
          · rw [decide_eq_true hN]
            have : N ≤ N * b := Nat.le_mul_of_pos_right N (by omega)
            exact goal true (by rw [decide_eq_true]; omega)
          · rw [decide_eq_false hN]
            obtain ⟨t1, t2⟩ := s2 (by omega)
            show pick2 (!eqI _ 0) _ _ = _
            by_cases hP : N * b < 18446744073709551616
            · rw [eqT (t1.2 hP)]
              refine goal _ ?_
              rw [hv]
              by_cases hS : N * b + v < 18446744073709551616
              · rw [eqT ((t2 hP).2 hS), decide_eq_false (by omega)]; rfl
              · rw [eqF (fun h => hS ((t2 hP).1 h)), decide_eq_true (by omega)]; rfl
            · rw [eqF (fun h => hP (t1.1 h))]
              exact goal true (by rw [decide_eq_true]; omega)
end Go.Proofs.YtcafcgiemdlobaaDoor.lt
