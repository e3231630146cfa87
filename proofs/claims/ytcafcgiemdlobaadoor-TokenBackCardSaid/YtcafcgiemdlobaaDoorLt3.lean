/- Literals: the contracts of digits and parts. -/
import Derived.Test.YtcafcgiemdlobaaDoorLt2
namespace Go.Proofs.YtcafcgiemdlobaaDoor.lt
open Go.Tv Go.Ev

theorem runD (gv : Nat → List AV) {b : Nat} (hb2 : 2 ≤ b) (hb : b ≤ 16) (d : List UInt8) (hd : d.length < 1000000) :
    enterT (Xg gv) (c1 gv AV) anD (d.length + 1) 45 [.str d, .int .i64 b] TMem.empty (fun v _ => some v) = outD (digS b d).1 (digS b d).2.1 (digS b d).2.2 := by
  rw [enterD]
  cases d with
  | nil => rfl
  | cons c rest =>
    have hl : ((c :: rest).length : Int) = rest.length + 1 := by simp
    unfold treeD
    rw [eqF (a := 0) (b := ((c :: rest).length : Int)) (by omega), show getI (c :: rest) 0 = some c from rfl]
    show pick2 (eqI (u8I c) 95) _ _ = _
    by_cases hc : u8I c = 95
    · have hw : wrongD b true false (c :: rest) 0 = some 0 := by rw [wrongD, if_pos hc, if_pos (.inl rfl)]
      rw [eqT hc]
      unfold digS
      rw [hw]; rfl
    · rw [eqF hc]
      show pick2 (ltI (digI (u8I c)) 0) _ _ = _
      have hw : wrongD b true false (c :: rest) 0 = if digI (u8I c) < 0 ∨ (b : Int) ≤ digI (u8I c) then some 0 else wrongD b false false rest 1 := by
        rw [wrongD, if_neg hc]
      by_cases h0 : digI (u8I c) < 0
      · rw [ltT h0]; unfold digS; rw [hw, if_pos (.inl h0)]; rfl
      · rw [ltF (by omega)]
        show pick2 (!ltI (digI (u8I c)) b) _ _ = _
        by_cases h1 : (b : Int) ≤ digI (u8I c)
        · rw [ltF h1]; unfold digS; rw [hw, if_pos (.inr h1)]; rfl
        · rw [ltT (by omega)]
          have wb : IntKind.wrap .u64 (b : Int) = b := u64_in (by omega) (by omega)
          have hcond : (!ltI 0 0 && ltI 0 18446744073709551616 && !ltI (IntKind.wrap .u64 (b : Int)) 0 && ltI (IntKind.wrap .u64 (b : Int)) 4294967296) = true := by
            rw [wb, ltF (a := 0) (by omega), ltT (by omega), ltF (by omega), ltT (by omega)]; rfl
          obtain ⟨v, hv⟩ : ∃ v : Nat, digI (u8I c) = v := ⟨(digI (u8I c)).toNat, by omega⟩
          have hv16 : v < 16 := by have := dig_le (u8I c); omega
          obtain ⟨s1, s2⟩ := next_sum (N := 0) hb hv16
          show pick2 (_ && _ && _ && _) (pick2 (!eqI (0 * IntKind.wrap .u64 (b : Int) / 18446744073709551616) 0) _ (jD gv (c :: rest) b _ _ (sumD b 0 (digI (u8I c))) (IntKind.wrap .i64 (0 + 1)) (!eqI (carD b 0 (digI (u8I c))) 0))) none = _
          rw [hcond, Int.zero_mul]
          show jD gv (c :: rest) b _ _ (sumD b 0 (digI (u8I c))) (IntKind.wrap .i64 (0 + 1)) (!eqI (carD b 0 (digI (u8I c))) 0) = _
          have e0 : ((0 % 18446744073709551616 : Nat) : Int) = 0 := by simp
          rw [e0, Nat.zero_mul, Nat.zero_add] at s1
          rw [e0, Nat.zero_mul, Nat.zero_add] at s2
          have hcar : carD b 0 v = 0 := ((s2 (by omega)).2 (by omega)).2 (by omega)
          rw [hv, s1, hcar]
          have hno : ¬ ∃ q : List UInt8, [c] = q ++ [95] := fun ⟨q, hq⟩ => by
            have := (List.append_inj' (s₁ := []) hq rfl).2
            simp at this
            exact hc (by rw [this]; rfl)
          have := loopD gv hb2 hb (c :: rest) hd ((c :: rest).length + 1) rest [c] ((c :: rest).length + 1) v false rfl (by simp; omega) (by simp) ⟨fun h => (by cases h), fun h => absurd h hno⟩
          have e1 : IntKind.wrap .i64 (0 + 1) = (([c] : List UInt8).length : Int) := by rw [i64_in (by omega) (by omega)]; rfl
          have e2 : (!eqI 0 0) = decide (18446744073709551616 ≤ v) := by rw [decide_eq_false (by omega)]; rfl
          rw [e1, e2, this]
          unfold digS
          rw [hw, if_neg (by omega)]
          have hval : valD b (c :: rest) 0 = valD b rest v := by rw [valD, if_neg hc, hv]; simp
          rw [hval]
          show (match wrongD (b : Int) false false rest 1 with | some i => _ | none => _) = _
          cases wrongD (b : Int) false false rest 1 <;> rfl

noncomputable def gDigits (args : List AV) : Option (Bool × List PRes) :=
  match args with
  | [.str d, .int .i64 b] => some (!ltI b 2 && !ltI 16 b && Nat.ble d.length 999999, [.val (.int .u64 (digS b.toNat d).1), .val (.int .i64 (digS b.toNat d).2.1), .val (.bool (digS b.toNat d).2.2)])
  | _ => none
theorem con45 (gv : Nat → List AV) : ConOk (Xg gv) (cfOf (Xg gv) noKnown) 45 gDigits :=
  con_vals (nk 45) (c1_ok gv) fun args rs hg => by
    unfold gDigits at hg
    split at hg
    · rename_i d b
      simp only [Option.some.injEq, Prod.mk.injEq, Bool.and_eq_true, ltI_spec, Bool.not_eq_true', decide_eq_false_iff_not, Nat.ble_eq] at hg
      obtain ⟨⟨⟨h1, h2⟩, h3⟩, rfl⟩ := hg
      obtain ⟨n, rfl⟩ : ∃ n : Nat, b = n := ⟨b.toNat, by omega⟩
      rw [Int.toNat_natCast]
      exact ⟨[.int .u64 (digS n d).1, .int .i64 (digS n d).2.1, .bool (digS n d).2.2], anD, d.length + 1, runD gv (by omega) (by omega) d (by omega), rfl, rfl⟩
    · cases hg

/-! parts -/
/-- A letter, made small. -/
def lowB (c : UInt8) : Int := IntKind.wrap .u8 ↑(BitVec.toNat (BitVec.ofInt 8 (u8I c) ||| BitVec.ofInt 8 32))
/-- Where a word's digits begin, how many bytes behind them are none, their base. -/
def partsS (w : List UInt8) : Nat × Nat × Nat :=
  let second : Int := if 2 < w.length ∧ w.head? = some 48 then lowB (w.getD 1 0) else 0
  if second = 120 then (2, 0, 16) else if lowB (w.getD (w.length - 1) 0) = 104 then (0, 1, 16) else if second = 98 then (2, 0, 2) else if second = 111 then (2, 0, 8) else (0, 0, 10)

noncomputable def outP (a b c : Int) : Option AV := some (.tup [.int .i64 a, .int .i64 b, .int .i64 c])
noncomputable def lastP (w : List UInt8) (k : UInt8 → Option AV) : Option AV := Option.rec (motive := fun _ => Option AV) none k (getI w (IntKind.wrap .i64 (↑w.length - 1)))
noncomputable def noP (w : List UInt8) : Option AV := lastP w fun c => pick2 (eqI (lowB c) 104) (outP 0 (IntKind.wrap .i64 (↑w.length - 1)) 16) (outP 0 ↑w.length 10)
theorem treeP (gv : Nat → List AV) (w : List UInt8) : enterT (Xg gv) (c1 gv AV) an0 5 44 [.str w] TMem.empty (fun v _ => some v) =
    pick2 (ltI 2 ↑w.length) (Option.rec (motive := fun _ => Option AV) none (fun c => pick2 (eqI (u8I c) 48)
        (Option.rec (motive := fun _ => Option AV) none (fun c2 => lastP w fun c => pick2 (eqI (lowB c2) 120) (outP 2 ↑w.length 16) (pick2 (eqI (lowB c) 104) (outP 0 (IntKind.wrap .i64 (↑w.length - 1)) 16)
          (pick2 (eqI (lowB c2) 98) (outP 2 ↑w.length 2) (pick2 (eqI (lowB c2) 111) (outP 2 ↑w.length 8) (outP 0 ↑w.length 10))))) (getI w 1))
        (noP w)) (getI w 0)) (noP w) := by kernel_rfl

theorem last_at {w : List UInt8} (h : w ≠ []) (hl : w.length < 1000000) (k : UInt8 → Option AV) : lastP w k = k (w.getD (w.length - 1) 0) := by
  have hp : 0 < w.length := List.length_pos_iff.2 h
  unfold lastP
  rw [i64_in (by omega) (by omega)]
  have : (w.length : Int) - 1 = ((w.length - 1 : Nat) : Int) := by omega
  rw [this, getI_nat, List.getD_eq_getElem?_getD, List.getElem?_eq_getElem (by omega)]; rfl

theorem runP (gv : Nat → List AV) {w : List UInt8} (h : w ≠ []) (hl : w.length < 1000000) : enterT (Xg gv) (c1 gv AV) an0 5 44 [.str w] TMem.empty (fun v _ => some v) =
    outP (partsS w).1 ((w.length - (partsS w).2.1 : Nat) : Int) (partsS w).2.2 := by
  have hp : 0 < w.length := List.length_pos_iff.2 h
  have e1 : IntKind.wrap .i64 (↑w.length - 1) = ((w.length - 1 : Nat) : Int) := by rw [i64_in (by omega) (by omega)]; omega
  have hno : ∀ second : Int, second = 0 → noP w = outP (if second = 120 then (2, 0, 16) else if lowB (w.getD (w.length - 1) 0) = 104 then (0, 1, 16) else if second = 98 then (2, 0, 2) else if second = 111 then (2, 0, 8) else (0, 0, 10) : Nat × Nat × Nat).1 ((w.length - (if second = 120 then (2, 0, 16) else if lowB (w.getD (w.length - 1) 0) = 104 then (0, 1, 16) else if second = 98 then (2, 0, 2) else if second = 111 then (2, 0, 8) else (0, 0, 10) : Nat × Nat × Nat).2.1 : Nat) : Int) (if second = 120 then (2, 0, 16) else if lowB (w.getD (w.length - 1) 0) = 104 then (0, 1, 16) else if second = 98 then (2, 0, 2) else if second = 111 then (2, 0, 8) else (0, 0, 10) : Nat × Nat × Nat).2.2 := fun second h0 => by
    subst h0
    unfold noP
    rw [last_at h hl, pick_eq, e1]
    split
    · rfl
    · rfl
  rw [treeP]
  unfold partsS
  by_cases hlen : 2 < w.length
  · rw [ltT (by omega)]
    match w, h, hlen, hno, hl, e1 with
    | a :: b :: r, h, hlen, hno, hl, e1 =>
      rw [show getI (a :: b :: r) 0 = some a from rfl, show getI (a :: b :: r) 1 = some b from rfl]
      show pick2 (eqI (u8I a) 48) _ _ = _
      by_cases ha : u8I a = 48
      · have ha' : a = 48 := u8I_inj (a := a) (b := 48) ha
        rw [eqT ha]
        show lastP (a :: b :: r) _ = _
        rw [last_at h hl]
        simp only [pick_eq, e1]
        rw [if_pos (show 2 < (a :: b :: r).length ∧ (a :: b :: r).head? = some 48 from ⟨hlen, by rw [ha']; rfl⟩)]
        show _ = outP (if lowB b = 120 then _ else _ : Nat × Nat × Nat).1 _ _
        have hb : (a :: b :: r).getD 1 0 = b := rfl
        simp only [hb]
        repeat' split
        all_goals rfl
      · rw [eqF ha]
        have hn : ¬ (2 < (a :: b :: r).length ∧ (a :: b :: r).head? = some 48) := fun ⟨_, h⟩ => by
          simp at h
          exact ha (by rw [h]; rfl)
        exact hno _ (if_neg hn)
  · rw [ltF (by omega)]
    exact hno _ (if_neg (by omega))

noncomputable def gParts (args : List AV) : Option (Bool × List PRes) :=
  match args with
  | [.str w] => some (!w.isEmpty && Nat.ble w.length 999999, [.val (.int .i64 (partsS w).1), .val (.int .i64 ((w.length - (partsS w).2.1 : Nat) : Int)), .val (.int .i64 (partsS w).2.2)])
  | _ => none
theorem con44 (gv : Nat → List AV) : ConOk (Xg gv) (cfOf (Xg gv) noKnown) 44 gParts :=
  con_vals (nk 44) (c1_ok gv) fun args rs hg => by
    unfold gParts at hg
    split at hg
    · rename_i w
      simp only [Option.some.injEq, Prod.mk.injEq, Bool.and_eq_true, Bool.not_eq_true', List.isEmpty_eq_false_iff, Nat.ble_eq] at hg
      obtain ⟨⟨h1, h2⟩, rfl⟩ := hg
      exact ⟨[.int .i64 (partsS w).1, .int .i64 ((w.length - (partsS w).2.1 : Nat) : Int), .int .i64 (partsS w).2.2], an0, 5, runP gv h1 (by omega), rfl, rfl⟩
    · cases hg
end Go.Proofs.YtcafcgiemdlobaaDoor.lt
