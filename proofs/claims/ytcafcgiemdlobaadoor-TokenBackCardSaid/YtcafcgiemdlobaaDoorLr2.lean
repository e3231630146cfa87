/- Literals, by the document: number and text. -/
import Derived.Test.YtcafcgiemdlobaaDoorLr
namespace Go.Proofs.YtcafcgiemdlobaaDoor.lt
open Go.Tv Go.Ev

noncomputable def jN (gv : Nat → List AV) (w : List UInt8) (b lo hi : Int) (r m : Nat) (n : Int) (over : Bool) (i : Int) : Option AV := loopN (Xg gv) (c4 gv AV) anN r 49 pN (fun v _ => some v) m (stN w b lo hi n over i) mT
def outN (n f a : Int) : Option AV := some (.tup [.int .i64 n, .agg [.int .i64 f, .int .i64 a]])
noncomputable def sumN (b n v : Int) : Int := IntKind.wrap .u64 (IntKind.wrap .u64 (n * IntKind.wrap .u64 b) + IntKind.wrap .u64 v)
noncomputable def treeN (w : List UInt8) (b lo hi n : Int) (over : Bool) (i : Int) (go : Int → Bool → Int → Option AV) : Option AV :=
  pick2 (ltI i hi)
    (Option.rec (motive := fun _ => Option AV) none (fun c => pick2 (eqI (u8I c) 95)
      (pick2 (eqI i lo) (outN 0 4 i) (pick2 (eqI i (IntKind.wrap .i64 (hi - 1))) (outN 0 4 i)
        (Option.rec (motive := fun _ => Option AV) none (fun c => pick2 (eqI (u8I c) 95) (outN 0 4 i) (go n over (IntKind.wrap .i64 (i + 1)))) (getI w (IntKind.wrap .i64 (i - 1))))))
      (Option.rec (motive := fun _ => Option AV) none (fun c => pick2 (!ltI (digR (u8I c)) b) (outN 0 4 i)
        (pick2 over (go (sumN b n (digR (u8I c))) true (IntKind.wrap .i64 (i + 1)))
          (pick2 (eqI (IntKind.wrap .u64 b) 0) none
            (go (sumN b n (digR (u8I c))) (ltI (IntKind.wrap .u64 (Int.tdiv (IntKind.wrap .u64 (18446744073709551615 - IntKind.wrap .u64 (digR (u8I c)))) (IntKind.wrap .u64 b))) n) (IntKind.wrap .i64 (i + 1)))))) (getI w i))) (getI w i))
    (pick2 (eqI lo hi) (outN 0 4 hi) (pick2 over (outN 0 5 0) (outN (IntKind.wrap .i64 n) 0 0)))
theorem stepN (gv : Nat → List AV) (w : List UInt8) (b lo hi : Int) (r m : Nat) (n : Int) (over : Bool) (i : Int) : jN gv w b lo hi r (m + 1) n over i = treeN w b lo hi n over i (jN gv w b lo hi r m) := by kernel_rfl
theorem enterN (gv : Nat → List AV) (w : List UInt8) (m : Nat) : enterT (Xg gv) (c4 gv AV) anN m 49 [.str w] TMem.empty (fun v _ => some v) =
    pick2 (!w.isEmpty && Nat.ble w.length 999999) (jN gv w (partsS w).2.2 (partsS w).1 ((w.length - (partsS w).2.1 : Nat) : Int) m m 0 false (partsS w).1) none := by kernel_rfl

theorem dig_both {b : Nat} (hb : b ≤ 16) (n : Int) : ((b : Int) ≤ digR n ↔ digI n < 0 ∨ (b : Int) ≤ digI n) ∧ (digR n < b → digR n = digI n ∧ 0 ≤ digR n) := by
  unfold digR digI
  repeat' split
  all_goals omega

theorem next_over {b N v : Nat} (hb2 : 2 ≤ b) (hb : b ≤ 16) (hv : v < 16) : sumN b ((N % 18446744073709551616 : Nat) : Int) v = (((N * b + v) % 18446744073709551616 : Nat) : Int) ∧
    (N < 18446744073709551616 → ltI (IntKind.wrap .u64 (Int.tdiv (IntKind.wrap .u64 (18446744073709551615 - IntKind.wrap .u64 v)) (IntKind.wrap .u64 b))) ((N % 18446744073709551616 : Nat) : Int) = decide (18446744073709551616 ≤ N * b + v)) := by
  have wb : IntKind.wrap .u64 (b : Int) = b := u64_in (by omega) (by omega)
  have wv : IntKind.wrap .u64 (v : Int) = v := u64_in (by omega) (by omega)
  rw [wv, wb]
  constructor
  · unfold sumN
    rw [wb, wv, u64_mod, u64_mod]
    have e1 : ((N % 18446744073709551616 : Nat) : Int) * (b : Int) % 18446744073709551616 = ((N % 18446744073709551616 * b % 18446744073709551616 : Nat) : Int) := by
      rw [Int.natCast_emod (N % 18446744073709551616 * b), Int.natCast_mul]; rfl
    rw [e1]
    show _ = ((_ : Nat) : Int)
    rw [Nat.add_mod (N * b), Nat.mul_mod N b]
    have : N % 18446744073709551616 * b % 18446744073709551616 = N % 18446744073709551616 * (b % 18446744073709551616) % 18446744073709551616 := by
      rw [Nat.mul_mod (N % 18446744073709551616) b, Nat.mod_mod]
    rw [this]
    omega
  · intro hN
    rw [Nat.mod_eq_of_lt hN, u64_in (n := 18446744073709551615 - (v : Int)) (by omega) (by omega)]
    have e1 : Int.tdiv (18446744073709551615 - (v : Int)) (b : Int) = (((18446744073709551615 - v) / b : Nat) : Int) := by
      have : (18446744073709551615 - (v : Int)) = ((18446744073709551615 - v : Nat) : Int) := by omega
      rw [this]; rfl
    have hdiv := Nat.div_lt_iff_lt_mul (x := 18446744073709551615 - v) (y := N) (k := b) (by omega)
    have hle : (18446744073709551615 - v) / b ≤ 18446744073709551615 := Nat.le_trans (Nat.div_le_self _ _) (by omega)
    generalize (18446744073709551615 - v) / b = Q at e1 hle hdiv
    rw [e1, u64_in (by omega) (by omega), ltI_spec, decide_eq_decide]
    omega

theorem loopN' (gv : Nat → List AV) {b : Nat} (hb2 : 2 ≤ b) (hb : b ≤ 16) (w x d y : List UInt8) (hw : w = x ++ d ++ y) (hl : w.length < 1000000) (r : Nat) : ∀ (rest pre : List UInt8) (m : Nat) (N : Nat) (prev : Bool), d = pre ++ rest → rest.length < m → (prev = true ↔ ∃ q, pre = q ++ [95]) →
    jN gv w b x.length ((x.length + d.length : Nat) : Int) r m ((N % 18446744073709551616 : Nat) : Int) (decide (18446744073709551616 ≤ N)) ((x.length + pre.length : Nat) : Int) =
      match wrongD b pre.isEmpty prev rest pre.length with
      | some i => outN 0 4 ((x.length + i : Nat) : Int)
      | none => pick2 (decide (18446744073709551616 ≤ valD b rest N)) (outN 0 5 0) (outN (IntKind.wrap .i64 ((valD b rest N % 18446744073709551616 : Nat) : Int)) 0 0) := by
  intro rest
  have hwl : w.length = x.length + d.length + y.length := by rw [hw]; simp; omega
  induction rest with
  | nil =>
    intro pre m N prev he hm hprev
    obtain ⟨m, rfl⟩ : ∃ m', m = m' + 1 := ⟨m - 1, by simp at hm; omega⟩
    have hd : d.length = pre.length := by rw [he]; simp
    rw [stepN]
    unfold treeN
    rw [ltF (by omega)]
    show pick2 (eqI (x.length : Int) ((x.length + d.length : Nat) : Int)) _ _ = _
    cases pre with
    | nil =>
      have hd0 : d.length = 0 := hd
      rw [eqT (by omega), hd0]; rfl
    | cons p pre =>
      have hd0 : d.length = pre.length + 1 := hd
      rw [eqF (by omega)]
      rfl
  | cons c rest ih =>
    intro pre m N prev he hm hprev
    obtain ⟨m, rfl⟩ : ∃ m', m = m' + 1 := ⟨m - 1, by simp at hm; omega⟩
    have hd : d.length = pre.length + (rest.length + 1) := by rw [he]; simp
    have hwx : w = (x ++ pre) ++ c :: (rest ++ y) := by rw [hw, he]; simp
    have hxl : (x ++ pre).length = x.length + pre.length := by simp
    have hg : getI w ((x.length + pre.length : Nat) : Int) = some c := by rw [← hxl, hwx]; exact getI_at (x ++ pre) (rest ++ y) c
    have hnext : IntKind.wrap .i64 (((x.length + pre.length : Nat) : Int) + 1) = ((x.length + (pre ++ [c]).length : Nat) : Int) := by rw [i64_in (by omega) (by omega)]; simp; omega
    have he' : d = (pre ++ [c]) ++ rest := by rw [he]; simp
    have hm' : rest.length < m := by simp at hm; omega
    have hne : (pre ++ [c]).isEmpty = false := by simp
    rw [stepN]
    unfold treeN
    rw [ltT (by omega), hg, hnext]
    show pick2 (eqI (u8I c) 95) _ _ = _
    by_cases hc : u8I c = 95
    · rw [eqT hc]
      show pick2 (eqI ((x.length + pre.length : Nat) : Int) (x.length : Int)) _ _ = _
      have hww : wrongD b pre.isEmpty prev (c :: rest) pre.length = if pre.isEmpty = true ∨ rest = [] ∨ prev = true then some pre.length else wrongD b false true rest (pre.length + 1) := by
        rw [wrongD, if_pos hc]
      rw [hww]
      by_cases hp : pre = []
      · subst hp
        rw [eqT (by simp), if_pos (.inl rfl)]
      · have hpl : 0 < pre.length := List.length_pos_iff.2 hp
        have hpe : ¬ pre.isEmpty = true := by simpa using hp
        rw [eqF (by omega)]
        show pick2 (eqI _ (IntKind.wrap .i64 (((x.length + d.length : Nat) : Int) - 1))) _ _ = _
        rw [i64_in (by omega) (by omega)]
        by_cases hr : rest = []
        · rw [eqT (by rw [hd, hr]; simp; omega), if_pos (.inr (.inl hr))]
        · have hrl : 0 < rest.length := List.length_pos_iff.2 hr
          rw [eqF (by omega)]
          obtain ⟨q, z, hq⟩ : ∃ q z, pre = q ++ [z] := ⟨pre.dropLast, pre.getLast hp, (List.dropLast_concat_getLast hp).symm⟩
          have hgx : getI w (IntKind.wrap .i64 (((x.length + pre.length : Nat) : Int) - 1)) = some z := by
            rw [i64_in (by omega) (by omega)]
            have : ((x.length + pre.length : Nat) : Int) - 1 = ((x ++ q).length : Int) := by rw [hq]; simp; omega
            have h2 : w = (x ++ q) ++ z :: (c :: (rest ++ y)) := by rw [hwx, hq]; simp
            rw [this, h2]
            exact getI_at (x ++ q) (c :: (rest ++ y)) z
          rw [hgx]
          show pick2 (eqI (u8I z) 95) _ _ = _
          by_cases hz : u8I z = 95
          · have : prev = true := hprev.2 ⟨q, by rw [hq]; congr 2; exact u8I_inj (a := z) (b := 95) hz⟩
            rw [eqT hz, if_pos (.inr (.inr this))]
          · have hpf : prev = false := by
              cases hpv : prev with
              | false => rfl
              | true =>
                obtain ⟨q', hq'⟩ := hprev.1 hpv
                rw [hq] at hq'
                have := (List.append_inj' hq' rfl).2
                simp at this
                exact absurd (by rw [this]; rfl) hz
            rw [eqF hz, if_neg (by simp [hr, hpf, hp])]
            have hcc : c = 95 := u8I_inj (a := c) (b := 95) hc
            have := ih (pre ++ [c]) m N true he' hm' ⟨fun _ => ⟨pre, by rw [hcc]⟩, fun _ => rfl⟩
            rw [hne] at this
            show jN gv w b _ _ r m _ _ ((x.length + (pre ++ [c]).length : Nat) : Int) = _
            rw [this, List.length_append, List.length_singleton]
            have hv : valD b (c :: rest) N = valD b rest N := by rw [valD, if_pos hc]
            rw [hv]
    · rw [eqF hc]
      show pick2 (!ltI (digR (u8I c)) b) _ _ = _
      obtain ⟨d1, d2⟩ := dig_both hb (u8I c)
      have hww : wrongD b pre.isEmpty prev (c :: rest) pre.length = if digI (u8I c) < 0 ∨ (b : Int) ≤ digI (u8I c) then some pre.length else wrongD b false false rest (pre.length + 1) := by
        rw [wrongD, if_neg hc]
      rw [hww]
      by_cases h1 : (b : Int) ≤ digR (u8I c)
      · rw [ltF h1, if_pos (d1.1 h1)]; rfl
      · rw [ltT (by omega), if_neg (fun hh => h1 (d1.2 hh))]
        obtain ⟨d3, d4⟩ := d2 (by omega)
        obtain ⟨v, hv⟩ : ∃ v : Nat, digR (u8I c) = v := ⟨(digR (u8I c)).toNat, by omega⟩
        obtain ⟨s1, s2⟩ := next_over (N := N) (v := v) hb2 hb (by omega)
        have hval : valD b (c :: rest) N = valD b rest (N * b + v) := by rw [valD, if_neg hc, ← d3, hv]; rfl
        have hno : ¬ ∃ q, pre ++ [c] = q ++ [95] := fun ⟨q, hq⟩ => by
          have := (List.append_inj' hq rfl).2
          simp at this
          exact hc (by rw [this]; rfl)
        have goal : ∀ big, big = decide (18446744073709551616 ≤ N * b + v) → jN gv w b x.length ((x.length + d.length : Nat) : Int) r m (sumN b ((N % 18446744073709551616 : Nat) : Int) (digR (u8I c))) big ((x.length + (pre ++ [c]).length : Nat) : Int) =
            match wrongD b false false rest (pre.length + 1) with
            | some i => outN 0 4 ((x.length + i : Nat) : Int)
            | none => pick2 (decide (18446744073709551616 ≤ valD b (c :: rest) N)) (outN 0 5 0) (outN (IntKind.wrap .i64 ((valD b (c :: rest) N % 18446744073709551616 : Nat) : Int)) 0 0) := fun big hbig => by
          have := ih (pre ++ [c]) m (N * b + v) false he' hm' ⟨fun h => (by cases h), fun h => absurd h hno⟩
          rw [hne] at this
          rw [hv, s1, hbig, this, hval, List.length_append, List.length_singleton]
        show pick2 (decide (18446744073709551616 ≤ N)) _ _ = _
        by_cases hN : 18446744073709551616 ≤ N
        · rw [decide_eq_true hN]
          have : N ≤ N * b := Nat.le_mul_of_pos_right N (by omega)
          exact goal true (by rw [decide_eq_true]; omega)
        · rw [decide_eq_false hN]
          show pick2 (eqI (IntKind.wrap .u64 (b : Int)) 0) none _ = _
          rw [u64_in (n := (b : Int)) (by omega) (by omega), eqF (by omega)]
          refine goal _ ?_
          have := s2 (by omega)
          rw [u64_in (n := (b : Int)) (by omega) (by omega)] at this
          rw [hv]
          exact this

/-- What a word's number is, or its fault. -/
def numS (w : List UInt8) : Int × Int × Int :=
  if 0 ≤ (digS (partsS w).2.2 ((w.take (w.length - (partsS w).2.1)).drop (partsS w).1)).2.1 then (0, 4, ((partsS w).1 : Int) + (digS (partsS w).2.2 ((w.take (w.length - (partsS w).2.1)).drop (partsS w).1)).2.1)
  else if (digS (partsS w).2.2 ((w.take (w.length - (partsS w).2.1)).drop (partsS w).1)).2.2 then (0, 5, 0)
  else (IntKind.wrap .i64 (digS (partsS w).2.2 ((w.take (w.length - (partsS w).2.1)).drop (partsS w).1)).1, 0, 0)

theorem runN (gv : Nat → List AV) {w : List UInt8} (h : w ≠ []) (hl : w.length < 1000000) :
    enterT (Xg gv) (c4 gv AV) anN (w.length + 1) 49 [.str w] TMem.empty (fun v _ => some v) = outN (numS w).1 (numS w).2.1 (numS w).2.2 := by
  obtain ⟨h1, h2, h3⟩ := parts_le w h
  rw [enterN]
  have hne : w.isEmpty = false := by simpa using h
  rw [hne, bleT (by omega)]
  show jN gv w _ _ _ _ _ _ _ _ = _
  generalize hp : partsS w = p at h1 h2 h3
  have hd : ((w.take (w.length - p.2.1)).drop p.1).length = w.length - p.2.1 - p.1 := by simp
  have hx : (w.take p.1).length = p.1 := by simp; omega
  have hw : w = w.take p.1 ++ (w.take (w.length - p.2.1)).drop p.1 ++ w.drop (w.length - p.2.1) := by
    have e1 : w.take p.1 = (w.take (w.length - p.2.1)).take p.1 := by rw [List.take_take]; congr 1; omega
    rw [e1, List.take_append_drop, List.take_append_drop]
  have := loopN' gv h2 h3 w (w.take p.1) ((w.take (w.length - p.2.1)).drop p.1) (w.drop (w.length - p.2.1)) hw hl (w.length + 1) ((w.take (w.length - p.2.1)).drop p.1) [] (w.length + 1) 0 false rfl (by rw [hd]; omega) ⟨fun h => (by cases h), fun ⟨q, hq⟩ => by simp at hq⟩
  rw [hx, hd] at this
  have e2 : p.1 + (w.length - p.2.1 - p.1) = w.length - p.2.1 := by omega
  rw [e2] at this
  have e3 : ((p.1 + ([] : List UInt8).length : Nat) : Int) = p.1 := by simp
  rw [e3] at this
  have e4 : ((0 % 18446744073709551616 : Nat) : Int) = 0 := rfl
  have e5 : decide (18446744073709551616 ≤ 0) = false := rfl
  rw [e4, e5] at this
  rw [this]
  unfold numS
  rw [hp]
  unfold digS
  generalize (w.take (w.length - p.2.1)).drop p.1 = d
  show (match wrongD p.2.2 true false d 0 with | some i => _ | none => _) = _
  cases wrongD p.2.2 true false d 0 with
  | some i => simp only [if_pos (Int.natCast_nonneg i)]; rfl
  | none =>
    simp only [show ¬ (0 : Int) ≤ -1 by omega, if_false, pick2_eq, decide_eq_true_eq]
    split <;> rfl

noncomputable def gNum (args : List AV) : Option (Bool × List PRes) :=
  match args with
  | [.str w] => some (!w.isEmpty && Nat.ble w.length 999999, [.val (.int .i64 (numS w).1), .val (.agg [.int .i64 (numS w).2.1, .int .i64 (numS w).2.2])])
  | _ => none
theorem con49 (gv : Nat → List AV) : ConOk (Xg gv) (cfOf (Xg gv) noKnown) 49 gNum :=
  con_vals (nk 49) (c4_ok gv) fun args rs hg => by
    unfold gNum at hg
    split at hg
    · rename_i w
      simp only [Option.some.injEq, Prod.mk.injEq, Bool.and_eq_true, Bool.not_eq_true', List.isEmpty_eq_false_iff, Nat.ble_eq] at hg
      obtain ⟨⟨h1, h2⟩, rfl⟩ := hg
      exact ⟨[.int .i64 (numS w).1, .agg [.int .i64 (numS w).2.1, .int .i64 (numS w).2.2]], anN, w.length + 1, runN gv h1 (by omega), rfl, rfl⟩
    · cases hg
end Go.Proofs.YtcafcgiemdlobaaDoor.lt
