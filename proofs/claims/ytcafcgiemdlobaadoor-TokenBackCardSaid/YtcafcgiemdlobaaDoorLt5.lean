/- Literals: Scan. -/
import Derived.Test.YtcafcgiemdlobaaDoorLt4
namespace Go.Proofs.YtcafcgiemdlobaaDoor.lt
open Go.Tv Go.Ev

noncomputable def jS (gv : Nat → List AV) (s : List UInt8) (at' : Int) (r m : Nat) (e : Int) : Option AV := loopN (Xg gv) (c2 gv AV) anS r 17 pS (fun v _ => some v) m (stS s at' e) mT
/-- The word's end is found. -/
noncomputable def digsS (s : List UInt8) (at' e lo : Int) (r : Int × Int × Bool) : Option AV :=
  pick2 (!ltI r.2.1 0) (outT 0 0 4 (IntKind.wrap .i64 (lo + r.2.1))) (pick2 r.2.2 (outT 0 0 5 at') (outT (IntKind.wrap .i64 r.1) e 0 0))
noncomputable def partS (s : List UInt8) (at' e : Int) (w : List UInt8) (p : Nat × Nat × Nat) : Option AV :=
  pick2 (!ltI (IntKind.wrap .i64 (at' + ↑p.1)) 0 && !ltI (IntKind.wrap .i64 (at' + ↑(w.length - p.2.1))) (IntKind.wrap .i64 (at' + ↑p.1)) && !ltI (Int.ofNat s.length) (IntKind.wrap .i64 (at' + ↑(w.length - p.2.1))))
    (pick2 (!ltI (p.2.2 : Int) 2 && !ltI 16 (p.2.2 : Int) && Nat.ble (cutL s (IntKind.wrap .i64 (at' + ↑p.1)) (IntKind.wrap .i64 (at' + ↑(w.length - p.2.1)))).length 999999)
      (digsS s at' e (IntKind.wrap .i64 (at' + ↑p.1)) (digS (Int.toNat (p.2.2 : Int)) (cutL s (IntKind.wrap .i64 (at' + ↑p.1)) (IntKind.wrap .i64 (at' + ↑(w.length - p.2.1)))))) none) none
noncomputable def endS (s : List UInt8) (at' e : Int) : Option AV :=
  pick2 (!ltI at' 0 && !ltI e at' && !ltI (Int.ofNat s.length) e)
    (pick2 (!(cutL s at' e).isEmpty && Nat.ble (cutL s at' e).length 999999) (partS s at' e (cutL s at' e) (partsS (cutL s at' e))) none) none
theorem stepS (gv : Nat → List AV) (s : List UInt8) (at' : Int) (r m : Nat) (e : Int) : jS gv s at' r (m + 1) e =
    pick2 (ltI e ↑s.length) (Option.rec (motive := fun _ => Option AV) none (fun c => pick2 (wordI (u8I c)) (jS gv s at' r m (IntKind.wrap .i64 (e + 1))) (endS s at' e)) (getI s e)) (endS s at' e) := by kernel_rfl

noncomputable def startS (s : List UInt8) (at' : Int) (go : Option AV) : Option AV :=
  Option.rec (motive := fun _ => Option AV) none (fun c => pick2 (eqI (u8I c) 39)
    (pick2 (!ltI at' 0 && ltI at' ↑s.length && Nat.ble s.length 999999) (outT (textS s at'.toNat).1 (textS s at'.toNat).2.1 (textS s at'.toNat).2.2.1 (textS s at'.toNat).2.2.2) none) go) (getI s at')
theorem enterS (gv : Nat → List AV) (s : List UInt8) (at' : Int) (m : Nat) : enterT (Xg gv) (c2 gv AV) anS m 17 [.str s, .int .i64 at'] TMem.empty (fun v _ => some v) =
    pick2 (ltI at' 0) (outT 0 0 6 0) (pick2 (!ltI at' ↑s.length) (outT 0 0 6 at')
      (Option.rec (motive := fun _ => Option AV) none (fun c => pick2 (!eqI (u8I c) 39)
        (Option.rec (motive := fun _ => Option AV) none (fun c => pick2 (ltI (u8I c) 48) (outT 0 0 6 at')
          (Option.rec (motive := fun _ => Option AV) none (fun c => pick2 (ltI 57 (u8I c)) (outT 0 0 6 at') (startS s at' (jS gv s at' m m at'))) (getI s at'))) (getI s at'))
        (startS s at' (jS gv s at' m m at'))) (getI s at'))) := by kernel_rfl

theorem loopS (gv : Nat → List AV) (s : List UInt8) (hs : s.length < 1000000) (at' : Int) (r : Nat) : ∀ (rest pre : List UInt8) (m : Nat), s = pre ++ rest → rest.length < m →
    jS gv s at' r m pre.length = endS s at' ((pre.length + (rest.takeWhile fun c => wordI (u8I c)).length : Nat) : Int) := by
  intro rest
  induction rest with
  | nil =>
    intro pre m he hm
    obtain ⟨m, rfl⟩ : ∃ m', m = m' + 1 := ⟨m - 1, by simp at hm; omega⟩
    have hl : s.length = pre.length := by rw [he]; simp
    rw [stepS, ltF (by omega)]
    rfl
  | cons c rest ih =>
    intro pre m he hm
    obtain ⟨m, rfl⟩ : ∃ m', m = m' + 1 := ⟨m - 1, by simp at hm; omega⟩
    have hl : s.length = pre.length + (rest.length + 1) := by rw [he]; simp
    have hg : getI s (pre.length : Int) = some c := by rw [he]; exact getI_at pre rest c
    have hnext : IntKind.wrap .i64 ((pre.length : Int) + 1) = ((pre ++ [c]).length : Int) := by rw [i64_in (by omega) (by omega)]; simp
    rw [stepS, ltT (by omega), hg, hnext]
    show pick2 (wordI (u8I c)) _ _ = _
    cases hw : wordI (u8I c) with
    | true =>
      show jS gv s at' r m _ = _
      rw [ih (pre ++ [c]) m (by rw [he]; simp) (by simp at hm; omega), List.takeWhile_cons, if_pos hw]
      simp only [List.length_append, List.length_cons, List.length_nil]
      congr 2; omega
    | false =>
      rw [List.takeWhile_cons, if_neg (by simp [hw])]
      simp

/-- What a word comes to. -/
def wordS (w : List UInt8) (a : Nat) : Int × Int × Int × Int :=
  if 0 ≤ (digS (partsS w).2.2 ((w.take (w.length - (partsS w).2.1)).drop (partsS w).1)).2.1 then (0, 0, 4, (a : Int) + (partsS w).1 + (digS (partsS w).2.2 ((w.take (w.length - (partsS w).2.1)).drop (partsS w).1)).2.1)
  else if (digS (partsS w).2.2 ((w.take (w.length - (partsS w).2.1)).drop (partsS w).1)).2.2 then (0, 0, 5, (a : Int))
  else (IntKind.wrap .i64 (digS (partsS w).2.2 ((w.take (w.length - (partsS w).2.1)).drop (partsS w).1)).1, (a : Int) + w.length, 0, 0)
def scanS (s : List UInt8) (at' : Int) : Int × Int × Int × Int :=
  if at' < 0 then (0, 0, 6, 0) else if (s.length : Int) ≤ at' then (0, 0, 6, at')
  else if u8I (s.getD at'.toNat 0) = 39 then textS s at'.toNat
  else if 48 ≤ u8I (s.getD at'.toNat 0) ∧ u8I (s.getD at'.toNat 0) ≤ 57 then wordS ((s.drop at'.toNat).takeWhile fun c => wordI (u8I c)) at'.toNat
  else (0, 0, 6, at')

theorem parts_le (w : List UInt8) (h : w ≠ []) : (partsS w).1 + (partsS w).2.1 ≤ w.length ∧ 2 ≤ (partsS w).2.2 ∧ (partsS w).2.2 ≤ 16 := by
  have hp : 0 < w.length := List.length_pos_iff.2 h
  unfold partsS
  by_cases hc : 2 < w.length ∧ w.head? = some 48
  · simp only [if_pos hc]
    repeat' split
    all_goals refine ⟨?_, ?_, ?_⟩ <;> simp only <;> omega
  · simp only [if_neg hc]
    repeat' split
    all_goals first | (refine ⟨?_, ?_, ?_⟩ <;> simp only <;> omega) | (rename_i h _; simp at h) | (rename_i h; simp at h)

theorem wrong_le (b : Int) : ∀ (l : List UInt8) (first prev : Bool) (i j : Nat), wrongD b first prev l i = some j → j ≤ i + l.length
  | [], first, prev, i, j, h => by
    rw [wrongD] at h
    split at h
    · cases h; omega
    · cases h
  | c :: r, first, prev, i, j, h => by
    rw [wrongD] at h
    simp only [List.length_cons]
    split at h
    · split at h
      · cases h; omega
      · have := wrong_le b r _ _ _ _ h; omega
    · split at h
      · cases h; omega
      · have := wrong_le b r _ _ _ _ h; omega
theorem digS_le (b : Nat) (d : List UInt8) : -1 ≤ (digS b d).2.1 ∧ (digS b d).2.1 ≤ d.length := by
  unfold digS
  split
  · rename_i i h
    have := wrong_le b d true false 0 i h
    simp only; omega
  · simp only; omega

theorem endS_eq {s w : List UInt8} (hs : s.length < 1000000) {a : Nat} (ha : a + w.length ≤ s.length) (hw : w ≠ []) (he : (s.drop a).take w.length = w) :
    endS s a ((a + w.length : Nat) : Int) = outT (wordS w a).1 (wordS w a).2.1 (wordS w a).2.2.1 (wordS w a).2.2.2 := by
  obtain ⟨h1, h2, h3⟩ := parts_le w hw
  have hcut : cutL s (a : Int) ((a + w.length : Nat) : Int) = w := by
    unfold cutL
    simp only [Int.toNat_natCast]
    have : a + w.length - a = w.length := by omega
    rw [this]; exact he
  unfold endS
  rw [ltF (a := (a : Int)) (b := 0) (by omega), ltF (a := ((a + w.length : Nat) : Int)) (by omega), ltF (a := Int.ofNat s.length) (by show ((a + w.length : Nat) : Int) ≤ (s.length : Int); omega), hcut]
  have hne : w.isEmpty = false := by simpa using hw
  have hbl : Nat.ble w.length 999999 = true := bleT (by omega)
  rw [hne, hbl]
  show partS s a _ w (partsS w) = _
  unfold partS
  have e1 : IntKind.wrap .i64 ((a : Int) + ((partsS w).1 : Int)) = ((a + (partsS w).1 : Nat) : Int) := by rw [i64_in (by omega) (by omega)]; omega
  have e2 : IntKind.wrap .i64 ((a : Int) + ((w.length - (partsS w).2.1 : Nat) : Int)) = ((a + (w.length - (partsS w).2.1) : Nat) : Int) := by rw [i64_in (by omega) (by omega)]; omega
  rw [e1, e2, ltF (a := ((a + (partsS w).1 : Nat) : Int)) (b := 0) (by omega), ltF (a := ((a + (w.length - (partsS w).2.1) : Nat) : Int)) (by omega), ltF (a := Int.ofNat s.length) (by show ((a + (w.length - (partsS w).2.1) : Nat) : Int) ≤ (s.length : Int); omega)]
  have hcut2 : cutL s ((a + (partsS w).1 : Nat) : Int) ((a + (w.length - (partsS w).2.1) : Nat) : Int) = (w.take (w.length - (partsS w).2.1)).drop (partsS w).1 := cut_part he _ _ (by omega)
  rw [hcut2, ltF (a := ((partsS w).2.2 : Int)) (b := 2) (by omega), ltF (a := 16) (by omega)]
  have hbl2 : Nat.ble ((w.take (w.length - (partsS w).2.1)).drop (partsS w).1).length 999999 = true := bleT (by simp; omega)
  rw [hbl2, Int.toNat_natCast]
  show digsS s a _ _ _ = _
  unfold digsS wordS
  have hd := digS_le (partsS w).2.2 ((w.take (w.length - (partsS w).2.1)).drop (partsS w).1)
  have hdl : ((w.take (w.length - (partsS w).2.1)).drop (partsS w).1).length ≤ w.length := by simp; omega
  generalize digS (partsS w).2.2 ((w.take (w.length - (partsS w).2.1)).drop (partsS w).1) = rr at hd ⊢
  rw [pick_nlt]
  by_cases h0 : 0 ≤ rr.2.1
  · rw [if_pos h0, if_pos h0, i64_in (by omega) (by omega)]
    show outT _ _ _ _ = outT _ _ _ _
    congr 1
  · rw [if_neg h0, if_neg h0, pick2_eq]
    by_cases h4 : rr.2.2 = true
    · rw [if_pos h4, if_pos h4]
    · rw [if_neg h4, if_neg h4]
      show outT _ _ _ _ = outT _ _ _ _
      congr 1

theorem take_while (l : List UInt8) (p : UInt8 → Bool) : l.take (l.takeWhile p).length = l.takeWhile p := by
  have h := List.takeWhile_append_dropWhile (p := p) (l := l)
  have h2 : (l.takeWhile p ++ l.dropWhile p).take (l.takeWhile p).length = l.takeWhile p := List.take_left
  rw [h] at h2; exact h2

theorem runS (gv : Nat → List AV) (s : List UInt8) (hs : s.length < 1000000) (at' : Int) :
    enterT (Xg gv) (c2 gv AV) anS (s.length + 1) 17 [.str s, .int .i64 at'] TMem.empty (fun v _ => some v) = outT (scanS s at').1 (scanS s at').2.1 (scanS s at').2.2.1 (scanS s at').2.2.2 := by
  rw [enterS]
  unfold scanS
  rw [pick_lt]
  by_cases h0 : at' < 0
  · rw [if_pos h0, if_pos h0]
  rw [if_neg h0, if_neg h0, pick_nlt]
  by_cases h1 : (s.length : Int) ≤ at'
  · rw [if_pos h1, if_pos h1]
  rw [if_neg h1, if_neg h1]
  obtain ⟨a, rfl⟩ : ∃ a : Nat, at' = a := ⟨at'.toNat, by omega⟩
  have ha : a < s.length := by omega
  rw [Int.toNat_natCast]
  have hg : getI s (a : Int) = some (s.getD a 0) := by
    rw [getI_nat, List.getD_eq_getElem?_getD, List.getElem?_eq_getElem ha]; rfl
  unfold startS
  rw [hg]
  generalize hc : s.getD a 0 = c
  show pick2 (!eqI (u8I c) 39) (pick2 (ltI (u8I c) 48) _ (pick2 (ltI 57 (u8I c)) _ (pick2 (eqI (u8I c) 39) _ _))) (pick2 (eqI (u8I c) 39) _ _) = _
  simp only [pick_neq, pick_eq, pick_lt]
  by_cases h39 : u8I c = 39
  · simp only [if_pos h39]
    rw [ltF (by omega), ltT (by omega), bleT (show s.length ≤ 999999 by omega)]
    rw [Int.toNat_natCast]; rfl
  · simp only [if_neg h39]
    by_cases hd : 48 ≤ u8I c ∧ u8I c ≤ 57
    · rw [if_neg (by omega), if_neg (by omega), if_pos hd]
      have hl : (s.take a).length = a := by simp; omega
      have hloop := loopS gv s hs a (s.length + 1) (s.drop a) (s.take a) (s.length + 1) (by simp) (by simp; omega)
      rw [hl] at hloop
      rw [hloop]
      have hcons : s.drop a = c :: s.drop (a + 1) := by
        rw [List.drop_eq_getElem_cons ha, ← hc, List.getD_eq_getElem?_getD, List.getElem?_eq_getElem ha]; rfl
      have hw : (s.drop a).takeWhile (fun c => wordI (u8I c)) ≠ [] := by
        rw [hcons, List.takeWhile_cons, if_pos (by unfold wordI; simp; omega)]; simp
      have hle : ((s.drop a).takeWhile fun c => wordI (u8I c)).length ≤ (s.drop a).length := by
        have := List.IsPrefix.length_le (List.takeWhile_prefix (l := s.drop a) (fun c => wordI (u8I c))); exact this
      exact endS_eq hs (by simp at hle; omega) hw (take_while _ _)
    · rw [if_neg hd]
      by_cases h48 : u8I c < 48
      · rw [if_pos h48]
      · rw [if_neg h48, if_pos (by omega)]

noncomputable def gScan (args : List AV) : Option (Bool × List PRes) :=
  match args with
  | [.str s, .int .i64 a] => some (Nat.ble s.length 999999, [.val (.int .i64 (scanS s a).1), .val (.int .i64 (scanS s a).2.1), .val (.agg [.int .i64 (scanS s a).2.2.1, .int .i64 (scanS s a).2.2.2])])
  | _ => none
theorem con17 (gv : Nat → List AV) : ConOk (Xg gv) (cfOf (Xg gv) noKnown) 17 gScan :=
  con_vals (nk 17) (c2_ok gv) fun args rs hg => by
    unfold gScan at hg
    split at hg
    · rename_i s a
      simp only [Option.some.injEq, Prod.mk.injEq, Nat.ble_eq] at hg
      obtain ⟨h3, rfl⟩ := hg
      exact ⟨[.int .i64 (scanS s a).1, .int .i64 (scanS s a).2.1, .agg [.int .i64 (scanS s a).2.2.1, .int .i64 (scanS s a).2.2.2]], anS, s.length + 1, runS gv s (by omega) a, rfl, rfl⟩
    · cases hg
end Go.Proofs.YtcafcgiemdlobaaDoor.lt
