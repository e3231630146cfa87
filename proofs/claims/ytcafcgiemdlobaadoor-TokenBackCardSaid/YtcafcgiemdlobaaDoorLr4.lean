/- Literals, by the document: Scan; both are one. -/
import Derived.Test.YtcafcgiemdlobaaDoorLr3
namespace Go.Proofs.YtcafcgiemdlobaaDoor.lt
open Go.Tv Go.Ev

noncomputable def stQ (s : List UInt8) (at' e : Int) : TFr := frOf 74 [(0, .str s), (1, .int .i64 at'), (6, .ptr 0 0), (7, .int .i64 e)]
noncomputable def jQ (gv : Nat → List AV) (s : List UInt8) (a : Int) (r m : Nat) (e : Int) : Option AV := loopN (Xg gv) (c5 gv AV) anQ r 18 pQ (fun v _ => some v) m (stQ s a e) mT
noncomputable def endQ (s : List UInt8) (a e : Int) : Option AV :=
  pick2 (!ltI a 0 && !ltI e a && !ltI (Int.ofNat s.length) e)
    (pick2 (!(cutL s a e).isEmpty && Nat.ble (cutL s a e).length 999999)
      (pick2 (!eqI (numS (cutL s a e)).2.1 0) (outT 0 0 (numS (cutL s a e)).2.1 (IntKind.wrap .i64 ((numS (cutL s a e)).2.2 + a))) (outT (numS (cutL s a e)).1 e (numS (cutL s a e)).2.1 (numS (cutL s a e)).2.2)) none) none
theorem stepQ (gv : Nat → List AV) (s : List UInt8) (a : Int) (r m : Nat) (e : Int) : jQ gv s a r (m + 1) e =
    pick2 (ltI e ↑s.length) (atK s e fun c => pick2 (wordI (u8I c)) (jQ gv s a r m (IntKind.wrap .i64 (e + 1))) (endQ s a e)) (endQ s a e) := by kernel_rfl
theorem enterQ (gv : Nat → List AV) (s : List UInt8) (a : Int) (m : Nat) : enterT (Xg gv) (c5 gv AV) anQ m 18 [.str s, .int .i64 a] TMem.empty (fun v _ => some v) =
    pick2 (ltI a 0) (outT 0 0 6 0) (pick2 (!ltI a ↑s.length) (outT 0 0 6 a) (atK s a fun c => pick2 (eqI (u8I c) 39)
      (pick2 (!ltI a 0 && ltI a ↑s.length && Nat.ble s.length 999999) (outT (textS s a.toNat).1 (textS s a.toNat).2.1 (textS s a.toNat).2.2.1 (textS s a.toNat).2.2.2) none)
      (atK s a fun c => pick2 (ltI 9 (digR (u8I c))) (outT 0 0 6 a) (jQ gv s a m m a)))) := by kernel_rfl

theorem loopQ (gv : Nat → List AV) (s : List UInt8) (hs : s.length < 1000000) (a : Int) (r : Nat) : ∀ (rest pre : List UInt8) (m : Nat), s = pre ++ rest → rest.length < m →
    jQ gv s a r m pre.length = endQ s a ((pre.length + (rest.takeWhile fun c => wordI (u8I c)).length : Nat) : Int) := by
  intro rest
  induction rest with
  | nil =>
    intro pre m he hm
    obtain ⟨m, rfl⟩ : ∃ m', m = m' + 1 := ⟨m - 1, by simp at hm; omega⟩
    have hl : s.length = pre.length := by rw [he]; simp
    rw [stepQ, ltF (by omega)]
    rfl
  | cons c rest ih =>
    intro pre m he hm
    obtain ⟨m, rfl⟩ : ∃ m', m = m' + 1 := ⟨m - 1, by simp at hm; omega⟩
    have hl : s.length = pre.length + (rest.length + 1) := by rw [he]; simp
    have hg : getI s (pre.length : Int) = some c := by rw [he]; exact getI_at pre rest c
    have hnext : IntKind.wrap .i64 ((pre.length : Int) + 1) = ((pre ++ [c]).length : Int) := by rw [i64_in (by omega) (by omega)]; simp
    unfold atK at *
    rw [stepQ]
    unfold atK
    rw [ltT (by omega), hg, hnext]
    show pick2 (wordI (u8I c)) _ _ = _
    cases hw : wordI (u8I c) with
    | true =>
      show jQ gv s a r m _ = _
      rw [ih (pre ++ [c]) m (by rw [he]; simp) (by simp at hm; omega), List.takeWhile_cons, if_pos hw]
      simp only [List.length_append, List.length_cons, List.length_nil]
      congr 2; omega
    | false =>
      rw [List.takeWhile_cons, if_neg (by simp [hw])]
      simp

theorem endQ_eq {s w : List UInt8} (hs : s.length < 1000000) {a : Nat} (ha : a + w.length ≤ s.length) (hw : w ≠ []) (he : (s.drop a).take w.length = w) :
    endQ s a ((a + w.length : Nat) : Int) = outT (wordS w a).1 (wordS w a).2.1 (wordS w a).2.2.1 (wordS w a).2.2.2 := by
  obtain ⟨h1, h2, h3⟩ := parts_le w hw
  have hcut : cutL s (a : Int) ((a + w.length : Nat) : Int) = w := by
    unfold cutL
    simp only [Int.toNat_natCast]
    have : a + w.length - a = w.length := by omega
    rw [this]; exact he
  unfold endQ
  rw [ltF (a := (a : Int)) (b := 0) (by omega), ltF (a := ((a + w.length : Nat) : Int)) (by omega), ltF (a := Int.ofNat s.length) (by show ((a + w.length : Nat) : Int) ≤ (s.length : Int); omega), hcut]
  have hne : w.isEmpty = false := by simpa using hw
  rw [hne, bleT (show w.length ≤ 999999 by omega)]
  show pick2 (!eqI (numS w).2.1 0) _ _ = _
  have hd := digS_le (partsS w).2.2 ((w.take (w.length - (partsS w).2.1)).drop (partsS w).1)
  have hdl : ((w.take (w.length - (partsS w).2.1)).drop (partsS w).1).length ≤ w.length := by simp; omega
  unfold numS wordS
  generalize digS (partsS w).2.2 ((w.take (w.length - (partsS w).2.1)).drop (partsS w).1) = rr at hd ⊢
  by_cases h0 : 0 ≤ rr.2.1
  · simp only [if_pos h0]
    rw [eqF (by omega), i64_in (by omega) (by omega)]
    show outT _ _ _ _ = outT _ _ _ _
    congr 1; omega
  · simp only [if_neg h0]
    by_cases h4 : rr.2.2 = true
    · simp only [if_pos h4]
      rw [eqF (by omega), i64_in (by omega) (by omega)]
      show outT _ _ _ _ = outT _ _ _ _
      congr 1; omega
    · simp only [if_neg h4]
      rw [eqT (by rfl)]
      show outT _ _ _ _ = outT _ _ _ _
      congr 1

theorem runQ (gv : Nat → List AV) (s : List UInt8) (hs : s.length < 1000000) (at' : Int) :
    enterT (Xg gv) (c5 gv AV) anQ (s.length + 1) 18 [.str s, .int .i64 at'] TMem.empty (fun v _ => some v) = outT (scanS s at').1 (scanS s at').2.1 (scanS s at').2.2.1 (scanS s at').2.2.2 := by
  rw [enterQ]
  unfold scanS
  rw [pick_lt]
  by_cases h0 : at' < 0
  · rw [if_pos h0, if_pos h0]
  rw [if_neg h0, if_neg h0, pick_nlt]
  by_cases h1 : (s.length : Int) ≤ at'
  · rw [if_pos h1, if_pos h1]
  rw [if_neg h1, if_neg h1]
  obtain ⟨a, rfl⟩ : ∃ a : Nat, at' = a := ⟨at'.toNat, by omega⟩
  have ha : a < s.length := by omega
  rw [Int.toNat_natCast]
  have hg : getI s (a : Int) = some (s.getD a 0) := by
    rw [getI_nat, List.getD_eq_getElem?_getD, List.getElem?_eq_getElem ha]; rfl
  unfold atK
  rw [hg]
  generalize hc : s.getD a 0 = c
  show pick2 (eqI (u8I c) 39) _ (pick2 (ltI 9 (digR (u8I c))) _ _) = _
  simp only [pick_eq, pick_lt]
  by_cases h39 : u8I c = 39
  · simp only [if_pos h39]
    rw [ltF (by omega), ltT (by omega), bleT (show s.length ≤ 999999 by omega)]
    rfl
  · simp only [if_neg h39]
    have hdig : 9 < digR (u8I c) ↔ ¬ (48 ≤ u8I c ∧ u8I c ≤ 57) := by unfold digR; repeat' split <;> omega
    by_cases hd : 48 ≤ u8I c ∧ u8I c ≤ 57
    · rw [if_neg (fun h => hdig.1 h hd), if_pos hd]
      have hl : (s.take a).length = a := by simp; omega
      have hloop := loopQ gv s hs a (s.length + 1) (s.drop a) (s.take a) (s.length + 1) (by simp) (by simp; omega)
      rw [hl] at hloop
      rw [hloop]
      have hcons : s.drop a = c :: s.drop (a + 1) := by
        rw [List.drop_eq_getElem_cons ha, ← hc, List.getD_eq_getElem?_getD, List.getElem?_eq_getElem ha]; rfl
      have hw : (s.drop a).takeWhile (fun c => wordI (u8I c)) ≠ [] := by
        rw [hcons, List.takeWhile_cons, if_pos (by unfold wordI; simp; omega)]; simp
      have hle : ((s.drop a).takeWhile fun c => wordI (u8I c)).length ≤ (s.drop a).length := by
        have := List.IsPrefix.length_le (List.takeWhile_prefix (l := s.drop a) (fun c => wordI (u8I c))); exact this
      exact endQ_eq hs (by simp at hle; omega) hw (take_while _ _)
    · rw [if_pos (hdig.2 hd), if_neg hd]
theorem con18 (gv : Nat → List AV) : ConOk (Xg gv) (cfOf (Xg gv) noKnown) 18 gScan :=
  con_vals (nk 18) (c5_ok gv) fun args rs hg => by
    unfold gScan at hg
    split at hg
    · rename_i s a
      simp only [Option.some.injEq, Prod.mk.injEq, Nat.ble_eq] at hg
      obtain ⟨h3, rfl⟩ := hg
      exact ⟨[.int .i64 (scanS s a).1, .int .i64 (scanS s a).2.1, .agg [.int .i64 (scanS s a).2.2.1, .int .i64 (scanS s a).2.2.2]], anQ, s.length + 1, runQ gv s (by omega) a, rfl, rfl⟩
    · cases hg
end Go.Proofs.YtcafcgiemdlobaaDoor.lt
