/- LiteralSpelled: its loop. -/
import Derived.Test.YtcafcgiemdlobaaDoorLb
namespace Go.Proofs.YtcafcgiemdlobaaDoor.lt
open Go.Tv Go.Ev
noncomputable def anSp : FnAnn := ⟨annOf [0, 3, 4, 5, 7, 8, 9] pB2, .none, []⟩
noncomputable def stSp (s : List UInt8) (n e : Int) (a b : AV) (i : Int) : TFr := frOf 110 [(0, .str s), (3, .bool true), (4, .int .i64 n), (5, .int .i64 e), (7, a), (8, b), (9, .int .i64 i)]
noncomputable def mSp (a b : List Int) : TMem := memOf [.list 5 (.int .u8) a 0 false false, .list 5 (.int .u8) b 0 false false]
noncomputable def jSp (s : List UInt8) (n e : Int) (r m : Nat) (a : List Int) (j : Nat) (b : List Int) (k : Nat) (i : Int) : Option AV := loopN (Xg gvL) (c6 AV) anSp r 8 pB2 (fun v _ => some v) m (stSp s n e (.own 0 j) (.own 1 k) i) (mSp a b)
noncomputable def jSpH (s : List UInt8) (n e : Int) (r m : Nat) (c i : Int) : Option AV := loopN (Xg gvL) (c6 AV) anSp r 8 pB2 (fun v _ => some v) m (stSp s n e (.own 0 1) .nils i) (memOf [.list 5 (.int .u8) [c] 0 false false])
noncomputable def jSp0 (s : List UInt8) (n e : Int) (r m : Nat) : Option AV := loopN (Xg gvL) (c6 AV) anSp r 8 pB2 (fun v _ => some v) m (stSp s n e .nils .nils 0) TMem.empty
noncomputable def addSp (s : List UInt8) (a : List Int) (b : List Int) (k : Nat) (i c' : Int) (go : List Int → Nat → List Int → Nat → Option AV) : Option AV :=
  pick2 (Nat.ble (a.length + 1) 1000000) (pick2 (!eqI c' 95) (atK s i fun c => pick2 (Nat.ble (b.length + 1) 1000000) (go (a ++ [c']) (a.length + 1) (b ++ [u8I c]) (b.length + 1)) none) (go (a ++ [c']) (a.length + 1) b k)) none
noncomputable def endSp (n : Int) (a b : List Int) : Option AV :=
  pick2 (Nat.ble (a.map iU8).length 999999) (pick2 (eqI (scanS (a.map iU8) 0).1 n) (pick2 (eqI (scanS (a.map iU8) 0).2.1 ↑(a.map iU8).length) (pick2 (eqI (scanS (a.map iU8) 0).2.2.1 0)
    (pick2 (Nat.ble (b.map iU8).length 999999) (pick2 (eqI (scanS (b.map iU8) 0).1 n) (pick2 (eqI (scanS (b.map iU8) 0).2.1 ↑(b.map iU8).length) (some (.bool (eqI (scanS (b.map iU8) 0).2.2.1 0))) (some (.bool false))) (some (.bool false))) none)
    (some (.bool false))) (some (.bool false))) (some (.bool false))) none
theorem stepSp (s : List UInt8) (n e : Int) (r m : Nat) (a : List Int) (j : Nat) (b : List Int) (k : Nat) (i : Int) : jSp s n e r (m + 1) a j b k i =
    pick2 (ltI i e) (atK s i fun c => pickR (u8I c) 97 122 (addSp s a b k i (IntKind.wrap .u8 (u8I c - 32)) fun a j b k => jSp s n e r m a j b k (IntKind.wrap .i64 (i + 1))) (addSp s a b k i (u8I c) fun a j b k => jSp s n e r m a j b k (IntKind.wrap .i64 (i + 1)))) (endSp n a b) := by kernel_rfl
noncomputable def addSp0 (s : List UInt8) (n e : Int) (r m : Nat) (c' : Int) : Option AV := pick2 (!eqI c' 95) (atK s 0 fun c => jSp s n e r m [c'] 1 [u8I c] 1 1) (jSpH s n e r m c' 1)
theorem stepSp0 (s : List UInt8) (n e : Int) (r m : Nat) : jSp0 s n e r (m + 1) =
    pick2 (ltI 0 e) (atK s 0 fun c => pickR (u8I c) 97 122 (addSp0 s n e r m (IntKind.wrap .u8 (u8I c - 32))) (addSp0 s n e r m (u8I c))) (pick2 (eqI 0 n) (some (.bool false)) (some (.bool false))) := by kernel_rfl
theorem enterSp (s : List UInt8) (m : Nat) : enterT (Xg gvL) (c6 AV) anSp m 8 [.str s] TMem.empty (fun v _ => some v) =
    pick2 (eqI ↑s.length 0) (some (.bool true)) (pick2 (ltI 100 ↑s.length) (some (.bool true)) (atK s 0 fun c => pick2 (ltI (u8I c) 48) (some (.bool true)) (atK s 0 fun c => pick2 (ltI 57 (u8I c)) (some (.bool true))
      (pick2 (Nat.ble s.length 999999) (pick2 (!eqI (scanS s 0).2.2.1 0)
        (pick2 (eqI (scanS s 0).1 0) (pick2 (eqI (scanS s 0).2.1 0) (pick2 (!ltI (scanS s 0).2.2.2 0) (some (.bool (!ltI ↑s.length (scanS s 0).2.2.2))) (some (.bool false))) (some (.bool false))) (some (.bool false)))
        (pick2 (ltI (scanS s 0).2.1 1) (some (.bool false)) (pick2 (ltI ↑s.length (scanS s 0).2.1) (some (.bool false)) (jSp0 s (scanS s 0).1 (scanS s 0).2.1 m m)))) none)))) := by kernel_rfl

/-! The plain law -/
def upI (n : Int) : Int := if 97 ≤ n ∧ n ≤ 122 then n - 32 else n
def upB (c : UInt8) : UInt8 := iU8 (upI (u8I c))
theorem up_all : ((List.range 256).all fun n => (lowB (upB (UInt8.ofNat n)) == lowB (UInt8.ofNat n))) = true := by decide +kernel
theorem low_up (c : UInt8) : lowB (upB c) = lowB c := by
  have h := List.all_eq_true.1 up_all c.toNat (List.mem_range.2 c.toNat_lt)
  simp only [UInt8.ofNat_toNat, beq_iff_eq] at h
  exact h
theorem upI_in (c : UInt8) : 0 ≤ upI (u8I c) ∧ upI (u8I c) < 256 := by
  have := u8I_nn c; have := u8I_lt c; unfold upI; split <;> omega
theorem u8I_up (c : UInt8) : u8I (upB c) = upI (u8I c) := u8I_iU8 (upI_in c).1 (upI_in c).2
theorem dig_up (n : Int) : digI (upI n) = digI n := by unfold digI upI; repeat' split <;> omega
theorem word_up (n : Int) : wordI (upI n) = wordI n := by
  unfold wordI upI; rw [decide_eq_decide]; split <;> omega
theorem up_bar (n : Int) : upI n = 95 ↔ n = 95 := by unfold upI; split <;> omega

theorem wrong_up (b : Int) : ∀ (d : List UInt8) (f p : Bool) (i : Nat), wrongD b f p (d.map upB) i = wrongD b f p d i
  | [], _, _, _ => rfl
  | c :: d, f, p, i => by
    rw [List.map_cons, wrongD, wrongD, u8I_up, dig_up]
    simp only [up_bar, wrong_up b d, List.map_eq_nil_iff]
theorem val_up (b : Nat) : ∀ (d : List UInt8) (N : Nat), valD b (d.map upB) N = valD b d N
  | [], _ => rfl
  | c :: d, N => by
    rw [List.map_cons, valD, valD, u8I_up, dig_up]
    simp only [up_bar, val_up b d]
theorem dig_map (b : Nat) (d : List UInt8) : digS b (d.map upB) = digS b d := by unfold digS; rw [wrong_up, val_up]
theorem getD_map (w : List UInt8) (i : Nat) (h : i < w.length) : (w.map upB).getD i 0 = upB (w.getD i 0) := by
  rw [List.getD_eq_getElem?_getD, List.getD_eq_getElem?_getD, List.getElem?_map, List.getElem?_eq_getElem h]; rfl
theorem parts_up (w : List UInt8) (hw : w ≠ []) : partsS (w.map upB) = partsS w := by
  have hp : 0 < w.length := List.length_pos_iff.2 hw
  have h1 : (2 < (w.map upB).length ∧ (w.map upB).head? = some 48) ↔ (2 < w.length ∧ w.head? = some 48) := by
    rw [List.length_map]
    cases w with
    | nil => simp
    | cons c r =>
      simp only [List.map_cons, List.head?_cons, Option.some.injEq]
      have : upB c = 48 ↔ c = 48 := by
        constructor
        · intro h
          have h2 : u8I (upB c) = 48 := by rw [h]; rfl
          rw [u8I_up] at h2
          have h3 : u8I c = 48 := by unfold upI at h2; split at h2 <;> omega
          exact u8I_inj (a := c) (b := 48) h3
        · intro h; subst h; rfl
      rw [this]
  have e : (if 2 < (w.map upB).length ∧ (w.map upB).head? = some 48 then lowB ((w.map upB).getD 1 0) else 0) = (if 2 < w.length ∧ w.head? = some 48 then lowB (w.getD 1 0) else 0) := by
    by_cases hc : 2 < w.length ∧ w.head? = some 48
    · rw [if_pos hc, if_pos (h1.2 hc), getD_map w 1 (by omega), low_up]
    · rw [if_neg hc, if_neg (fun h => hc (h1.1 h))]
  unfold partsS
  simp only [e]
  rw [List.length_map, getD_map w (w.length - 1) (by omega), low_up]
theorem word_map (w : List UInt8) (hw : w ≠ []) (a : Nat) : wordS (w.map upB) a = wordS w a := by
  unfold wordS
  rw [parts_up w hw, List.length_map, ← List.map_take, ← List.map_drop, dig_map]

theorem while_all : ∀ {w : List UInt8}, (∀ c ∈ w, wordI (u8I c) = true) → w.takeWhile (fun c => wordI (u8I c)) = w
  | [], _ => rfl
  | c :: r, h => by rw [List.takeWhile_cons, if_pos (h c (by simp)), while_all fun x hx => h x (by simp [hx])]
/-- A word of its own is scanned whole. -/
theorem scan_word {w : List UInt8} (hw : ∀ c ∈ w, wordI (u8I c) = true) {c : UInt8} {r : List UInt8} (he : w = c :: r) (h0 : 48 ≤ u8I c) (h9 : u8I c ≤ 57) : scanS w 0 = wordS w 0 := by
  unfold scanS
  have hg : w.getD (0 : Int).toNat 0 = c := by rw [he]; rfl
  have hl : 0 < w.length := by rw [he]; simp
  rw [if_neg (by omega), if_neg (by omega), hg, if_neg (by omega), if_pos ⟨h0, h9⟩]
  show wordS ((w.drop 0).takeWhile _) 0 = _
  rw [List.drop_zero]
  rw [while_all hw]

theorem wrong_good (b : Int) : ∀ (l : List UInt8) (f p : Bool) (i : Nat), wrongD b f p l i = none → (f = true → ∃ c r, l = c :: r ∧ u8I c ≠ 95) ∧ ∀ c ∈ l, u8I c = 95 ∨ (0 ≤ digI (u8I c) ∧ digI (u8I c) < b)
  | [], f, p, i, h => by
    rw [wrongD] at h
    split at h
    · cases h
    · rename_i hf; exact ⟨fun hh => absurd hh hf, fun c hc => by simp at hc⟩
  | c :: r, f, p, i, h => by
    rw [wrongD] at h
    split at h
    · rename_i hc
      split at h
      · cases h
      · rename_i hn
        have := wrong_good b r _ _ _ h
        refine ⟨fun hf => absurd (.inl hf) hn, fun x hx => ?_⟩
        rcases List.mem_cons.1 hx with rfl | hx
        · exact .inl hc
        · exact this.2 x hx
    · rename_i hc
      split at h
      · cases h
      · rename_i hd
        have := wrong_good b r _ _ _ h
        refine ⟨fun _ => ⟨c, r, rfl, hc⟩, fun x hx => ?_⟩
        rcases List.mem_cons.1 hx with rfl | hx
        · exact .inr (by omega)
        · exact this.2 x hx
theorem good_wrong (b : Int) : ∀ (l : List UInt8) (f p : Bool) (i : Nat), (f = true → l ≠ []) → (∀ c ∈ l, u8I c ≠ 95 ∧ 0 ≤ digI (u8I c) ∧ digI (u8I c) < b) → wrongD b f p l i = none
  | [], f, p, i, h, _ => by
    rw [wrongD, if_neg (fun hf => h hf rfl)]
  | c :: r, f, p, i, h, hg => by
    obtain ⟨h1, h2, h3⟩ := hg c (by simp)
    rw [wrongD, if_neg h1, if_neg (by omega)]
    exact good_wrong b r false false (i + 1) (fun h => by cases h) (fun x hx => hg x (by simp [hx]))
def bareF (c : UInt8) : Bool := !decide (u8I c = 95)
theorem bare_no {c : UInt8} (h : u8I c = 95) (hb : bareF c = true) : False := by unfold bareF at hb; rw [decide_eq_true h] at hb; cases hb
theorem val_bare (b : Nat) : ∀ (d : List UInt8) (N : Nat), valD b (d.filter bareF) N = valD b d N
  | [], _ => rfl
  | c :: d, N => by
    by_cases hc : u8I c = 95
    · rw [List.filter_cons_of_neg (by simp [bareF, hc]), valD, if_pos hc, val_bare b d]
    · rw [List.filter_cons_of_pos (by simp [bareF, hc]), valD, valD, if_neg hc, if_neg hc, val_bare b d]

theorem dig_low {c : UInt8} {b : Nat} (h0 : 0 ≤ digI (u8I c)) (h1 : digI (u8I c) < b) (hb : b ≤ 16) : lowB c ≠ 120 ∧ lowB c ≠ 104 ∧ lowB c ≠ 111 ∧ (b ≤ 10 → lowB c ≠ 98) := by
  obtain ⟨l1, l2, l3, l4⟩ := low_is c
  refine ⟨fun h => ?_, fun h => ?_, fun h => ?_, fun hb h => ?_⟩
  · have := l1.1 h; unfold digI at h0; repeat' split at h0 <;> omega
  · have := l2.1 h; unfold digI at h0; repeat' split at h0 <;> omega
  · have := l4.1 h; unfold digI at h0; repeat' split at h0 <;> omega
  · have := l3.1 h; unfold digI at h1; repeat' split at h1 <;> omega

theorem filter_ne {w : List UInt8} {c : UInt8} {r : List UInt8} (h : w = c :: r) (hc : u8I c ≠ 95) : w.filter bareF = c :: r.filter bareF := by
  rw [h, List.filter_cons_of_pos (by simp [bareF, hc])]
theorem last_mem (w : List UInt8) (h : w ≠ []) : w.getD (w.length - 1) 0 ∈ w := by
  have hp : 0 < w.length := List.length_pos_iff.2 h
  rw [List.getD_eq_getElem?_getD, List.getElem?_eq_getElem (by omega)]
  exact List.getElem_mem _
theorem getD_append_last (d : List UInt8) (h : UInt8) : (d ++ [h]).getD ((d ++ [h]).length - 1) 0 = h := by
  rw [List.getD_eq_getElem?_getD]; simp
/-- The parts of a word are told by its second byte and its last one. -/
theorem parts_of (w : List UInt8) (s2 : Int) (h : (if 2 < w.length ∧ w.head? = some 48 then lowB (w.getD 1 0) else 0) = s2) : partsS w = if s2 = 120 then (2, 0, 16) else if lowB (w.getD (w.length - 1) 0) = 104 then (0, 1, 16) else if s2 = 98 then (2, 0, 2) else if s2 = 111 then (2, 0, 8) else (0, 0, 10) := by
  unfold partsS
  simp only [h]

theorem head_two {w : List UInt8} (hc : 2 < w.length ∧ w.head? = some 48) : ∃ c d, w = 48 :: c :: d ∧ d ≠ [] := by
  obtain ⟨h2, h3⟩ := hc
  cases w with
  | nil => simp at h2
  | cons a w =>
    simp at h3
    subst h3
    cases w with
    | nil => simp at h2
    | cons c d => exact ⟨c, d, rfl, fun h => by subst h; simp at h2⟩

theorem getD_last2 (a c : UInt8) (d : List UInt8) (h : d ≠ []) : (a :: c :: d).getD ((a :: c :: d).length - 1) 0 = d.getD (d.length - 1) 0 := by
  have hp : 0 < d.length := List.length_pos_iff.2 h
  rw [List.getD_eq_getElem?_getD, List.getD_eq_getElem?_getD]
  have e : (a :: c :: d).length - 1 = (d.length - 1) + 1 + 1 := by simp; omega
  rw [e, List.getElem?_cons_succ, List.getElem?_cons_succ]

theorem hexBare {w d0 : List UInt8} {h : UInt8} (hdh : w = d0 ++ [h]) (h104 : lowB (w.getD (w.length - 1) 0) = 104) (hd : wrongD ((16 : Nat) : Int) true false (w.take (w.length - 1)) 0 = none) :
    partsS (w.filter bareF) = (0, 1, 16) ∧ (w.filter bareF).take ((w.filter bareF).length - 1) = (w.take (w.length - 1)).filter bareF := by
  have hlast : w.getD (w.length - 1) 0 = h := by rw [hdh]; exact getD_append_last d0 h
  rw [hlast] at h104
  have ht : w.take (w.length - 1) = d0 := by rw [hdh]; simp
  rw [ht] at hd ⊢
  obtain ⟨g1, g2⟩ := wrong_good _ d0 true false 0 hd
  have hh : u8I h ≠ 95 := fun hx => by
    have : h = 95 := u8I_inj (a := h) (b := 95) hx
    subst this; revert h104; decide
  have hf : w.filter bareF = d0.filter bareF ++ [h] := by rw [hdh, List.filter_append, List.filter_cons_of_pos (by simp [bareF, hh])]; rfl
  refine ⟨?_, by rw [hf]; simp⟩
  rw [parts_of _ _ rfl, if_neg, if_pos]
  · rw [hf, getD_append_last]; exact h104
  · split
    · rename_i hc'
      have hlen := hc'.1
      rw [hf, List.length_append, List.length_singleton] at hlen
      have hm : (w.filter bareF).getD 1 0 ∈ d0.filter bareF := by
        rw [hf, List.getD_eq_getElem?_getD, List.getElem?_append_left (by omega), List.getElem?_eq_getElem (by omega)]
        exact List.getElem_mem _
      have hm2 := List.mem_filter.1 hm
      rcases g2 _ hm2.1 with h95 | ⟨h0, h1⟩
      · exact (bare_no h95 hm2.2).elim
      · exact (dig_low (b := 16) h0 h1 (by omega)).1
    · omega
theorem tenBare {w : List UInt8} (hd : wrongD ((10 : Nat) : Int) true false w 0 = none) : partsS (w.filter bareF) = (0, 0, 10) := by
  obtain ⟨g1, g2⟩ := wrong_good _ w true false 0 hd
  obtain ⟨x, y, hxy, hx⟩ := g1 rfl
  have hf : w.filter bareF = x :: y.filter bareF := filter_ne hxy hx
  have low : ∀ c ∈ w.filter bareF, lowB c ≠ 120 ∧ lowB c ≠ 104 ∧ lowB c ≠ 111 ∧ lowB c ≠ 98 := fun c hc => by
    have hm2 := List.mem_filter.1 hc
    rcases g2 _ hm2.1 with h95 | ⟨h0, h1⟩
    · exact (bare_no h95 hm2.2).elim
    · have := dig_low (b := 10) h0 h1 (by omega)
      exact ⟨this.1, this.2.1, this.2.2.1, this.2.2.2 (by omega)⟩
  have hl := low _ (last_mem (w.filter bareF) (by rw [hf]; simp))
  have hs : ∀ k : Int, k = 120 ∨ k = 111 ∨ k = 98 → (if 2 < (w.filter bareF).length ∧ (w.filter bareF).head? = some 48 then lowB ((w.filter bareF).getD 1 0) else 0) ≠ k := fun k hk => by
    split
    · rename_i hc
      have hm : (w.filter bareF).getD 1 0 ∈ w.filter bareF := by
        rw [List.getD_eq_getElem?_getD, List.getElem?_eq_getElem (by omega)]; exact List.getElem_mem _
      have := low _ hm
      rcases hk with rfl | rfl | rfl
      · exact this.1
      · exact this.2.2.1
      · exact this.2.2.2
    · omega
  rw [parts_of _ _ rfl, if_neg (hs 120 (.inl rfl)), if_neg hl.2.1, if_neg (hs 98 (.inr (.inr rfl))), if_neg (hs 111 (.inr (.inl rfl)))]

/-- Without its bars a word that is read has the same parts. -/
theorem parts_bare {w : List UInt8} (hw : w ≠ []) (hd : wrongD (partsS w).2.2 true false ((w.take (w.length - (partsS w).2.1)).drop (partsS w).1) 0 = none) :
    partsS (w.filter bareF) = partsS w ∧ ((w.filter bareF).take ((w.filter bareF).length - (partsS w).2.1)).drop (partsS w).1 = ((w.take (w.length - (partsS w).2.1)).drop (partsS w).1).filter bareF := by
  have hp : 0 < w.length := List.length_pos_iff.2 hw
  -- digits of a word with two bytes ahead
  have two : ∀ (c : UInt8) (d : List UInt8) (b : Nat), b ≤ 16 → w = 48 :: c :: d → d ≠ [] → lowB c ≠ 104 → u8I c ≠ 95 → wrongD b true false d 0 = none → (2 < (w.filter bareF).length ∧ (w.filter bareF).head? = some 48) ∧ (w.filter bareF).getD 1 0 = c ∧ lowB ((w.filter bareF).getD ((w.filter bareF).length - 1) 0) ≠ 104 ∧ w.filter bareF = 48 :: c :: d.filter bareF := by
    intro c d b hb he hne _ hc hwd
    obtain ⟨g1, g2⟩ := wrong_good b d true false 0 hwd
    obtain ⟨x, y, hxy, hx⟩ := g1 rfl
    have hf : w.filter bareF = 48 :: c :: d.filter bareF := by
      rw [filter_ne he (by decide), List.filter_cons_of_pos (by simp [bareF, hc])]
    have hdf : d.filter bareF = x :: y.filter bareF := filter_ne hxy hx
    refine ⟨⟨by rw [hf, hdf]; simp, by rw [hf]; rfl⟩, by rw [hf]; rfl, ?_, hf⟩
    rw [hf, getD_last2 _ _ _ (by rw [hdf]; simp)]
    have hm := last_mem (d.filter bareF) (by rw [hdf]; simp)
    have hm2 := List.mem_filter.1 hm
    rcases g2 _ hm2.1 with h95 | ⟨h0, h1⟩
    · exact (bare_no h95 hm2.2).elim
    · exact (dig_low h0 h1 hb).2.1
  by_cases hc : 2 < w.length ∧ w.head? = some 48
  · obtain ⟨c, d, he, hne⟩ := head_two hc
    have hg1 : w.getD 1 0 = c := by rw [he]; rfl
    have hpw := parts_of w (lowB c) (by rw [if_pos hc, hg1])
    have bar : u8I c = 95 → lowB c = 127 := fun h => by
      have : c = 95 := u8I_inj (a := c) (b := 95) h
      subst this; decide
    have take2 : ∀ r : Nat, r = 0 → (w.take (w.length - r)).drop 2 = d := fun r hr => by rw [hr, Nat.sub_zero, List.take_length, he]; rfl
    by_cases h120 : lowB c = 120
    · rw [if_pos h120] at hpw
      rw [hpw] at hd ⊢
      simp only at hd ⊢
      rw [take2 0 rfl] at hd ⊢
      obtain ⟨a1, a2, a3, a4⟩ := two c d 16 (by omega) he hne (by omega) (fun h => by have := bar h; omega) hd
      refine ⟨?_, ?_⟩
      · rw [parts_of _ (lowB c) (by rw [if_pos a1, a2]), if_pos h120]
      · rw [Nat.sub_zero, List.take_length, a4]; rfl
    · rw [if_neg h120] at hpw
      by_cases h104 : lowB (w.getD (w.length - 1) 0) = 104
      · rw [if_pos h104] at hpw
        rw [hpw] at hd ⊢
        simp only [List.drop_zero] at hd ⊢
        obtain ⟨d0, h, hdh⟩ : ∃ q z, w = q ++ [z] := ⟨w.dropLast, w.getLast hw, (List.dropLast_concat_getLast hw).symm⟩
        exact hexBare hdh h104 hd
      · rw [if_neg h104] at hpw
        by_cases h98 : lowB c = 98
        · rw [if_pos h98] at hpw
          rw [hpw] at hd ⊢
          simp only at hd ⊢
          rw [take2 0 rfl] at hd ⊢
          obtain ⟨a1, a2, a3, a4⟩ := two c d 2 (by omega) he hne (by omega) (fun h => by have := bar h; omega) hd
          refine ⟨?_, ?_⟩
          · rw [parts_of _ (lowB c) (by rw [if_pos a1, a2]), if_neg h120, if_neg a3, if_pos h98]
          · rw [Nat.sub_zero, List.take_length, a4]; rfl
        · rw [if_neg h98] at hpw
          by_cases h111 : lowB c = 111
          · rw [if_pos h111] at hpw
            rw [hpw] at hd ⊢
            simp only at hd ⊢
            rw [take2 0 rfl] at hd ⊢
            obtain ⟨a1, a2, a3, a4⟩ := two c d 8 (by omega) he hne (by omega) (fun h => by have := bar h; omega) hd
            refine ⟨?_, ?_⟩
            · rw [parts_of _ (lowB c) (by rw [if_pos a1, a2]), if_neg h120, if_neg a3, if_neg h98, if_pos h111]
            · rw [Nat.sub_zero, List.take_length, a4]; rfl
          · rw [if_neg h111] at hpw
            rw [hpw] at hd ⊢
            simp only [Nat.sub_zero, List.take_length, List.drop_zero] at hd ⊢
            exact ⟨tenBare hd, trivial⟩
  · have hpw := parts_of w 0 (if_neg hc)
    rw [if_neg (by omega)] at hpw
    by_cases h104 : lowB (w.getD (w.length - 1) 0) = 104
    · rw [if_pos h104] at hpw
      rw [hpw] at hd ⊢
      simp only [List.drop_zero] at hd ⊢
      obtain ⟨d0, h, hdh⟩ : ∃ q z, w = q ++ [z] := ⟨w.dropLast, w.getLast hw, (List.dropLast_concat_getLast hw).symm⟩
      exact hexBare hdh h104 hd
    · rw [if_neg h104, if_neg (by omega), if_neg (by omega)] at hpw
      rw [hpw] at hd ⊢
      simp only [Nat.sub_zero, List.take_length, List.drop_zero] at hd ⊢
      exact ⟨tenBare hd, trivial⟩

theorem word_bare {w : List UInt8} (hw : w ≠ []) (h : (wordS w 0).2.2.1 = 0) : wordS (w.filter bareF) 0 = ((wordS w 0).1, ((w.filter bareF).length : Int), 0, 0) ∧ (wordS w 0).2.1 = w.length := by
  have h0 : ¬ 0 ≤ (digS (partsS w).2.2 ((w.take (w.length - (partsS w).2.1)).drop (partsS w).1)).2.1 ∧ ¬ (digS (partsS w).2.2 ((w.take (w.length - (partsS w).2.1)).drop (partsS w).1)).2.2 = true := by
    unfold wordS at h
    split at h
    · simp at h
    · rename_i h1
      split at h
      · simp at h
      · rename_i h2; exact ⟨h1, h2⟩
  obtain ⟨h1, h2⟩ := h0
  have hn : wrongD (partsS w).2.2 true false ((w.take (w.length - (partsS w).2.1)).drop (partsS w).1) 0 = none := by
    cases hx : wrongD (partsS w).2.2 true false ((w.take (w.length - (partsS w).2.1)).drop (partsS w).1) 0 with
    | none => rfl
    | some i => exact absurd (by unfold digS; rw [hx]; exact Int.natCast_nonneg i) h1
  obtain ⟨p1, p2⟩ := parts_bare hw hn
  obtain ⟨g1, g2⟩ := wrong_good _ _ true false 0 hn
  obtain ⟨x, y, hxy, hx⟩ := g1 rfl
  have hn2 : wrongD (partsS w).2.2 true false (((w.take (w.length - (partsS w).2.1)).drop (partsS w).1).filter bareF) 0 = none := by
    refine good_wrong _ _ true false 0 (fun _ => by rw [filter_ne hxy hx]; simp) fun c hc => ?_
    have hm2 := List.mem_filter.1 hc
    rcases g2 _ hm2.1 with h95 | hg
    · exact (bare_no h95 hm2.2).elim
    · exact ⟨fun h95 => bare_no h95 hm2.2, hg⟩
  have hd : digS (partsS w).2.2 (((w.take (w.length - (partsS w).2.1)).drop (partsS w).1).filter bareF) = digS (partsS w).2.2 ((w.take (w.length - (partsS w).2.1)).drop (partsS w).1) := by
    unfold digS; rw [hn, hn2, val_bare]
  constructor
  · unfold wordS
    rw [p1, p2, hd, if_neg h1, if_neg h2, if_neg h1, if_neg h2]
    simp
  · unfold wordS
    rw [if_neg h1, if_neg h2]; simp

theorem word_err {w : List UInt8} (hw : w ≠ []) (h : (wordS w 0).2.2.1 ≠ 0) : (wordS w 0).1 = 0 ∧ (wordS w 0).2.1 = 0 ∧ 0 ≤ (wordS w 0).2.2.2 ∧ (wordS w 0).2.2.2 ≤ w.length := by
  obtain ⟨h1, h2, h3⟩ := parts_le w hw
  have hd := digS_le (partsS w).2.2 ((w.take (w.length - (partsS w).2.1)).drop (partsS w).1)
  have hdl : ((w.take (w.length - (partsS w).2.1)).drop (partsS w).1).length = w.length - (partsS w).2.1 - (partsS w).1 := by simp
  unfold wordS at h ⊢
  by_cases h4 : 0 ≤ (digS (partsS w).2.2 ((w.take (w.length - (partsS w).2.1)).drop (partsS w).1)).2.1
  · rw [if_pos h4]
    clear h
    exact ⟨rfl, rfl, by show (0 : Int) ≤ ((0 : Nat) : Int) + _ + _; omega, by show ((0 : Nat) : Int) + _ + _ ≤ (w.length : Int); omega⟩
  · rw [if_neg h4] at h ⊢
    by_cases h5 : (digS (partsS w).2.2 ((w.take (w.length - (partsS w).2.1)).drop (partsS w).1)).2.2 = true
    · rw [if_pos h5]
      exact ⟨rfl, rfl, by show (0 : Int) ≤ ((0 : Nat) : Int); omega, by show ((0 : Nat) : Int) ≤ (w.length : Int); omega⟩
    · rw [if_neg h5] at h
      exact absurd rfl h

def capL (l : List UInt8) : List Int := l.map fun c => upI (u8I c)
def barL (l : List UInt8) : List Int := (l.filter bareF).map u8I
theorem cap_bytes (l : List UInt8) : (capL l).map iU8 = l.map upB := by unfold capL; rw [List.map_map]; rfl
theorem bar_bytes (l : List UInt8) : (barL l).map iU8 = l.filter bareF := by unfold barL; rw [map_iU8]

theorem loopSp (s : List UInt8) (hs : s.length ≤ 100) (n : Int) (w : List UInt8) (y : List UInt8) (hwy : s = w ++ y) (r : Nat) : ∀ (rest pre : List UInt8) (m : Nat), w = pre ++ rest → rest.length < m → pre ≠ [] →
    jSp s n w.length r m (capL pre) pre.length (barL pre) (barL pre).length pre.length = endSp n (capL w) (barL w) := by
  have hsl : s.length = w.length + y.length := by rw [hwy]; simp
  have hbl : ∀ l, (barL l).length ≤ l.length := fun l => by unfold barL; rw [List.length_map]; exact List.length_filter_le _ _
  intro rest
  induction rest with
  | nil =>
    intro pre m he hm hp
    obtain ⟨m, rfl⟩ : ∃ m', m = m' + 1 := ⟨m - 1, by simp at hm; omega⟩
    have hwp : w = pre := by rw [he]; simp
    rw [stepSp, ltF (by rw [hwp]; omega), hwp]
  | cons c rest ih =>
    intro pre m he hm hp
    obtain ⟨m, rfl⟩ : ∃ m', m = m' + 1 := ⟨m - 1, by simp at hm; omega⟩
    have hwl : w.length = pre.length + (rest.length + 1) := by rw [he]; simp
    have hg : getI s (pre.length : Int) = some c := by rw [hwy, he, List.append_assoc, List.cons_append]; exact getI_at pre (rest ++ y) c
    have hcl : (capL pre).length = pre.length := by unfold capL; simp
    have hb := hbl pre
    have hcap : ∀ v, v = upI (u8I c) → capL pre ++ [v] = capL (pre ++ [c]) := fun v hv => by unfold capL; rw [List.map_append, hv]; rfl
    have hin := ih (pre ++ [c]) m (by rw [he]; simp) (by simp at hm; omega) (by simp)
    rw [stepSp]
    unfold atK
    rw [ltT (by omega), hg, i64_in (n := (pre.length : Int) + 1) (by omega) (by omega)]
    have add : ∀ v, v = upI (u8I c) → addSp s (capL pre) (barL pre) (barL pre).length pre.length v (fun a j b k => jSp s n w.length r m a j b k ((pre.length : Int) + 1)) = endSp n (capL w) (barL w) := fun v hv => by
      unfold addSp atK
      rw [hg, hcl, bleT (by omega), hcap v hv]
      show pick2 (!eqI v 95) (pick2 (Nat.ble ((barL pre).length + 1) 1000000) _ none) _ = _
      rw [bleT (by omega), hv]
      have e1 : (pre ++ [c]).length = pre.length + 1 := by simp
      rw [e1] at hin
      by_cases hc : u8I c = 95
      · rw [eqT ((up_bar _).2 hc)]
        have e2 : barL (pre ++ [c]) = barL pre := by unfold barL; rw [List.filter_append, List.filter_cons_of_neg (by simp [bareF, hc])]; simp
        rw [e2] at hin
        exact hin
      · rw [eqF (fun h => hc ((up_bar _).1 h))]
        have e2 : barL (pre ++ [c]) = barL pre ++ [u8I c] := by unfold barL; rw [List.filter_append, List.filter_cons_of_pos (by simp [bareF, hc])]; simp
        rw [e2, List.length_append] at hin
        exact hin
    show pickR (u8I c) 97 122 _ _ = _
    rw [pickR_eq]
    split
    · rename_i hr
      exact add _ (by rw [u8_in (by omega) (by omega)]; unfold upI; rw [if_pos hr])
    · rename_i hr
      exact add _ (by unfold upI; rw [if_neg hr])

theorem spelled (s : List UInt8) : enterT (Xg gvL) (c6 AV) anSp 120 8 [.str s] TMem.empty (fun v _ => some v) = some (.bool true) := by
  rw [enterSp, pick_eq]
  split
  · rfl
  rename_i h0
  rw [pick_lt]
  split
  · rfl
  rename_i h100
  obtain ⟨c, r, hcr⟩ : ∃ c r, s = c :: r := by
    cases s with
    | nil => simp at h0
    | cons c r => exact ⟨c, r, rfl⟩
  have hg : getI s 0 = some c := by rw [hcr]; rfl
  unfold atK
  rw [hg]
  show pick2 (ltI (u8I c) 48) _ (pick2 (ltI 57 (u8I c)) _ _) = _
  rw [pick_lt]
  split
  · rfl
  rename_i h48
  rw [pick_lt]
  split
  · rfl
  rename_i h57
  rw [bleT (by omega)]
  have hscan : scanS s 0 = wordS (s.takeWhile fun c => wordI (u8I c)) 0 := by
    unfold scanS
    have hg : s.getD (0 : Int).toNat 0 = c := by rw [hcr]; rfl
    rw [if_neg (by omega), if_neg (by omega), hg, if_neg (by omega), if_pos (by omega)]
    rfl
  obtain ⟨w, hw⟩ : ∃ w, s.takeWhile (fun c => wordI (u8I c)) = w := ⟨_, rfl⟩
  have hwc : w = c :: r.takeWhile (fun c => wordI (u8I c)) := by rw [← hw, hcr, List.takeWhile_cons, if_pos (by unfold wordI; simp; omega)]
  have hwne : w ≠ [] := by rw [hwc]; simp
  have hall : ∀ x ∈ w, wordI (u8I x) = true := fun x hx => by
    rw [← hw] at hx
    have := List.all_takeWhile (l := s) (p := fun c => wordI (u8I c))
    exact List.all_eq_true.1 this x hx
  have hsw : s = w ++ s.dropWhile (fun c => wordI (u8I c)) := by rw [← hw]; exact List.takeWhile_append_dropWhile.symm
  have hle : w.length ≤ s.length := by rw [hsw]; simp
  rw [hscan, hw]
  show pick2 (!eqI (wordS w 0).2.2.1 0) _ _ = _
  rw [pick_neq]
  split
  · rename_i herr
    obtain ⟨b1, b2⟩ := word_bare hwne herr
    have hlp : 0 < w.length := List.length_pos_iff.2 hwne
    rw [b2, ltF (a := (w.length : Int)) (by omega), ltF (a := (s.length : Int)) (by omega)]
    show jSp0 s (wordS w 0).1 w.length 120 (119 + 1) = _
    rw [stepSp0]
    unfold atK addSp0 atK
    rw [ltT (by omega), hg]
    show pickR (u8I c) 97 122 _ _ = _
    rw [pickR_eq, if_neg (by omega)]
    show pick2 (!eqI (u8I c) 95) (jSp s (wordS w 0).1 w.length 120 119 [u8I c] 1 [u8I c] 1 1) _ = _
    rw [eqF (by omega)]
    have hcap1 : capL [c] = [u8I c] := by unfold capL upI; simp; omega
    have hbar1 : barL [c] = [u8I c] := by
      unfold barL
      rw [List.filter_cons_of_pos (by unfold bareF; rw [decide_eq_false (by omega)]; rfl)]; rfl
    have hrl : w.length = (r.takeWhile fun c => wordI (u8I c)).length + 1 := by rw [hwc]; simp
    have hloop := loopSp s (by omega) (wordS w 0).1 w (s.dropWhile fun c => wordI (u8I c)) hsw 120 (r.takeWhile fun c => wordI (u8I c)) [c] 119 hwc (by omega) (by simp)
    rw [hcap1, hbar1] at hloop
    show jSp s (wordS w 0).1 w.length 120 119 [u8I c] 1 [u8I c] 1 1 = _
    refine Eq.trans hloop ?_
    unfold endSp
    rw [cap_bytes, bar_bytes]
    have s1 : scanS (w.map upB) 0 = wordS w 0 := by
      rw [scan_word (c := upB c) (r := (r.takeWhile fun c => wordI (u8I c)).map upB) (fun x hx => by
        obtain ⟨z, hz, rfl⟩ := List.mem_map.1 hx
        rw [u8I_up, word_up]; exact hall z hz) (by rw [hwc]; rfl) (by rw [u8I_up]; unfold upI; rw [if_neg (by omega)]; omega) (by rw [u8I_up]; unfold upI; rw [if_neg (by omega)]; omega), word_map w hwne]
    have s2 : scanS (w.filter bareF) 0 = wordS (w.filter bareF) 0 :=
      scan_word (c := c) (r := (r.takeWhile fun c => wordI (u8I c)).filter bareF) (fun x hx => hall x (List.mem_filter.1 hx).1) (filter_ne hwc (by omega)) (by omega) (by omega)
    have hfl : (w.filter bareF).length ≤ w.length := List.length_filter_le _ _
    rw [s1, s2, b1, List.length_map, bleT (by omega), bleT (by omega), eqT rfl, eqT b2, eqT herr, eqT rfl]
    rfl
  · rename_i herr
    obtain ⟨e1, e2, e3, e4⟩ := word_err hwne herr
    rw [eqT e1, eqT e2, ltF e3, ltF (by omega)]; rfl
end Go.Proofs.YtcafcgiemdlobaaDoor.lt
