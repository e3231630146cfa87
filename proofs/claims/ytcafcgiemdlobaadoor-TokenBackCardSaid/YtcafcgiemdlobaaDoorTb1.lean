/- TokenBack: what is joined is read again. -/
import Derived.Test.YtcafcgiemdlobaaDoorTj7
import Derived.Test.YtcafcgiemdlobaaDoorUk9
import Derived.Test.YtcafcgiemdlobaaDoorLv
namespace Go.Proofs.YtcafcgiemdlobaaDoor.lt
open Go.Tv Go.Ev

theorem dg_dgt {d : Nat} (h : d < 16) : dgI (d : Int) = dgt d := by
  unfold dgI
  rw [Int.toNat_natCast, List.getD_eq_getElem?_getD, (dig36 h).2]; rfl
theorem num_step {f u : Nat} {acc : List UInt8} (h : ¬ u < 16) : numL 16 (f + 1) u acc = numL 16 f (u / 16) (dgt (u % 16) :: acc) := by rw [numL, if_neg h]
theorem uns_num {u : Nat} (h : 1152921504606846976 ≤ u) (h2 : u < 18446744073709551616) : unsS (u : Int) = [48, 120] ++ numL 16 64 u [] := by
  rw [num_step (f := 63) (u := u) (by omega)]
  rw [num_step (f := 62) (u := u / 16) (by omega)]
  rw [num_step (f := 61) (u := u / 16 / 16) (by omega)]
  rw [num_step (f := 60) (u := u / 16 / 16 / 16) (by omega)]
  rw [num_step (f := 59) (u := u / 16 / 16 / 16 / 16) (by omega)]
  rw [num_step (f := 58) (u := u / 16 / 16 / 16 / 16 / 16) (by omega)]
  rw [num_step (f := 57) (u := u / 16 / 16 / 16 / 16 / 16 / 16) (by omega)]
  rw [num_step (f := 56) (u := u / 16 / 16 / 16 / 16 / 16 / 16 / 16) (by omega)]
  rw [num_step (f := 55) (u := u / 16 / 16 / 16 / 16 / 16 / 16 / 16 / 16) (by omega)]
  rw [num_step (f := 54) (u := u / 16 / 16 / 16 / 16 / 16 / 16 / 16 / 16 / 16) (by omega)]
  rw [num_step (f := 53) (u := u / 16 / 16 / 16 / 16 / 16 / 16 / 16 / 16 / 16 / 16) (by omega)]
  rw [num_step (f := 52) (u := u / 16 / 16 / 16 / 16 / 16 / 16 / 16 / 16 / 16 / 16 / 16) (by omega)]
  rw [num_step (f := 51) (u := u / 16 / 16 / 16 / 16 / 16 / 16 / 16 / 16 / 16 / 16 / 16 / 16) (by omega)]
  rw [num_step (f := 50) (u := u / 16 / 16 / 16 / 16 / 16 / 16 / 16 / 16 / 16 / 16 / 16 / 16 / 16) (by omega)]
  rw [num_step (f := 49) (u := u / 16 / 16 / 16 / 16 / 16 / 16 / 16 / 16 / 16 / 16 / 16 / 16 / 16 / 16) (by omega)]
  rw [numL, if_pos (by omega)]
  unfold unsS
  simp only [setD, List.set, List.map, iU8_u8I, Nat.reduceSub, List.cons_append, List.nil_append]
  have k0 : dgI ((u : Int) % 16) = dgt (u % 16) := by rw [← dg_dgt (by omega)]; congr 1
  have k1 : dgI ((u : Int) / 16 % 16) = dgt (u / 16 % 16) := by rw [← dg_dgt (by omega)]; congr 1
  have k2 : dgI ((u : Int) / 16 / 16 % 16) = dgt (u / 16 / 16 % 16) := by rw [← dg_dgt (by omega)]; congr 1
  have k3 : dgI ((u : Int) / 16 / 16 / 16 % 16) = dgt (u / 16 / 16 / 16 % 16) := by rw [← dg_dgt (by omega)]; congr 1
  have k4 : dgI ((u : Int) / 16 / 16 / 16 / 16 % 16) = dgt (u / 16 / 16 / 16 / 16 % 16) := by rw [← dg_dgt (by omega)]; congr 1
  have k5 : dgI ((u : Int) / 16 / 16 / 16 / 16 / 16 % 16) = dgt (u / 16 / 16 / 16 / 16 / 16 % 16) := by rw [← dg_dgt (by omega)]; congr 1
  have k6 : dgI ((u : Int) / 16 / 16 / 16 / 16 / 16 / 16 % 16) = dgt (u / 16 / 16 / 16 / 16 / 16 / 16 % 16) := by rw [← dg_dgt (by omega)]; congr 1
  have k7 : dgI ((u : Int) / 16 / 16 / 16 / 16 / 16 / 16 / 16 % 16) = dgt (u / 16 / 16 / 16 / 16 / 16 / 16 / 16 % 16) := by rw [← dg_dgt (by omega)]; congr 1
  have k8 : dgI ((u : Int) / 16 / 16 / 16 / 16 / 16 / 16 / 16 / 16 % 16) = dgt (u / 16 / 16 / 16 / 16 / 16 / 16 / 16 / 16 % 16) := by rw [← dg_dgt (by omega)]; congr 1
  have k9 : dgI ((u : Int) / 16 / 16 / 16 / 16 / 16 / 16 / 16 / 16 / 16 % 16) = dgt (u / 16 / 16 / 16 / 16 / 16 / 16 / 16 / 16 / 16 % 16) := by rw [← dg_dgt (by omega)]; congr 1
  have k10 : dgI ((u : Int) / 16 / 16 / 16 / 16 / 16 / 16 / 16 / 16 / 16 / 16 % 16) = dgt (u / 16 / 16 / 16 / 16 / 16 / 16 / 16 / 16 / 16 / 16 % 16) := by rw [← dg_dgt (by omega)]; congr 1
  have k11 : dgI ((u : Int) / 16 / 16 / 16 / 16 / 16 / 16 / 16 / 16 / 16 / 16 / 16 % 16) = dgt (u / 16 / 16 / 16 / 16 / 16 / 16 / 16 / 16 / 16 / 16 / 16 % 16) := by rw [← dg_dgt (by omega)]; congr 1
  have k12 : dgI ((u : Int) / 16 / 16 / 16 / 16 / 16 / 16 / 16 / 16 / 16 / 16 / 16 / 16 % 16) = dgt (u / 16 / 16 / 16 / 16 / 16 / 16 / 16 / 16 / 16 / 16 / 16 / 16 % 16) := by rw [← dg_dgt (by omega)]; congr 1
  have k13 : dgI ((u : Int) / 16 / 16 / 16 / 16 / 16 / 16 / 16 / 16 / 16 / 16 / 16 / 16 / 16 % 16) = dgt (u / 16 / 16 / 16 / 16 / 16 / 16 / 16 / 16 / 16 / 16 / 16 / 16 / 16 % 16) := by rw [← dg_dgt (by omega)]; congr 1
  have k14 : dgI ((u : Int) / 16 / 16 / 16 / 16 / 16 / 16 / 16 / 16 / 16 / 16 / 16 / 16 / 16 / 16 % 16) = dgt (u / 16 / 16 / 16 / 16 / 16 / 16 / 16 / 16 / 16 / 16 / 16 / 16 / 16 / 16 % 16) := by rw [← dg_dgt (by omega)]; congr 1
  have k15 : dgI ((u : Int) / 16 / 16 / 16 / 16 / 16 / 16 / 16 / 16 / 16 / 16 / 16 / 16 / 16 / 16 / 16 % 16) = dgt (u / 16 / 16 / 16 / 16 / 16 / 16 / 16 / 16 / 16 / 16 / 16 / 16 / 16 / 16 / 16 % 16) := by rw [← dg_dgt (by omega)]; congr 1
  have k15' : u / 16 / 16 / 16 / 16 / 16 / 16 / 16 / 16 / 16 / 16 / 16 / 16 / 16 / 16 / 16 % 16 = u / 16 / 16 / 16 / 16 / 16 / 16 / 16 / 16 / 16 / 16 / 16 / 16 / 16 / 16 / 16 := by omega
  rw [k0, k1, k2, k3, k4, k5, k6, k7, k8, k9, k10, k11, k12, k13, k14, k15, k15']
  rfl
/-- The bytes of a number's token. -/
theorem num_writ {n : Int} (h0 : -9223372036854775808 ≤ n) (h1 : n < 9223372036854775808) : ∃ u : Nat, u < 18446744073709551616 ∧ IntKind.wrap .i64 (u : Int) = n ∧ hexS n = [48, 120] ++ numL 16 64 u [] := by
  unfold hexS
  by_cases h : n < 0
  · rw [if_pos h, u64_mod]
    refine ⟨(n + 18446744073709551616).toNat, by omega, ?_, ?_⟩
    · rw [i64_of]; split <;> omega
    · have e : n % 18446744073709551616 = (((n + 18446744073709551616).toNat : Nat) : Int) := by omega
      rw [e]
      exact uns_num (by omega) (by omega)
  · rw [if_neg h]
    refine ⟨n.natAbs, by omega, by rw [i64_in (by omega) (by omega)]; omega, ?_⟩
    unfold telS
    rw [if_neg h]; rfl
theorem valid_cases {y : Piece} (h : validB y = true) : (y.1 = 1 ∧ y.2.1 = 0 ∧ nameB y.2.2.1 = true) ∨ (y.1 = 2 ∧ y.2.2.1 = []) ∨ (y.1 = 3 ∧ y.2.2.1.all plainB = true ∧ y.2.1 = 0) ∨ (y.1 = 4 ∧ y.2.2.1 ∈ sgns ∧ y.2.1 = 0) := by
  unfold validB at h
  rw [pick_eq, pick_eq, pick_eq, pick_eq] at h
  split at h
  · rename_i k
    rw [Bool.and_eq_true, eqI_spec, beq_iff_eq] at h
    exact .inl ⟨k, h.1, h.2⟩
  · split at h
    · rename_i k
      exact .inr (.inl ⟨k, of_decide_eq_true h⟩)
    · split at h
      · rename_i k
        rw [Bool.and_eq_true, eqI_spec, beq_iff_eq] at h
        exact .inr (.inr (.inl ⟨k, h.1, h.2⟩))
      · split at h
        · rename_i k
          rw [Bool.and_eq_true, eqI_spec, beq_iff_eq, List.any_eq_true] at h
          obtain ⟨⟨p, hp, hpe⟩, hn⟩ := h
          have : y.2.2.1 = p := of_decide_eq_true hpe
          exact .inr (.inr (.inr ⟨k, by rw [this]; exact hp, hn⟩))
        · cases h
/-- What stands behind a token: nothing, or a blank. -/
def Behind (e : List UInt8) : Prop := e = [] ∨ ∃ q, e = 32 :: q
theorem cut_mid (p S e : List UInt8) : cutL (p ++ S ++ e) (p.length : Int) ((p.length + S.length : Nat) : Int) = S := by
  unfold cutL
  rw [List.append_assoc, Int.toNat_natCast, Int.toNat_natCast, List.drop_left, Nat.add_sub_cancel_left, List.take_left]
theorem nameL_run (T : List UInt8) (a : Nat) {e : List UInt8} (he : Behind e) : ∀ (S2 : List UInt8) (k : Nat), S2.all moreB = true → k + S2.length ≤ 60 → nameL T a (S2 ++ e) (a + k) = (cutL T a ((a + (k + S2.length) : Nat) : Int), ((a + (k + S2.length) : Nat) : Int), 0, 0)
  | [], k, _, _ => by
    rcases he with rfl | ⟨q, rfl⟩
    · rfl
    · show nameL T a (32 :: q) (a + k) = _
      rw [nameL, if_neg (by decide)]; rfl
  | c :: S2, k, h, hl => by
    simp only [List.all_cons, Bool.and_eq_true, List.length_cons] at h hl
    have hm : moreI (u8I c) = true := h.1
    rw [List.cons_append, nameL, if_pos hm, if_neg (by omega)]
    have := nameL_run T a he S2 (k + 1) h.2 (by omega)
    rw [show k + 1 + S2.length = k + (c :: S2).length by simp; omega] at this
    exact this
theorem quoteL_run (T : List UInt8) (a : Nat) (e : List UInt8) : ∀ (S2 : List UInt8) (k : Nat), S2.all plainB = true → quoteL T a (S2 ++ 34 :: e) (a + 1 + k) = (cutL T (a + 1) ((a + 1 + (k + S2.length) : Nat) : Int), ((a + 1 + (k + S2.length) : Nat) : Int) + 1, 0, 0)
  | [], k, _ => by
    show quoteL T a (34 :: e) (a + 1 + k) = _
    rw [quoteL, if_pos (by decide)]; rfl
  | c :: S2, k, h => by
    simp only [List.all_cons, Bool.and_eq_true] at h
    have hp : plainI (u8I c) = true ∧ ¬ u8I c = 34 := by
      have := h.1
      unfold plainB at this
      simp only [Bool.and_eq_true, Bool.not_eq_true', eqI_spec, beq_eq_false_iff_ne] at this
      exact this
    rw [List.cons_append, quoteL, if_neg hp.2, if_pos hp.1]
    have := quoteL_run T a e S2 (k + 1) h.2
    rw [show k + 1 + S2.length = k + (c :: S2).length by simp; omega] at this
    exact this
def sg2 (X : List UInt8) (a : Nat) : List (List UInt8) → Cut
  | [] => ([], 0, 4, a)
  | g :: r => if preB X g then (g, a + g.length, 0, 0) else sg2 X a r
theorem signL_eq (T : List UInt8) (a : Nat) : ∀ l, signL T a l = sg2 (T.drop a) a l
  | [] => rfl
  | g :: r => by rw [signL, sg2, signL_eq T a r]
theorem sign_run {S e : List UInt8} (hS : S ∈ sgns) (he : Behind e) (a : Nat) : sg2 (S ++ e) a signsL = (S, (a : Int) + S.length, 0, 0) ∧ ∃ d r, S = d :: r ∧ firstI (u8I d) = false ∧ ¬ (48 ≤ u8I d ∧ u8I d ≤ 57 ∨ u8I d = 39) ∧ u8I d ≠ 34 ∧ ¬ (u8I d = 32 ∨ u8I d = 9) ∧ u8I d ≠ 59 := by
  simp only [sgns, List.mem_cons, List.not_mem_nil, or_false] at hS
  rcases he with rfl | ⟨q, rfl⟩
  all_goals rcases hS with rfl | rfl | rfl | rfl | rfl | rfl | rfl | rfl | rfl | rfl | rfl | rfl | rfl | rfl | rfl | rfl | rfl | rfl | rfl
  all_goals refine ⟨rfl, _, _, rfl, ?_⟩
  all_goals decide
theorem while_behind {w e : List UInt8} (hw : ∀ c ∈ w, wordI (u8I c) = true) (he : Behind e) : (w ++ e).takeWhile (fun c => wordI (u8I c)) = w := by
  induction w with
  | nil =>
    rcases he with rfl | ⟨q, rfl⟩
    · rfl
    · rw [List.nil_append, List.takeWhile_cons, if_neg (by decide)]
  | cons c w ih => rw [List.cons_append, List.takeWhile_cons, if_pos (hw c (by simp)), ih fun x hx => hw x (by simp [hx])]
theorem scan_head {s : List UInt8} {a : Nat} {d : UInt8} {r : List UInt8} (hd : s.drop a = d :: r) :
    scanS s (a : Int) = if u8I d = 39 then textS s a else if 48 ≤ u8I d ∧ u8I d ≤ 57 then wordS ((s.drop a).takeWhile fun c => wordI (u8I c)) a else (0, 0, 6, (a : Int)) := by
  have hl : s.length - a = r.length + 1 := by have := congrArg List.length hd; simpa using this
  have hgd : s.getD a 0 = d := by
    have h0 : (s.drop a).getD 0 0 = d := by rw [hd]; rfl
    rw [← h0]; simp [List.getD]
  unfold scanS
  rw [if_neg (by omega), if_neg (by omega), Int.toNat_natCast, hgd]
theorem hex_wordy {u : Nat} (hu : u < 18446744073709551616) : ∀ c ∈ ([48, 120] ++ numL 16 64 u [] : List UInt8), wordI (u8I c) = true := by
  intro c hc
  have hp : u < 16 ^ 64 := Nat.lt_of_lt_of_le (show u < 2 ^ 64 from hu) (Nat.pow_le_pow_left (by omega) 64)
  simp only [List.cons_append, List.nil_append, List.mem_cons] at hc
  rcases hc with rfl | rfl | hc
  · decide
  · decide
  · obtain ⟨d, d1, d2⟩ := num_allD (b := 16) (by omega) 64 u [] hp (fun c hc => by simp at hc) c hc
    rw [d2]; exact (dgt_dig d1).2.1
/-- A token that may be, written, is read as it. -/
theorem piece_of {y : Piece} (hv : validB y = true) (hc : condW y = true) (p : List UInt8) {e : List UInt8} (he : Behind e) :
    ∃ d r, writS y = d :: r ∧ pieceS (p ++ writS y ++ e) d p.length = ((y.1, y.2.1, y.2.2.1, (p.length : Int)), (p.length : Int) + (writS y).length, 0, 0) ∧ ¬ (u8I d = 32 ∨ u8I d = 9) ∧ u8I d ≠ 59 := by
  obtain ⟨k, n, S, at'⟩ := y
  unfold condW at hc
  simp only [Bool.and_eq_true, Nat.ble_eq, Bool.not_eq_true', ltI_spec, decide_eq_false_iff_not, decide_eq_true_eq] at hc
  obtain ⟨⟨hn0, hn1⟩, hlen⟩ := hc
  have hD : (p ++ writS (k, n, S, at') ++ e).drop p.length = writS (k, n, S, at') ++ e := by rw [List.append_assoc, List.drop_left]
  rcases valid_cases hv with ⟨h1, h2, h3⟩ | ⟨h1, h2⟩ | ⟨h1, h2, h3⟩ | ⟨h1, h2, h3⟩
  · simp only at h1 h2 h3; subst h1 h2
    have hw : writS (1, 0, S, at') = S := by unfold writS; rw [if_neg (by simp), if_neg (by simp)]
    rw [hw] at hD ⊢
    cases S with
    | nil => cases h3
    | cons d r =>
      have h3 : (decide (r.length < 60) && firstI (u8I d) && (d :: r).all moreB) = true := h3
      simp only [Bool.and_eq_true, decide_eq_true_eq] at h3
      obtain ⟨⟨h4, h5⟩, h6⟩ := h3
      refine ⟨d, r, rfl, ?_, ?_⟩
      · unfold pieceS nameC
        rw [if_pos h5, hD]
        have := nameL_run (p ++ d :: r ++ e) p.length he (d :: r) 0 h6 (by simp; omega)
        rw [Nat.add_zero, Nat.zero_add, cut_mid] at this
        rw [this]
        simp
      · unfold firstI at h5
        simp only [decide_eq_true_eq] at h5
        omega
  · simp only at h1 h2; subst h1 h2
    obtain ⟨u, hu, hwr, hh⟩ := num_writ (n := n) (by omega) hn1
    have hw : writS (2, n, [], at') = [48, 120] ++ numL 16 64 u [] := by
      rw [← hh]; unfold writS hexS; rw [if_pos rfl]
    rw [hw] at hD ⊢
    refine ⟨48, 120 :: numL 16 64 u [], rfl, ?_, by decide, by decide⟩
    have hsc : scanS (p ++ ([48, 120] ++ numL 16 64 u []) ++ e) (p.length : Int) = wordS ([48, 120] ++ numL 16 64 u []) p.length := by
      rw [scan_head (d := 48) (r := 120 :: numL 16 64 u [] ++ e) (by rw [hD]; rfl), if_neg (by decide), if_pos (by decide), hD, while_behind (hex_wordy hu) he]
    unfold pieceS
    rw [if_neg (by decide), if_pos (by decide), hsc, hex_word hu, hwr]
  · simp only at h1 h2 h3; subst h1 h3
    have hw : writS (3, 0, S, at') = 34 :: (S ++ [34]) := by unfold writS; rw [if_neg (by simp), if_pos rfl]; simp
    rw [hw] at hD ⊢
    refine ⟨34, S ++ [34], rfl, ?_, by decide, by decide⟩
    have hD1 : (p ++ 34 :: (S ++ [34]) ++ e).drop (p.length + 1) = S ++ 34 :: e := by
      rw [← List.drop_drop, hD]; simp
    unfold pieceS quoteC
    rw [if_neg (by decide), if_neg (by decide), if_pos (by decide), hD1]
    have := quoteL_run (p ++ 34 :: (S ++ [34]) ++ e) p.length e S 0 h2
    rw [Nat.add_zero, Nat.zero_add] at this
    rw [this]
    have hcut : cutL (p ++ 34 :: (S ++ [34]) ++ e) ((p.length : Int) + 1) ((p.length + 1 + S.length : Nat) : Int) = S := by
      have := cut_mid (p ++ [34]) S ([34] ++ e)
      simp only [List.length_append, List.length_cons, List.length_nil] at this
      have e1 : p ++ [34] ++ S ++ ([34] ++ e) = p ++ 34 :: (S ++ [34]) ++ e := by simp
      rw [e1] at this
      have e2 : ((p.length + (0 + 1) : Nat) : Int) = (p.length : Int) + 1 := by omega
      rw [e2] at this
      exact this
    rw [hcut]
    simp only [List.length_cons, List.length_append, List.length_nil, Prod.mk.injEq, true_and, and_true]
    omega
  · simp only at h1 h2 h3; subst h1 h3
    have hw : writS (4, 0, S, at') = S := by unfold writS; rw [if_neg (by simp), if_neg (by simp)]
    rw [hw] at hD ⊢
    obtain ⟨s1, d, r, s2, s3, s4, s5, s6, s7⟩ := sign_run h2 he p.length
    refine ⟨d, r, s2, ?_, s6, s7⟩
    unfold pieceS signC
    rw [if_neg (by rw [s3]; simp), if_neg s4, if_neg s5, signL_eq, hD, s1]
end Go.Proofs.YtcafcgiemdlobaaDoor.lt
