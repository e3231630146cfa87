/- LiteralBack comes to true. -/
import Derived.Test.YtcafcgiemdlobaaDoorLu
import Derived.Test.YtcafcgiemdlobaaDoorLp
namespace Go.Proofs.YtcafcgiemdlobaaDoor.lt
open Go.Tv Go.Ev

noncomputable def yesV : Option AV := some (.bool true)
noncomputable def noV : Option AV := some (.bool false)
noncomputable def scanE (ah : List UInt8) (b : Int) (s : List UInt8) (want : Int) (K : Option AV) : Option AV :=
  pick2 (Nat.ble (ah.length + s.length) 9223372036854775807) (pick2 (Nat.ble ((ah ++ s).length + 1) 9223372036854775807) (pick2 (Nat.ble (ah ++ s ++ [iU8 b]).length 999999)
    (pick2 (!eqI (scanS (ah ++ s ++ [iU8 b]) ↑ah.length).1 want) noV (pick2 (!eqI (scanS (ah ++ s ++ [iU8 b]) ↑ah.length).2.1 (IntKind.wrap .i64 (↑ah.length + ↑s.length))) noV (pick2 (!eqI (scanS (ah ++ s ++ [iU8 b]) ↑ah.length).2.2.1 0) noV K))) none) none) none
noncomputable def eachE (n : Int) (ah : List UInt8) (b : Int) (t : List UInt8) (K : Option AV) : Option AV :=
  pick2 (ltI n 0) (pick2 (ltI ↑t.length 2) noV (atK t 0 fun c => pick2 (!eqI (u8I c) 45) noV (pick2 (!ltI 1 0 && !ltI (Int.ofNat t.length) 1) (scanE ah b (cutL t 1 ↑t.length) (IntKind.wrap .i64 (0 - n)) K) none))) (scanE ah b t n K)
noncomputable def mainE (n : Int) (ah : List UInt8) (b : Int) : Option AV := pick2 (inI n) (pick2 (inI n) (eachE n ah b (telS 16 [48, 120] n) (eachE n ah b (telS 10 [] n) yesV)) none) none
noncomputable def grdE (ah : List UInt8) (X : Option AV) : Option AV := pick2 (ltI 50 ↑ah.length) yesV X
theorem treeE (n : Int) (ah : List UInt8) (b : Int) : enterT (Xg gvL) (c9 AV) an0 5 7 [.int .i64 n, .str ah, .int .u8 b] TMem.empty (fun v _ => some v) =
    pick2 (eqI b 95) (grdE ah yesV) (pickR b 48 57 (grdE ah yesV) (pickR b 97 122 (grdE ah yesV) (pick2 (!ltI b 65) (grdE ah (pick2 (!ltI 90 b) yesV (mainE n ah b))) (grdE ah (mainE n ah b))))) := by kernel_rfl

/-! The plain law -/
theorem dgt_dig_all : ((List.range 16).all fun d => decide (digI (u8I (dgt d)) = d) && wordI (u8I (dgt d)) && decide (u8I (dgt d) ≠ 95) && (decide (10 ≤ d) || decide (u8I (dgt d) = 48 + d))) = true := by decide +kernel
theorem dgt_dig {d : Nat} (h : d < 16) : digI (u8I (dgt d)) = d ∧ wordI (u8I (dgt d)) = true ∧ u8I (dgt d) ≠ 95 ∧ (d < 10 → u8I (dgt d) = 48 + d) := by
  have := List.all_eq_true.1 dgt_dig_all d (List.mem_range.2 h)
  simp only [Bool.and_eq_true, Bool.or_eq_true, decide_eq_true_eq] at this
  exact ⟨this.1.1.1, this.1.1.2, this.1.2, fun h => by rcases this.2 with h2 | h2; omega; exact h2⟩
/-- Digits of a base. -/
def allD (b : Nat) (l : List UInt8) : Prop := ∀ c ∈ l, ∃ d, d < b ∧ c = dgt d
theorem num_allD {b : Nat} (hb : 2 ≤ b) : ∀ (f u : Nat) (acc : List UInt8), u < b ^ f → allD b acc → allD b (numL b f u acc)
  | 0, _, _, _, h => h
  | f + 1, u, acc, hu, h => by
    rw [numL]
    split
    · rename_i hlt
      intro c hc
      rcases List.mem_cons.1 hc with rfl | hc
      · exact ⟨u, hlt, rfl⟩
      · exact h c hc
    · refine num_allD hb f (u / b) _ (by rw [Nat.pow_succ] at hu; exact Nat.div_lt_of_lt_mul (by rw [Nat.mul_comm]; exact hu)) fun c hc => ?_
      rcases List.mem_cons.1 hc with rfl | hc
      · exact ⟨u % b, Nat.mod_lt u (by omega), rfl⟩
      · exact h c hc
theorem num_val {b : Nat} (hb2 : 2 ≤ b) (hb : b ≤ 16) : ∀ (f u : Nat) (acc : List UInt8), u < b ^ f → 0 < f → valD b (numL b f u acc) 0 = valD b acc u
  | 0, _, _, _, h => by omega
  | f + 1, u, acc, hu, _ => by
    rw [numL]
    split
    · rename_i hlt
      have := dgt_dig (d := u) (by omega)
      rw [valD, if_neg this.2.2.1, this.1]; simp
    · rename_i hge
      have hf : 0 < f := by
        cases f with
        | zero => simp at hu; omega
        | succ f => omega
      have hm : u % b < b := Nat.mod_lt u (by omega)
      have := dgt_dig (d := u % b) (by omega)
      rw [num_val hb2 hb f (u / b) _ (by rw [Nat.pow_succ] at hu; exact Nat.div_lt_of_lt_mul (by rw [Nat.mul_comm]; exact hu)) hf, valD, if_neg this.2.2.1, this.1, Int.toNat_natCast]
      congr 1
      rw [Nat.mul_comm]; exact Nat.div_add_mod u b
theorem num_ne {b : Nat} : ∀ (f u : Nat) (acc : List UInt8), 0 < f ∨ acc ≠ [] → numL b f u acc ≠ []
  | 0, _, _, h => by rcases h with h | h; omega; exact h
  | f + 1, u, acc, _ => by
    rw [numL]
    split
    · simp
    · exact num_ne f _ _ (.inr (by simp))
theorem num_head : ∀ (f u : Nat) (acc : List UInt8), u < 10 ^ f → 0 < u → ∃ d r, numL 10 f u acc = dgt d :: r ∧ 0 < d ∧ d < 10
  | 0, u, _, h, h0 => by simp at h; omega
  | f + 1, u, acc, h, h0 => by
    rw [numL]
    split
    · rename_i hlt; exact ⟨u, acc, rfl, h0, hlt⟩
    · exact num_head f (u / 10) _ (by rw [Nat.pow_succ] at h; omega) (by omega)
theorem good_digs {b : Nat} (hb : b ≤ 16) {d : List UInt8} (hd : allD b d) (hne : d ≠ []) : wrongD b true false d 0 = none :=
  good_wrong b d true false 0 (fun _ => hne) fun c hc => by
    obtain ⟨x, hx, rfl⟩ := hd c hc
    have := dgt_dig (d := x) (by omega)
    exact ⟨this.2.2.1, by rw [this.1]; omega, by rw [this.1]; omega⟩
theorem digs_val {b u : Nat} (hb2 : 2 ≤ b) (hb : b ≤ 16) (hu : u < 18446744073709551616) : digS b (numL b 64 u []) = ((u : Int), -1, false) := by
  have hp : u < b ^ 64 := Nat.lt_of_lt_of_le (show u < 2 ^ 64 from hu) (Nat.pow_le_pow_left hb2 64)
  unfold digS
  rw [good_digs hb (num_allD hb2 64 u [] hp (fun c hc => by simp at hc)) (num_ne 64 u [] (.inl (by omega))), num_val hb2 hb 64 u [] hp (by omega)]
  show (((u % 18446744073709551616 : Nat) : Int), (-1 : Int), decide (18446744073709551616 ≤ u)) = _
  rw [Nat.mod_eq_of_lt hu, decide_eq_false (by omega)]
theorem hex_parts (d : List UInt8) (h : d ≠ []) : partsS (48 :: 120 :: d) = (2, 0, 16) := by
  have hl : 2 < (48 :: 120 :: d : List UInt8).length := by
    have := List.length_pos_iff.2 h
    simp; omega
  rw [parts_of _ 120 (by rw [if_pos ⟨hl, rfl⟩]; show lowB 120 = 120; decide), if_pos rfl]
theorem hex_word {u : Nat} (hu : u < 18446744073709551616) (a : Nat) : wordS ([48, 120] ++ numL 16 64 u []) a = (IntKind.wrap .i64 (u : Int), (a : Int) + (([48, 120] ++ numL 16 64 u [] : List UInt8).length : Int), 0, 0) := by
  have hne := num_ne (b := 16) 64 u [] (.inl (by omega))
  have hp : partsS ([48, 120] ++ numL 16 64 u []) = (2, 0, 16) := hex_parts _ hne
  have hd : (([48, 120] ++ numL 16 64 u [] : List UInt8).take (([48, 120] ++ numL 16 64 u [] : List UInt8).length - 0)).drop 2 = numL 16 64 u [] := by
    rw [Nat.sub_zero, List.take_length]; rfl
  unfold wordS
  rw [hp]
  simp only [hd]
  rw [digs_val (by omega) (by omega) hu, if_neg (by show ¬ (0 : Int) ≤ -1; omega), if_neg (by simp)]
theorem dec_parts {u : Nat} (hu : u < 18446744073709551616) : partsS (numL 10 64 u []) = (0, 0, 10) := by
  have hp : u < 10 ^ 64 := Nat.lt_of_lt_of_le (show u < 2 ^ 64 from hu) (Nat.pow_le_pow_left (by omega) 64)
  have hne := num_ne (b := 10) 64 u [] (.inl (by omega))
  have hall := num_allD (b := 10) (by omega) 64 u [] hp (fun c hc => by simp at hc)
  have hno : ¬ (2 < (numL 10 64 u []).length ∧ (numL 10 64 u []).head? = some 48) := fun ⟨h2, h3⟩ => by
    by_cases h0 : 0 < u
    · obtain ⟨d, r, e, d1, d2⟩ := num_head 64 u [] hp h0
      rw [e] at h3
      have hx : dgt d = 48 := by simpa using h3
      have := (dgt_dig (d := d) (by omega)).2.2.2 d2
      rw [hx] at this
      have : (48 : Int) = 48 + d := this
      omega
    · have : u = 0 := by omega
      subst this
      rw [show numL 10 64 0 [] = [dgt 0] from rfl] at h2
      simp at h2
  have hlast : lowB ((numL 10 64 u []).getD ((numL 10 64 u []).length - 1) 0) ≠ 104 := by
    obtain ⟨d, d1, d2⟩ := hall _ (last_mem _ hne)
    have := dgt_dig (d := d) (by omega)
    rw [d2]
    exact (dig_low (b := 10) (by rw [this.1]; omega) (by rw [this.1]; omega) (by omega)).2.1
  rw [parts_of _ 0 (if_neg hno), if_neg (by omega), if_neg hlast, if_neg (by omega), if_neg (by omega)]
theorem dec_word {u : Nat} (hu : u < 18446744073709551616) (a : Nat) : wordS (numL 10 64 u []) a = (IntKind.wrap .i64 (u : Int), (a : Int) + ((numL 10 64 u []).length : Int), 0, 0) := by
  have hd : ((numL 10 64 u []).take ((numL 10 64 u []).length - 0)).drop 0 = numL 10 64 u [] := by
    rw [Nat.sub_zero, List.take_length]; rfl
  unfold wordS
  rw [dec_parts hu]
  simp only [hd]
  rw [digs_val (by omega) (by omega) hu, if_neg (by show ¬ (0 : Int) ≤ -1; omega), if_neg (by simp)]

theorem while_stop {w : List UInt8} (hw : ∀ c ∈ w, wordI (u8I c) = true) {b : UInt8} (hb : wordI (u8I b) = false) : (w ++ [b]).takeWhile (fun c => wordI (u8I c)) = w := by
  induction w with
  | nil => rw [List.nil_append, List.takeWhile_cons, if_neg (by rw [hb]; simp)]
  | cons c w ih => rw [List.cons_append, List.takeWhile_cons, if_pos (hw c (by simp)), ih fun x hx => hw x (by simp [hx])]
/-- A word is scanned wherever it stands. -/
theorem scan_at (ah : List UInt8) {w : List UInt8} (hw : ∀ c ∈ w, wordI (u8I c) = true) {c : UInt8} {r : List UInt8} (he : w = c :: r) (h0 : 48 ≤ u8I c) (h9 : u8I c ≤ 57) {b : UInt8} (hb : wordI (u8I b) = false) : scanS (ah ++ w ++ [b]) ah.length = wordS w ah.length := by
  have hg : (ah ++ w ++ [b]).getD ((ah.length : Int)).toNat 0 = c := by
    rw [he, List.getD_eq_getElem?_getD]; simp
  have hd : (ah ++ w ++ [b]).drop ((ah.length : Int)).toNat = w ++ [b] := by simp
  have hl : (ah ++ w ++ [b]).length = ah.length + w.length + 1 := by simp; omega
  unfold scanS
  rw [if_neg (by omega), if_neg (by omega), hg, if_neg (by omega), if_pos ⟨h0, h9⟩, hd, while_stop hw hb, Int.toNat_natCast]

theorem scanE_true {ah : List UInt8} (hah : ah.length ≤ 50) {b : Int} (hb0 : 0 ≤ b) (hb1 : b < 256) (hb : wordI b = false) {s : List UInt8} {want : Int} {K : Option AV} (hs : s.length ≤ 70) (hw : ∀ c ∈ s, wordI (u8I c) = true) {c : UInt8} {r : List UInt8} (he : s = c :: r) (h0 : 48 ≤ u8I c) (h9 : u8I c ≤ 57)
    (hv : wordS s ah.length = (want, (ah.length : Int) + (s.length : Int), 0, 0)) : scanE ah b s want K = K := by
  unfold scanE
  rw [scan_at ah hw he h0 h9 (b := iU8 b) (by rw [u8I_iU8 hb0 hb1]; exact hb), hv, bleT (by omega), bleT (by simp; omega), bleT (by simp; omega), i64_in (by omega) (by omega)]
  show pick2 (!eqI want want) _ (pick2 (!eqI ((ah.length : Int) + (s.length : Int)) _) _ (pick2 (!eqI 0 0) _ K)) = K
  rw [eqT rfl, eqT rfl, eqT rfl]
  rfl

theorem num_len {b : Nat} : ∀ (f u : Nat) (acc : List UInt8), (numL b f u acc).length ≤ f + acc.length
  | 0, _, acc => by simp [numL]
  | f + 1, u, acc => by
    rw [numL]
    split
    · simp; omega
    · have := num_len (b := b) f (u / b) (dgt (u % b) :: acc)
      simp at this ⊢; omega

theorem each_true {n : Int} (h0 : -9223372036854775808 ≤ n) (h1 : n < 9223372036854775808) {ah : List UInt8} (hah : ah.length ≤ 50) {b : Int} (hb0 : 0 ≤ b) (hb1 : b < 256) (hb : wordI b = false) {base : Nat} {pf : List UInt8} {K : Option AV}
    (hlen : (pf ++ numL base 64 n.natAbs []).length ≤ 70) (hw : ∀ c ∈ pf ++ numL base 64 n.natAbs [], wordI (u8I c) = true) {c : UInt8} {r : List UInt8} (he : pf ++ numL base 64 n.natAbs [] = c :: r) (h48 : 48 ≤ u8I c) (h9 : u8I c ≤ 57)
    (hv : wordS (pf ++ numL base 64 n.natAbs []) ah.length = (IntKind.wrap .i64 ((n.natAbs : Nat) : Int), (ah.length : Int) + ((pf ++ numL base 64 n.natAbs []).length : Int), 0, 0)) : eachE n ah b (telS base pf n) K = K := by
  unfold eachE
  rw [pick_lt]
  split
  · rename_i h
    have ht : telS base pf n = 45 :: (pf ++ numL base 64 n.natAbs []) := by unfold telS; rw [if_pos h]; rfl
    have hl : 0 < (pf ++ numL base 64 n.natAbs []).length := by rw [he]; simp
    rw [ht]
    generalize hs : pf ++ numL base 64 n.natAbs [] = s at hlen hw he hv hl
    have hl2 : (45 :: s : List UInt8).length = s.length + 1 := rfl
    rw [ltF (by rw [hl2]; omega)]
    show pick2 (!eqI 45 45) _ (pick2 (!ltI 1 0 && !ltI (Int.ofNat (45 :: s : List UInt8).length) 1) _ none) = _
    rw [eqT rfl, ltF (a := 1) (b := 0) (by omega), ltF (a := Int.ofNat (45 :: s : List UInt8).length) (by show (1 : Int) ≤ ((s.length + 1 : Nat) : Int); omega)]
    show scanE ah b (cutL (45 :: s) 1 ↑(45 :: s : List UInt8).length) _ K = _
    have hc : cutL (45 :: s) 1 ((45 :: s : List UInt8).length : Int) = s := by
      unfold cutL
      show s.take _ = s
      exact List.take_of_length_le (by rw [hl2]; simp)
    rw [hc]
    have habs : ((n.natAbs : Nat) : Int) = 0 - n := by omega
    rw [habs] at hv
    exact scanE_true hah hb0 hb1 hb hlen hw he h48 h9 hv
  · rename_i h
    have ht : telS base pf n = pf ++ numL base 64 n.natAbs [] := by unfold telS; rw [if_neg h]; rfl
    have habs : ((n.natAbs : Nat) : Int) = n := by omega
    rw [habs, i64_in h0 h1] at hv
    rw [ht]
    exact scanE_true hah hb0 hb1 hb hlen hw he h48 h9 hv

theorem main_true {n : Int} (h0 : -9223372036854775808 ≤ n) (h1 : n < 9223372036854775808) {ah : List UInt8} (hah : ah.length ≤ 50) {b : Int} (hb0 : 0 ≤ b) (hb1 : b < 256) (hb : wordI b = false) : mainE n ah b = some (.bool true) := by
  have hin : inI n = true := by unfold inI; rw [ltF h0, ltT h1]; rfl
  have hu : n.natAbs < 18446744073709551616 := by omega
  have hp16 : n.natAbs < 16 ^ 64 := Nat.lt_of_lt_of_le (show n.natAbs < 2 ^ 64 from hu) (Nat.pow_le_pow_left (by omega) 64)
  have hp10 : n.natAbs < 10 ^ 64 := Nat.lt_of_lt_of_le (show n.natAbs < 2 ^ 64 from hu) (Nat.pow_le_pow_left (by omega) 64)
  have wordAll : ∀ {base : Nat}, base ≤ 16 → ∀ {l : List UInt8}, allD base l → ∀ c ∈ l, wordI (u8I c) = true := fun hb l hl c hc => by
    obtain ⟨x, hx, rfl⟩ := hl c hc
    exact (dgt_dig (d := x) (by omega)).2.1
  have a16 := num_allD (b := 16) (by omega) 64 n.natAbs [] hp16 (fun c hc => by simp at hc)
  have a10 := num_allD (b := 10) (by omega) 64 n.natAbs [] hp10 (fun c hc => by simp at hc)
  have l16 := num_len (b := 16) 64 n.natAbs []
  have l10 := num_len (b := 10) 64 n.natAbs []
  unfold mainE
  rw [hin]
  show eachE n ah b _ (eachE n ah b _ yesV) = _
  rw [each_true h0 h1 hah hb0 hb1 hb (by simp at l16 ⊢; omega) (fun c hc => by
    rcases List.mem_append.1 hc with hc | hc
    · rcases List.mem_cons.1 hc with rfl | hc
      · decide
      · rcases List.mem_cons.1 hc with rfl | hc
        · decide
        · simp at hc
    · exact wordAll (by omega) a16 c hc) (c := 48) (r := 120 :: numL 16 64 n.natAbs []) rfl (by decide) (by decide) (hex_word hu ah.length)]
  obtain ⟨c, r, hcr⟩ : ∃ c r, numL 10 64 n.natAbs [] = c :: r := by
    cases h : numL 10 64 n.natAbs [] with
    | nil => exact absurd h (num_ne 64 _ [] (.inl (by omega)))
    | cons c r => exact ⟨c, r, rfl⟩
  obtain ⟨d, d1, d2⟩ := a10 c (by rw [hcr]; simp)
  have hd := (dgt_dig (d := d) (by omega)).2.2.2 d1
  exact each_true (pf := []) h0 h1 hah hb0 hb1 hb (by simp at l10 ⊢; omega) (wordAll (by omega) a10) hcr (by rw [d2, hd]; omega) (by rw [d2, hd]; omega) (dec_word hu ah.length)

theorem back {n : Int} (h0 : -9223372036854775808 ≤ n) (h1 : n < 9223372036854775808) (ah : List UInt8) {b : Int} (hb0 : 0 ≤ b) (hb1 : b < 256) : enterT (Xg gvL) (c9 AV) an0 5 7 [.int .i64 n, .str ah, .int .u8 b] TMem.empty (fun v _ => some v) = some (.bool true) := by
  have g1 : grdE ah yesV = some (.bool true) := by unfold grdE; rw [pick_lt]; split <;> rfl
  have g2 : wordI b = false → grdE ah (mainE n ah b) = some (.bool true) := fun hb => by
    unfold grdE; rw [pick_lt]
    split
    · rfl
    · exact main_true h0 h1 (by omega) hb0 hb1 hb
  rw [treeE, g1, pick_eq]
  split
  · rfl
  · rename_i h95
    rw [pickR_eq]
    split
    · rfl
    · rename_i h09
      rw [pickR_eq]
      split
      · rfl
      · rename_i haz
        rw [pick_nlt]
        split
        · rename_i h65
          rw [pick_nlt]
          split
          · exact g1
          · exact g2 (by unfold wordI; rw [decide_eq_false_iff_not]; omega)
        · exact g2 (by unfold wordI; rw [decide_eq_false_iff_not]; omega)
end Go.Proofs.YtcafcgiemdlobaaDoor.lt
