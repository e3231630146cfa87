/- Numbers in base 16: both tell the same. -/
import Derived.Test.YtcafcgiemdlobaaDoorLb
namespace Go.Proofs.YtcafcgiemdlobaaDoor.lt
open Go.Tv Go.Ev

def digs36 : List UInt8 := [48, 49, 50, 51, 52, 53, 54, 55, 56, 57, 97, 98, 99, 100, 101, 102, 103, 104, 105, 106, 107, 108, 109, 110, 111, 112, 113, 114, 115, 116, 117, 118, 119, 120, 121, 122]
def digs16 : List UInt8 := [48, 49, 50, 51, 52, 53, 54, 55, 56, 57, 97, 98, 99, 100, 101, 102]
noncomputable def treeH : Nat → Int → List Int → (List Int → Option AV) → Option AV
  | 0, _, _, _ => none
  | f + 1, u, acc, k => pick2 (!ltI u 16) (atK digs36 (IntKind.wrap .u64 ↑(BitVec.toNat (BitVec.ofInt 64 u &&& BitVec.ofInt 64 15))) fun c => treeH f (Int.fdiv u 16) (u8I c :: acc) k) (atK digs36 u fun c => k (u8I c :: acc))
noncomputable def ch (gv : Nat → List AV) (β : Type) : CallT β := callT (Xg gv) K0 inl 17 β 20
theorem ch_ok (gv : Nat → List AV) (β : Type) : CallTOk (Xg gv) (cfOf (Xg gv) noKnown) (ch gv β) := callT_ok (by intro id s g h; cases h) (fun _ _ _ => rfl) 17 20 β
theorem treeHexL (n : Int) : enterT (Xg gvL) (ch gvL AV) an0 17 20 [.int .i64 n] TMem.empty (fun v _ => some v) =
    pick2 (ltI n 0) (treeH 17 (IntKind.wrap .u64 (0 - IntKind.wrap .u64 n)) [] fun l => some (.str ([45, 48, 120] ++ l.map iU8))) (treeH 17 (IntKind.wrap .u64 n) [] fun l => some (.str ([48, 120] ++ l.map iU8))) := by kernel_rfl
theorem treeHexT (n : Int) : enterT (Xg gvT) (ch gvT AV) an0 17 20 [.int .i64 n] TMem.empty (fun v _ => some v) =
    pick2 (ltI n 0) (treeH 17 (IntKind.wrap .u64 (0 - IntKind.wrap .u64 n)) [] fun l => some (.str ([45, 48, 120] ++ l.map iU8))) (treeH 17 (IntKind.wrap .u64 n) [] fun l => some (.str ([48, 120] ++ l.map iU8))) := by kernel_rfl

/-! tell -/
def pH : List Bool := [true, true, true, true, true, false, false]
noncomputable def anH : FnAnn := ⟨annOf [1, 2, 7, 8, 9] pH, .none, []⟩
noncomputable def jH (gv : Nat → List AV) (b : Int) (ah sg : List UInt8) (r m : Nat) (u : Int) (s : List UInt8) : Option AV := loopN (Xg gv) (c0 gv AV) anH r 51 pH (fun v _ => some v) m (frOf 40 [(1, .int .u64 b), (2, .str ah), (7, .int .u64 u), (8, .str sg), (9, .str s)]) TMem.empty
noncomputable def addH (gv : Nat → List AV) (b : Int) (ah sg : List UInt8) (r m : Nat) (u : Int) (s : List UInt8) : Option AV :=
  pick2 (eqI b 0) none (pick2 (eqI b 0) none (pick2 (!ltI (Int.tmod u b) 0 && !ltI (IntKind.wrap .u64 (Int.tmod u b + 1)) (Int.tmod u b) && !ltI 16 (IntKind.wrap .u64 (Int.tmod u b + 1)))
    (pick2 (Nat.ble ((cutL digs16 (Int.tmod u b) (IntKind.wrap .u64 (Int.tmod u b + 1))).length + s.length) 9223372036854775807) (pick2 (eqI b 0) none (jH gv b ah sg r m (IntKind.wrap .u64 (Int.tdiv u b)) (cutL digs16 (Int.tmod u b) (IntKind.wrap .u64 (Int.tmod u b + 1)) ++ s))) none) none))
noncomputable def endH (ah sg s : List UInt8) : Option AV := pick2 (Nat.ble (sg.length + ah.length) 9223372036854775807) (pick2 (Nat.ble ((sg ++ ah).length + s.length) 9223372036854775807) (some (.str (sg ++ ah ++ s))) none) none
theorem stepH (gv : Nat → List AV) (b : Int) (ah sg : List UInt8) (r m : Nat) (u : Int) (s : List UInt8) : jH gv b ah sg r (m + 1) u s =
    pick2 (ltI 0 u) (addH gv b ah sg r m u s) (pick2 (decide (s = [])) (addH gv b ah sg r m u s) (endH ah sg s)) := by kernel_rfl
theorem enterH (gv : Nat → List AV) (n b : Int) (ah : List UInt8) (m : Nat) : enterT (Xg gv) (c0 gv AV) anH m 51 [.int .i64 n, .int .u64 b, .str ah] TMem.empty (fun v _ => some v) =
    pick2 (ltI n 0) (jH gv b ah [45] m m (IntKind.wrap .u64 (0 - IntKind.wrap .u64 n)) []) (jH gv b ah [] m m (IntKind.wrap .u64 n) []) := by kernel_rfl

/-! What they come to -/
def dgt (d : Nat) : UInt8 := UInt8.ofNat (if d < 10 then 48 + d else 87 + d)
/-- The digits of a number: at most so many. -/
def numL (b : Nat) : Nat → Nat → List UInt8 → List UInt8
  | 0, _, acc => acc
  | f + 1, u, acc => if u < b then dgt u :: acc else numL b f (u / b) (dgt (u % b) :: acc)
theorem dig36_all : ((List.range 16).all fun d => decide (digs36[d]? = some (dgt d)) && decide (digs16[d]? = some (dgt d))) = true := by decide +kernel
theorem dig36 {d : Nat} (h : d < 16) : getI digs36 (d : Int) = some (dgt d) ∧ digs16[d]? = some (dgt d) := by
  have := List.all_eq_true.1 dig36_all d (List.mem_range.2 h)
  simp only [Bool.and_eq_true, decide_eq_true_eq] at this
  exact this
theorem treeH_eq : ∀ (f u : Nat) (acc : List UInt8) (k : List Int → Option AV), u < 16 ^ f → u < 18446744073709551616 → 0 < f → treeH f u (acc.map u8I) k = k ((numL 16 f u acc).map u8I)
  | 0, u, acc, k, _, _, h => by omega
  | f + 1, u, acc, k, h, h64, _ => by
    have hand : ((BitVec.ofInt 64 (u : Int) &&& BitVec.ofInt 64 15).toNat : Int) = (u : Int) % 16 := and_low (by omega) (by omega) 4 (by omega)
    show pick2 (!ltI (u : Int) 16) (atK digs36 (IntKind.wrap .u64 ↑(BitVec.toNat (BitVec.ofInt 64 (u : Int) &&& BitVec.ofInt 64 15))) fun c => treeH f (Int.fdiv u 16) (u8I c :: acc.map u8I) k) (atK digs36 u fun c => k (u8I c :: acc.map u8I)) = _
    rw [pick_nlt, hand, u64_in (by omega) (by omega), numL]
    unfold atK
    by_cases hu : u < 16
    · rw [if_neg (by omega), if_pos hu, (dig36 hu).1]; rfl
    · rw [if_pos (by omega), if_neg hu]
      have e1 : ((u : Int) % 16) = ((u % 16 : Nat) : Int) := by omega
      have e2 : Int.fdiv (u : Int) 16 = ((u / 16 : Nat) : Int) := by rw [Int.fdiv_eq_ediv_of_nonneg _ (by omega)]; rfl
      have hf : 0 < f := by
        cases f with
        | zero => simp at h; omega
        | succ f => omega
      rw [e1, (dig36 (Nat.mod_lt u (by omega))).1, e2]
      have := treeH_eq f (u / 16) (dgt (u % 16) :: acc) k (by rw [Nat.pow_succ] at h; omega) (by omega) hf
      exact this

/-- From the last digit on. -/
def tellR (b : Nat) : Nat → Nat → List UInt8 → List UInt8
  | 0, _, acc => acc
  | f + 1, u, acc => if u = 0 then acc else tellR b f (u / b) (dgt (u % b) :: acc)
theorem tellR_zero (b f : Nat) (acc : List UInt8) : tellR b f 0 acc = acc := by cases f <;> simp [tellR]
theorem tell_num {b : Nat} (hb : 2 ≤ b) : ∀ (f u : Nat) (acc : List UInt8), u < b ^ (f + 1) → tellR b f (u / b) (dgt (u % b) :: acc) = numL b (f + 1) u acc
  | 0, u, acc, h => by
    have h : u < b := by simpa using h
    show dgt (u % b) :: acc = if u < b then dgt u :: acc else _
    rw [if_pos h, Nat.mod_eq_of_lt h]
  | f + 1, u, acc, h => by
    rw [numL]
    by_cases hu : u < b
    · rw [if_pos hu, Nat.div_eq_of_lt hu, tellR_zero, Nat.mod_eq_of_lt hu]
    · rw [if_neg hu]
      have hd : u / b ≠ 0 := by
        have := Nat.div_pos (show b ≤ u by omega) (show 0 < b by omega)
        omega
      show (if u / b = 0 then _ else tellR b f (u / b / b) (dgt (u / b % b) :: dgt (u % b) :: acc)) = _
      rw [if_neg hd]
      exact tell_num hb f (u / b) (dgt (u % b) :: acc) (by rw [Nat.pow_succ] at h; exact Nat.div_lt_of_lt_mul (by rw [Nat.mul_comm]; exact h))

theorem cut16 {d : Nat} (h : d < 16) : cutL digs16 (d : Int) ((d + 1 : Nat) : Int) = [dgt d] := by
  unfold cutL
  simp only [Int.toNat_natCast]
  have e : d + 1 - d = 1 := by omega
  have := (dig36 h).2
  rw [e]
  have hl : d < digs16.length := h
  rw [List.drop_eq_getElem_cons hl]
  rw [List.getElem?_eq_getElem hl] at this
  simp at this
  simp [this]
theorem addH_eq (gv : Nat → List AV) {b : Nat} (hb2 : 2 ≤ b) (hb : b ≤ 16) (ah sg : List UInt8) (r m : Nat) {u : Nat} (hu : u < 18446744073709551616) {s : List UInt8} (hs : s.length < 1000) :
    addH gv b ah sg r m u s = jH gv b ah sg r m ((u / b : Nat) : Int) (dgt (u % b) :: s) := by
  have hm : u % b < b := Nat.mod_lt u (by omega)
  have e1 : Int.tmod (u : Int) (b : Int) = ((u % b : Nat) : Int) := rfl
  have e2 : Int.tdiv (u : Int) (b : Int) = ((u / b : Nat) : Int) := rfl
  have hd : u / b ≤ u := Nat.div_le_self u b
  have e3 : IntKind.wrap .u64 (((u % b : Nat) : Int) + 1) = ((u % b + 1 : Nat) : Int) := by rw [u64_in (by omega) (by omega)]; omega
  unfold addH
  rw [e1, e2]
  generalize u / b = q at hd ⊢
  rw [e3, eqF (by omega), ltF (by omega), ltF (by omega), ltF (by omega), cut16 (by omega), bleT (by simp; omega), u64_in (by omega) (by omega)]
  rfl
theorem loopH (gv : Nat → List AV) {b : Nat} (hb2 : 2 ≤ b) (hb : b ≤ 16) (ah sg : List UInt8) (hah : ah.length < 1000) (hsg : sg.length < 1000) (r : Nat) : ∀ (f u m : Nat) (s : List UInt8), u < b ^ f → u < 18446744073709551616 → f < m → s ≠ [] → s.length + f < 900 →
    jH gv b ah sg r m u s = some (.str (sg ++ ah ++ tellR b f u s))
  | f, u, 0, s, _, _, hm, _, _ => by omega
  | f, u, m + 1, s, h, h64, hm, hs, hl => by
    rw [stepH, pick_lt]
    by_cases hu : u = 0
    · subst hu
      rw [if_neg (by omega), decide_eq_false hs, tellR_zero]
      unfold endH
      rw [bleT (by omega), bleT (by simp; omega)]
    · rw [if_pos (by omega), addH_eq gv hb2 hb ah sg r m h64 (by omega)]
      cases f with
      | zero => simp at h; omega
      | succ f =>
        have hd : u / b ≤ u := Nat.div_le_self u b
        rw [tellR, if_neg hu]
        exact loopH gv hb2 hb ah sg hah hsg r f (u / b) m (dgt (u % b) :: s) (by rw [Nat.pow_succ] at h; exact Nat.div_lt_of_lt_mul (by rw [Nat.mul_comm]; exact h)) (by omega) (by omega) (by simp) (by simp; omega)
theorem firstH (gv : Nat → List AV) {b : Nat} (hb2 : 2 ≤ b) (hb : b ≤ 16) (ah sg : List UInt8) (hah : ah.length < 1000) (hsg : sg.length < 1000) {u : Nat} (h64 : u < 18446744073709551616) :
    jH gv b ah sg 80 80 u [] = some (.str (sg ++ ah ++ numL b 64 u [])) := by
  have hp : u < b ^ 64 := Nat.lt_of_lt_of_le (show u < 2 ^ 64 from h64) (Nat.pow_le_pow_left hb2 64)
  have e : jH gv b ah sg 80 80 u [] = addH gv b ah sg 80 79 u [] := by
    rw [stepH, pick_lt, decide_eq_true rfl]
    split <;> rfl
  have hd : u / b ≤ u := Nat.div_le_self u b
  rw [e, addH_eq gv hb2 hb ah sg 80 79 h64 (by simp), loopH gv hb2 hb ah sg hah hsg 80 63 (u / b) 79 [dgt (u % b)] (Nat.div_lt_of_lt_mul (by rw [← Nat.pow_succ']; exact hp)) (by omega) (by omega) (by simp) (by simp), tell_num hb2 63 u [] hp]

/-- The text of a number, with what stands ahead of its digits. -/
def telS (b : Nat) (ah : List UInt8) (n : Int) : List UInt8 := (if n < 0 then [45] else []) ++ ah ++ numL b 64 n.natAbs []
theorem abs_neg {n : Int} (h0 : -9223372036854775808 ≤ n) (h : n < 0) : IntKind.wrap .u64 (0 - IntKind.wrap .u64 n) = ((n.natAbs : Nat) : Int) := by rw [u64_mod, u64_mod]; omega
theorem abs_pos {n : Int} (h1 : n < 9223372036854775808) (h : ¬ n < 0) : IntKind.wrap .u64 n = ((n.natAbs : Nat) : Int) := by rw [u64_mod]; omega
theorem runTell (gv : Nat → List AV) {b : Nat} (hb2 : 2 ≤ b) (hb : b ≤ 16) {ah : List UInt8} (hah : ah.length < 1000) {n : Int} (h0 : -9223372036854775808 ≤ n) (h1 : n < 9223372036854775808) :
    enterT (Xg gv) (c0 gv AV) anH 80 51 [.int .i64 n, .int .u64 b, .str ah] TMem.empty (fun v _ => some v) = some (.str (telS b ah n)) := by
  rw [enterH, pick_lt]
  unfold telS
  split
  · rename_i h; rw [abs_neg h0 h]; exact firstH gv hb2 hb ah [45] hah (by simp) (by omega)
  · rename_i h; rw [abs_pos h1 h]; exact firstH gv hb2 hb ah [] hah (by simp) (by omega)
noncomputable def gTell (args : List AV) : Option (Bool × List PRes) :=
  match args with
  | [.int .i64 n, .int .u64 b, .str ah] => some (!ltI n (-9223372036854775808) && ltI n 9223372036854775808 && !ltI b 2 && !ltI 16 b && Nat.ble ah.length 999, [.val (.str (telS b.toNat ah n))])
  | _ => none
theorem con51 (gv : Nat → List AV) : ConOk (Xg gv) (cfOf (Xg gv) noKnown) 51 gTell :=
  con_vals (nk 51) (c0_ok gv) fun args rs hg => by
    unfold gTell at hg
    split at hg
    · rename_i n b ah
      simp only [Option.some.injEq, Prod.mk.injEq, Bool.and_eq_true, ltI_spec, Bool.not_eq_true', decide_eq_false_iff_not, decide_eq_true_eq, Nat.ble_eq] at hg
      obtain ⟨⟨⟨⟨⟨h1, h2⟩, h3⟩, h4⟩, h5⟩, rfl⟩ := hg
      obtain ⟨k, rfl⟩ : ∃ k : Nat, b = k := ⟨b.toNat, by omega⟩
      rw [Int.toNat_natCast]
      exact ⟨[.str (telS k ah n)], anH, 80, runTell gv (by omega) (by omega) (by omega) (by omega) h2, rfl, rfl⟩
    · cases hg

theorem numL_more {b : Nat} (hb : 2 ≤ b) : ∀ (f g u : Nat) (acc : List UInt8), u < b ^ f → 0 < f → f ≤ g → numL b g u acc = numL b f u acc
  | 0, _, _, _, _, h, _ => by omega
  | f + 1, 0, _, _, _, _, h => by omega
  | f + 1, g + 1, u, acc, h, _, hfg => by
    rw [numL, numL]
    by_cases hu : u < b
    · rw [if_pos hu, if_pos hu]
    · rw [if_neg hu, if_neg hu]
      have hf : 0 < f := by
        cases f with
        | zero => simp at h; omega
        | succ f => omega
      exact numL_more hb f g (u / b) _ (by rw [Nat.pow_succ] at h; exact Nat.div_lt_of_lt_mul (by rw [Nat.mul_comm]; exact h)) hf (by omega)
theorem hex_val {u : Nat} (h : u < 18446744073709551616) (k : List Int → Option AV) : treeH 17 u [] k = k ((numL 16 64 u []).map u8I) := by
  have hp : u < 16 ^ 17 := by omega
  have := treeH_eq 17 u [] k hp h (by omega)
  rw [numL_more (by omega) 17 64 u [] hp (by omega) (by omega)]
  exact this
theorem hexTree {n : Int} (h0 : -9223372036854775808 ≤ n) (h1 : n < 9223372036854775808) :
    pick2 (ltI n 0) (treeH 17 (IntKind.wrap .u64 (0 - IntKind.wrap .u64 n)) [] fun l => some (.str ([45, 48, 120] ++ l.map iU8))) (treeH 17 (IntKind.wrap .u64 n) [] fun l => some (.str ([48, 120] ++ l.map iU8))) = some (.str (telS 16 [48, 120] n)) := by
  rw [pick_lt]
  unfold telS
  split
  · rename_i h; rw [abs_neg h0 h, hex_val (by omega), map_iU8]; rfl
  · rename_i h; rw [abs_pos h1 h, hex_val (by omega), map_iU8]; rfl
noncomputable def gHex (args : List AV) : Option (Bool × List PRes) :=
  match args with
  | [.int .i64 n] => some (!ltI n (-9223372036854775808) && ltI n 9223372036854775808, [.val (.str (telS 16 [48, 120] n))])
  | _ => none
theorem con20 : ConOk (Xg gvL) (cfOf (Xg gvL) noKnown) 20 gHex :=
  con_vals (nk 20) (ch_ok gvL) fun args rs hg => by
    unfold gHex at hg
    split at hg
    · rename_i n
      simp only [Option.some.injEq, Prod.mk.injEq, Bool.and_eq_true, ltI_spec, Bool.not_eq_true', decide_eq_false_iff_not, decide_eq_true_eq] at hg
      obtain ⟨h1, rfl⟩ := hg
      exact ⟨[.str (telS 16 [48, 120] n)], an0, 17, (treeHexL n).trans (hexTree (by omega) (by omega)), rfl, rfl⟩
    · cases hg
theorem con20T : ConOk (Xg gvT) (cfOf (Xg gvT) noKnown) 20 gHex :=
  con_vals (nk 20) (ch_ok gvT) fun args rs hg => by
    unfold gHex at hg
    split at hg
    · rename_i n
      simp only [Option.some.injEq, Prod.mk.injEq, Bool.and_eq_true, ltI_spec, Bool.not_eq_true', decide_eq_false_iff_not, decide_eq_true_eq] at hg
      obtain ⟨h1, rfl⟩ := hg
      exact ⟨[.str (telS 16 [48, 120] n)], an0, 17, (treeHexT n).trans (hexTree (by omega) (by omega)), rfl, rfl⟩
    · cases hg
end Go.Proofs.YtcafcgiemdlobaaDoor.lt
