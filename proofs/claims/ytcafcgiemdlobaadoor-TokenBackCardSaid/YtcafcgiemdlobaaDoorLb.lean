/- LiteralBytes: its loops. -/
import Derived.Test.YtcafcgiemdlobaaDoorLs
namespace Go.Proofs.YtcafcgiemdlobaaDoor.lt
open Go.Tv Go.Ev
def pB1 : List Bool := [true, true, true, false, true, false]
def pB2 : List Bool := [true, true, true, true, true, true, true, false, true, false]
noncomputable def annB : Ann := .node none .none (.node none .none (.node none .none (.node none (.node none .none (.node none (.node (some [0, 3, 4]) .none .none) .none)) (.node none .none (.node none .none (.node none .none (.node none (.node none .none (.node none (.node (some [0, 3, 5, 8, 9]) .none .none) .none)) .none)))))))
theorem annB1 : annAt annB pB1 = .node (some [0, 3, 4]) .none .none := by kernel_rfl
theorem annB2 : annAt annB pB2 = .node (some [0, 3, 5, 8, 9]) .none .none := by kernel_rfl
noncomputable def anB : FnAnn := ⟨annB, .none, []⟩
noncomputable def stB1 (l : List Int) (i : Int) : TFr := frOf 98 [(0, .lst (.int .u8) l), (3, .bool true), (4, .int .i64 i)]
noncomputable def stB2 (l : List Int) (n : Int) (got : AV) (i : Int) : TFr := frOf 98 [(0, .lst (.int .u8) l), (3, .bool true), (5, .int .i64 n), (8, got), (9, .int .i64 i)]
noncomputable def jB1 (l : List Int) (r m : Nat) (i : Int) : Option AV := loopN (Xg gvL) (c6 AV) anB r 9 pB1 (fun v _ => some v) m (stB1 l i) TMem.empty
noncomputable def jB0 (l : List Int) (n : Int) (r m : Nat) : Option AV := loopN (Xg gvL) (c6 AV) anB r 9 pB2 (fun v _ => some v) m (stB2 l n .nils 0) TMem.empty
noncomputable def jB2 (l : List Int) (n : Int) (r m : Nat) (got : List Int) (k : Nat) (i : Int) : Option AV := loopN (Xg gvL) (c6 AV) anB r 9 pB2 (fun v _ => some v) m (stB2 l n (.own 0 k) i) (memOf [.list 5 (.int .u8) got 0 false false])
noncomputable def endB (l : List Int) (n : Int) (got : List Int) : Option AV :=
  pick2 (decide (got.map iU8 = l.map iU8)) (pick2 (eqI ↑l.length 8) (some (.bool true)) (pick2 (ltI (IntKind.wrap .i64 (8 * ↑l.length)) 0) none (some (.bool (eqI (Int.fdiv n (2 ^ min (Int.toNat (IntKind.wrap .i64 (8 * ↑l.length))) 64)) 0))))) (some (.bool false))
noncomputable def byteB (n i : Int) : Int := IntKind.wrap .u8 (Int.fdiv n (2 ^ min (Int.toNat (IntKind.wrap .i64 (8 * i))) 64))
theorem stepB2 (l : List Int) (n : Int) (r m : Nat) (got : List Int) (k : Nat) (i : Int) : jB2 l n r (m + 1) got k i =
    pick2 (ltI i ↑l.length) (pick2 (ltI (IntKind.wrap .i64 (8 * i)) 0) none (pick2 (Nat.ble (got.length + 1) 1000000) (jB2 l n r m (got ++ [byteB n i]) (got.length + 1) (IntKind.wrap .i64 (i + 1))) none)) (endB l n got) := by kernel_rfl
theorem stepB0 (l : List Int) (n : Int) (r m : Nat) : jB0 l n r (m + 1) =
    pick2 (ltI 0 ↑l.length) (jB2 l n r m [byteB n 0] 1 1) (endB l n []) := by kernel_rfl
def qB (l : List Int) : List UInt8 := [39] ++ l.map iU8 ++ [39]
noncomputable def afterB (l : List Int) (r : Nat) : Option AV :=
  pick2 (Nat.ble (1 + (l.map iU8).length) 9223372036854775807) (pick2 (Nat.ble (([39] ++ l.map iU8 : List UInt8).length + 1) 9223372036854775807) (pick2 (Nat.ble (qB l).length 999999)
    (pick2 (!eqI (scanS (qB l) 0).2.1 (IntKind.wrap .i64 (↑l.length + 2))) (some (.bool false)) (pick2 (!eqI (scanS (qB l) 0).2.2.1 0) (some (.bool false)) (jB0 l (scanS (qB l) 0).1 r r))) none) none) none
theorem stepB1 (l : List Int) (r m : Nat) (i : Int) : jB1 l r (m + 1) i =
    pick2 (ltI i ↑l.length) (Option.rec (motive := fun _ => Option AV) none (fun y => pick2 (ltI y 32) (some (.bool true)) (Option.rec (motive := fun _ => Option AV) none (fun y => pick2 (ltI 126 y) (some (.bool true)) (Option.rec (motive := fun _ => Option AV) none (fun y => pick2 (eqI y 39) (some (.bool true)) (jB1 l r m (IntKind.wrap .i64 (i + 1)))) (getI l i))) (getI l i))) (getI l i)) (afterB l r) := by kernel_rfl
theorem enterB (l : List Int) (m : Nat) : enterT (Xg gvL) (c6 AV) anB m 9 [.lst (.int .u8) l] TMem.empty (fun v _ => some v) =
    pick2 (ltI ↑l.length 1) (some (.bool true)) (pick2 (ltI 8 ↑l.length) (some (.bool true)) (jB1 l m m 0)) := by kernel_rfl

/-! The plain law -/
/-- The number whose bytes these are. -/
def valB : List UInt8 → Nat
  | [] => 0
  | c :: r => c.toNat + 256 * valB r
theorem textL_plain (len : Nat) : ∀ (bs : List UInt8) (k N i : Nat), (∀ c ∈ bs, 32 ≤ u8I c ∧ u8I c ≤ 126 ∧ u8I c ≠ 39) → k + bs.length ≤ 8 → 0 < k + bs.length →
    textL len (bs ++ [39]) k N i = (IntKind.wrap .i64 ((N + 256 ^ k * valB bs : Nat) : Int), ((i + bs.length + 1 : Nat) : Int), 0, 0)
  | [], k, N, i, _, h8, h0 => by
    show textL len [39] k N i = _
    rw [textL, if_pos (by rfl), if_neg (by simp at h0; omega)]
    simp [valB]
  | c :: bs, k, N, i, hp, h8, h0 => by
    obtain ⟨a1, a2, a3⟩ := hp c (by simp)
    show textL len (c :: (bs ++ [39])) k N i = _
    simp only [List.length_cons] at h8
    rw [textL, if_neg a3, if_neg (by omega), if_neg (by omega), textL_plain len bs (k + 1) _ (i + 1) (fun x hx => hp x (by simp [hx])) (by omega) (by omega)]
    have e1 : N + c.toNat * 256 ^ k + 256 ^ (k + 1) * valB bs = N + 256 ^ k * valB (c :: bs) := by
      rw [valB, Nat.mul_add, Nat.pow_succ, Nat.mul_comm c.toNat, Nat.mul_assoc, Nat.add_assoc]
    rw [e1]
    simp only [List.length_cons]
    congr 2
    omega
theorem valB_lt : ∀ (bs : List UInt8), (∀ c ∈ bs, u8I c ≤ 126) → 2 * valB bs < 256 ^ bs.length
  | [], _ => by simp [valB]
  | c :: r, h => by
    have h1 := valB_lt r fun x hx => h x (by simp [hx])
    have h2 : c.toNat ≤ 126 := by have := h c (by simp); unfold u8I at this; simp at this; omega
    rw [valB, List.length_cons, Nat.pow_succ]
    omega
theorem valB_div : ∀ (bs : List UInt8) (i : Nat), valB bs / 256 ^ i = valB (bs.drop i)
  | bs, 0 => by simp
  | [], i + 1 => by simp [valB]
  | c :: r, i + 1 => by
    have hc := c.toNat_lt
    have e : valB (c :: r) / 256 ^ (i + 1) = valB (c :: r) / 256 / 256 ^ i := by rw [Nat.pow_succ, Nat.mul_comm (256 ^ i), Nat.div_div_eq_div_mul]
    rw [e, valB]
    have : (c.toNat + 256 * valB r) / 256 = valB r := by omega
    rw [this, valB_div r i, List.drop_succ_cons]
theorem valB_mod (c : UInt8) (r : List UInt8) : valB (c :: r) % 256 = c.toNat := by
  have hc := c.toNat_lt
  rw [valB]; omega

theorem byte_at {bs : List UInt8} {i : Nat} (hi : i < 8) {c : UInt8} {r : List UInt8} (h : bs.drop i = c :: r) : byteB (valB bs) i = u8I c := by
  unfold byteB
  rw [i64_in (by omega) (by omega)]
  have e1 : min (Int.toNat (8 * (i : Int))) 64 = 8 * i := by omega
  have e2 : (2 : Int) ^ (8 * i) = ((256 ^ i : Nat) : Int) := by
    have : (2 : Nat) ^ (8 * i) = 256 ^ i := by rw [Nat.pow_mul]
    rw [← this, Int.natCast_pow]; rfl
  rw [e1, e2]
  have e3 : Int.fdiv (valB bs : Int) ((256 ^ i : Nat) : Int) = ((valB bs / 256 ^ i : Nat) : Int) := by
    rw [Int.fdiv_eq_ediv_of_nonneg _ (Int.natCast_nonneg _)]; rfl
  rw [e3, u8_mod, valB_div, h]
  have := valB_mod c r
  unfold u8I
  show ((valB (c :: r) : Nat) : Int) % 256 = (c.toNat : Int)
  omega

theorem loopB2 {l : List Int} {bs : List UInt8} (hl : l = bs.map u8I) (h8 : bs.length ≤ 8) (r : Nat) : ∀ (rest pre : List UInt8) (m : Nat), bs = pre ++ rest → rest.length < m → pre ≠ [] →
    jB2 l (valB bs) r m (pre.map u8I) pre.length pre.length = endB l (valB bs) l := by
  have hll : l.length = bs.length := by rw [hl]; simp
  intro rest
  induction rest with
  | nil =>
    intro pre m he hm hp
    obtain ⟨m, rfl⟩ : ∃ m', m = m' + 1 := ⟨m - 1, by simp at hm; omega⟩
    have hbl : bs = pre := by rw [he]; simp
    rw [stepB2, ltF (by rw [hll, hbl]; omega), hl, hbl]
  | cons c rest ih =>
    intro pre m he hm hp
    obtain ⟨m, rfl⟩ : ∃ m', m = m' + 1 := ⟨m - 1, by simp at hm; omega⟩
    have hbl : bs.length = pre.length + (rest.length + 1) := by rw [he]; simp
    have hdrop : bs.drop pre.length = c :: rest := by rw [he]; simp
    rw [stepB2, ltT (by omega), i64_in (n := 8 * (pre.length : Int)) (by omega) (by omega), ltF (by omega), byte_at (by omega) hdrop, i64_in (by omega) (by omega)]
    show pick2 (Nat.ble ((pre.map u8I).length + 1) 1000000) _ none = _
    rw [bleT (by simp; omega)]
    have := ih (pre ++ [c]) m (by rw [he]; simp) (by simp at hm; omega) (by simp)
    rw [List.map_append, List.length_append] at this
    show jB2 l (valB bs) r m (pre.map u8I ++ [u8I c]) ((pre.map u8I).length + 1) ((pre.length : Int) + 1) = _
    rw [List.length_map]
    exact this

theorem bytes_true {l : List Int} {bs : List UInt8} (hl : l = bs.map u8I) : enterT (Xg gvL) (c6 AV) anB 10 9 [.lst (.int .u8) l] TMem.empty (fun v _ => some v) = some (.bool true) := by
  have hll : l.length = bs.length := by rw [hl]; simp
  rw [enterB, pick_lt]
  split
  · rfl
  rename_i h1
  rw [pick_lt]
  split
  · rfl
  rename_i h8
  have after : (∀ c ∈ bs, 32 ≤ u8I c ∧ u8I c ≤ 126 ∧ u8I c ≠ 39) → afterB l 10 = some (.bool true) := fun hp => by
    have hm : l.map iU8 = bs := by rw [hl, map_iU8]
    have hq : qB l = 39 :: (bs ++ [39]) := by unfold qB; rw [hm]; rfl
    have hlen : (qB l).length = bs.length + 2 := by rw [hq]; simp
    have hs : scanS (qB l) 0 = (IntKind.wrap .i64 ((valB bs : Nat) : Int), ((bs.length + 2 : Nat) : Int), 0, 0) := by
      unfold scanS
      rw [if_neg (by omega), if_neg (by omega), if_pos (by rw [hq]; rfl)]
      unfold textS
      show textL (qB l).length ((qB l).drop 1) 0 0 1 = _
      rw [hq, List.drop_succ_cons, List.drop_zero, textL_plain _ bs 0 0 1 hp (by omega) (by omega)]
      simp only [Nat.pow_zero, Nat.one_mul, Nat.zero_add]
      congr 2
      omega
    have hv := valB_lt bs fun c hc => (hp c hc).2.1
    have h256 : 256 ^ bs.length ≤ 2 ^ 64 := by
      have : 256 ^ bs.length ≤ 256 ^ 8 := Nat.pow_le_pow_right (by omega) (by omega)
      exact this
    unfold afterB
    rw [hs, bleT (by simp; omega), bleT (by simp; omega), bleT (by omega), i64_in (n := (valB bs : Int)) (by omega) (by omega), i64_in (n := (l.length : Int) + 2) (by omega) (by omega)]
    show pick2 (!eqI ((bs.length + 2 : Nat) : Int) ((l.length : Int) + 2)) _ (pick2 (!eqI 0 0) _ (jB0 l (valB bs) 10 10)) = _
    rw [eqT (by omega), eqT rfl]
    show jB0 l (valB bs) 10 (9 + 1) = _
    cases bs with
    | nil => exact absurd hll (by show ¬ l.length = 0; omega)
    | cons c rest =>
      rw [stepB0, ltT (by omega)]
      have hb : byteB (valB (c :: rest)) 0 = u8I c := byte_at (i := 0) (by omega) (r := rest) rfl
      rw [hb]
      have := loopB2 hl (by omega) 10 rest [c] 9 rfl (by simp at hll; omega) (by simp)
      show jB2 l _ 10 9 [u8I c] 1 1 = _
      refine Eq.trans this ?_
      unfold endB
      rw [decide_eq_true rfl]
      show pick2 (eqI (l.length : Int) 8) _ _ = _
      rw [pick_eq]
      split
      · rfl
      · rw [i64_in (by omega) (by omega), ltF (by omega)]
        have e1 : min (Int.toNat (8 * (l.length : Int))) 64 = 8 * (c :: rest).length := by omega
        have e2 : (2 : Int) ^ (8 * (c :: rest).length) = ((256 ^ (c :: rest).length : Nat) : Int) := by
          have : (2 : Nat) ^ (8 * (c :: rest).length) = 256 ^ (c :: rest).length := by rw [Nat.pow_mul]
          rw [← this, Int.natCast_pow]; rfl
        rw [e1, e2, Int.fdiv_eq_ediv_of_nonneg _ (Int.natCast_nonneg _)]
        have e3 : (valB (c :: rest) : Int) / ((256 ^ (c :: rest).length : Nat) : Int) = ((valB (c :: rest) / 256 ^ (c :: rest).length : Nat) : Int) := rfl
        rw [e3, Nat.div_eq_of_lt (by omega)]
        rfl
  have loop : ∀ (rest pre : List UInt8) (m : Nat), bs = pre ++ rest → rest.length < m → (∀ c ∈ pre, 32 ≤ u8I c ∧ u8I c ≤ 126 ∧ u8I c ≠ 39) → jB1 l 10 m pre.length = some (.bool true) := by
    intro rest
    induction rest with
    | nil =>
      intro pre m he hm hp
      obtain ⟨m, rfl⟩ : ∃ m', m = m' + 1 := ⟨m - 1, by simp at hm; omega⟩
      have hbl : bs = pre := by rw [he]; simp
      rw [stepB1, ltF (by rw [hll, hbl]; omega)]
      exact after (by rw [hbl]; exact hp)
    | cons c rest ih =>
      intro pre m he hm hp
      obtain ⟨m, rfl⟩ : ∃ m', m = m' + 1 := ⟨m - 1, by simp at hm; omega⟩
      have hbl : bs.length = pre.length + (rest.length + 1) := by rw [he]; simp
      have hg : getI l (pre.length : Int) = some (u8I c) := by
        rw [hl, he, List.map_append, List.map_cons]
        have := getI_at (pre.map u8I) (rest.map u8I) (u8I c)
        rw [List.length_map] at this; exact this
      rw [stepB1, ltT (by omega), hg, i64_in (by omega) (by omega)]
      show pick2 (ltI (u8I c) 32) _ (pick2 (ltI 126 (u8I c)) _ (pick2 (eqI (u8I c) 39) _ (jB1 l 10 m ((pre.length : Int) + 1)))) = _
      simp only [pick_lt, pick_eq]
      split
      · rfl
      · split
        · rfl
        · split
          · rfl
          · have := ih (pre ++ [c]) m (by rw [he]; simp) (by simp at hm; omega) (fun x hx => by
              simp only [List.mem_append, List.mem_singleton] at hx
              rcases hx with hx | rfl
              · exact hp x hx
              · omega)
            rw [List.length_append] at this
            exact this
  exact loop bs [] 10 rfl (by omega) (fun c hc => by simp at hc)
theorem wf_u8 {n : Int} (h : (Lit.int .u8 n).wf = true) : 0 ≤ n ∧ n < 256 := by
  simp only [Lit.wf, Bool.and_eq_true, decide_eq_true_eq] at h
  have h1 : (0 : Int) ≤ n := h.1
  have h2 : n ≤ 255 := h.2
  omega
theorem wf_i64 {n : Int} (h : (Lit.int .i64 n).wf = true) : -9223372036854775808 ≤ n ∧ n < 9223372036854775808 := by
  simp only [Lit.wf, Bool.and_eq_true, decide_eq_true_eq] at h
  have h1 : (-9223372036854775808 : Int) ≤ n := h.1
  have h2 : n ≤ 9223372036854775807 := h.2
  omega
theorem u8I_iU8 {n : Int} (h0 : 0 ≤ n) (h1 : n < 256) : u8I (iU8 n) = n := by
  unfold u8I iU8
  rw [UInt8.toNat_ofNat']
  show ((n.toNat % 256 : Nat) : Int) = n
  omega
theorem bytes_of : ∀ {l : List Int}, (∀ n ∈ l, (Lit.int .u8 n).wf = true) → l = (l.map iU8).map u8I
  | [], _ => rfl
  | n :: l, h => by
    have := wf_u8 (h n (by simp))
    rw [List.map_cons, List.map_cons, u8I_iU8 this.1 this.2, ← bytes_of fun x hx => h x (by simp [hx])]
end Go.Proofs.YtcafcgiemdlobaaDoor.lt
