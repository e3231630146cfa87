/- RexBack comes to true. -/
import Derived.Test.YtpabmjpkkhmidaaRb
namespace Go.Proofs.Ytpabmjpkkhmidaa.rexBack
open Go.Tv Go.Ev
noncomputable section
variable {β : Type}

def tail6 (l : List Int) (k : AV → Option β) : Option β :=
  pick2 (okB l) (pick2 (ltI (rd l).2.2 0) (k (.bool false)) (pick2 (ltI 3 (rd l).2.2) (k (.bool false)) (pick2 (ltI (↑(List.length l)) (rd l).2.2) (k (.bool false))
    (pick2 (!ltI (rd l).2.2 0 && !ltI (Int.ofNat (List.length l)) (rd l).2.2)
      (pick2 (eqI (layE (rd l).1 (rd l).2.1) 0) (k (.bool (decide (List.map iU8 (layL (rd l).1 (rd l).2.1) = List.map iU8 (cutL l 0 (rd l).2.2))))) (k (.bool false))) none)))) none

def mid6 (p n : Int) (l : List Int) (k : AV → Option β) : Option β :=
  pick2 (Nat.ble (0 + List.length (layL p n)) 1000000) (pick2 (Nat.ble (List.length ([] ++ layL p n) + List.length l) 1000000) (pick2 (okB ([] ++ layL p n ++ l))
    (pick2 (eqI (rd ([] ++ layL p n ++ l)).1 p) (pick2 (eqI (rd ([] ++ layL p n ++ l)).2.1 n) (pick2 (!eqI (rd ([] ++ layL p n ++ l)).2.2 ↑(List.length (layL p n))) (k (.bool false)) (tail6 l k)) (k (.bool false))) (k (.bool false))) none) none) none

def cont6 (p n : Int) (l : List Int) (k : AV → Option β) (free : Bool) : Option β :=
  pick2 (eqI (layE p n) 0) (pick2 free (mid6 p n l k) (pick2 (!ltI n 0) (mid6 p n l k) (tail6 l k))) (tail6 l k)

def free6 (l : List Int) (c : Bool → Option β) : Option β :=
  pick2 (eqI (↑(List.length l)) 0) (c true) (Option.rec (motive := fun _ => Option β) none (fun y => pick2 (!eqI y 102) (Option.rec (motive := fun _ => Option β) none (fun y => pick2 (!eqI y 242)
    (Option.rec (motive := fun _ => Option β) none (fun y => pick2 (!eqI y 243) (Option.rec (motive := fun _ => Option β) none (fun y => pick2 (ltI y 64) (c true) (Option.rec (motive := fun _ => Option β) none (fun y => c (ltI 79 y)) (getI l 0))) (getI l 0)) (c false)) (getI l 0)) (c false)) (getI l 0)) (c false)) (getI l 0))

def tree6 (p n : Int) (l : List Int) (k : AV → Option β) : Option β :=
  pick2 (ltI 20 ↑(List.length l)) (k (.bool true)) (pick2 (!ltI n 0) (pick2 (!ltI 15 n) (pick2 (isBit (bt n 8) && isBit (bt n 4) && isBit (bt n 2) && isBit (bt n 1))
    (pick2 (!eqI (8 * bt n 8 + (4 * bt n 4 + (2 * bt n 2 + bt n 1))) n) (k (.bool false)) (free6 l (cont6 p n l k))) none) (free6 l (cont6 p n l k))) (free6 l (cont6 p n l k)))
end

theorem run6 {β : Type} (p n : Int) (l : List Int) (k : AV → Option β) : enterT X0 (cr β) an0 40 6 [.int .i64 p, .int .i64 n, .lst (.int .u8) l] TMem.empty (fun v _ => k v) = tree6 p n l k := by kernel_rfl

def freeB : List Int → Bool
  | [] => true
  | y :: _ => !eqI y 102 && (!eqI y 242 && (!eqI y 243 && (ltI y 64 || ltI 79 y)))

theorem free6_eq {β : Type} (l : List Int) (c : Bool → Option β) : free6 l c = c (freeB l) := by
  cases l with
  | nil => rfl
  | cons y t =>
    have h0 : eqI (↑(List.length (y :: t))) 0 = false := by rw [eqI_spec]; simp; omega
    have hg : getI (y :: t) 0 = some y := rfl
    unfold free6 freeB
    rw [h0, hg]
    try simp only [pickF]
    cases eqI y 102 <;> cases eqI y 242 <;> cases eqI y 243 <;> cases ltI y 64 <;> rfl

theorem eqT {a b : Int} (h : a = b) : eqI a b = true := by rw [eqI_spec, h]; simp
theorem eqF {a b : Int} (h : a ≠ b) : eqI a b = false := by rw [eqI_spec]; simpa using h
theorem ltT {a b : Int} (h : a < b) : ltI a b = true := by rw [ltI_spec]; simpa using h
theorem ltF {a b : Int} (h : ¬ a < b) : ltI a b = false := by rw [ltI_spec]; simpa using h

/-- What Read answers, and that Lay makes these bytes of it. -/
def good (l : List Int) (r : Int × Int × Int) : Prop :=
  0 ≤ r.2.2 ∧ r.2.2 ≤ 3 ∧ r.2.2 ≤ l.length ∧ layE r.1 r.2.1 = 0 ∧ layL r.1 r.2.1 = cutL l 0 r.2.2

theorem rd3_cases (p a : Int) (t : List Int) : (rd3 p a t = (p, -1, a)) ∨ ∃ c u, t = c :: u ∧ 64 ≤ c ∧ c ≤ 79 ∧ rd3 p a t = (p, c - 64, a + 1) := by
  cases t with
  | nil => exact .inl rfl
  | cons c u =>
    simp only [rd3, ltI_spec, pick2_eq]
    split
    · rename_i h
      simp at h
      exact .inr ⟨c, u, rfl, by omega, by omega, rfl⟩
    · exact .inl rfl

theorem cut_eq (l : List Int) (n : Nat) : cutL l 0 (n : Int) = l.take n := by simp [cutL]

theorem layE_ok {p n : Int} (h1 : 0 ≤ p) (h2 : p ≤ 5) (h3 : -1 ≤ n) (h4 : n ≤ 15) : layE p n = 0 := by
  unfold layE
  rw [ltF (by omega : ¬ p < 0), ltF (by omega : ¬ (5 : Int) < p), ltF (by omega : ¬ n < -1), ltF (by omega : ¬ (15 : Int) < n)]
  rfl

theorem layL_ok {p n : Int} (h1 : 0 ≤ p) (h2 : p ≤ 5) (h3 : -1 ≤ n) (h4 : n ≤ 15) : layL p n = layB p n := by
  unfold layL
  rw [layE_ok h1 h2 h3 h4]
  rfl

/-- The prefixes of a number. -/
def pre : Nat → List Int
  | 0 => []
  | 1 => [102]
  | 2 => [242]
  | 3 => [102, 242]
  | 4 => [243]
  | 5 => [102, 243]
  | _ => []

theorem layB_pre {p : Nat} (h : p ≤ 5) (n : Int) : layB (p : Int) n = pre p ++ pick2 (ltI n 0) [] [n + 64] := by
  have : p = 0 ∨ p = 1 ∨ p = 2 ∨ p = 3 ∨ p = 4 ∨ p = 5 := by omega
  rcases this with rfl | rfl | rfl | rfl | rfl | rfl <;> rfl

theorem good_of {l : List Int} {p a : Nat} {t : List Int} (hp : p ≤ 5) (hl : l = pre p ++ t) (ha : (pre p).length = a) : good l (rd3 (p : Int) (a : Int) t) := by
  have ha2 : a ≤ 2 := by
    have : p = 0 ∨ p = 1 ∨ p = 2 ∨ p = 3 ∨ p = 4 ∨ p = 5 := by omega
    rcases this with rfl | rfl | rfl | rfl | rfl | rfl <;> (subst ha; decide)
  have hlen : l.length = a + t.length := by rw [hl]; simp [ha]
  rcases rd3_cases (p : Int) (a : Int) t with h | ⟨c, u, rfl, h1, h2, h⟩
  · rw [h]
    refine ⟨by simp only; omega, by simp only; omega, by simp only; omega, layE_ok (by omega) (by omega) (by simp) (by simp), ?_⟩
    simp only
    rw [layL_ok (by omega) (by omega) (by simp) (by simp), layB_pre hp, cut_eq, hl, ← ha, List.take_left]
    rw [ltT (by omega : (-1 : Int) < 0)]
    simp
  · rw [h]
    simp only [List.length_cons] at hlen
    refine ⟨by simp only; omega, by simp only; omega, by simp only; omega, layE_ok (by omega) (by omega) (by simp only; omega) (by simp only; omega), ?_⟩
    simp only
    rw [layL_ok (by omega) (by omega) (by omega) (by omega), layB_pre hp, show ((a : Int) + 1) = ((a + 1 : Nat) : Int) by omega, cut_eq, hl, ltF (by omega), ← ha]
    try simp only [pickF]
    rw [List.take_append, List.take_of_length_le (by omega)]
    simp

theorem rd2_good {l : List Int} {p a : Nat} {t : List Int} (hp : p ≤ 1) (hl : l = pre p ++ t) (ha : (pre p).length = a) : good l (rd2 (p : Int) (a : Int) t) := by
  cases t with
  | nil => exact good_of (p := p) (a := a) (t := []) (by omega) hl ha
  | cons c u =>
    simp only [rd2, pick2_eq]
    split
    · rename_i h
      rw [eqI_spec, beq_iff_eq] at h
      subst h
      refine good_of (p := p + 2) (a := a + 1) (t := u) (by omega) ?_ ?_
      · have : p = 0 ∨ p = 1 := by omega
        rcases this with rfl | rfl <;> simpa [pre] using hl
      · have : p = 0 ∨ p = 1 := by omega
        rcases this with rfl | rfl <;> (subst ha; rfl)
    · split
      · rename_i h
        rw [eqI_spec, beq_iff_eq] at h
        subst h
        refine good_of (p := p + 4) (a := a + 1) (t := u) (by omega) ?_ ?_
        · have : p = 0 ∨ p = 1 := by omega
          rcases this with rfl | rfl <;> simpa [pre] using hl
        · have : p = 0 ∨ p = 1 := by omega
          rcases this with rfl | rfl <;> (subst ha; rfl)
      · exact good_of (p := p) (a := a) (t := c :: u) (by omega) hl ha

theorem rd_good (l : List Int) : good l (rd l) := by
  cases l with
  | nil => exact good_of (p := 0) (a := 0) (t := []) (by omega) rfl rfl
  | cons c t =>
    simp only [rd, pick2_eq]
    split
    · rename_i h
      rw [eqI_spec, beq_iff_eq] at h
      subst h
      exact rd2_good (p := 1) (a := 1) (t := t) (by omega) rfl rfl
    · exact rd2_good (p := 0) (a := 0) (t := c :: t) (by omega) rfl rfl

theorem tail_true {β : Type} {l : List Int} (h : okB l = true) (k : AV → Option β) : tail6 l k = k (.bool true) := by
  obtain ⟨h1, h2, h3, h4, h5⟩ := rd_good l
  unfold tail6
  rw [h, ltF (by omega : ¬ (rd l).2.2 < 0), ltF (by omega : ¬ (3 : Int) < (rd l).2.2), ltF (by omega : ¬ (↑(List.length l) : Int) < (rd l).2.2), ltF (by show ¬ ((List.length l : Nat) : Int) < (rd l).2.2; omega), h4, h5]
  simp only [pickT, pickF, Bool.not_false, Bool.and_self, eqT, decide_true]

theorem okB_app {a b : List Int} (h1 : okB a = true) (h2 : okB b = true) : okB (a ++ b) = true := by
  unfold okB at *
  rw [List.all_append, h1, h2]; rfl

/-- What is laid is read. -/
theorem back {p : Nat} {n : Int} {l : List Int} (hp : p ≤ 5) (h3 : -1 ≤ n) (h4 : n ≤ 15) (hf : freeB l = true ∨ 0 ≤ n) : rd (layL p n ++ l) = ((p : Int), n, ((layL p n).length : Int)) := by
  have hl : ∀ (q : List Int), (∀ y t, q = y :: t → (y = n + 64 ∧ 0 ≤ n)) → True := fun _ _ => trivial
  rw [layL_ok (by omega) (by omega) h3 h4, layB_pre hp]
  by_cases hn : n < 0
  · have hn1 : n = -1 := by omega
    subst hn1
    have hf : freeB l = true := by rcases hf with h | h; exact h; omega
    rw [ltT (by omega)]
    simp only [pickT, List.append_nil]
    have fin : ∀ (p' a : Int), rd3 p' a l = (p', -1, a) := fun p' a => by
      cases l with
      | nil => rfl
      | cons y t =>
        simp only [freeB, eqI_spec, ltI_spec, Bool.and_eq_true, Bool.or_eq_true, decide_eq_true_eq] at hf
        simp only [rd3, ltI_spec, pick2_eq]
        rw [if_neg]
        simp; omega
    have fin2 : ∀ (p' a : Int), rd2 p' a l = (p', -1, a) := fun p' a => by
      cases l with
      | nil => rfl
      | cons y t =>
        have := fin p' a
        simp only [freeB, Bool.and_eq_true, Bool.not_eq_true'] at hf
        simp only [rd2, hf.2.1, hf.2.2.1, pickF]
        exact this
    have fin1 : rd l = (0, -1, 0) := by
      cases l with
      | nil => rfl
      | cons y t =>
        have := fin2 0 0
        simp only [freeB, Bool.and_eq_true, Bool.not_eq_true'] at hf
        simp only [rd, hf.1, pickF]
        exact this
    have : p = 0 ∨ p = 1 ∨ p = 2 ∨ p = 3 ∨ p = 4 ∨ p = 5 := by omega
    rcases this with rfl | rfl | rfl | rfl | rfl | rfl
    · exact fin1
    · exact fin2 1 1
    · exact fin 2 1
    · exact fin 3 2
    · exact fin 4 1
    · exact fin 5 2
  · rw [ltF hn]
    try simp only [pickF]
    have fin : ∀ (p' a : Int), rd3 p' a ((n + 64) :: l) = (p', n, a + 1) := fun p' a => by
      simp only [rd3]
      rw [ltF (by omega), ltF (by omega)]
      simp only [Bool.not_false, Bool.and_self, pickT]
      rw [show n + 64 - 64 = n by omega]
    have fin2 : ∀ (p' a : Int), rd2 p' a ((n + 64) :: l) = (p', n, a + 1) := fun p' a => by
      simp only [rd2]
      rw [eqF (by omega), eqF (by omega)]
      try simp only [pickF]
      exact fin p' a
    have fin1 : rd ((n + 64) :: l) = (0, n, 1) := by
      simp only [rd]
      rw [eqF (by omega)]
      try simp only [pickF]
      exact fin2 0 0
    have : p = 0 ∨ p = 1 ∨ p = 2 ∨ p = 3 ∨ p = 4 ∨ p = 5 := by omega
    rcases this with rfl | rfl | rfl | rfl | rfl | rfl
    · exact fin1
    · exact fin2 1 1
    · exact fin 2 1
    · exact fin 3 2
    · exact fin 4 1
    · exact fin 5 2

theorem layE_inv {p n : Int} (h : layE p n = 0) : 0 ≤ p ∧ p ≤ 5 ∧ -1 ≤ n ∧ n ≤ 15 := by
  unfold layE at h
  simp only [ltI_spec, pick2_eq, Bool.or_eq_true, decide_eq_true_eq] at h
  split at h
  · cases h
  · split at h
    · cases h
    · omega

theorem pre_ok {p : Nat} (h : p ≤ 5) : okB (pre p) = true ∧ (pre p).length ≤ 2 := by
  have : p = 0 ∨ p = 1 ∨ p = 2 ∨ p = 3 ∨ p = 4 ∨ p = 5 := by omega
  rcases this with rfl | rfl | rfl | rfl | rfl | rfl <;> exact ⟨rfl, by decide⟩

theorem lay_ok {p : Nat} {n : Int} (hp : p ≤ 5) (h3 : -1 ≤ n) (h4 : n ≤ 15) : okB (layL p n) = true ∧ (layL p n).length ≤ 3 := by
  rw [layL_ok (by omega) (by omega) h3 h4, layB_pre hp]
  obtain ⟨h1, h2⟩ := pre_ok hp
  by_cases hn : n < 0
  · rw [ltT hn]
    simp only [pickT, List.append_nil]
    exact ⟨h1, by omega⟩
  · rw [ltF hn]
    try simp only [pickF]
    refine ⟨okB_app h1 ?_, by simpa using h2⟩
    simp only [okB, List.all_cons, List.all_nil, Bool.and_true]
    rw [ltF (by omega), ltT (by omega)]
    rfl

theorem mid_true {β : Type} {p n : Int} {l : List Int} (hl : okB l = true) (hn : l.length ≤ 20) (he : layE p n = 0) (hf : freeB l = true ∨ 0 ≤ n) (k : AV → Option β) : mid6 p n l k = k (.bool true) := by
  obtain ⟨h1, h2, h3, h4⟩ := layE_inv he
  obtain ⟨p, rfl⟩ : ∃ q : Nat, p = (q : Int) := ⟨p.toNat, by omega⟩
  obtain ⟨b1, b2⟩ := lay_ok (p := p) (n := n) (by omega) h3 h4
  have hb := back (p := p) (n := n) (l := l) (by omega) h3 h4 hf
  unfold mid6
  simp only [List.nil_append]
  rw [Nat.ble_eq_true_of_le (by omega : 0 + (layL p n).length ≤ 1000000), Nat.ble_eq_true_of_le (by omega : (layL p n).length + l.length ≤ 1000000), okB_app b1 hl, hb]
  simp only [pickT, eqT, Bool.not_true, pickF]
  exact tail_true hl k

theorem bits_sum {n : Int} (h1 : 0 ≤ n) (h2 : n ≤ 15) : (isBit (bt n 8) && isBit (bt n 4) && isBit (bt n 2) && isBit (bt n 1)) = true ∧ 8 * bt n 8 + (4 * bt n 4 + (2 * bt n 2 + bt n 1)) = n := by
  have h : allN (fun i => isBit (bt (Int.ofNat i) 8) && isBit (bt (Int.ofNat i) 4) && isBit (bt (Int.ofNat i) 2) && isBit (bt (Int.ofNat i) 1) && eqI (8 * bt (Int.ofNat i) 8 + (4 * bt (Int.ofNat i) 4 + (2 * bt (Int.ofNat i) 2 + bt (Int.ofNat i) 1))) (Int.ofNat i)) 0 16 = true := by kernel_rfl
  have := allN_spec h n.toNat (by omega) (by omega)
  have e : Int.ofNat n.toNat = n := by show (n.toNat : Int) = n; omega
  rw [e] at this
  simp only [Bool.and_eq_true, eqI_spec, beq_iff_eq] at this ⊢
  exact this

theorem law6 {β : Type} {p n : Int} {l : List Int} (hl : okB l = true) (k : AV → Option β) : tree6 p n l k = k (.bool true) := by
  unfold tree6
  by_cases h20 : (20 : Int) < l.length
  · rw [ltT h20]; try rfl
  rw [ltF h20]
  simp only [pickF, free6_eq]
  have hc : cont6 p n l k (freeB l) = k (.bool true) := by
    unfold cont6
    by_cases he : layE p n = 0
    · rw [eqT he]
      try simp only [pickT]
      by_cases hf : freeB l = true
      · rw [hf]
        try simp only [pickT]
        exact mid_true hl (by omega) he (.inl hf) k
      · rw [Bool.not_eq_true] at hf
        rw [hf]
        try simp only [pickF]
        by_cases hn : n < 0
        · rw [ltT hn]
          try simp only [Bool.not_true, pickF]
          exact tail_true hl k
        · rw [ltF hn]
          try simp only [Bool.not_false, pickT]
          exact mid_true hl (by omega) he (.inr (by omega)) k
    · rw [eqF he]
      try simp only [pickF]
      exact tail_true hl k
  rw [hc]
  by_cases hn : n < 0
  · rw [ltT hn]; try rfl
  rw [ltF hn]
  try simp only [Bool.not_false, pickT]
  by_cases hm : 15 < n
  · rw [ltT hm]; try rfl
  rw [ltF hm]
  obtain ⟨b1, b2⟩ := bits_sum (n := n) (by omega) (by omega)
  rw [b1, b2]
  simp only [Bool.not_false, pickT, eqT, Bool.not_true, pickF]

theorem okB_row {zs : List Int} {len : Nat} (h : ∀ n ∈ zs, (Lit.int .u8 n).wf = true) : okB (zs.take len) = true := by
  unfold okB
  rw [List.all_eq_true]
  intro n hn
  have := h n (List.mem_of_mem_take hn)
  simp only [Lit.wf, IntKind.min, IntKind.max, IntKind.bits, IntKind.signed, Bool.and_eq_true, decide_eq_true_eq] at this
  simp only [ltI_spec, Bool.and_eq_true, Bool.not_eq_true', decide_eq_true_eq, decide_eq_false_iff_not]
  simp at this
  omega

theorem back_true {w : World} {args : List Value} {p n : Int} {l : List Int} (h : okB l = true) (ha : LV (woOf w) [.int .i64 p, .int .i64 n, .lst (.int .u8) l] args) :
    Calls Try.prog 6 args.toArray w fun e w' => e = .returned (.bool true) ∧ RowKit.Below w.heap.size w w' :=
  top_ok (X := X0) noOwn mixed kn_ok (v := .bool true) (fun S x hx => hx.bool_inv) rfl (fun S E argsE hr hg hl => top_run (inl_ok 6 rfl) cr_ok ((run6 p n l some).trans (law6 h some)) S E argsE hr hg hl) (Nat.zero_le _) (fun g hg => absurd hg (Nat.not_lt_zero _)) ha rfl
end Go.Proofs.Ytpabmjpkkhmidaa.rexBack
