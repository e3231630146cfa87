/- TokenBlanks: a piece elsewhere in a longer line. -/
import Derived.Test.YtcafcgiemdlobaaDoorTk9
namespace Go.Proofs.YtcafcgiemdlobaaDoor.lt
open Go.Tv Go.Ev

/-- A byte that ends whatever stands ahead of it. -/
def stopI (n : Int) : Prop := n = 32 ∨ n = 9 ∨ n = 59
theorem stop_more {n : Int} (h : stopI n) : moreI n = false := by
  unfold stopI at h; unfold moreI firstI
  rcases h with rfl | rfl | rfl <;> decide
theorem stop_word {n : Int} (h : stopI n) : wordI n = false := by
  unfold stopI at h; unfold wordI
  rcases h with rfl | rfl | rfl <;> decide

theorem cut_shift (p s t : List UInt8) (a e : Nat) (h : e ≤ s.length) : cutL (p ++ s ++ t) ((p.length + a : Nat) : Int) ((p.length + e : Nat) : Int) = cutL s (a : Int) (e : Int) := by
  unfold cutL
  simp only [Int.toNat_natCast]
  have e1 : p.length + e - (p.length + a) = e - a := by omega
  rw [e1, List.append_assoc, ← List.drop_drop, List.drop_left]
  by_cases ha : a ≤ s.length
  · rw [List.drop_append_of_le_length ha, List.take_append_of_le_length (by rw [List.length_drop]; omega)]
  · have : e - a = 0 := by omega
    rw [this]; simp

theorem nameL_shift (p s : List UInt8) {c : UInt8} (hc : stopI (u8I c)) (q : List UInt8) (a : Nat) : ∀ (rest : List UInt8) (e : Nat), e + rest.length ≤ s.length → (nameL s a rest e).2.2.1 = 0 →
    nameL (p ++ s ++ c :: q) (p.length + a) (rest ++ c :: q) (p.length + e) = ((nameL s a rest e).1, (nameL s a rest e).2.1 + p.length, 0, 0) := by
  intro rest
  induction rest with
  | nil =>
    intro e he _
    have e1 : nameL (p ++ s ++ c :: q) (p.length + a) (c :: q) (p.length + e) = (cutL (p ++ s ++ c :: q) ((p.length + a : Nat) : Int) ((p.length + e : Nat) : Int), ((p.length + e : Nat) : Int), 0, 0) := by
      rw [nameL, if_neg (by rw [stop_more hc]; simp)]
    rw [List.nil_append, e1, nameL, cut_shift _ _ _ _ _ (by simpa using he)]
    simp only [Prod.mk.injEq, true_and, and_true]
    omega
  | cons d r ih =>
    intro e he h
    rw [List.length_cons] at he
    rw [nameL] at h
    rw [List.cons_append, nameL, nameL]
    split at h
    · rename_i hm
      rw [if_pos hm, if_pos hm]
      split at h
      · exact absurd h (by simp)
      · rename_i h60
        rw [if_neg h60, if_neg (by omega)]
        exact ih (e + 1) (by omega) h
    · rename_i hm
      rw [if_neg hm, if_neg hm, cut_shift _ _ _ _ _ (by omega)]
      simp only [Prod.mk.injEq, true_and, and_true]
      omega

theorem quoteL_shift (p s t : List UInt8) (a : Nat) : ∀ (rest : List UInt8) (e : Nat), e + rest.length ≤ s.length → (quoteL s a rest e).2.2.1 = 0 →
    quoteL (p ++ s ++ t) (p.length + a) (rest ++ t) (p.length + e) = ((quoteL s a rest e).1, (quoteL s a rest e).2.1 + p.length, 0, 0) := by
  intro rest
  induction rest with
  | nil => intro e _ h; exact absurd h (by simp [quoteL])
  | cons d r ih =>
    intro e he h
    rw [List.length_cons] at he
    rw [quoteL] at h
    rw [List.cons_append, quoteL, quoteL]
    split at h
    · rename_i hm
      rw [if_pos hm, if_pos hm]
      have := cut_shift p s t (a + 1) e (by omega)
      have e1 : ((p.length + (a + 1) : Nat) : Int) = ((p.length + a : Nat) : Int) + 1 := by omega
      have e2 : ((a + 1 : Nat) : Int) = (a : Int) + 1 := by omega
      rw [e1, e2] at this
      rw [this]
      simp only [Prod.mk.injEq, true_and, and_true]
      omega
    · rename_i hm
      rw [if_neg hm, if_neg hm]
      split at h
      · rename_i hp
        rw [if_pos hp, if_pos hp]
        exact ih (e + 1) (by omega) h
      · exact absurd h (by simp)

theorem textL_shift (P len len' : Nat) (t : List UInt8) : ∀ (rest : List UInt8) (k N i : Nat), (textL len rest k N i).2.2.1 = 0 →
    textL len' (rest ++ t) k N (P + i) = ((textL len rest k N i).1, (textL len rest k N i).2.1 + P, 0, 0) := by
  intro rest
  induction rest with
  | nil => intro k N i h; exact absurd h (by simp [textL])
  | cons d r ih =>
    intro k N i h
    rw [textL] at h
    rw [List.cons_append, textL, textL]
    split at h
    · rename_i hm
      rw [if_pos hm, if_pos hm]
      split at h
      · exact absurd h (by simp)
      · rename_i hk
        rw [if_neg hk, if_neg hk]
        simp only [Prod.mk.injEq, true_and, and_true]
        omega
    · rename_i hm
      rw [if_neg hm, if_neg hm]
      split at h
      · exact absurd h (by simp)
      · rename_i hp
        rw [if_neg hp, if_neg hp]
        split at h
        · exact absurd h (by simp)
        · rename_i hk
          rw [if_neg hk, if_neg hk]
          exact ih _ _ (i + 1) h

theorem pre_shift (x : List UInt8) {c : UInt8} (q g : List UInt8) (hg : c ∉ g) : preB (x ++ c :: q) g = preB x g := by
  unfold preB
  by_cases h : g.length ≤ x.length
  · rw [List.take_append_of_le_length h]
  · have e1 : (decide ((x ++ c :: q).take g.length = g)) = false := by
      rw [decide_eq_false_iff_not]
      intro he
      apply hg
      rw [← he, List.take_append, List.mem_append]
      right
      obtain ⟨k, hk⟩ : ∃ k, g.length - x.length = k + 1 := ⟨g.length - x.length - 1, by omega⟩
      rw [hk]; simp
    have e2 : (decide (x.take g.length = g)) = false := by
      rw [decide_eq_false_iff_not]
      intro he
      have := congrArg List.length he
      simp only [List.length_take] at this
      omega
    rw [e1, e2]

theorem signL_shift (p s : List UInt8) {c : UInt8} (q : List UInt8) (a : Nat) (ha : a ≤ s.length) : ∀ l : List (List UInt8), (∀ g ∈ l, c ∉ g) → (signL s a l).2.2.1 = 0 →
    signL (p ++ s ++ c :: q) (p.length + a) l = ((signL s a l).1, (signL s a l).2.1 + p.length, 0, 0) := by
  intro l
  induction l with
  | nil => intro _ h; exact absurd h (by simp [signL])
  | cons g r ih =>
    intro hl h
    have hd : (p ++ s ++ c :: q).drop (p.length + a) = s.drop a ++ c :: q := by
      rw [List.append_assoc, ← List.drop_drop, List.drop_left, List.drop_append_of_le_length ha]
    have hp := pre_shift (s.drop a) q g (hl g (List.mem_cons_self ..))
    rw [signL] at h
    rw [signL, signL, hd, hp]
    split at h
    · rename_i hm
      rw [if_pos hm, if_pos hm]
      simp only [Prod.mk.injEq, true_and, and_true]
      omega
    · rename_i hm
      rw [if_neg hm, if_neg hm]
      exact ih (fun g hg => hl g (List.mem_cons_of_mem _ hg)) h
theorem stop_sign {c : UInt8} (hc : stopI (u8I c)) : ∀ g ∈ signsL, c ∉ g := by
  have : c = 32 ∨ c = 9 ∨ c = 59 := by
    rcases hc with h | h | h
    · exact .inl (u8I_inj h)
    · exact .inr (.inl (u8I_inj h))
    · exact .inr (.inr (u8I_inj h))
  rcases this with rfl | rfl | rfl <;> decide

theorem takeWhile_shift (x : List UInt8) {c : UInt8} (hc : stopI (u8I c)) (q : List UInt8) : ((x ++ c :: q).takeWhile fun c => wordI (u8I c)) = x.takeWhile fun c => wordI (u8I c) := by
  induction x with
  | nil => rw [List.nil_append, List.takeWhile_cons, if_neg (by rw [stop_word hc]; simp)]; rfl
  | cons d r ih => rw [List.cons_append, List.takeWhile_cons, List.takeWhile_cons, ih]

theorem wordS_shift (w : List UInt8) (P a : Nat) (h : (wordS w a).2.2.1 = 0) : wordS w (P + a) = ((wordS w a).1, (wordS w a).2.1 + P, 0, 0) := by
  unfold wordS at h ⊢
  split at h
  · exact absurd h (by simp)
  · rename_i h1
    rw [if_neg h1, if_neg h1]
    split at h
    · exact absurd h (by simp)
    · rename_i h2
      rw [if_neg h2, if_neg h2]
      simp only [Prod.mk.injEq, true_and, and_true]
      omega

theorem scan_at {s : List UInt8} {a : Nat} {d : UInt8} {r : List UInt8} (hd : s.drop a = d :: r) :
    scanS s (a : Int) = if u8I d = 39 then textS s a else if 48 ≤ u8I d ∧ u8I d ≤ 57 then wordS ((s.drop a).takeWhile fun c => wordI (u8I c)) a else (0, 0, 6, (a : Int)) := by
  have hl : s.length - a = r.length + 1 := by have := congrArg List.length hd; simpa using this
  have hgd : s.getD a 0 = d := by
    have h0 : (s.drop a).getD 0 0 = d := by rw [hd]; rfl
    rw [← h0]; simp [List.getD]
  unfold scanS
  rw [if_neg (by omega), if_neg (by omega), Int.toNat_natCast, hgd]

/-- A piece so much further on. -/
def onP (P : Nat) (y : Piece) : Piece := (y.1, y.2.1, y.2.2.1, y.2.2.2 + P)

theorem piece_shift (p s : List UInt8) {c : UInt8} (hc : stopI (u8I c)) (q : List UInt8) {a : Nat} {d : UInt8} {r : List UInt8} (hd : s.drop a = d :: r) (h : (pieceS s d a).2.2.1 = 0) :
    pieceS (p ++ s ++ c :: q) d (p.length + a) = (onP p.length (pieceS s d a).1, (pieceS s d a).2.1 + p.length, 0, 0) := by
  have hl : s.length - a = r.length + 1 := by have := congrArg List.length hd; simpa using this
  have hS : (p ++ s ++ c :: q).drop (p.length + a) = s.drop a ++ c :: q := by
    rw [List.append_assoc, ← List.drop_drop, List.drop_left, List.drop_append_of_le_length (by omega)]
  have hS1 : (p ++ s ++ c :: q).drop (p.length + a + 1) = s.drop (a + 1) ++ c :: q := by
    rw [List.append_assoc, Nat.add_assoc, ← List.drop_drop, List.drop_left, List.drop_append_of_le_length (by omega)]
  have hD : (p ++ s ++ c :: q).drop (p.length + a) = d :: (r ++ c :: q) := by rw [hS, hd]; rfl
  have hP : (((p.length + a : Nat) : Int)) = (a : Int) + p.length := by omega
  unfold pieceS at h ⊢
  split at h
  · rename_i hf
    rw [if_pos hf, if_pos hf]
    unfold nameC at h ⊢
    have := nameL_shift p s hc q a (s.drop a) a (by rw [List.length_drop]; omega) h
    rw [hS, this, hP]
    rfl
  · rename_i hf
    rw [if_neg hf, if_neg hf]
    split at h
    · rename_i hn
      rw [if_pos hn, if_pos hn]
      rw [scan_at hd] at h ⊢
      rw [scan_at hD]
      split at h
      · rename_i hq
        rw [if_pos hq, if_pos hq]
        unfold textS at h ⊢
        have := textL_shift p.length s.length (p ++ s ++ c :: q).length (c :: q) (s.drop (a + 1)) 0 0 (a + 1) h
        rw [hS1, Nat.add_assoc, this, hP]
        rfl
      · rename_i hq
        rw [if_neg hq, if_neg hq]
        have hn' : 48 ≤ u8I d ∧ u8I d ≤ 57 := by omega
        rw [if_pos hn'] at h
        rw [if_pos hn', if_pos hn', hS, takeWhile_shift _ hc, wordS_shift _ _ _ h, hP]
        rfl
    · rename_i hn
      rw [if_neg hn, if_neg hn]
      split at h
      · rename_i hq
        rw [if_pos hq, if_pos hq]
        unfold quoteC at h ⊢
        have := quoteL_shift p s (c :: q) a (s.drop (a + 1)) (a + 1) (by rw [List.length_drop]; omega) h
        rw [hS1, Nat.add_assoc, this, hP]
        rfl
      · rename_i hq
        rw [if_neg hq, if_neg hq]
        have := signL_shift p s q a (by omega) signsL (stop_sign hc) h
        unfold signC
        rw [this, hP]
        rfl

theorem lex_shift (p s : List UInt8) {c : UInt8} (hc : stopI (u8I c)) (q : List UInt8) (T : Nat) (ht : ∀ m, T ≤ m → lexF (p ++ s ++ c :: q) m (c :: q) = ([], 0, 0)) :
    ∀ (n m : Nat) (left : List UInt8), left.length ≤ n → n + T ≤ m → s.drop (s.length - left.length) = left → (lexF s n left).2.1 = 0 →
    lexF (p ++ s ++ c :: q) m (left ++ c :: q) = ((lexF s n left).1.map (onP p.length), 0, 0) := by
  intro n
  induction n with
  | zero =>
    intro m left h1 h2 _ _
    have : left = [] := List.length_eq_zero_iff.1 (by omega)
    subst this
    rw [List.nil_append, ht m (by omega)]; rfl
  | succ n ih =>
    intro m left h1 h2 h3 hf
    match left, h1, h3, hf with
    | [], _, _, _ => rw [List.nil_append, ht m (by omega)]; rfl
    | d :: r, h1, h3, hf =>
      obtain ⟨m, rfl⟩ : ∃ m', m = m' + 1 := ⟨m - 1, by omega⟩
      rw [List.length_cons] at h1 h3
      have hle : r.length + 1 ≤ s.length := by
        have := congrArg List.length h3
        simp only [List.length_drop, List.length_cons] at this; omega
      have hr : s.drop (s.length - r.length) = r := by
        have : s.length - r.length = s.length - (r.length + 1) + 1 := by omega
        rw [this, ← List.drop_drop, h3]; rfl
      have hpl : (p ++ s ++ c :: q).length - ((r ++ c :: q).length + 1) = p.length + (s.length - (r.length + 1)) := by
        simp only [List.length_append, List.length_cons]; omega
      rw [lexF] at hf
      rw [List.cons_append, lexF, lexF, hpl]
      split at hf
      · rename_i hb
        rw [if_pos hb, if_pos hb]
        exact ih m r (by omega) (by omega) hr hf
      · rename_i hb
        rw [if_neg hb, if_neg hb]
        split at hf
        · rename_i hs
          rw [if_pos hs, if_pos hs]; rfl
        · rename_i hs
          rw [if_neg hs, if_neg hs]
          split at hf
          · rename_i hp
            have he := piece_end h3 hp
            rw [piece_shift p s hc q h3 hp, if_pos rfl, if_pos hp]
            have e1 : ((pieceS s d (s.length - (r.length + 1))).2.1 + (p.length : Int)).toNat = p.length + (pieceS s d (s.length - (r.length + 1))).2.1.toNat := by omega
            have e2 : (p ++ s ++ c :: q).drop (p.length + (pieceS s d (s.length - (r.length + 1))).2.1.toNat) = s.drop (pieceS s d (s.length - (r.length + 1))).2.1.toNat ++ c :: q := by
              rw [List.append_assoc, ← List.drop_drop, List.drop_left, List.drop_append_of_le_length (by omega)]
            have := ih m (s.drop (pieceS s d (s.length - (r.length + 1))).2.1.toNat) (by rw [List.length_drop]; omega) (by omega) (by rw [List.length_drop]; congr 1; omega) hf
            simp only
            rw [e1, e2, this]
            rfl
          · rename_i hp
            exact absurd hf hp

theorem lex_blanks (S X : List UInt8) : ∀ (b : List UInt8), (∀ x ∈ b, u8I x = 32 ∨ u8I x = 9) → ∀ m, lexF S (m + b.length) (b ++ X) = lexF S m X := by
  intro b
  induction b with
  | nil => intro _ m; rfl
  | cons d r ih =>
    intro h m
    rw [List.length_cons, ← Nat.add_assoc, List.cons_append, lexF, if_pos (h d (List.mem_cons_self ..))]
    exact ih (fun x hx => h x (List.mem_cons_of_mem _ hx)) m

/-- Blanks ahead and behind, and a remark. -/
def around (b s k : List UInt8) : List UInt8 := b ++ s ++ b ++ [59] ++ k

theorem lex_around (b s k : List UInt8) (hb : ∀ x ∈ b, u8I x = 32 ∨ u8I x = 9) (hs : s.length ≤ 500) (hl : b.length ≤ 50) (hk : k.length ≤ 100) (hf : (lexC s).2.1 = 0) :
    lexC (around b s k) = ((lexC s).1.map (onP b.length), 0, 0) := by
  have hS : (around b s k).length = 2 * b.length + s.length + 1 + k.length := by
    unfold around; simp only [List.length_append, List.length_cons, List.length_nil]; omega
  have hC : (lexF s s.length s).2.1 = 0 ∧ (lexC s).1 = (lexF s s.length s).1 := by
    unfold lexC at hf ⊢
    rw [if_neg (by omega)] at hf ⊢
    split at hf
    · rename_i h0; rw [if_pos h0]; exact ⟨h0, rfl⟩
    · rename_i h0; exact absurd hf h0
  obtain ⟨c, q, hcq, hc⟩ : ∃ c q, b ++ 59 :: k = c :: q ∧ stopI (u8I c) := by
    match b, hb with
    | [], _ => exact ⟨59, k, rfl, .inr (.inr rfl)⟩
    | d :: r, hb => exact ⟨d, r ++ 59 :: k, rfl, by rcases hb d (List.mem_cons_self ..) with h | h; exact .inl h; exact .inr (.inl h)⟩
  have hA : around b s k = b ++ s ++ c :: q := by
    unfold around; rw [← hcq]; simp
  have ht : ∀ m, b.length + 1 ≤ m → lexF (b ++ s ++ c :: q) m (c :: q) = ([], 0, 0) := by
    intro m hm
    obtain ⟨j, rfl⟩ : ∃ j, m = j + 1 + b.length := ⟨m - 1 - b.length, by omega⟩
    rw [← hcq, lex_blanks _ _ b hb, lexF, if_neg (by decide), if_pos (by decide)]
  have hm := lex_shift b s hc q (b.length + 1) ht s.length (b.length + s.length + 1 + k.length) s (Nat.le_refl _) (by omega) (by simp) hC.1
  have hw : lexF (around b s k) (around b s k).length (around b s k) = ((lexF s s.length s).1.map (onP b.length), 0, 0) := by
    rw [← hm, hS, hA]
    have : 2 * b.length + s.length + 1 + k.length = (b.length + s.length + 1 + k.length) + b.length := by omega
    rw [this]
    have := lex_blanks (b ++ s ++ c :: q) (s ++ c :: q) b hb (b.length + s.length + 1 + k.length)
    rw [← List.append_assoc] at this
    exact this
  rw [hC.2]
  unfold lexC
  rw [if_neg (by omega), hw, if_pos rfl]
end Go.Proofs.YtcafcgiemdlobaaDoor.lt
