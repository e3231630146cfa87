/- Tokens: every piece ends behind its place. -/
import Derived.Test.YtcafcgiemdlobaaDoorTk6
namespace Go.Proofs.YtcafcgiemdlobaaDoor.lt
open Go.Tv Go.Ev

theorem nameL_end (s : List UInt8) (a : Nat) : ∀ (rest : List UInt8) (e : Nat), (nameL s a rest e).2.2.1 = 0 → (e : Int) ≤ (nameL s a rest e).2.1 ∧ (nameL s a rest e).2.1 ≤ (e : Int) + rest.length := by
  intro rest
  induction rest with
  | nil => intro e _; simp only [nameL]; exact ⟨Int.le_refl _, by simp⟩
  | cons c r ih =>
    intro e h
    rw [nameL] at h ⊢
    split at h
    · rename_i hm
      rw [if_pos hm]
      split at h
      · exact absurd h (by simp)
      · rename_i h60
        rw [if_neg h60]
        have := ih (e + 1) h
        simp only [List.length_cons]; omega
    · rename_i hm
      rw [if_neg hm]
      simp only [List.length_cons]; omega
theorem quoteL_end (s : List UInt8) (a : Nat) : ∀ (rest : List UInt8) (e : Nat), (quoteL s a rest e).2.2.1 = 0 → (e : Int) < (quoteL s a rest e).2.1 ∧ (quoteL s a rest e).2.1 ≤ (e : Int) + rest.length := by
  intro rest
  induction rest with
  | nil => intro e h; exact absurd h (by simp [quoteL])
  | cons c r ih =>
    intro e h
    rw [quoteL] at h ⊢
    split at h
    · rename_i hm
      rw [if_pos hm]
      simp only [List.length_cons]; omega
    · rename_i hm
      rw [if_neg hm]
      split at h
      · rename_i hp
        rw [if_pos hp]
        have := ih (e + 1) h
        simp only [List.length_cons]; omega
      · exact absurd h (by simp)
theorem textL_end (len : Nat) : ∀ (rest : List UInt8) (k N i : Nat), (textL len rest k N i).2.2.1 = 0 → (i : Int) < (textL len rest k N i).2.1 ∧ (textL len rest k N i).2.1 ≤ (i : Int) + rest.length := by
  intro rest
  induction rest with
  | nil => intro k N i h; exact absurd h (by simp [textL])
  | cons c r ih =>
    intro k N i h
    rw [textL] at h ⊢
    split at h
    · rename_i hm
      rw [if_pos hm]
      split at h
      · exact absurd h (by simp)
      · rename_i hk
        rw [if_neg hk]
        simp only [List.length_cons]; omega
    · rename_i hm
      rw [if_neg hm]
      split at h
      · exact absurd h (by simp)
      · rename_i hk
        rw [if_neg hk]
        split at h
        · exact absurd h (by simp)
        · rename_i hk8
          rw [if_neg hk8]
          have := ih _ _ (i + 1) h
          simp only [List.length_cons]; omega
theorem signL_end (s : List UInt8) (a : Nat) : ∀ l : List (List UInt8), (∀ g ∈ l, 0 < g.length) → (signL s a l).2.2.1 = 0 → (a : Int) < (signL s a l).2.1 ∧ (signL s a l).2.1 ≤ (s.length : Int) := by
  intro l
  induction l with
  | nil => intro _ h; exact absurd h (by simp [signL])
  | cons g r ih =>
    intro hl h
    have hg := hl g (List.mem_cons_self ..)
    rw [signL] at h ⊢
    split at h
    · rename_i hp
      rw [if_pos hp]
      unfold preB at hp
      have := congrArg List.length (of_decide_eq_true hp)
      simp only [List.length_take, List.length_drop] at this
      show (a : Int) < (a : Int) + g.length ∧ (a : Int) + g.length ≤ s.length
      omega
    · rename_i hp
      rw [if_neg hp]
      exact ih (fun g h => hl g (List.mem_cons_of_mem _ h)) h
theorem wordS_end (w : List UInt8) (a : Nat) (h : (wordS w a).2.2.1 = 0) : (wordS w a).2.1 = (a : Int) + w.length := by
  unfold wordS at h ⊢
  split at h
  · exact absurd h (by simp)
  · rename_i h1
    rw [if_neg h1]
    split at h
    · exact absurd h (by simp)
    · rename_i h2
      rw [if_neg h2]

/-- The piece at a place that begins with a byte; where it ends; its fault. -/
def pieceS (s : List UInt8) (c : UInt8) (a : Nat) : Piece × Int × Int × Int :=
  if firstI (u8I c) then ((1, 0, (nameC s a).1, a), (nameC s a).2)
  else if 48 ≤ u8I c ∧ u8I c ≤ 57 ∨ u8I c = 39 then ((2, (scanS s a).1, [], a), (scanS s a).2)
  else if u8I c = 34 then ((3, 0, (quoteC s a).1, a), (quoteC s a).2)
  else ((4, 0, (signC s a).1, a), (signC s a).2)
theorem piece_end {s : List UInt8} {a : Nat} {c : UInt8} {r : List UInt8} (hd : s.drop a = c :: r) (h : (pieceS s c a).2.2.1 = 0) : (a : Int) < (pieceS s c a).2.1 ∧ (pieceS s c a).2.1 ≤ s.length := by
  have hl : s.length - a = r.length + 1 := by have := congrArg List.length hd; simpa using this
  have hd1 : s.drop (a + 1) = r := by rw [← List.drop_drop, hd]; rfl
  have hgd : s.getD a 0 = c := by
    have h0 : (s.drop a).getD 0 0 = c := by rw [hd]; rfl
    rw [← h0]; simp [List.getD]
  unfold pieceS at h ⊢
  split at h
  · rename_i hf
    rw [if_pos hf]
    unfold nameC at h ⊢
    rw [hd, nameL] at h ⊢
    have hm : moreI (u8I c) = true := by unfold moreI; rw [hf]; rfl
    rw [if_pos hm, if_neg (by omega)] at h ⊢
    have := nameL_end s a r (a + 1) h
    show (a : Int) < (nameL s a r (a + 1)).2.1 ∧ (nameL s a r (a + 1)).2.1 ≤ _
    omega
  · rename_i hf
    rw [if_neg hf]
    split at h
    · rename_i hn
      rw [if_pos hn]
      unfold scanS at h ⊢
      rw [if_neg (by omega), if_neg (by omega), Int.toNat_natCast, hgd] at h ⊢
      split at h
      · rename_i hq
        rw [if_pos hq]
        unfold textS at h ⊢
        rw [hd1] at h ⊢
        have := textL_end s.length r 0 0 (a + 1) h
        show (a : Int) < (textL s.length r 0 0 (a + 1)).2.1 ∧ (textL s.length r 0 0 (a + 1)).2.1 ≤ _
        omega
      · rename_i hq
        rw [if_neg hq]
        have hn' : 48 ≤ u8I c ∧ u8I c ≤ 57 := by omega
        rw [if_pos hn'] at h ⊢
        have := wordS_end _ a h
        rw [this]
        have hw : wordI (u8I c) = true := by unfold wordI; simp; omega
        have e : ((s.drop a).takeWhile fun c => wordI (u8I c)) = c :: (r.takeWhile fun c => wordI (u8I c)) := by rw [hd, List.takeWhile_cons, if_pos hw]
        have h3 := (List.takeWhile_sublist (fun c => wordI (u8I c)) (l := r)).length_le
        rw [e, List.length_cons]
        omega
    · rename_i hn
      rw [if_neg hn]
      split at h
      · rename_i hq
        rw [if_pos hq]
        unfold quoteC at h ⊢
        rw [hd1] at h ⊢
        have := quoteL_end s a r (a + 1) h
        show (a : Int) < (quoteL s a r (a + 1)).2.1 ∧ (quoteL s a r (a + 1)).2.1 ≤ _
        omega
      · rename_i hq
        rw [if_neg hq]
        exact signL_end s a signsL (by decide) h
end Go.Proofs.YtcafcgiemdlobaaDoor.lt
