/- TokenBack: a line of tokens is read as them. -/
import Derived.Test.YtcafcgiemdlobaaDoorTb1
namespace Go.Proofs.YtcafcgiemdlobaaDoor.lt
open Go.Tv Go.Ev

/-- Tokens, written, a blank between each two. -/
def joinX : List Piece → List UInt8
  | [] => []
  | [y] => writS y
  | y :: z :: l => writS y ++ 32 :: joinX (z :: l)
theorem joinX_cons (y : Piece) (l : List Piece) : ∃ e, Behind e ∧ joinX (y :: l) = writS y ++ e ∧ (l = [] ∧ e = [] ∨ l ≠ [] ∧ e = 32 :: joinX l) := by
  cases l with
  | nil => exact ⟨[], .inl rfl, by simp [joinX], .inl ⟨rfl, rfl⟩⟩
  | cons z l => exact ⟨32 :: joinX (z :: l), .inr ⟨_, rfl⟩, rfl, .inr ⟨by simp, rfl⟩⟩
theorem joinG_ok : ∀ (l : List Piece) (b : List UInt8), (joinG l b).2 = 0 → b.length ≤ 1000 → (joinG l b).1 = (if l = [] then b else b ++ 32 :: joinX l) ∧ (joinG l b).1.length ≤ 1000
  | [], b, _, hb => by rw [if_pos rfl]; exact ⟨rfl, hb⟩
  | y :: l, b, h, hb => by
    rw [joinG] at h ⊢
    by_cases hl : 1000 < (b ++ [32] ++ writS y).length
    · rw [if_pos hl] at h; cases h
    · rw [if_neg hl] at h ⊢
      obtain ⟨h1, h2⟩ := joinG_ok l _ h (by omega)
      refine ⟨?_, h2⟩
      have e : (if y :: l = [] then b else b ++ 32 :: joinX (y :: l)) = b ++ 32 :: joinX (y :: l) := if_neg (by simp)
      rw [h1, e]
      cases l with
      | nil => simp [joinX]
      | cons z l => simp [joinX]
theorem joinS_ok {l : List Piece} (h : (joinS l).2 = 0) : l.all validB = true ∧ (joinS l).1 = joinX l ∧ (joinS l).1.length ≤ 1000 := by
  unfold joinS at h ⊢
  by_cases hv : l.all validB = true
  · rw [if_pos hv] at h ⊢
    refine ⟨hv, ?_⟩
    cases l with
    | nil => exact ⟨rfl, by simp⟩
    | cons y l =>
      show (if 1000 < (writS y).length then (([], 3) : List UInt8 × Int) else joinG l (writS y)).1 = _ ∧ _
      have h : (if 1000 < (writS y).length then (([], 3) : List UInt8 × Int) else joinG l (writS y)).2 = 0 := h
      by_cases hl : 1000 < (writS y).length
      · rw [if_pos hl] at h; cases h
      · rw [if_neg hl] at h
        obtain ⟨h1, h2⟩ := joinG_ok l _ h (by omega)
        have e : (if 1000 < (writS y).length then (([], 3) : List UInt8 × Int) else joinG l (writS y)) = joinG l (writS y) := if_neg hl
        refine ⟨?_, ?_⟩
        · rw [e, h1]
          cases l with
          | nil => rfl
          | cons z l => rfl
        · show (if 1000 < (writS y).length then (([], 3) : List UInt8 × Int) else joinG l (writS y)).1.length ≤ 1000
          rw [e]; exact h2
  · rw [if_neg hv] at h; cases h
theorem joinG_err : ∀ (l : List Piece) (b : List UInt8), (joinG l b).2 = 0 ∨ (joinG l b).2 = 3
  | [], b => .inl rfl
  | y :: l, b => by
    rw [joinG]
    split
    · exact .inr rfl
    · exact joinG_err l _
theorem joinS_err {l : List Piece} (hv : l.all validB = true) : (joinS l).2 = 0 ∨ (joinS l).2 = 3 := by
  unfold joinS
  rw [if_pos hv]
  cases l with
  | nil => exact .inl rfl
  | cons y l =>
    show (if 1000 < (writS y).length then (([], 3) : List UInt8 × Int) else joinG l (writS y)).2 = 0 ∨ (if 1000 < (writS y).length then (([], 3) : List UInt8 × Int) else joinG l (writS y)).2 = 3
    split
    · exact .inr rfl
    · exact joinG_err l _
/-- Tokens, but for where they stand. -/
def alike : List Piece → List Piece → Bool
  | [], [] => true
  | x :: a, y :: b => decide (x.1 = y.1) && decide (x.2.1 = y.2.1) && decide (x.2.2.1 = y.2.2.1) && alike a b
  | _, _ => false
theorem lex_join (T : List UInt8) : ∀ (l : List Piece) (p : List UInt8) (m : Nat), T = p ++ joinX l → (joinX l).length ≤ m → (∀ y ∈ l, validB y = true ∧ condW y = true) → (lexF T m (joinX l)).2 = (0, 0) ∧ alike (lexF T m (joinX l)).1 l = true
  | [], p, m, _, _, _ => by cases m <;> exact ⟨rfl, rfl⟩
  | y :: l, p, m, hT, hm, hl => by
    obtain ⟨hv, hc⟩ := hl y (by simp)
    obtain ⟨e, he, hj, hcase⟩ := joinX_cons y l
    obtain ⟨d, r, hd, hp, hb, hs⟩ := piece_of hv hc p he
    rw [hj] at hT hm ⊢
    have hT' : p ++ writS y ++ e = T := by rw [hT]; simp
    rw [hT'] at hp
    have hw : (writS y).length = r.length + 1 := by rw [hd]; rfl
    have hlen : T.length = p.length + ((writS y).length + e.length) := by rw [hT]; simp
    have hX : writS y ++ e = d :: (r ++ e) := by rw [hd]; rfl
    have hm' : (r ++ e).length + 1 ≤ m := by rw [hX] at hm; simpa using hm
    rw [hX]
    obtain ⟨m, rfl⟩ : ∃ m', m = m' + 1 := ⟨m - 1, by omega⟩
    have hpos : T.length - ((r ++ e).length + 1) = p.length := by rw [hlen, hw, List.length_append]; omega
    rw [lexF, if_neg hb, if_neg hs, hpos, hp, if_pos rfl]
    have hdrop : T.drop ((p.length : Int) + ((writS y).length : Int)).toNat = e := by
      have : ((p.length : Int) + ((writS y).length : Int)).toNat = p.length + (writS y).length := by omega
      rw [this, ← hT', ← List.length_append, List.drop_left]
    simp only
    rw [hdrop]
    rcases hcase with ⟨rfl, rfl⟩ | ⟨hne, rfl⟩
    · cases m <;> exact ⟨rfl, by simp [alike, lexF]⟩
    · rw [List.length_append, List.length_cons] at hm'
      obtain ⟨m, rfl⟩ : ∃ m', m = m' + 1 := ⟨m - 1, by omega⟩
      rw [lexF, if_pos (by decide)]
      obtain ⟨i1, i2⟩ := lex_join T l (p ++ writS y ++ [32]) m (by rw [← hT']; simp) (by omega) (fun x hx => hl x (by simp [hx]))
      exact ⟨i1, by rw [alike, i2]; simp⟩
/-- What is joined is read as the same tokens, but for where they stand. -/
theorem lex_of_join {l : List Piece} (hc : ∀ y ∈ l, condW y = true) (h : (joinS l).2 = 0) : (lexC (joinS l).1).2 = (0, 0) ∧ alike (lexC (joinS l).1).1 l = true := by
  obtain ⟨h1, h2, h3⟩ := joinS_ok h
  obtain ⟨i1, i2⟩ := lex_join (joinX l) l [] (joinX l).length rfl (Nat.le_refl _) (fun y hy => ⟨List.all_eq_true.1 h1 y hy, hc y hy⟩)
  rw [h2] at h3 ⊢
  unfold lexC
  rw [if_neg (by omega), if_pos (by rw [i1])]
  exact ⟨rfl, i2⟩
end Go.Proofs.YtcafcgiemdlobaaDoor.lt
