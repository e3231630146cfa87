/- TokenParts: the loops' law. -/
import Derived.Test.YtcafcgiemdlobaaDoorTq3
namespace Go.Proofs.YtcafcgiemdlobaaDoor.lt
open Go.Tv Go.Ev

theorem getI_some {s : List UInt8} {k : Nat} (h : k < s.length) : ∃ c, getI s (k : Int) = some c := by
  rw [getI_nat, List.getElem?_eq_getElem h]; exact ⟨_, rfl⟩
theorem seeP_eq {s : List UInt8} {i : Int} {k : Nat} {next : Option AV} (h : i = 0 → ∃ c, getI s (k : Int) = some c ∧ (u8I c = 32 ∨ u8I c = 9)) : seeP s i k next = next := by
  unfold seeP
  by_cases hi : i = 0
  · obtain ⟨c, h1, h2⟩ := h hi
    rw [eqT hi, h1]
    show pick2 (!eqI (u8I c) 32) (pick2 (!eqI (u8I c) 9) (some (AV.bool false)) next) next = next
    by_cases h32 : u8I c = 32
    · rw [eqT h32]; rfl
    · rw [eqF h32, eqT (show u8I c = 9 by omega)]; rfl
  · rw [eqF hi]
theorem endP_eq {s c : List UInt8} {a : Nat} {next : Option AV} (hs : s.length ≤ 1000) (h : a + c.length ≤ s.length) (h1 : c ≠ []) (h2 : cutL s (a : Int) ((a : Int) + c.length) = c) : endP s c a next = next := by
  unfold endP
  rw [i64_in (by omega) (by omega), ltF (by omega), ltF (by omega), ltF (by omega), decide_eq_true h2, decide_eq_false h1]
  rfl
theorem loopPi (s : List UInt8) (hs : s.length ≤ 1000) (l : List Piece) (r n : Nat) (e i : Int) (y : Piece) (a : Nat) (ha : y.2.2.2 = a) (h1 : a < s.length) (h2 : a + y.2.2.1.length ≤ s.length)
    (h3 : y.1 = 1 ∨ y.1 = 4 → y.2.2.1 ≠ [] ∧ cutL s (a : Int) ((a : Int) + y.2.2.1.length) = y.2.2.1) : ∀ (d m k : Nat), k + d = a → d < m → (i = 0 → ∀ j : Nat, k ≤ j → j < a → ∃ c, getI s (j : Int) = some c ∧ (u8I c = 32 ∨ u8I c = 9)) →
    jPi s l r n m e i y k = jPa s l r n ((a + max y.2.2.1.length 1 : Nat) : Int) (IntKind.wrap .i64 (i + 1)) := by
  intro d
  induction d with
  | zero =>
    intro m k hk hm hb
    obtain ⟨m, rfl⟩ : ∃ m', m = m' + 1 := ⟨m - 1, by omega⟩
    rw [stepPi]
    unfold treePi
    rw [ha, ltF (by omega)]
    have hmax : IntKind.wrap .i64 ((a : Int) + pick2 (ltI (y.2.2.1.length : Int) 1) 1 (y.2.2.1.length : Int)) = ((a + max y.2.2.1.length 1 : Nat) : Int) := by
      rw [pick_lt]
      split
      · rw [i64_in (by omega) (by omega)]; omega
      · rw [i64_in (by omega) (by omega)]; omega
    rw [hmax]
    show pick2 (eqI y.1 1) _ (pick2 (eqI y.1 4) _ _) = _
    by_cases hy1 : y.1 = 1
    · obtain ⟨q1, q2⟩ := h3 (.inl hy1)
      rw [eqT hy1]
      exact endP_eq hs h2 q1 q2
    · rw [eqF hy1]
      show pick2 (eqI y.1 4) _ _ = _
      by_cases hy4 : y.1 = 4
      · obtain ⟨q1, q2⟩ := h3 (.inr hy4)
        rw [eqT hy4]
        exact endP_eq hs h2 q1 q2
      · rw [eqF hy4]
  | succ d ih =>
    intro m k hk hm hb
    obtain ⟨m, rfl⟩ : ∃ m', m = m' + 1 := ⟨m - 1, by omega⟩
    have hnext := ih m (k + 1) (by omega) (by omega) fun hi j hj => hb hi j (by omega)
    rw [stepPi]
    unfold treePi
    rw [ha, ltT (by omega), seeP_eq fun hi => hb hi k (by omega) (by omega)]
    rw [show IntKind.wrap .i64 ((k : Int) + 1) = ((k + 1 : Nat) : Int) by rw [i64_in (by omega) (by omega)]; omega]
    show pick2 (eqI y.1 1) _ (pick2 (eqI y.1 4) _ _) = _
    rw [hnext, pick2_eq, pick2_eq]
    split
    · rfl
    · split <;> rfl
theorem loopPa (s : List UInt8) (hs : s.length ≤ 1000) (l : List Piece) (hl : l.length ≤ 1000) (r : Nat) (hr : 1000 < r) : ∀ (rest pre : List Piece) (m e : Nat), l = pre ++ rest → rest.length < m → inOrder s e rest →
    (pre = [] → ∀ (y : Piece) (t : List Piece), rest = y :: t → ∀ j : Nat, e ≤ j → (j : Int) < y.2.2.2 → ∃ c, getI s (j : Int) = some c ∧ (u8I c = 32 ∨ u8I c = 9)) →
    jPa s l r m e pre.length = some (.bool true) := by
  intro rest
  induction rest with
  | nil =>
    intro pre m e he hm _ _
    obtain ⟨m, rfl⟩ : ∃ m', m = m' + 1 := ⟨m - 1, by simp at hm; omega⟩
    rw [stepPa, ltF (by rw [he]; simp)]
  | cons y t ih =>
    intro pre m e he hm ho hb
    obtain ⟨m, rfl⟩ : ∃ m', m = m' + 1 := ⟨m - 1, by simp at hm; omega⟩
    obtain ⟨a, ha, h0, h1, h2, h3, h4⟩ := ho
    have hll : l.length = pre.length + (t.length + 1) := by rw [he]; simp
    rw [stepPa, ltT (by omega), show getI l (pre.length : Int) = some y by rw [he]; exact getI_at pre t y]
    show pick2 (ltI y.2.2.2 (e : Int)) _ (pick2 (!ltI y.2.2.2 ↑s.length) _ (jPi s l r m r e pre.length y e)) = _
    rw [ha, ltF (by omega), ltT (by omega)]
    show jPi s l r m r e pre.length y e = _
    rw [loopPi s hs l r m e pre.length y a ha h1 h2 h3 (a - e) r e (by omega) (by omega) fun hi j hj hja => hb (List.length_eq_zero_iff.1 (by omega)) y t rfl j hj (by rw [ha]; omega)]
    rw [show IntKind.wrap .i64 ((pre.length : Int) + 1) = ((pre ++ [y]).length : Int) by rw [i64_in (by omega) (by omega)]; simp]
    exact ih (pre ++ [y]) m _ (by rw [he]; simp) (by simp at hm; omega) h4 fun h => absurd h (by simp)
end Go.Proofs.YtcafcgiemdlobaaDoor.lt
