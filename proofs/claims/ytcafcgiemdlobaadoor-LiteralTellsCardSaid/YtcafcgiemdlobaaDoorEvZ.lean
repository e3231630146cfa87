/- Structs that came in by value: their cells. -/
import Derived.Test.YtcafcgiemdlobaaDoorEvY
import Derived.WideShapes
import Derived.ProofKit
namespace Go.Ev
open Go.WideShapes

/-- A struct by value is a row of cells, each of its type. -/
theorem agg_shape {P : Program} {w : World} {r : Go.Reach} {base : Nat} {t : TypeId} {v : Value} {fs : Array Field} {ts : List TypeId} (hu : P.underlying t = some (.struct fs)) (hc : P.cellTypes P.depth t = some ts) (hn : P.cellsOf t = ts.length)
    (h : Value.okWide P w r base t v) : ∃ cs : List Value, v = .agg cs.toArray ∧ cs.length = ts.length ∧ ∀ (i : Nat) u x, ts[i]? = some u → cs[i]? = some x → Cell.okWide P w r base u x := by
  unfold Value.okWide at h
  rw [hu] at h
  obtain ⟨cs, rfl, hs, ts', hts, _, hall⟩ := h
  rw [hc] at hts
  cases hts
  refine ⟨cs.toList, by simp, by rw [hn] at hs; simpa using hs, fun i u x hu' hx => ?_⟩
  obtain ⟨u', h1, h2⟩ := hall i x (by simpa using hx)
  have hlt : i < ts.length := (List.getElem?_eq_some_iff.1 hu').1
  rw [Nat.mod_eq_of_lt hlt, hu'] at h1
  cases h1
  exact h2

theorem cell_bool {P : Program} {w : World} {r : Go.Reach} {base : Nat} {t : TypeId} {v : Value} (hu : P.underlying t = some .bool) (h : Cell.okWide P w r base t v) : ∃ b, v = .bool b :=
  okWide_bool hu (by unfold Value.okWide; rw [hu]; exact h)

theorem cell_int {P : Program} {w : World} {r : Go.Reach} {base : Nat} {t : TypeId} {v : Value} {k : IntKind} (hu : P.underlying t = some (.int k)) (h : Cell.okWide P w r base t v) : ∃ n, v = .int k n ∧ k.has n := by
  obtain ⟨n, rfl⟩ := okWide_int (v := v) hu (by unfold Value.okWide; rw [hu]; exact h)
  unfold Cell.okWide at h
  rw [hu] at h
  unfold Cell.ok at h
  rw [hu] at h
  exact ⟨n, rfl, h.2⟩

theorem ex_cons {l : List Value} {n : Nat} (h : l.length = n + 1) : ∃ a t, l = a :: t := by
  cases l with
  | nil => simp at h
  | cons a t => exact ⟨a, t, rfl⟩

theorem len2 {l : List Value} (h : l.length = 2) : ∃ c0 c1, l = [c0, c1] := by
  obtain ⟨c0, l0, rfl⟩ := ex_cons h
  have h0 : l0.length = 1 := by simpa using h
  obtain ⟨c1, l1, rfl⟩ := ex_cons h0
  have h1 : l1.length = 0 := by simpa using h0
  have e : l1 = [] := List.length_eq_zero_iff.1 h1
  subst e
  exact ⟨c0, c1, rfl⟩

theorem len3 {l : List Value} (h : l.length = 3) : ∃ c0 c1 c2, l = [c0, c1, c2] := by
  obtain ⟨c0, l0, rfl⟩ := ex_cons h
  have h0 : l0.length = 2 := by simpa using h
  obtain ⟨c1, l1, rfl⟩ := ex_cons h0
  have h1 : l1.length = 1 := by simpa using h0
  obtain ⟨c2, l2, rfl⟩ := ex_cons h1
  have h2 : l2.length = 0 := by simpa using h1
  have e : l2 = [] := List.length_eq_zero_iff.1 h2
  subst e
  exact ⟨c0, c1, c2, rfl⟩

theorem len4 {l : List Value} (h : l.length = 4) : ∃ c0 c1 c2 c3, l = [c0, c1, c2, c3] := by
  obtain ⟨c0, l0, rfl⟩ := ex_cons h
  have h0 : l0.length = 3 := by simpa using h
  obtain ⟨c1, l1, rfl⟩ := ex_cons h0
  have h1 : l1.length = 2 := by simpa using h0
  obtain ⟨c2, l2, rfl⟩ := ex_cons h1
  have h2 : l2.length = 1 := by simpa using h1
  obtain ⟨c3, l3, rfl⟩ := ex_cons h2
  have h3 : l3.length = 0 := by simpa using h2
  have e : l3 = [] := List.length_eq_zero_iff.1 h3
  subst e
  exact ⟨c0, c1, c2, c3, rfl⟩

theorem len5 {l : List Value} (h : l.length = 5) : ∃ c0 c1 c2 c3 c4, l = [c0, c1, c2, c3, c4] := by
  obtain ⟨c0, l0, rfl⟩ := ex_cons h
  have h0 : l0.length = 4 := by simpa using h
  obtain ⟨c1, l1, rfl⟩ := ex_cons h0
  have h1 : l1.length = 3 := by simpa using h0
  obtain ⟨c2, l2, rfl⟩ := ex_cons h1
  have h2 : l2.length = 2 := by simpa using h1
  obtain ⟨c3, l3, rfl⟩ := ex_cons h2
  have h3 : l3.length = 1 := by simpa using h2
  obtain ⟨c4, l4, rfl⟩ := ex_cons h3
  have h4 : l4.length = 0 := by simpa using h3
  have e : l4 = [] := List.length_eq_zero_iff.1 h4
  subst e
  exact ⟨c0, c1, c2, c3, c4, rfl⟩

theorem len6 {l : List Value} (h : l.length = 6) : ∃ c0 c1 c2 c3 c4 c5, l = [c0, c1, c2, c3, c4, c5] := by
  obtain ⟨c0, l0, rfl⟩ := ex_cons h
  have h0 : l0.length = 5 := by simpa using h
  obtain ⟨c1, l1, rfl⟩ := ex_cons h0
  have h1 : l1.length = 4 := by simpa using h0
  obtain ⟨c2, l2, rfl⟩ := ex_cons h1
  have h2 : l2.length = 3 := by simpa using h1
  obtain ⟨c3, l3, rfl⟩ := ex_cons h2
  have h3 : l3.length = 2 := by simpa using h2
  obtain ⟨c4, l4, rfl⟩ := ex_cons h3
  have h4 : l4.length = 1 := by simpa using h3
  obtain ⟨c5, l5, rfl⟩ := ex_cons h4
  have h5 : l5.length = 0 := by simpa using h4
  have e : l5 = [] := List.length_eq_zero_iff.1 h5
  subst e
  exact ⟨c0, c1, c2, c3, c4, c5, rfl⟩

theorem len7 {l : List Value} (h : l.length = 7) : ∃ c0 c1 c2 c3 c4 c5 c6, l = [c0, c1, c2, c3, c4, c5, c6] := by
  obtain ⟨c0, l0, rfl⟩ := ex_cons h
  have h0 : l0.length = 6 := by simpa using h
  obtain ⟨c1, l1, rfl⟩ := ex_cons h0
  have h1 : l1.length = 5 := by simpa using h0
  obtain ⟨c2, l2, rfl⟩ := ex_cons h1
  have h2 : l2.length = 4 := by simpa using h1
  obtain ⟨c3, l3, rfl⟩ := ex_cons h2
  have h3 : l3.length = 3 := by simpa using h2
  obtain ⟨c4, l4, rfl⟩ := ex_cons h3
  have h4 : l4.length = 2 := by simpa using h3
  obtain ⟨c5, l5, rfl⟩ := ex_cons h4
  have h5 : l5.length = 1 := by simpa using h4
  obtain ⟨c6, l6, rfl⟩ := ex_cons h5
  have h6 : l6.length = 0 := by simpa using h5
  have e : l6 = [] := List.length_eq_zero_iff.1 h6
  subst e
  exact ⟨c0, c1, c2, c3, c4, c5, c6, rfl⟩

theorem len8 {l : List Value} (h : l.length = 8) : ∃ c0 c1 c2 c3 c4 c5 c6 c7, l = [c0, c1, c2, c3, c4, c5, c6, c7] := by
  obtain ⟨c0, l0, rfl⟩ := ex_cons h
  have h0 : l0.length = 7 := by simpa using h
  obtain ⟨c1, l1, rfl⟩ := ex_cons h0
  have h1 : l1.length = 6 := by simpa using h0
  obtain ⟨c2, l2, rfl⟩ := ex_cons h1
  have h2 : l2.length = 5 := by simpa using h1
  obtain ⟨c3, l3, rfl⟩ := ex_cons h2
  have h3 : l3.length = 4 := by simpa using h2
  obtain ⟨c4, l4, rfl⟩ := ex_cons h3
  have h4 : l4.length = 3 := by simpa using h3
  obtain ⟨c5, l5, rfl⟩ := ex_cons h4
  have h5 : l5.length = 2 := by simpa using h4
  obtain ⟨c6, l6, rfl⟩ := ex_cons h5
  have h6 : l6.length = 1 := by simpa using h5
  obtain ⟨c7, l7, rfl⟩ := ex_cons h6
  have h7 : l7.length = 0 := by simpa using h6
  have e : l7 = [] := List.length_eq_zero_iff.1 h7
  subst e
  exact ⟨c0, c1, c2, c3, c4, c5, c6, c7, rfl⟩

theorem len9 {l : List Value} (h : l.length = 9) : ∃ c0 c1 c2 c3 c4 c5 c6 c7 c8, l = [c0, c1, c2, c3, c4, c5, c6, c7, c8] := by
  obtain ⟨c0, l0, rfl⟩ := ex_cons h
  have h0 : l0.length = 8 := by simpa using h
  obtain ⟨c1, l1, rfl⟩ := ex_cons h0
  have h1 : l1.length = 7 := by simpa using h0
  obtain ⟨c2, l2, rfl⟩ := ex_cons h1
  have h2 : l2.length = 6 := by simpa using h1
  obtain ⟨c3, l3, rfl⟩ := ex_cons h2
  have h3 : l3.length = 5 := by simpa using h2
  obtain ⟨c4, l4, rfl⟩ := ex_cons h3
  have h4 : l4.length = 4 := by simpa using h3
  obtain ⟨c5, l5, rfl⟩ := ex_cons h4
  have h5 : l5.length = 3 := by simpa using h4
  obtain ⟨c6, l6, rfl⟩ := ex_cons h5
  have h6 : l6.length = 2 := by simpa using h5
  obtain ⟨c7, l7, rfl⟩ := ex_cons h6
  have h7 : l7.length = 1 := by simpa using h6
  obtain ⟨c8, l8, rfl⟩ := ex_cons h7
  have h8 : l8.length = 0 := by simpa using h7
  have e : l8 = [] := List.length_eq_zero_iff.1 h8
  subst e
  exact ⟨c0, c1, c2, c3, c4, c5, c6, c7, c8, rfl⟩

theorem len10 {l : List Value} (h : l.length = 10) : ∃ c0 c1 c2 c3 c4 c5 c6 c7 c8 c9, l = [c0, c1, c2, c3, c4, c5, c6, c7, c8, c9] := by
  obtain ⟨c0, l0, rfl⟩ := ex_cons h
  have h0 : l0.length = 9 := by simpa using h
  obtain ⟨c1, l1, rfl⟩ := ex_cons h0
  have h1 : l1.length = 8 := by simpa using h0
  obtain ⟨c2, l2, rfl⟩ := ex_cons h1
  have h2 : l2.length = 7 := by simpa using h1
  obtain ⟨c3, l3, rfl⟩ := ex_cons h2
  have h3 : l3.length = 6 := by simpa using h2
  obtain ⟨c4, l4, rfl⟩ := ex_cons h3
  have h4 : l4.length = 5 := by simpa using h3
  obtain ⟨c5, l5, rfl⟩ := ex_cons h4
  have h5 : l5.length = 4 := by simpa using h4
  obtain ⟨c6, l6, rfl⟩ := ex_cons h5
  have h6 : l6.length = 3 := by simpa using h5
  obtain ⟨c7, l7, rfl⟩ := ex_cons h6
  have h7 : l7.length = 2 := by simpa using h6
  obtain ⟨c8, l8, rfl⟩ := ex_cons h7
  have h8 : l8.length = 1 := by simpa using h7
  obtain ⟨c9, l9, rfl⟩ := ex_cons h8
  have h9 : l9.length = 0 := by simpa using h8
  have e : l9 = [] := List.length_eq_zero_iff.1 h9
  subst e
  exact ⟨c0, c1, c2, c3, c4, c5, c6, c7, c8, c9, rfl⟩

end Go.Ev
