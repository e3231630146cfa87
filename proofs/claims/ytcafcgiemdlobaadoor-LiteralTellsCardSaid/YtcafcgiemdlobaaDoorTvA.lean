/- Slices that came in, as lists. -/
import Derived.Test.YtcafcgiemdlobaaDoorTvK
namespace Go.Tv
open Go.Ev (Tr pick2 Leave Mem Blk alive pick2_eq alive_some opA Fr VRel Ren)

theorem rowAt_le {p : Program} {fits : TypeId → Bool} : ∀ {d : Nat} {e : TypeId} {count off n : Nat}, rowAt p fits d e count off n = true → off ≤ count * p.cellsOf e
  | 0, _, _, _, _, h => by simp [rowAt] at h
  | d + 1, e, count, off, n, h => by
    rw [rowAt] at h
    by_cases hs : p.cellsOf e = 0
    · simp [hs] at h
    · have hdm := Nat.div_add_mod off (p.cellsOf e)
      have hr := Nat.mod_lt off (Nat.pos_of_ne_zero hs)
      simp only [if_neg hs, Bool.or_eq_true, Bool.and_eq_true, decide_eq_true_eq, beq_iff_eq] at h
      rw [Nat.mul_comm]
      rcases h with ⟨⟨h1, h2⟩, _⟩ | ⟨h1, _⟩
      · have : p.cellsOf e * (off / p.cellsOf e) ≤ p.cellsOf e * count := Nat.mul_le_mul_left _ (by omega)
        omega
      · have : p.cellsOf e * (off / p.cellsOf e + 1) ≤ p.cellsOf e * count := Nat.mul_le_mul_left _ h1
        rw [Nat.mul_add] at this
        omega

theorem liesAt_le {p : Program} : ∀ {d : Nat} {e : TypeId} {count off : Nat} {u : TypeId} {n : Nat}, liesAt p d e count off u n = true → off ≤ count * p.cellsOf e
  | 0, _, _, _, _, _, h => by simp [liesAt] at h
  | d + 1, e, count, off, u, n, h => by
    rw [liesAt, Bool.or_eq_true] at h
    rcases h with h | h
    · exact rowAt_le h
    · split at h
      · exact liesAt_le h
      · cases h

theorem has_at {P : Program} {w : World} {r : Reach} {base : Nat} {a : Addr} {e : TypeId} {n : Nat} (h : w.has P r base a e n) : a.spot = none ∧ ∃ C t fr, w.heap[a.block]? = some (.cells C t fr) ∧ a.off ≤ C.size := by
  obtain ⟨_, h1, row, cells, h2, h3⟩ := h
  refine ⟨h1, ?_⟩
  unfold World.shape? at h2
  split at h2
  · rename_i C t fr hC
    cases h2
    exact ⟨C, _, fr, hC, Nat.le_trans (liesAt_le h3) (Nat.div_mul_le_self _ _)⟩
  · cases h2

/-- What is known of a slice that came in. -/
theorem okWide_has {P : Program} {w : World} {r : Reach} {base : Nat} {t e : TypeId} {a : Addr} {len cap : Nat} (ht : P.underlying t = some (.slice e)) (h : Value.okWide P w r base t (.slice (some a) len cap)) : w.has P r base a e cap := by
  simp only [Value.okWide, ht, Cell.okWide, Cell.ok] at h
  exact h.2.2

theorem snap_alive {w : World} {i : Nat} {C : Array Value} {t : TypeId} {fr : Nat × Nat} (h : w.heap[i]? = some (.cells C t fr)) : ∃ cs, (woOf w).F i = some cs ∧ cs.length = C.size ∧ ∀ (j : Nat) v, C[j]? = some v → VRel (idR w.heap.size) v v → cs[j]? = some v := by
  have hlt : i < w.heap.size := (Array.getElem?_eq_some_iff.1 h).1
  have hg : (snap w).get i = some (blkOf w i) := by rw [(snap_spec w).2.2, if_pos hlt]
  have hb : blkOf w i = ⟨C.toList.map fun v => open Classical in if VRel (idR w.heap.size) v v then v else .chan none, t, true, false⟩ := by
    unfold blkOf; rw [h]
  have ha : alive (snap w) i = some (blkOf w i) := by unfold Ev.alive; rw [hg, hb]; rfl
  refine ⟨(blkOf w i).cells, ?_, by rw [hb]; simp, fun j v hv hs => ?_⟩
  · show (alive (snap w) i).map (·.cells) = _
    rw [ha]; rfl
  · rw [hb]
    simp [hv, hs]

theorem ints_CRL {F : Nat → Option (List Value)} {k : IntKind} : ∀ (l : List Int), CRL (CR F (.int k)) l (l.map fun n => Value.int k n)
  | [] => rfl
  | n :: l => ⟨[.int k n], l.map fun n => Value.int k n, rfl, rfl, ints_CRL l⟩

/-- A slice of integers that came in is a list. -/
theorem ints_arg {P : Program} {w : World} {r : Reach} {base : Nat} {t e : TypeId} {k : IntKind} {b : Option Addr} {len cap : Nat} {zs : List Int} (ht : P.underlying t = some (.slice e)) (h : Value.okWide P w r base t (.slice b len cap))
    (hz : (b = none ∧ len = 0 ∧ cap = 0 ∧ zs = []) ∨ ∃ x, b = some x ∧ len ≤ cap ∧ cap ≤ maxLen ∧ zs.length = cap ∧ (∀ i, i < zs.length → w.cell? (x.add i) = some (.int k (zs.getD i 0))) ∧ ∀ n ∈ zs, (Lit.int k n).wf = true) :
    VR (woOf w) (.lst (.int k) (zs.take len)) (.slice b len cap) := by
  refine .lst _ _ _ ?_
  rcases hz with ⟨rfl, rfl, rfl, rfl⟩ | ⟨x, rfl, hl, _, hn, hc, _⟩
  · exact .inl ⟨by simp, rfl⟩
  · right
    obtain ⟨hs, C, te, fr, hC, ho⟩ := has_at (okWide_has ht h)
    obtain ⟨cs, h1, h2, h3⟩ := snap_alive hC
    have hmid : (cs.drop x.off).take len = (zs.take len).map fun n => Value.int k n := by
      apply List.ext_getElem?
      intro j
      by_cases hj : j < len
      · have := hc j (by omega)
        unfold World.cell? at this
        have e1 : (x.add j).block = x.block := by unfold Addr.add; split <;> rfl
        have e2 : (x.add j).spot = none := by unfold Addr.add; split <;> first | exact hs | rfl
        have e3 : (x.add j).off = x.off + j := by
          unfold Addr.add
          split
          · rename_i hj0; rw [hj0]; rfl
          · rfl
        rw [e1, hC] at this
        simp only [e2, e3, Option.isSome_none, Bool.false_eq_true, if_false] at this
        have := h3 _ _ this (.int _ _)
        rw [List.getElem?_take_of_lt hj, List.getElem?_drop, this]
        have hjz : j < zs.length := by omega
        simp [hj, hjz]
      · rw [List.getElem?_eq_none (by simp; omega), List.getElem?_eq_none (by simp; omega)]
    have htl : (zs.take len).length = len := by simp; omega
    refine ⟨x.block, cs.take x.off, (zs.take len).map fun n => Value.int k n, (cs.drop x.off).drop len, cap, ?_, ?_, ints_CRL _, by rw [htl]; exact hl⟩
    · rw [htl]
      have : (cs.take x.off).length = x.off := by simp; omega
      rw [this]
      obtain ⟨xb, xo, xs⟩ := x
      cases hs
      rfl
    · rw [← hmid, List.take_append_drop, List.take_append_drop]
      exact h1

end Go.Tv
