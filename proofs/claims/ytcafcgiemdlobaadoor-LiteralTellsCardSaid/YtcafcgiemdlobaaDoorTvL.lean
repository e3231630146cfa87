/- Package-level variables that read as given data, for the symbolic layer. -/
import Derived.Test.YtcafcgiemdlobaaDoorTvB
import Derived.Test.YtcafcgiemdlobaaDoorEvL
namespace Go.Tv
open Go.Ev (pick2 alive addrFree addrFreeL VRel)

/-- Given rows of plain cells are what the layer takes them for. -/
theorem glob_of {X : Cfg} {w : World} (h : ∀ g, g < X.G → X.gv g ≠ [] → ∃ (cv : List Value) (t : TypeId) (fr : Nat × Nat), w.heap[g]? = some (.cells cv.toArray t fr) ∧ X.gv g = cv.map ofC ∧ addrFreeL cv = true) : GlobOk X (woOf w) := fun g hg he => by
  obtain ⟨cv, t, fr, h1, h2, h3⟩ := h g hg he
  have hlt : g < w.heap.size := (Array.getElem?_eq_some_iff.1 h1).1
  obtain ⟨_, _, s3⟩ := snap_spec w
  have hself : ∀ v ∈ cv, VRel (idR w.heap.size) v v := fun v hv => by
    obtain ⟨i, hi⟩ := List.getElem?_of_mem hv
    exact Ev.refl_of_free v (Ev.freeL_get h3 hi)
  have hb : blkOf w g = ⟨cv, t, true, false⟩ := by
    unfold blkOf
    rw [h1]
    simp only [Ev.Blk.mk.injEq, and_true]
    refine List.ext_getElem? fun i => ?_
    rw [List.getElem?_map]
    cases hi : cv[i]? with
    | none => simp [hi]
    | some v =>
      have : (cv.toArray.toList)[i]? = some v := by simpa using hi
      simp only [this, Option.map_some]
      rw [if_pos (hself v (List.mem_of_getElem? hi))]
  refine ⟨cv, ?_, fun T _ => ?_⟩
  · show (alive (Go.Tv.snap w) g).map (·.cells) = some cv
    unfold Ev.alive
    rw [s3, if_pos hlt, hb]
    rfl
  · rw [h2]
    refine ⟨by simp, fun j x y hx hy => ?_⟩
    rw [List.getElem?_map, hy] at hx
    simp only [Option.map_some, Option.some.injEq] at hx
    subst hx
    exact ofC_VR (Ev.freeL_get h3 hy)

theorem glob_rows {X : Cfg} {w : World} {rows : List Ev.Blk} (hr : Ev.RowsAt rows w) (h : ∀ g, g < X.G → X.gv g ≠ [] → ∃ b, rows[g]? = some b ∧ b.live = true ∧ X.gv g = b.cells.map ofC ∧ addrFreeL b.cells = true) : GlobOk X (woOf w) :=
  glob_of fun g hg he => by
    obtain ⟨b, h1, h2, h3, h4⟩ := h g hg he
    obtain ⟨fr, h5, _⟩ := hr.2 g b h1 h2
    exact ⟨b.cells, b.elem, fr, h5, h3, h4⟩
end Go.Tv
