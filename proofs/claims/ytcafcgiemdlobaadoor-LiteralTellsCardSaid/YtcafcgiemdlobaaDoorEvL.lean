/- Package-level variables that read as given data: the rows that the evaluator starts with. -/
import Derived.Test.YtcafcgiemdlobaaDoorEvY
import Derived.OpenShut
import Derived.ChangeArms
import Derived.FnData
import GoSem.ClaimJoined
namespace Go.Ev

/-- The value of a plain datum. -/
def dataV {H : Type} : DataW H → Value
  | .lit (.int k n) => .int k n
  | .lit (.string s) => .string ⟨s.toArray⟩
  | .lit (.bool b) => .bool b
  | _ => undef

section
variable {P : Program} {w : World}

theorem flat_cells {H : Type} {enc : TypeId × Value → H} {sp : Nat → Bool} {held : Bool} {base fuel n : Nat} {t e : TypeId} {cs : List Value} {ds : List (DataW H)} {p : List MemPlace} (ht : P.underlying t = some (.array n e)) (he : (∃ k, P.underlying e = some (.int k)) ∨ P.underlying e = some .string)
    (hc : P.cellsOf e = 1) (hct : P.cellsOf t = n) (h : DataW.trod enc P w base sp held fuel t cs = some (.agg ds, p)) : cs = ds.map dataV := by
  obtain ⟨xs, m, _, ex, hlen, hxl, hel⟩ := DataW.trod_array ht h
  have hds : ds = xs.map (·.1) := DataW.agg.inj (Prod.mk.inj ex).1
  subst hds
  apply List.ext_getElem?
  intro i
  by_cases hi : i < n
  · have h1 := hel i hi
    rw [hc, Nat.mul_one, List.getElem?_eq_getElem (by omega : i < xs.length)] at h1
    have h2 : ∃ v, (cs.drop i).take 1 = [v] ∧ v = dataV (xs[i]'(by omega)).1 := by
      rcases he with ⟨k, he⟩ | he
      · obtain ⟨z, e1, e2, _⟩ := DataW.trod_int he h1
        exact ⟨_, e1, by rw [e2]; rfl⟩
      · obtain ⟨s, e1, e2, _⟩ := DataW.trod_string he h1
        exact ⟨_, e1, by rw [e2]; simp [dataV]⟩
    obtain ⟨v, e1, e2⟩ := h2
    have e3 : cs[i]? = some v := by
      have h0 : ((cs.drop i).take 1)[0]? = some v := by rw [e1]; rfl
      simpa using h0
    rw [e3, e2, List.getElem?_map, List.getElem?_map, List.getElem?_eq_getElem (by omega : i < xs.length)]
    rfl
  · rw [List.getElem?_eq_none (by omega), List.getElem?_eq_none (by simp; omega)]

theorem laid_mem : ∀ {laid : List (String × DataW Unit)} {ps : List MemPlace}, DataW.LaidVars P w laid ps → ∀ {nm : String} {d : DataW Unit}, (nm, d) ∈ laid →
    ∃ g t cs fuel p, P.globalNamed nm = some g ∧ (P.globals[g]?).map (·.type) = some t ∧ w.var? P nm = some cs ∧ DataW.trod (fun _ => ()) P w 0 (fun _ => true) false fuel t cs.toList = some (d, p) ∧ ∀ x ∈ MemPlace.row ⟨g, 0, none⟩ cs.size, x ∈ ps
  | [], _, _, _, _, hm => by cases hm
  | (n, d) :: r, ps, h, nm, d', hm => by
    obtain ⟨g, t, cs, fuel, p, q, h1, h2, h3, h4, h5, rfl⟩ := h
    rcases List.mem_cons.1 hm with heq | hm
    · cases heq
      exact ⟨g, t, cs, fuel, p, h1, h2, h3, h4, fun x hx => by simp [hx]⟩
    · obtain ⟨g', t', cs', fuel', p', k1, k2, k3, k4, k5⟩ := laid_mem h5 hm
      exact ⟨g', t', cs', fuel', p', k1, k2, k3, k4, fun x hx => by simp [k5 x hx]⟩

/-- The cells of a flat datum. -/
def aggV {H : Type} : DataW H → Option (List Value)
  | .agg ds => some (ds.map dataV)
  | _ => none

theorem laid_at {laid : List (String × DataW Unit)} (h : laidMet P laid w) {nm : String} {d : DataW Unit} {k : Nat} (hm : laid[k]? = some (nm, d)) {cv : List Value} (hd : aggV d = some cv) {g n : Nat} {t e : TypeId} (hg : P.globalNamed nm = some g) (ht : (P.globals[g]?).map (·.type) = some t)
    (hu : P.underlying t = some (.array n e)) (he : (∃ k, P.underlying e = some (.int k)) ∨ P.underlying e = some .string) (hc : P.cellsOf e = 1) (hct : P.cellsOf t = n) (hn : cv.isEmpty = false) :
    ∃ t', w.heap[g]? = some (.cells cv.toArray t' (0, 0)) := by
  obtain ⟨ps, h1, _, h2⟩ := h
  obtain ⟨g', t', cs, fuel, p, k1, k2, k3, k4, k5⟩ := laid_mem h1 (List.mem_of_getElem? hm)
  rw [hg] at k1; cases k1
  rw [ht] at k2; cases k2
  cases d with
  | agg ds =>
    simp only [aggV, Option.some.injEq] at hd
    have e1 : cs.toList = cv := by rw [← hd]; exact flat_cells hu he hc hct k4
    have hpos : 0 < cs.size := by
      have h4 : cs.size = cv.length := by rw [← e1]; simp
      have h3 : cv.length ≠ 0 := by intro h0; rw [List.length_eq_zero_iff.1 h0] at hn; cases hn
      omega
    have hrow : MemPlace.cell g 0 ∈ MemPlace.row ⟨g, 0, none⟩ cs.size := by
      unfold MemPlace.row
      simp only [List.mem_map, List.mem_range]
      exact ⟨0, hpos, by simp⟩
    obtain ⟨⟨c, u, hh⟩, _⟩ := h2 g 0 (k5 _ hrow)
    simp only [World.var?, hg, Option.bind_some, hh, Option.some.injEq] at k3
    subst k3
    exact ⟨u, by rw [hh, ← e1]⟩
  | _ => cases hd

/-- A row that is no row of the list's own is dead. -/
def deadRow : Blk := ⟨[], 0, false, false⟩

theorem row_at {cv : List Value} {t' : TypeId} {g : Nat} (h : w.heap[g]? = some (.cells cv.toArray t' (0, 0))) : ∃ fr, w.heap[g]? = some (.cells (Blk.mk cv t' true false).cells.toArray (Blk.mk cv t' true false).elem fr) ∧ unfrozen (Blk.mk cv t' true false).cells.toArray fr :=
  ⟨(0, 0), h, unfrozen_zero _⟩

theorem row_lt {o : Obj} {g : Nat} (h : w.heap[g]? = some o) : g < w.heap.size := (Array.getElem?_eq_some_iff.1 h).1

end
end Go.Ev
