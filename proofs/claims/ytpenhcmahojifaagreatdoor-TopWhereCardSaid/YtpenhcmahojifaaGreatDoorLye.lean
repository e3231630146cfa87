/- Structs that came in by value: their cells. -/
import Derived.Test.YtpenhcmahojifaaGreatDoorLyd
import Derived.WideShapes
import Derived.ProofKit
import Derived.OpenShut
import Derived.ChangeArms
import Derived.FnData
import GoSem.ClaimJoined
set_option linter.unusedVariables false
set_option linter.unusedSimpArgs false
set_option linter.unusedSectionVars false
namespace Go.Ev
open Go.WideShapes
variable [TokE]
/-- A struct by value is a row of cells, each of its type. -/
theorem agg_shape {P : Program} {w : World} {r : Go.Reach} {base : Nat} {t : TypeId} {v : Value} {fs : Array Field} {ts : List TypeId} (hu : P.underlying t = some (.struct fs)) (hc : P.cellTypes P.depth t = some ts) (hn : P.cellsOf t = ts.length)
    (h : Value.okWide P w r base t v) : ∃ cs : List Value, v = .agg cs.toArray ∧ cs.length = ts.length ∧ ∀ (i : Nat) u x, ts[i]? = some u → cs[i]? = some x → Cell.okWide P w r base u x := by
  unfold Value.okWide at h
  rw [hu] at h
  obtain ⟨cs, rfl, hs, ts', hts, _, hall⟩ := h
  rw [hc] at hts
  cases hts
  refine ⟨cs.toList, by simp, by rw [hn] at hs; simpa using hs, fun i u x hu' hx => ?_⟩
  obtain ⟨u', h1, h2⟩ := hall i x (by simpa using hx)
  have hlt : i < ts.length := (List.getElem?_eq_some_iff.1 hu').1
  rw [Nat.mod_eq_of_lt hlt, hu'] at h1
  cases h1
  exact h2
theorem cell_bool {P : Program} {w : World} {r : Go.Reach} {base : Nat} {t : TypeId} {v : Value} (hu : P.underlying t = some .bool) (h : Cell.okWide P w r base t v) : ∃ b, v = .bool b :=
  okWide_bool hu (by unfold Value.okWide; rw [hu]; exact h)
theorem cell_int {P : Program} {w : World} {r : Go.Reach} {base : Nat} {t : TypeId} {v : Value} {k : IntKind} (hu : P.underlying t = some (.int k)) (h : Cell.okWide P w r base t v) : ∃ n, v = .int k n ∧ k.has n := by
  obtain ⟨n, rfl⟩ := okWide_int (v := v) hu (by unfold Value.okWide; rw [hu]; exact h)
  unfold Cell.okWide at h
  rw [hu] at h
  unfold Cell.ok at h
  rw [hu] at h
  exact ⟨n, rfl, h.2⟩
theorem ex_cons {l : List Value} {n : Nat} (h : l.length = n + 1) : ∃ a t, l = a :: t := by
  cases l with
  | nil => simp at h
  | cons a t => exact ⟨a, t, rfl⟩
theorem len2 {l : List Value} (h : l.length = 2) : ∃ c0 c1, l = [c0, c1] := by
  obtain ⟨c0, l0, rfl⟩ := ex_cons h
  have h0 : l0.length = 1 := by simpa using h
  obtain ⟨c1, l1, rfl⟩ := ex_cons h0
  have h1 : l1.length = 0 := by simpa using h0
  have e : l1 = [] := List.length_eq_zero_iff.1 h1
  subst e
  exact ⟨c0, c1, rfl⟩
theorem len3 {l : List Value} (h : l.length = 3) : ∃ c0 c1 c2, l = [c0, c1, c2] := by
  obtain ⟨c0, l0, rfl⟩ := ex_cons h
  have h0 : l0.length = 2 := by simpa using h
  obtain ⟨c1, l1, rfl⟩ := ex_cons h0
  have h1 : l1.length = 1 := by simpa using h0
  obtain ⟨c2, l2, rfl⟩ := ex_cons h1
  have h2 : l2.length = 0 := by simpa using h1
  have e : l2 = [] := List.length_eq_zero_iff.1 h2
  subst e
  exact ⟨c0, c1, c2, rfl⟩
theorem len4 {l : List Value} (h : l.length = 4) : ∃ c0 c1 c2 c3, l = [c0, c1, c2, c3] := by
  obtain ⟨c0, l0, rfl⟩ := ex_cons h
  have h0 : l0.length = 3 := by simpa using h
  obtain ⟨c1, l1, rfl⟩ := ex_cons h0
  have h1 : l1.length = 2 := by simpa using h0
  obtain ⟨c2, l2, rfl⟩ := ex_cons h1
  have h2 : l2.length = 1 := by simpa using h1
  obtain ⟨c3, l3, rfl⟩ := ex_cons h2
  have h3 : l3.length = 0 := by simpa using h2
  have e : l3 = [] := List.length_eq_zero_iff.1 h3
  subst e
  exact ⟨c0, c1, c2, c3, rfl⟩
theorem len5 {l : List Value} (h : l.length = 5) : ∃ c0 c1 c2 c3 c4, l = [c0, c1, c2, c3, c4] := by
  obtain ⟨c0, l0, rfl⟩ := ex_cons h
  have h0 : l0.length = 4 := by simpa using h
  obtain ⟨c1, l1, rfl⟩ := ex_cons h0
  have h1 : l1.length = 3 := by simpa using h0
  obtain ⟨c2, l2, rfl⟩ := ex_cons h1
  have h2 : l2.length = 2 := by simpa using h1
  obtain ⟨c3, l3, rfl⟩ := ex_cons h2
  have h3 : l3.length = 1 := by simpa using h2
  obtain ⟨c4, l4, rfl⟩ := ex_cons h3
  have h4 : l4.length = 0 := by simpa using h3
  have e : l4 = [] := List.length_eq_zero_iff.1 h4
  subst e
  exact ⟨c0, c1, c2, c3, c4, rfl⟩
theorem len6 {l : List Value} (h : l.length = 6) : ∃ c0 c1 c2 c3 c4 c5, l = [c0, c1, c2, c3, c4, c5] := by
  obtain ⟨c0, l0, rfl⟩ := ex_cons h
  have h0 : l0.length = 5 := by simpa using h
  obtain ⟨c1, l1, rfl⟩ := ex_cons h0
  have h1 : l1.length = 4 := by simpa using h0
  obtain ⟨c2, l2, rfl⟩ := ex_cons h1
  have h2 : l2.length = 3 := by simpa using h1
  obtain ⟨c3, l3, rfl⟩ := ex_cons h2
  have h3 : l3.length = 2 := by simpa using h2
  obtain ⟨c4, l4, rfl⟩ := ex_cons h3
  have h4 : l4.length = 1 := by simpa using h3
  obtain ⟨c5, l5, rfl⟩ := ex_cons h4
  have h5 : l5.length = 0 := by simpa using h4
  have e : l5 = [] := List.length_eq_zero_iff.1 h5
  subst e
  exact ⟨c0, c1, c2, c3, c4, c5, rfl⟩
theorem len7 {l : List Value} (h : l.length = 7) : ∃ c0 c1 c2 c3 c4 c5 c6, l = [c0, c1, c2, c3, c4, c5, c6] := by
  obtain ⟨c0, l0, rfl⟩ := ex_cons h
  have h0 : l0.length = 6 := by simpa using h
  obtain ⟨c1, l1, rfl⟩ := ex_cons h0
  have h1 : l1.length = 5 := by simpa using h0
  obtain ⟨c2, l2, rfl⟩ := ex_cons h1
  have h2 : l2.length = 4 := by simpa using h1
  obtain ⟨c3, l3, rfl⟩ := ex_cons h2
  have h3 : l3.length = 3 := by simpa using h2
  obtain ⟨c4, l4, rfl⟩ := ex_cons h3
  have h4 : l4.length = 2 := by simpa using h3
  obtain ⟨c5, l5, rfl⟩ := ex_cons h4
  have h5 : l5.length = 1 := by simpa using h4
  obtain ⟨c6, l6, rfl⟩ := ex_cons h5
  have h6 : l6.length = 0 := by simpa using h5
  have e : l6 = [] := List.length_eq_zero_iff.1 h6
  subst e
  exact ⟨c0, c1, c2, c3, c4, c5, c6, rfl⟩
theorem len8 {l : List Value} (h : l.length = 8) : ∃ c0 c1 c2 c3 c4 c5 c6 c7, l = [c0, c1, c2, c3, c4, c5, c6, c7] := by
  obtain ⟨c0, l0, rfl⟩ := ex_cons h
  have h0 : l0.length = 7 := by simpa using h
  obtain ⟨c1, l1, rfl⟩ := ex_cons h0
  have h1 : l1.length = 6 := by simpa using h0
  obtain ⟨c2, l2, rfl⟩ := ex_cons h1
  have h2 : l2.length = 5 := by simpa using h1
  obtain ⟨c3, l3, rfl⟩ := ex_cons h2
  have h3 : l3.length = 4 := by simpa using h2
  obtain ⟨c4, l4, rfl⟩ := ex_cons h3
  have h4 : l4.length = 3 := by simpa using h3
  obtain ⟨c5, l5, rfl⟩ := ex_cons h4
  have h5 : l5.length = 2 := by simpa using h4
  obtain ⟨c6, l6, rfl⟩ := ex_cons h5
  have h6 : l6.length = 1 := by simpa using h5
  obtain ⟨c7, l7, rfl⟩ := ex_cons h6
  have h7 : l7.length = 0 := by simpa using h6
  have e : l7 = [] := List.length_eq_zero_iff.1 h7
  subst e
  exact ⟨c0, c1, c2, c3, c4, c5, c6, c7, rfl⟩
theorem len9 {l : List Value} (h : l.length = 9) : ∃ c0 c1 c2 c3 c4 c5 c6 c7 c8, l = [c0, c1, c2, c3, c4, c5, c6, c7, c8] := by
  obtain ⟨c0, l0, rfl⟩ := ex_cons h
  have h0 : l0.length = 8 := by simpa using h
  obtain ⟨c1, l1, rfl⟩ := ex_cons h0
  have h1 : l1.length = 7 := by simpa using h0
  obtain ⟨c2, l2, rfl⟩ := ex_cons h1
  have h2 : l2.length = 6 := by simpa using h1
  obtain ⟨c3, l3, rfl⟩ := ex_cons h2
  have h3 : l3.length = 5 := by simpa using h2
  obtain ⟨c4, l4, rfl⟩ := ex_cons h3
  have h4 : l4.length = 4 := by simpa using h3
  obtain ⟨c5, l5, rfl⟩ := ex_cons h4
  have h5 : l5.length = 3 := by simpa using h4
  obtain ⟨c6, l6, rfl⟩ := ex_cons h5
  have h6 : l6.length = 2 := by simpa using h5
  obtain ⟨c7, l7, rfl⟩ := ex_cons h6
  have h7 : l7.length = 1 := by simpa using h6
  obtain ⟨c8, l8, rfl⟩ := ex_cons h7
  have h8 : l8.length = 0 := by simpa using h7
  have e : l8 = [] := List.length_eq_zero_iff.1 h8
  subst e
  exact ⟨c0, c1, c2, c3, c4, c5, c6, c7, c8, rfl⟩
theorem len10 {l : List Value} (h : l.length = 10) : ∃ c0 c1 c2 c3 c4 c5 c6 c7 c8 c9, l = [c0, c1, c2, c3, c4, c5, c6, c7, c8, c9] := by
  obtain ⟨c0, l0, rfl⟩ := ex_cons h
  have h0 : l0.length = 9 := by simpa using h
  obtain ⟨c1, l1, rfl⟩ := ex_cons h0
  have h1 : l1.length = 8 := by simpa using h0
  obtain ⟨c2, l2, rfl⟩ := ex_cons h1
  have h2 : l2.length = 7 := by simpa using h1
  obtain ⟨c3, l3, rfl⟩ := ex_cons h2
  have h3 : l3.length = 6 := by simpa using h2
  obtain ⟨c4, l4, rfl⟩ := ex_cons h3
  have h4 : l4.length = 5 := by simpa using h3
  obtain ⟨c5, l5, rfl⟩ := ex_cons h4
  have h5 : l5.length = 4 := by simpa using h4
  obtain ⟨c6, l6, rfl⟩ := ex_cons h5
  have h6 : l6.length = 3 := by simpa using h5
  obtain ⟨c7, l7, rfl⟩ := ex_cons h6
  have h7 : l7.length = 2 := by simpa using h6
  obtain ⟨c8, l8, rfl⟩ := ex_cons h7
  have h8 : l8.length = 1 := by simpa using h7
  obtain ⟨c9, l9, rfl⟩ := ex_cons h8
  have h9 : l9.length = 0 := by simpa using h8
  have e : l9 = [] := List.length_eq_zero_iff.1 h9
  subst e
  exact ⟨c0, c1, c2, c3, c4, c5, c6, c7, c8, c9, rfl⟩
end Go.Ev
namespace Go.Ev
variable [TokE]
/-- The value of a plain datum. -/
def dataV {H : Type} : DataW H → Value
  | .lit (.int k n) => .int k n
  | .lit (.string s) => .string ⟨s.toArray⟩
  | .lit (.bool b) => .bool b
  | _ => undef
section
variable {P : Program} {w : World}
theorem flat_cells {H : Type} {enc : TypeId × Value → H} {sp : Nat → Bool} {held : Bool} {base fuel n : Nat} {t e : TypeId} {cs : List Value} {ds : List (DataW H)} {p : List MemPlace} (ht : P.underlying t = some (.array n e)) (he : (∃ k, P.underlying e = some (.int k)) ∨ P.underlying e = some .string)
    (hc : P.cellsOf e = 1) (hct : P.cellsOf t = n) (h : DataW.trod enc P w base sp held fuel t cs = some (.agg ds, p)) : cs = ds.map dataV := by
  obtain ⟨xs, m, _, ex, hlen, hxl, hel⟩ := DataW.trod_array ht h
  have hds : ds = xs.map (·.1) := DataW.agg.inj (Prod.mk.inj ex).1
  subst hds
  apply List.ext_getElem?
  intro i
  by_cases hi : i < n
  · have h1 := hel i hi
    rw [hc, Nat.mul_one, List.getElem?_eq_getElem (by omega : i < xs.length)] at h1
    have h2 : ∃ v, (cs.drop i).take 1 = [v] ∧ v = dataV (xs[i]'(by omega)).1 := by
      rcases he with ⟨k, he⟩ | he
      · obtain ⟨z, e1, e2, _⟩ := DataW.trod_int he h1
        exact ⟨_, e1, by rw [e2]; rfl⟩
      · obtain ⟨s, e1, e2, _⟩ := DataW.trod_string he h1
        exact ⟨_, e1, by rw [e2]; simp [dataV]⟩
    obtain ⟨v, e1, e2⟩ := h2
    have e3 : cs[i]? = some v := by
      have h0 : ((cs.drop i).take 1)[0]? = some v := by rw [e1]; rfl
      simpa using h0
    rw [e3, e2, List.getElem?_map, List.getElem?_map, List.getElem?_eq_getElem (by omega : i < xs.length)]
    rfl
  · rw [List.getElem?_eq_none (by omega), List.getElem?_eq_none (by simp; omega)]
theorem laid_mem : ∀ {laid : List (String × DataW Unit)} {ps : List MemPlace}, DataW.LaidVars P w laid ps → ∀ {nm : String} {d : DataW Unit}, (nm, d) ∈ laid →
    ∃ g t cs fuel p, P.globalNamed nm = some g ∧ (P.globals[g]?).map (·.type) = some t ∧ w.var? P nm = some cs ∧ DataW.trod (fun _ => ()) P w 0 (fun _ => true) false fuel t cs.toList = some (d, p) ∧ ∀ x ∈ MemPlace.row ⟨g, 0, none⟩ cs.size, x ∈ ps
  | [], _, _, _, _, hm => by cases hm
  | (n, d) :: r, ps, h, nm, d', hm => by
    obtain ⟨g, t, cs, fuel, p, q, h1, h2, h3, h4, h5, rfl⟩ := h
    rcases List.mem_cons.1 hm with heq | hm
    · cases heq
      exact ⟨g, t, cs, fuel, p, h1, h2, h3, h4, fun x hx => by simp [hx]⟩
    · obtain ⟨g', t', cs', fuel', p', k1, k2, k3, k4, k5⟩ := laid_mem h5 hm
      exact ⟨g', t', cs', fuel', p', k1, k2, k3, k4, fun x hx => by simp [k5 x hx]⟩
/-- The cells of a flat datum. -/
def aggV {H : Type} : DataW H → Option (List Value)
  | .agg ds => some (ds.map dataV)
  | _ => none
theorem laid_at {laid : List (String × DataW Unit)} (h : laidMet P laid w) {nm : String} {d : DataW Unit} {k : Nat} (hm : laid[k]? = some (nm, d)) {cv : List Value} (hd : aggV d = some cv) {g n : Nat} {t e : TypeId} (hg : P.globalNamed nm = some g) (ht : (P.globals[g]?).map (·.type) = some t)
    (hu : P.underlying t = some (.array n e)) (he : (∃ k, P.underlying e = some (.int k)) ∨ P.underlying e = some .string) (hc : P.cellsOf e = 1) (hct : P.cellsOf t = n) (hn : cv.isEmpty = false) :
    ∃ t', w.heap[g]? = some (.cells cv.toArray t' (0, 0)) := by
  obtain ⟨ps, h1, _, h2⟩ := h
  obtain ⟨g', t', cs, fuel, p, k1, k2, k3, k4, k5⟩ := laid_mem h1 (List.mem_of_getElem? hm)
  rw [hg] at k1; cases k1
  rw [ht] at k2; cases k2
  cases d with
  | agg ds =>
    simp only [aggV, Option.some.injEq] at hd
    have e1 : cs.toList = cv := by rw [← hd]; exact flat_cells hu he hc hct k4
    have hpos : 0 < cs.size := by
      have h4 : cs.size = cv.length := by rw [← e1]; simp
      have h3 : cv.length ≠ 0 := by intro h0; rw [List.length_eq_zero_iff.1 h0] at hn; cases hn
      omega
    have hrow : MemPlace.cell g 0 ∈ MemPlace.row ⟨g, 0, none⟩ cs.size := by
      unfold MemPlace.row
      simp only [List.mem_map, List.mem_range]
      exact ⟨0, hpos, by simp⟩
    obtain ⟨⟨c, u, hh⟩, _⟩ := h2 g 0 (k5 _ hrow)
    simp only [World.var?, hg, Option.bind_some, hh, Option.some.injEq] at k3
    subst k3
    exact ⟨u, by rw [hh, ← e1]⟩
  | _ => cases hd
/-- A row that is no row of the list's own is dead. -/
def deadRow : Blk := ⟨[], 0, false, false⟩
theorem row_at {cv : List Value} {t' : TypeId} {g : Nat} (h : w.heap[g]? = some (.cells cv.toArray t' (0, 0))) : ∃ fr, w.heap[g]? = some (.cells (Blk.mk cv t' true false).cells.toArray (Blk.mk cv t' true false).elem fr) ∧ unfrozen (Blk.mk cv t' true false).cells.toArray fr :=
  ⟨(0, 0), h, unfrozen_zero _⟩
theorem row_lt {o : Obj} {g : Nat} (h : w.heap[g]? = some o) : g < w.heap.size := (Array.getElem?_eq_some_iff.1 h).1
end
end Go.Ev
namespace Go.Ev
open Go.RowKit
noncomputable section
variable [TokE]
/-! ### A value by other numbers of rows -/
mutual
/-- Is the second the first one, with its rows renumbered? -/
def sameV (σ : Nat → Nat) : Value → Value → Bool
  | .bool a, u => match u with
    | .bool b => pick2 a b (pick2 b false true)
    | _ => false
  | .int k a, u => match u with
    | .int k' b => pick2 (eqKind k k') (eqI a b) false
    | _ => false
  | .slice none l c, u => match u with
    | .slice none l' c' => pick2 (Nat.beq l l') (Nat.beq c c') false
    | _ => false
  | .slice (some ⟨i, o, none⟩) l c, u => match u with
    | .slice (some ⟨i', o', none⟩) l' c' => pick2 (Nat.beq l l') (pick2 (Nat.beq c c') (pick2 (Nat.beq o o') (Nat.beq (σ i) i') false) false) false
    | _ => false
  | .pointer none, u => match u with
    | .pointer none => true
    | _ => false
  | .pointer (some ⟨i, o, none⟩), u => match u with
    | .pointer (some ⟨i', o', none⟩) => pick2 (Nat.beq (σ i) i') (Nat.beq o o') false
    | _ => false
  | .map none, u => match u with
    | .map none => true
    | _ => false
  | .map (some i), u => match u with
    | .map (some i') => Nat.beq (σ i) i'
    | _ => false
  | .nilFunc, u => match u with
    | .nilFunc => true
    | _ => false
  | .nilIface, u => match u with
    | .nilIface => true
    | _ => false
  | .string s, u => match u with
    | .string s' => eqBytes s.data.toList s'.data.toList
    | _ => false
  | .agg a, u => match u with
    | .agg b => sameA' σ a b
    | _ => false
  | .tuple a, u => match u with
    | .tuple b => sameA' σ a b
    | _ => false
  | .chan none, u => match u with
    | .int _ _ => true
    | .func (.yield _) ⟨_ :: _⟩ ⟨[]⟩ => true
    | _ => false
  | .func (.yield c) ⟨x :: l⟩ ⟨[]⟩, u => eqT (.func (.yield c) ⟨x :: l⟩ ⟨[]⟩) u
  | _, _ => false
termination_by structural v => v
def sameA' (σ : Nat → Nat) : Array Value → Array Value → Bool
  | ⟨l⟩, ⟨m⟩ => sameL σ l m
termination_by structural v => v
def sameL (σ : Nat → Nat) : List Value → List Value → Bool
  | [], m => match m with
    | [] => true
    | _ => false
  | a :: l, m => match m with
    | b :: m => pick2 (sameV σ a b) (sameL σ l m) false
    | _ => false
termination_by structural v => v
end
theorem p2 {a b : Bool} (h : pick2 a b false = true) : a = true ∧ b = true := by cases a <;> simp_all [pick2]
theorem eqI_eq {a b : Int} (h : eqI a b = true) : a = b := by rw [eqI_spec, beq_iff_eq] at h; exact h
theorem eqBytes_str {s t : ByteArray} (h : eqBytes s.data.toList t.data.toList = true) : s = t := by
  rw [eqBytes_spec, decide_eq_true_eq] at h
  cases s; cases t
  simp only [ByteArray.mk.injEq]
  exact Array.toList_inj.1 h
theorem beqN {a b : Nat} (h : Nat.beq a b = true) : a = b := Nat.eq_of_beq_eq_true h
theorem sameV_tok {σ : Nat → Nat} {fn : Fn} {a b : Array Value} {u : Value} (h : sameV σ (.func fn a b) u = true) : ∃ c x l, (.func fn a b : Value) = .func (.yield c) ⟨x :: l⟩ ⟨[]⟩ ∧ eqT (.func (.yield c) ⟨x :: l⟩ ⟨[]⟩) u = true := by
  obtain ⟨a⟩ := a
  obtain ⟨b⟩ := b
  cases fn <;> cases a <;> cases b <;> first | exact ⟨_, _, _, rfl, by simpa only [sameV] using h⟩ | (simp [sameV] at h)
theorem eqT_tok {c : Nat} {x : Value} {l : List Value} {u v' : Value} {ρ ρ' : Ren} (h : eqT (.func (.yield c) ⟨x :: l⟩ ⟨[]⟩) u = true) (hr : VRel ρ u v') : VRel ρ' (.func (.yield c) ⟨x :: l⟩ ⟨[]⟩) v' := by
  have hd := eqT_den (env := TokR.env) _ _ h
  cases hr with
  | tok c' x' l' k n hn => exact .tok _ _ _ k n (hd.trans hn)
  | func fn a a' b b' sa ha sb hb hy =>
    unfold eqT at h
    split at h
    · rename_i e _; cases e
    · rename_i e; cases e; cases hy
    · cases h
  | yield i r x hi =>
    simp only [eqT, eqTA, eqTL, pick2_eq] at h
    split at h <;> cases h
  | _ => simp [eqT, vd] at h
mutual
theorem sameV_rel {ρ ρ' : Ren} {σ : Nat → Nat} (hσ : ∀ i, ρ' i = ρ (σ i)) : ∀ v u : Value, sameV σ v u = true → ∀ v' : Value, VRel ρ u v' → VRel ρ' v v'
  | .bool a, u, h => by
    simp only [sameV] at h
    split at h
    · rename_i b
      intro v' hr
      cases hr
      cases a <;> cases b <;> first | exact .bool _ | (simp [pick2] at h)
    · cases h
  | .int k a, u, h => by
    simp only [sameV] at h
    split at h
    · obtain ⟨h1, h2⟩ := p2 h
      intro v' hr
      rw [eqKind_spec h1, eqI_eq h2]
      cases hr
      exact .int _ _
    · cases h
  | .slice none l c, u, h => by
    simp only [sameV] at h
    split at h
    · obtain ⟨h1, h2⟩ := p2 h
      intro v' hr
      rw [beqN h1, beqN h2]
      cases hr
      exact .sliceNil _ _
    · cases h
  | .slice (some ⟨i, o, none⟩) l c, u, h => by
    simp only [sameV] at h
    split at h
    · obtain ⟨h3, h⟩ := p2 h
      obtain ⟨h4, h⟩ := p2 h
      obtain ⟨h2, h1⟩ := p2 h
      intro v' hr
      rw [beqN h2, beqN h3, beqN h4]
      cases hr with
      | slice _ _ _ _ r x hi => exact .slice _ _ _ _ r x (by rw [hσ, beqN h1]; exact hi)
    · cases h
  | .slice (some ⟨i, o, some s⟩) l c, u, h => by simp [sameV] at h
  | .pointer none, u, h => by
    simp only [sameV] at h
    split at h
    · intro v' hr
      cases hr
      exact .ptrNil
    · cases h
  | .pointer (some ⟨i, o, none⟩), u, h => by
    simp only [sameV] at h
    split at h
    · obtain ⟨h1, h2⟩ := p2 h
      intro v' hr
      rw [beqN h2]
      cases hr with
      | ptr _ _ r x hi => exact .ptr _ _ r x (by rw [hσ, beqN h1]; exact hi)
    · cases h
  | .pointer (some ⟨i, o, some s⟩), u, h => by simp [sameV] at h
  | .map none, u, h => by
    simp only [sameV] at h
    split at h
    · intro v' hr
      cases hr
      exact .mapNil
    · cases h
  | .map (some i), u, h => by
    simp only [sameV] at h
    split at h
    · intro v' hr
      cases hr with
      | map _ r x hi => exact .map _ r x (by rw [hσ, beqN h]; exact hi)
    · cases h
  | .nilFunc, u, h => by
    simp only [sameV] at h
    split at h
    · intro v' hr
      cases hr
      exact .nilFunc
    · cases h
  | .nilIface, u, h => by
    simp only [sameV] at h
    split at h
    · intro v' hr
      cases hr
      exact .nilIface
    · cases h
  | .string s, u, h => by
    simp only [sameV] at h
    split at h
    · intro v' hr
      rw [eqBytes_str h]
      cases hr
      exact .string _
    · cases h
  | .agg a, u, h => by
    simp only [sameV] at h
    split at h
    · intro v' hr
      cases hr with
      | agg _ a' sa ha =>
        obtain ⟨q1, q2⟩ := sameA_rel hσ a _ h
        exact .agg _ _ (q1.trans sa) (q2 (fun i => a'[i]?) ha)
    · cases h
  | .tuple a, u, h => by
    simp only [sameV] at h
    split at h
    · intro v' hr
      cases hr with
      | tuple _ a' sa ha =>
        obtain ⟨q1, q2⟩ := sameA_rel hσ a _ h
        exact .tuple _ _ (q1.trans sa) (q2 (fun i => a'[i]?) ha)
    · cases h
  | .float _ _, u, h => by simp [sameV] at h
  | .complex _ _ _, u, h => by simp [sameV] at h
  | .chan none, u, h => by
    simp only [sameV] at h
    split at h
    · intro v' hr
      cases hr
      exact .junk _ _
    · intro v' hr
      cases hr with
      | tok => exact .junk _ _
      | func _ _ _ _ _ _ _ _ _ hy => cases hy
    · cases h
  | .chan (some _), u, h => by simp [sameV] at h
  | .func fn a b, u, h => fun v' hr => by
    obtain ⟨c, x, l, e, h⟩ := sameV_tok h
    rw [e]
    exact eqT_tok h hr
  | .iface _ _, u, h => by simp [sameV] at h
theorem sameA_rel {ρ ρ' : Ren} {σ : Nat → Nat} (hσ : ∀ i, ρ' i = ρ (σ i)) : ∀ v u : Array Value, sameA' σ v u = true → v.size = u.size ∧ ∀ (g : Nat → Option Value), (∀ (i : Nat) x y, u[i]? = some x → g i = some y → VRel ρ x y) → ∀ (i : Nat) x y, v[i]? = some x → g i = some y → VRel ρ' x y
  | ⟨l⟩, ⟨m⟩, h => by
    simp only [sameA'] at h
    obtain ⟨q1, q2⟩ := sameL_rel hσ l m h
    exact ⟨by simpa using q1, fun g hg i x y hx hy => q2 g (fun i x y hx hy => hg i x y (by simpa using hx) hy) i x y (by simpa using hx) hy⟩
theorem sameL_rel {ρ ρ' : Ren} {σ : Nat → Nat} (hσ : ∀ i, ρ' i = ρ (σ i)) : ∀ v u : List Value, sameL σ v u = true → v.length = u.length ∧ ∀ (g : Nat → Option Value), (∀ (i : Nat) x y, u[i]? = some x → g i = some y → VRel ρ x y) → ∀ (i : Nat) x y, v[i]? = some x → g i = some y → VRel ρ' x y
  | [], u, h => by
    simp only [sameL] at h
    split at h
    · exact ⟨rfl, fun g hg i x y hx => by simp at hx⟩
    · cases h
  | a :: l, u, h => by
    simp only [sameL] at h
    split at h
    · obtain ⟨h1, h2⟩ := p2 h
      obtain ⟨q1, q2⟩ := sameL_rel hσ l _ h2
      refine ⟨by simp [q1], fun g hg i x y hx hy => ?_⟩
      cases i with
      | zero =>
        simp only [List.getElem?_cons_zero, Option.some.injEq] at hx
        subst hx
        exact sameV_rel hσ a _ h1 y (hg 0 _ _ (by simp) hy)
      | succ i =>
        exact q2 (fun j => g (j + 1)) (fun j x y hx hy => hg (j + 1) x y (by simpa using hx) hy) i x y (by simpa using hx) hy
    · cases h
end
theorem sameL_get {σ : Nat → Nat} : ∀ (l m : List Value), sameL σ l m = true → ∀ (j : Nat) v, l[j]? = some v → ∃ u, m[j]? = some u ∧ sameV σ v u = true
  | [], m, h, j, v, hv => by simp at hv
  | a :: l, m, h, j, v, hv => by
    simp only [sameL] at h
    split at h
    · obtain ⟨h1, h2⟩ := p2 h
      cases j with
      | zero =>
        simp only [List.getElem?_cons_zero, Option.some.injEq] at hv
        subst hv
        exact ⟨_, rfl, h1⟩
      | succ j => exact sameL_get l _ h2 j v (by simpa using hv)
    · cases h
theorem sameV_junk {σ : Nat → Nat} {v u : Value} (h : sameV σ v u = true) : isJunk u = false := by
  cases u with
  | chan r =>
    exfalso
    cases v with
    | slice a l c => rcases a with _ | ⟨i, o, _ | s⟩ <;> simp [sameV] at h
    | pointer a => rcases a with _ | ⟨i, o, _ | s⟩ <;> simp [sameV] at h
    | map r => cases r <;> simp [sameV] at h
    | chan r => cases r <;> simp [sameV] at h
    | func fn a b =>
      obtain ⟨c, x, l, e, h⟩ := sameV_tok h
      simp [eqT] at h
    | _ => simp [sameV] at h
  | _ => rfl
/-- Rows that a run left, by numbers of one's own, against those given. -/
def sameRows (H : Mem) (σ : Nat → Nat) (L : Nat) : Nat → Nat → List Blk → Bool
  | _, _, [] => true
  | i, lo, b :: l => pick2 (Nat.ble L (σ i)) (pick2 (Nat.ble lo (σ i))
      (match H.get (σ i) with
        | some u => pick2 (Nat.beq b.elem u.elem) (pick2 b.live (pick2 u.live (pick2 (pick2 b.fix u.fix (pick2 u.fix false true)) (pick2 (sameL σ b.cells u.cells) (sameRows H σ L (Nat.succ i) (Nat.succ (σ i)) l) false) false) false) false) false
        | none => false) false) false
theorem sameRows_spec {H : Mem} {σ : Nat → Nat} {L : Nat} : ∀ (l : List Blk) (i lo : Nat), sameRows H σ L i lo l = true →
    ∀ (j : Nat) b, l[j]? = some b → L ≤ σ (i + j) ∧ lo ≤ σ (i + j) ∧ b.live = true ∧ (∃ u, H.get (σ (i + j)) = some u ∧ b.elem = u.elem ∧ u.live = true ∧ b.fix = u.fix ∧ sameL σ b.cells u.cells = true) ∧ ∀ k, k < j → σ (i + k) < σ (i + j)
  | [], i, lo, _, j, b, hj => by simp at hj
  | c :: l, i, lo, h, j, b, hj => by
    simp only [sameRows] at h
    obtain ⟨h1, h2⟩ := p2 h
    obtain ⟨h2, h3⟩ := p2 h2
    split at h3
    case h_2 => cases h3
    rename_i u hu
    obtain ⟨g1, h3⟩ := p2 h3
    obtain ⟨g2, h3⟩ := p2 h3
    obtain ⟨g3, h3⟩ := p2 h3
    obtain ⟨g4, h3⟩ := p2 h3
    obtain ⟨g5, h3⟩ := p2 h3
    have ih := sameRows_spec l (Nat.succ i) (Nat.succ (σ i)) h3
    have l1 := Nat.le_of_ble_eq_true h1
    have l2 := Nat.le_of_ble_eq_true h2
    cases j with
    | zero =>
      simp only [List.getElem?_cons_zero, Option.some.injEq] at hj
      subst hj
      refine ⟨l1, l2, g2, ⟨u, hu, beqN g1, g3, ?_, g5⟩, fun k hk => absurd hk (Nat.not_lt_zero _)⟩
      cases hb : c.fix <;> cases hf : u.fix <;> simp [hb, hf, pick2] at g4 ⊢
    | succ j =>
      obtain ⟨q1, q2, q3, q4, q5⟩ := ih j b (by simpa using hj)
      have e : Nat.succ i + j = i + (j + 1) := by omega
      rw [e] at q1 q2 q4 q5
      refine ⟨q1, by omega, q3, q4, fun k hk => ?_⟩
      cases k with
      | zero => exact Nat.lt_of_succ_le q2
      | succ k =>
        have := q5 k (by omega)
        have e2 : Nat.succ i + k = i + (k + 1) := by omega
        rw [e2] at this; exact this
/-- Given rows are a memory. -/
theorem ofRows_total : ∀ (l : List Blk) (H : Mem), ∃ H', H.ofRows l = some H'
  | [], H => ⟨_, rfl⟩
  | b :: l, H => by
    obtain ⟨H1, h1⟩ := Mem.push_total H b
    obtain ⟨H', h2⟩ := ofRows_total l H1
    exact ⟨H', by simp only [Mem.ofRows, h1]; exact h2⟩
/-- **A run's result alone.** -/
theorem Emb.pack {c : Cx} {ρ : Ren} {H : Mem} {w : World} (he : Emb c ρ H w) (hK : ∀ r, c.K r = none) (hLp : ∀ r, c.Lp r = none) {σ : Nat → Nat} {rows : List Blk} (h : sameRows H σ c.L 0 0 rows = true) :
    ∃ M ρ', M.size = rows.length ∧ (∀ i, M.get i = rows[i]?) ∧ (∀ i, i < rows.length → ρ' i = ρ (σ i)) ∧ (∀ i, rows.length ≤ i → ρ' i = none) ∧
      ((∀ i, rows.length ≤ i → ρ (σ i) = none) → Emb ⟨c.P, c.B, 0, 0, c.w0, fun _ => none, fun _ => none, fun _ => none⟩ ρ' M w) := by
  obtain ⟨M, hM⟩ := ofRows_total rows Mem.empty
  obtain ⟨e1, e2, e3⟩ := ofRows_spec rows hM
  have es : M.size = rows.length := by rw [e1]; simp [Mem.empty]
  have eg : ∀ i, M.get i = rows[i]? := fun i => by rw [e3, if_neg (by simp [Mem.empty])]; simp [Mem.empty]
  obtain ⟨ρ', hρ'⟩ : ∃ ρ' : Ren, ρ' = fun i => if i < rows.length then ρ (σ i) else none := ⟨_, rfl⟩
  have lo : ∀ i, i < rows.length → ρ' i = ρ (σ i) := fun i hi => by rw [hρ']; exact if_pos hi
  have hi' : ∀ i, rows.length ≤ i → ρ' i = none := fun i hi => by rw [hρ']; exact if_neg (by omega)
  refine ⟨M, ρ', es, eg, lo, hi', fun hout => ?_⟩
  have sp := sameRows_spec rows 0 0 h
  simp only [Nat.zero_add] at sp
  have hσ : ∀ i, ρ' i = ρ (σ i) := fun i => by
    by_cases hi : i < rows.length
    · exact lo i hi
    · rw [hi' i (by omega), hout i (by omega)]
  have one : ∀ i b, M.get i = some b → rows[i]? = some b ∧ i < rows.length := fun i b hb => by
    rw [eg] at hb
    exact ⟨hb, (List.getElem?_eq_some_iff.1 hb).1⟩
  refine ⟨⟨he.stay.below, fun r o h => (by cases h), fun r o h => (by cases h)⟩, he.base, fun i x hx => ?_, Nat.zero_le _, Nat.zero_le _, fun g hg => absurd hg (Nat.not_lt_zero _), fun i b hi hl => ?_, fun i j bi bj r x y hi _ hj _ hr hr' => ?_, fun i b hi hm => ?_, fun i j bi bj r x y hi hm => ?_, fun i x hx => (by cases hx)⟩
  · rw [es]
    by_cases hi : i < rows.length
    · exact hi
    · rw [hi' i (by omega)] at hx; cases hx
  · obtain ⟨hb, hlt⟩ := one i b hi
    obtain ⟨s1, s2, s3, ⟨u, s4, s5, s6, s7, s8⟩, s9⟩ := sp i b hb
    obtain ⟨r, x, C, fr, s, k1, k2, k3, k4, ⟨k5, k5'⟩, ⟨e, k6, k6'⟩, k7, k8⟩ := he.blk _ u s4 s6
    have nl : ¬ σ i < c.L := by omega
    have own : c.own r := k2.resolve_left fun q => nl q.1
    obtain ⟨t1, t2⟩ := sameL_rel hσ _ _ s8
    refine ⟨r, x, C, fr, s, by rw [hσ]; exact k1, .inr ⟨own.1, rfl, rfl⟩, by rw [s5]; exact k3, .inr (k4.resolve_left nl), ⟨.inr (by rw [s5]; exact k5.resolve_left nl), fun hf => k5' (by rw [← s7]; exact hf)⟩, ⟨e, by rw [t1]; exact k6, fun hf => k6' (by rw [← s7]; exact hf)⟩, ⟨by rw [t1]; exact k7.1, fun j v hv hj => ?_⟩, .inr (by rw [s5, t1]; exact k8.resolve_left nl)⟩
    obtain ⟨v2, g1, g2⟩ := sameL_get _ _ s8 j v hv
    obtain ⟨v', g3, g4⟩ := k7.2 j v2 g1 (sameV_junk g2)
    exact ⟨v', g3, sameV_rel hσ _ _ g2 _ g4⟩
  · obtain ⟨hb, hlt⟩ := one i bi hi
    obtain ⟨hb', hlt'⟩ := one j bj hj
    obtain ⟨s1, s2, s3, ⟨u, s4, s5, s6, s7, s8⟩, s9⟩ := sp i bi hb
    obtain ⟨s1', s2', s3', ⟨u', s4', s5', s6', s7', s8'⟩, s9'⟩ := sp j bj hb'
    rw [hσ] at hr hr'
    have := he.inj _ _ _ _ _ _ _ s4 s6 s4' s6' hr hr'
    rcases Nat.lt_trichotomy i j with q | q | q
    · have := s9' i q; omega
    · exact q
    · have := s9 j q; omega
  · obtain ⟨hb, hlt⟩ := one i b hi
    rw [not_map (sp i b hb).2.2.1] at hm; cases hm
  · obtain ⟨hb, hlt⟩ := one i bi hi
    rw [not_map (sp i bi hb).2.2.1] at hm; cases hm
/-! ### Told calls -/
omit [TokE] in
/-- What a call comes to in whatever world where the given variables stand: a value, and the rows that it holds. -/
def Told [TokR] (P : Program) (GR : List Blk) (f : FuncId) (args : List Value) (v : Value) (rows : List Blk) : Prop :=
  ∀ w, RowsAt GR w → Calls P f args.toArray w fun e w' => ∃ ρ v' M, e = .returned v' ∧ VRel ρ v v' ∧ M.size = rows.length ∧ (∀ i b, rows[i]? = some b → (b.live = true ∨ isMapB b = true) → M.get i = some b) ∧
    Emb ⟨P, w.heap.size, 0, 0, w, fun _ => none, fun _ => none, fun _ => none⟩ ρ M w'
/-- Numbers of rows, 16 bits each. -/
def numS (n lit base : Nat) (i : Nat) : Nat := pick2 (Nat.ble (Nat.succ i) n) (Nat.land (Nat.shiftRight lit (Nat.mul 16 i)) 65535) (Nat.add base i)
theorem numS_out {n lit base i : Nat} (h : n ≤ i) : numS n lit base i = base + i := by
  unfold numS
  rw [pick2_eq, if_neg (by rw [Bool.not_eq_true, ble_succ]; simp; omega)]
  rfl
/-- Is a run's result this one? -/
def packB (L : Nat) (r : Option (Value × Mem)) (v : Value) (rows : List Blk) (n lit base : Nat) : Bool :=
  match r with
  | some (u, H) => pick2 (Nat.beq rows.length n) (pick2 (Nat.ble H.size base) (pick2 (sameV (numS n lit base) v u) (sameRows H (numS n lit base) L 0 0 rows) false) false) false
  | none => false
theorem pack_run {P : Program} {f : FuncId} {args : List Value} {w : World} {L G : Nat} {r : Option (Value × Mem)} {v : Value} {rows : List Blk} {n lit base : Nat} (h : packB L r v rows n lit base = true)
    (hrun : ∀ u H, r = some (u, H) → Calls P f args.toArray w fun e w' => ∃ ρ' v', e = .returned v' ∧ VRel ρ' u v' ∧ Emb ⟨P, w.heap.size, L, G, w, fun _ => none, fun _ => none, fun _ => none⟩ ρ' H w') :
    Calls P f args.toArray w fun e w' => ∃ ρ v' M, e = .returned v' ∧ VRel ρ v v' ∧ M.size = rows.length ∧ (∀ i b, rows[i]? = some b → (b.live = true ∨ isMapB b = true) → M.get i = some b) ∧
      Emb ⟨P, w.heap.size, 0, 0, w, fun _ => none, fun _ => none, fun _ => none⟩ ρ M w' := by
  unfold packB at h
  split at h
  case h_2 => cases h
  rename_i u H
  obtain ⟨h1, h2⟩ := p2 h
  obtain ⟨h2, h3⟩ := p2 h2
  obtain ⟨h3, h4⟩ := p2 h3
  refine (hrun u H rfl).mono ?_
  rintro e w' ⟨ρ, v', rfl, hv, he⟩
  have en := beqN h1
  have eb := Nat.le_of_ble_eq_true h2
  obtain ⟨M, ρ', q1, q2, q3, q4, q5⟩ := he.pack (fun _ => rfl) (fun _ => rfl) h4
  have hout : ∀ i, rows.length ≤ i → ρ (numS n lit base i) = none := fun i hi => by
    rw [numS_out (by omega)]
    exact he.unused (by omega)
  refine ⟨ρ', v', M, rfl, sameV_rel (fun i => ?_) _ _ h3 _ hv, q1, fun i b hb _ => by rw [q2]; exact hb, q5 hout⟩
  by_cases hi : i < rows.length
  · exact q3 i hi
  · rw [q4 i (by omega), hout i (by omega)]
/-- **A told call, by a run of its own.** -/
theorem told_of {P : Program} {GR : List Blk} (hno : noOwn P) (hm : P.follows .mixedOrders = true) {K : Known} (hK : KnownOkR P GR K) {rounds k : Nat} {f : FuncId} {args : List Value} {m : FuncId → List Value → Mem → Option (Value × List Blk)} {d : FuncId → Bool} (hmm : MemoOk P GR m) (hd : ∀ f, d f = true → Harm P f)
    {H0 : Mem} (h0 : Mem.ofRows Mem.empty GR = some H0) (hfree : ∀ b ∈ GR, addrFreeL b.cells = true ∧ isMapB b = false) (hargs : addrFreeL args = true) (hlow : Nat.ble 8589934592 f = false) (hf : P.funcs[f]? ≠ none) {v : Value} {rows : List Blk} {n lit base : Nat}
    (h : packB GR.length (callA P GR.length K rounds k (memosD m d) f args H0) v rows n lit base = true) : Told P GR f args v rows := fun w hw =>
  pack_run (G := GR.length) h fun u H hr =>
    (call_okD hno hm hK hmm hd hr hlow (.inl hf) (c := ⟨P, w.heap.size, GR.length, GR.length, w, fun _ => none, fun _ => none, fun _ => none⟩) rfl rfl hw hw.1 (Emb.rows h0 hw hfree) (args' := args) ⟨rfl, refl_of_freeL args hargs⟩).mono fun e w' h => by
      obtain ⟨ρ', v', e1, _, e2, e3⟩ := h
      exact ⟨ρ', v', e1, e2, e3⟩
/-- **The same, where no variable is wanted.** -/
theorem told_of0 {P : Program} {GR : List Blk} (hno : noOwn P) (hm : P.follows .mixedOrders = true) {K : Known} (hK : KnownOkR P GR K) {rounds k : Nat} {f : FuncId} {args : List Value} {m : FuncId → List Value → Mem → Option (Value × List Blk)} {d : FuncId → Bool} (hmm : MemoOk P GR m) (hd : ∀ f, d f = true → Harm P f)
    (hargs : addrFreeL args = true) (hlow : Nat.ble 8589934592 f = false) (hf : P.funcs[f]? ≠ none) {v : Value} {rows : List Blk} {n lit base : Nat}
    (h : packB 0 (callA P 0 K rounds k (memosD m d) f args Mem.empty) v rows n lit base = true) : Told P GR f args v rows := fun w hw =>
  pack_run (G := 0) h fun u H hr =>
    (call_okD hno hm hK hmm hd hr hlow (.inl hf) (c := ⟨P, w.heap.size, 0, 0, w, fun _ => none, fun _ => none, fun _ => none⟩) rfl rfl hw hw.1 (Emb.empty w) (args' := args) ⟨rfl, refl_of_freeL args hargs⟩).mono fun e w' h => by
      obtain ⟨ρ', v', e1, _, e2, e3⟩ := h
      exact ⟨ρ', v', e1, e2, e3⟩
abbrev Memo := FuncId → List Value → Mem → Option (Value × List Blk)
def toldM (f : FuncId) (args : List Value) (v : Value) (rows : List Blk) : Memo := fun g a _ => pick2 (Nat.beq g f) (pick2 (sameL (fun i => i) args a) (some (v, rows)) none) none
theorem told_memo {P : Program} {GR : List Blk} {f : FuncId} {args : List Value} {v : Value} {rows : List Blk} (h : Told P GR f args v rows) (hargs : addrFreeL args = true) : MemoOk P GR (toldM f args v rows) := by
  intro g a H v1 rows1 hq c hcP ρ w args' hr he hl
  unfold toldM at hq
  rw [pick2_eq, pick2_eq] at hq
  split at hq
  case isFalse => cases hq
  rename_i hg
  split at hq
  case isFalse => cases hq
  rename_i hs
  cases hq
  have := beqN hg
  subst this
  obtain ⟨q1, q2⟩ := sameL_rel (ρ := ρ) (ρ' := ρ) (fun i => rfl) args a hs
  have hl' : LR (VRel ρ) args args' := ⟨q1.trans hl.1, fun i x y hx hy => q2 (fun i => args'[i]?) hl.2 i x y hx hy⟩
  rw [hl'.eq_of_free hargs]
  exact h w hr
def orM (m m' : Memo) : Memo := fun f a H => Option.rec (motive := fun _ => Option (Value × List Blk)) (m' f a H) (fun r => some r) (m f a H)
theorem or_memo {P : Program} {GR : List Blk} {m m' : Memo} (h : MemoOk P GR m) (h' : MemoOk P GR m') : MemoOk P GR (orM m m') := by
  intro f a H v rows hq
  unfold orM at hq
  cases hm : m f a H with
  | none => rw [hm] at hq; exact h' f a H v rows hq
  | some r =>
    rw [hm] at hq
    have hq : some r = some (v, rows) := hq
    cases hq
    exact h f a H v rows hm
/-- Calls of one function that hold no rows, by a table. -/
def tabM (f : FuncId) (l : List (List Value × Value)) : Memo := fun g a _ => pick2 (Nat.beq g f)
  (List.rec (motive := fun _ => Option (Value × List Blk)) none (fun q _ ih => pick2 (sameL (fun i => i) q.1 a) (some (q.2, [])) ih) l) none
theorem tab_memo {P : Program} {GR : List Blk} (hno : noOwn P) (hm : P.follows .mixedOrders = true) {K : Known} (hK : KnownOkR P GR K) {rounds k : Nat} {f : FuncId} {m : Memo} {d : FuncId → Bool} (hmm : MemoOk P GR m) (hd : ∀ f, d f = true → Harm P f)
    (hlow : Nat.ble 8589934592 f = false) (hf : P.funcs[f]? ≠ none) (l : List (List Value × Value)) {base : Nat}
    (h : (List.rec (motive := fun _ => Bool) true (fun q _ ih => pick2 (addrFreeL q.1) (pick2 (packB 0 (callA P 0 K rounds k (memosD m d) f q.1 Mem.empty) q.2 [] 0 0 base) ih false) false) l) = true) : MemoOk P GR (tabM f l) := by
  have hall : ∀ q ∈ l, addrFreeL q.1 = true ∧ Told P GR f q.1 q.2 [] := by
    induction l with
    | nil => intro q hq; cases hq
    | cons q l ih =>
      simp only [] at h
      obtain ⟨h1, h2⟩ := p2 h
      obtain ⟨h2, h3⟩ := p2 h2
      intro q' hq'
      rcases List.mem_cons.1 hq' with rfl | hq'
      · exact ⟨h1, told_of0 hno hm hK hmm hd h1 hlow hf h2⟩
      · exact ih h3 q' hq'
  clear h
  intro g a H v1 rows1 hq
  unfold tabM at hq
  rw [pick2_eq] at hq
  split at hq
  case isFalse => cases hq
  rename_i hg
  induction l with
  | nil => cases hq
  | cons q l ih =>
    simp only [] at hq
    rw [pick2_eq] at hq
    split at hq
    · rename_i hs
      cases hq
      obtain ⟨h1, h2⟩ := hall q (List.mem_cons_self ..)
      refine told_memo h2 h1 g a H _ _ ?_
      unfold toldM
      rw [hg, hs]
    · exact ih (fun q' hq' => hall q' (List.mem_cons_of_mem _ hq')) hq
/-- Calls of one function, by a table: arguments, value, rows, the numbers that these had. -/
def tabR (f : FuncId) (l : List (List Value × Value × List Blk × Nat × Nat)) : Memo := fun g a _ => pick2 (Nat.beq g f)
  (List.rec (motive := fun _ => Option (Value × List Blk)) none (fun q _ ih => pick2 (sameL (fun i => i) q.1 a) (some (q.2.1, q.2.2.1)) ih) l) none
theorem tabR_memo {P : Program} {GR : List Blk} (hno : noOwn P) (hm : P.follows .mixedOrders = true) {K : Known} (hK : KnownOkR P GR K) {rounds k : Nat} {f : FuncId} {m : Memo} {d : FuncId → Bool} (hmm : MemoOk P GR m) (hd : ∀ f, d f = true → Harm P f)
    {H0 : Mem} (h0 : Mem.ofRows Mem.empty GR = some H0) (hfree : ∀ b ∈ GR, addrFreeL b.cells = true ∧ isMapB b = false)
    (hlow : Nat.ble 8589934592 f = false) (hf : P.funcs[f]? ≠ none) (l : List (List Value × Value × List Blk × Nat × Nat)) {base : Nat}
    (h : (List.rec (motive := fun _ => Bool) true (fun q _ ih => pick2 (addrFreeL q.1) (pick2 (packB GR.length (callA P GR.length K rounds k (memosD m d) f q.1 H0) q.2.1 q.2.2.1 q.2.2.2.1 q.2.2.2.2 base) ih false) false) l) = true) : MemoOk P GR (tabR f l) := by
  have hall : ∀ q ∈ l, addrFreeL q.1 = true ∧ Told P GR f q.1 q.2.1 q.2.2.1 := by
    induction l with
    | nil => intro q hq; cases hq
    | cons q l ih =>
      simp only [] at h
      obtain ⟨h1, h2⟩ := p2 h
      obtain ⟨h2, h3⟩ := p2 h2
      intro q' hq'
      rcases List.mem_cons.1 hq' with rfl | hq'
      · exact ⟨h1, told_of hno hm hK hmm hd h0 hfree h1 hlow hf h2⟩
      · exact ih h3 q' hq'
  clear h
  intro g a H v1 rows1 hq
  unfold tabR at hq
  rw [pick2_eq] at hq
  split at hq
  case isFalse => cases hq
  rename_i hg
  induction l with
  | nil => cases hq
  | cons q l ih =>
    simp only [] at hq
    rw [pick2_eq] at hq
    split at hq
    · rename_i hs
      cases hq
      obtain ⟨h1, h2⟩ := hall q (List.mem_cons_self ..)
      refine told_memo h2 h1 g a H _ _ ?_
      unfold toldM
      rw [hg, hs]
    · exact ih (fun q' hq' => hall q' (List.mem_cons_of_mem _ hq')) hq
/-! ### Told calls that look at rows -/
/-- Rows that are looked at, by numbers of one's own, against those given; a dead row may be any. -/
def viewRows (H : Mem) (σ : Nat → Nat) : Nat → Nat → List Blk → Bool
  | _, _, [] => true
  | i, lo, b :: l => pick2 (Nat.ble lo (σ i))
      (pick2 b.live
        (match H.get (σ i) with
          | some u => pick2 (Nat.beq b.elem u.elem) (pick2 u.live (pick2 (pick2 b.fix u.fix (pick2 u.fix false true)) (pick2 (sameL σ b.cells u.cells) (viewRows H σ (Nat.succ i) (Nat.succ (σ i)) l) false) false) false) false
          | none => false)
        (pick2 b.fix false (viewRows H σ (Nat.succ i) (Nat.succ (σ i)) l))) false
theorem viewRows_spec {H : Mem} {σ : Nat → Nat} : ∀ (l : List Blk) (i lo : Nat), viewRows H σ i lo l = true →
    ∀ (j : Nat) b, l[j]? = some b → lo ≤ σ (i + j) ∧ isMapB b = false ∧ (b.live = true → ∃ u, H.get (σ (i + j)) = some u ∧ b.elem = u.elem ∧ u.live = true ∧ b.fix = u.fix ∧ sameL σ b.cells u.cells = true) ∧ ∀ k, k < j → σ (i + k) < σ (i + j)
  | [], i, lo, _, j, b, hj => by simp at hj
  | c :: l, i, lo, h, j, b, hj => by
    simp only [viewRows] at h
    obtain ⟨h2, h3⟩ := p2 h
    have l2 := Nat.le_of_ble_eq_true h2
    have step : viewRows H σ (Nat.succ i) (Nat.succ (σ i)) l = true ∧ isMapB c = false ∧ (c.live = true → ∃ u, H.get (σ i) = some u ∧ c.elem = u.elem ∧ u.live = true ∧ c.fix = u.fix ∧ sameL σ c.cells u.cells = true) := by
      cases hc : c.live with
      | true =>
        rw [hc, pick2_true] at h3
        split at h3
        case h_2 => cases h3
        rename_i u hu
        obtain ⟨g1, h3⟩ := p2 h3
        obtain ⟨g3, h3⟩ := p2 h3
        obtain ⟨g4, h3⟩ := p2 h3
        obtain ⟨g5, h3⟩ := p2 h3
        refine ⟨h3, not_map hc, fun _ => ⟨u, hu, beqN g1, g3, ?_, g5⟩⟩
        cases hb : c.fix <;> cases hf : u.fix <;> simp [hb, hf, pick2] at g4 ⊢
      | false =>
        rw [hc, pick2_false] at h3
        cases hf : c.fix with
        | true => rw [hf] at h3; simp [pick2] at h3
        | false =>
          rw [hf, pick2_false] at h3
          exact ⟨h3, by unfold isMapB; rw [hc, hf], fun h => (by cases h)⟩
    obtain ⟨h3, hmb, hlv⟩ := step
    have ih := viewRows_spec l (Nat.succ i) (Nat.succ (σ i)) h3
    cases j with
    | zero =>
      simp only [List.getElem?_cons_zero, Option.some.injEq] at hj
      subst hj
      exact ⟨l2, hmb, hlv, fun k hk => absurd hk (Nat.not_lt_zero _)⟩
    | succ j =>
      obtain ⟨q2, q3, q4, q5⟩ := ih j b (by simpa using hj)
      have e : Nat.succ i + j = i + (j + 1) := by omega
      rw [e] at q2 q4 q5
      refine ⟨by omega, q3, q4, fun k hk => ?_⟩
      cases k with
      | zero => exact Nat.lt_of_succ_le q2
      | succ k =>
        have := q5 k (by omega)
        have e2 : Nat.succ i + k = i + (k + 1) := by omega
        rw [e2] at this; exact this
omit [TokE] in
/-- What a call comes to that looks at rows, by their pattern. -/
def ToldV [TokR] (P : Program) (GR : List Blk) (f : FuncId) (pa : List Value) (views : List Blk) (v : Value) (rows : List Blk) : Prop :=
  ∀ (c : Cx), c.P = P → ∀ (ρ : Ren) (w : World) (H : Mem) (a args' : List Value) (τ : Nat → Nat), RowsAt GR w → Emb c ρ H w → viewRows H τ 0 0 views = true → (∀ i, views.length ≤ i → ρ (τ i) = none) → sameL τ pa a = true → LR (VRel ρ) a args' →
    Calls P f args'.toArray w fun e w' => ∃ ρ v' M, e = .returned v' ∧ VRel ρ v v' ∧ M.size = rows.length ∧ (∀ i b, rows[i]? = some b → (b.live = true ∨ isMapB b = true) → M.get i = some b) ∧
      Emb ⟨P, w.heap.size, 0, 0, w, fun _ => none, fun _ => none, fun _ => none⟩ ρ M w'
/-- Rows that are looked at alone. -/
theorem Emb.view {c : Cx} {ρ : Ren} {H H0 : Mem} {w : World} (he : Emb c ρ H w) {τ : Nat → Nat} {views : List Blk} (h0 : Mem.ofRows Mem.empty views = some H0) (h : viewRows H τ 0 0 views = true) (hout : ∀ i, views.length ≤ i → ρ (τ i) = none) :
    ∃ ρ0 : Ren, (∀ i, ρ0 i = ρ (τ i)) ∧ Emb ⟨c.P, w.heap.size, views.length, 0, w, fun _ => none, fun _ => none, fun _ => none⟩ ρ0 H0 w := by
  obtain ⟨e1, e2, e3⟩ := ofRows_spec views h0
  have es : H0.size = views.length := by rw [e1]; simp [Mem.empty]
  have eg : ∀ i, H0.get i = views[i]? := fun i => by rw [e3, if_neg (by simp [Mem.empty])]; simp [Mem.empty]
  have sp := viewRows_spec views 0 0 h
  simp only [Nat.zero_add] at sp
  have one : ∀ i b, H0.get i = some b → views[i]? = some b ∧ i < views.length := fun i b hb => by
    rw [eg] at hb
    exact ⟨hb, (List.getElem?_eq_some_iff.1 hb).1⟩
  refine ⟨fun i => ρ (τ i), fun i => rfl, ⟨⟨Below.refl _ _, fun r o h => (by cases h), fun r o h => (by cases h)⟩, Nat.le_refl _, fun i x hx => ?_, by rw [e2, es]; exact Nat.le_refl _, by rw [es]; exact Nat.le_refl _, fun g hg => absurd hg (Nat.not_lt_zero _), fun i b hi hl => ?_, fun i j bi bj r x y hi hli hj hlj hr hr' => ?_, fun i b hi hm => ?_, fun i j bi bj r x y hi hm => ?_, fun i x hx => (by cases hx)⟩⟩
  · rw [es]
    by_cases hi : i < views.length
    · exact hi
    · rw [hout i (by omega)] at hx; cases hx
  · obtain ⟨hb, hlt⟩ := one i b hi
    obtain ⟨s2, s3, sl, s9⟩ := sp i b hb
    obtain ⟨u, s4, s5, s6, s7, s8⟩ := sl hl
    obtain ⟨r, x, C, fr, s, k1, k2, k3, k4, ⟨k5, k5'⟩, ⟨e, k6, k6'⟩, k7, k8⟩ := he.blk _ u s4 s6
    obtain ⟨t1, t2⟩ := sameL_rel (ρ := ρ) (ρ' := fun i => ρ (τ i)) (σ := τ) (fun _ => rfl) _ _ s8
    refine ⟨r, x, C, fr, s, k1, .inl ⟨hlt, rfl⟩, by rw [s5]; exact k3, .inl hlt, ⟨.inl hlt, fun hf => k5' (by rw [← s7]; exact hf)⟩, ⟨e, by rw [t1]; exact k6, fun hf => k6' (by rw [← s7]; exact hf)⟩, ⟨by rw [t1]; exact k7.1, fun j v hv hj => ?_⟩, .inl hlt⟩
    obtain ⟨v2, g1, g2⟩ := sameL_get _ _ s8 j v hv
    obtain ⟨v', g3, g4⟩ := k7.2 j v2 g1 (sameV_junk g2)
    exact ⟨v', g3, sameV_rel (ρ := ρ) (ρ' := fun i => ρ (τ i)) (σ := τ) (fun _ => rfl) _ _ g2 _ g4⟩
  · obtain ⟨hb, hlt⟩ := one i bi hi
    obtain ⟨hb', hlt'⟩ := one j bj hj
    obtain ⟨s2, s3, sl, s9⟩ := sp i bi hb
    obtain ⟨s2', s3', sl', s9'⟩ := sp j bj hb'
    obtain ⟨u, s4, s5, s6, s7, s8⟩ := sl hli
    obtain ⟨u', s4', s5', s6', s7', s8'⟩ := sl' hlj
    have := he.inj _ _ _ _ _ _ _ s4 s6 s4' s6' hr hr'
    rcases Nat.lt_trichotomy i j with q | q | q
    · have := s9' i q; omega
    · exact q
    · have := s9 j q; omega
  · obtain ⟨hb, hlt⟩ := one i b hi
    rw [(sp i b hb).2.1] at hm; cases hm
  · obtain ⟨hb, hlt⟩ := one i bi hi
    rw [(sp i bi hb).2.1] at hm; cases hm
/-- **A told call that looks at rows, by a run of its own.** -/
theorem toldV_of {P : Program} {GR : List Blk} (hno : noOwn P) (hm : P.follows .mixedOrders = true) {K : Known} (hK : KnownOkR P GR K) {rounds k : Nat} {f : FuncId} {pa : List Value} {views : List Blk} {m : FuncId → List Value → Mem → Option (Value × List Blk)} {d : FuncId → Bool} (hmm : MemoOk P GR m) (hd : ∀ f, d f = true → Harm P f)
    {H0 : Mem} (h0 : Mem.ofRows Mem.empty views = some H0) (hlow : Nat.ble 8589934592 f = false) (hf : P.funcs[f]? ≠ none) {v : Value} {rows : List Blk} {n lit base : Nat}
    (h : packB views.length (callA P 0 K rounds k (memosD m d) f pa H0) v rows n lit base = true) : ToldV P GR f pa views v rows := by
  intro c hcP ρ w H a args' τ hw he hr hout hs hl
  subst hcP
  obtain ⟨ρ0, q1, q2⟩ := he.view h0 hr hout
  obtain ⟨t1, t2⟩ := sameL_rel (ρ := ρ) (ρ' := ρ0) q1 _ _ hs
  have hl' : LR (VRel ρ0) pa args' := ⟨t1.trans hl.1, fun i x y hx hy => t2 (fun i => args'[i]?) hl.2 i x y hx hy⟩
  refine pack_run (G := 0) h fun u H1 hr =>
    (call_okD hno hm hK hmm hd hr hlow (.inl hf) (c := ⟨c.P, w.heap.size, views.length, 0, w, fun _ => none, fun _ => none, fun _ => none⟩) rfl rfl hw hw.1 q2 hl').mono fun e w' h => by
      obtain ⟨ρ', v', e1, _, e2, e3⟩ := h
      exact ⟨ρ', v', e1, e2, e3⟩
mutual
/-- The rows that a value names, in order. -/
def refsV : Value → List Nat → List Nat
  | .slice (some ⟨i, _, none⟩) _ _ => fun t => i :: t
  | .agg a => fun t => refsA' a t
  | _ => fun t => t
termination_by structural v => v
def refsA' : Array Value → List Nat → List Nat
  | ⟨l⟩ => fun t => refsL l t
termination_by structural v => v
def refsL : List Value → List Nat → List Nat
  | [] => fun t => t
  | v :: l => fun t => refsV v (refsL l t)
termination_by structural v => v
end
def nthN (l : List Nat) : Nat → Nat := List.rec (motive := fun _ => Nat → Nat) (fun _ => 0) (fun x _ go i => pick2 (Nat.beq i 0) x (go (Nat.sub i 1))) l
def viewS (k base : Nat) (l : List Nat) (i : Nat) : Nat := pick2 (Nat.ble (Nat.succ i) k) (nthN l i) (Nat.add base i)
def viewM (f : FuncId) (pa : List Value) (views : List Blk) (v : Value) (rows : List Blk) : Memo := fun g a H =>
  pick2 (Nat.beq g f) ((fun τ => pick2 (sameL τ pa a) (pick2 (viewRows H τ 0 0 views) (some (v, rows)) none) none) (viewS views.length H.size (refsL a []))) none
theorem view_memo {P : Program} {GR : List Blk} {f : FuncId} {pa : List Value} {views : List Blk} {v : Value} {rows : List Blk} (h : ToldV P GR f pa views v rows) : MemoOk P GR (viewM f pa views v rows) := by
  intro g a H v1 rows1 hq c hcP ρ w args' hr he hl
  unfold viewM at hq
  rw [pick2_eq] at hq
  split at hq
  case isFalse => cases hq
  rename_i hg
  simp only [] at hq
  rw [pick2_eq, pick2_eq] at hq
  split at hq
  case isFalse => cases hq
  rename_i hs
  split at hq
  case isFalse => cases hq
  rename_i hv
  cases hq
  have := beqN hg
  subst this
  refine h c hcP ρ w H a args' _ hr he hv (fun i hi => ?_) hs hl
  unfold viewS
  rw [pick2_eq, if_neg (by rw [Bool.not_eq_true, ble_succ]; simp; omega)]
  exact he.unused (Nat.le_add_right _ _)
/-- Calls of one function that look at rows and hold none, by a table: patterns, rows, values. -/
def tabV (f : FuncId) (l : List (List Value × List Blk × Value)) : Memo := fun g a H => pick2 (Nat.beq g f)
  ((fun refs => List.rec (motive := fun _ => Option (Value × List Blk)) none (fun q _ ih => (fun τ => pick2 (sameL τ q.1 a) (pick2 (viewRows H τ 0 0 q.2.1) (some (q.2.2, [])) ih) ih) (viewS q.2.1.length H.size refs)) l) (refsL a [])) none
theorem tabV_memo {P : Program} {GR : List Blk} (hno : noOwn P) (hm : P.follows .mixedOrders = true) {K : Known} (hK : KnownOkR P GR K) {rounds k : Nat} {f : FuncId} {m : Memo} {d : FuncId → Bool} (hmm : MemoOk P GR m) (hd : ∀ f, d f = true → Harm P f)
    (hlow : Nat.ble 8589934592 f = false) (hf : P.funcs[f]? ≠ none) (l : List (List Value × List Blk × Value)) {base : Nat}
    (h : (List.rec (motive := fun _ => Bool) true (fun q _ ih => pick2 (Option.rec (motive := fun _ => Bool) false (fun H0 => packB q.2.1.length (callA P 0 K rounds k (memosD m d) f q.1 H0) q.2.2 [] 0 0 base) (Mem.ofRows Mem.empty q.2.1)) ih false) l) = true) : MemoOk P GR (tabV f l) := by
  have hall : ∀ q ∈ l, ToldV P GR f q.1 q.2.1 q.2.2 [] := by
    induction l with
    | nil => intro q hq; cases hq
    | cons q l ih =>
      simp only [] at h
      obtain ⟨h1, h2⟩ := p2 h
      intro q' hq'
      rcases List.mem_cons.1 hq' with rfl | hq'
      · cases h0 : Mem.ofRows Mem.empty q'.2.1 with
        | none => rw [h0] at h1; cases h1
        | some H0 =>
          rw [h0] at h1
          exact toldV_of hno hm hK hmm hd h0 hlow hf h1
      · exact ih h2 q' hq'
  clear h
  intro g a H v1 rows1 hq
  unfold tabV at hq
  rw [pick2_eq] at hq
  split at hq
  case isFalse => cases hq
  rename_i hg
  simp only [] at hq
  induction l with
  | nil => cases hq
  | cons q l ih =>
    simp only [] at hq
    rw [pick2_eq, pick2_eq] at hq
    split at hq
    · rename_i hs
      split at hq
      · rename_i hv
        cases hq
        refine view_memo (hall q (List.mem_cons_self ..)) g a H _ _ ?_
        unfold viewM
        rw [hg]
        simp only [pick2_true, hs, hv]
      · exact ih (fun q' hq' => hall q' (List.mem_cons_of_mem _ hq')) hq
    · exact ih (fun q' hq' => hall q' (List.mem_cons_of_mem _ hq')) hq
end
end Go.Ev
