/- What the layer answers the machine's call answers. -/
import Derived.Test.YtcafcgiemdlobaaDoorTvP
import Derived.Test.YtcafcgiemdlobaaDoorEvY
namespace Go.Tv
open Go.Ev (Tr pick2 Leave Mem Blk alive pick2_eq alive_some opA Fr VRel Ren)
open Go.RowKit

theorem one_inv {S : Wo} {vs : List AV} {x : Value} (h : VR S (oneT vs) x) : ∃ xs, x = Ev.oneA xs ∧ LV S vs xs := by
  match vs, h with
  | [], h =>
    have h : VR S (.tup []) x := h
    cases h with
    | tup _ m hl hv =>
      have : m = [] := List.length_eq_zero_iff.1 hl.symm
      subst this
      exact ⟨[], rfl, LV.nil⟩
  | [v], h => exact ⟨[x], rfl, LV.cons h LV.nil⟩
  | v :: w :: vs, h =>
    have h : VR S (.tup (v :: w :: vs)) x := h
    cases h with
    | tup _ m hl hv =>
      match m, hl, hv with
      | a :: b :: m, hl, hv => exact ⟨a :: b :: m, rfl, ⟨hl, hv⟩⟩

/-- Every row of the machine's is its own. -/
def idR (n : Nat) : Ren := fun i => if i < n then some (i, 0) else none

open Classical in
/-- A block, as a given row: what cannot be told is left open. -/
noncomputable def blkOf (w : World) (i : Nat) : Blk :=
  match w.heap[i]? with
  | some (.cells C t _) => ⟨C.toList.map fun v => if VRel (idR w.heap.size) v v then v else .chan none, t, true, false⟩
  | _ => ⟨[], 0, false, false⟩

theorem ofRows_total : ∀ (l : List Blk) (H : Mem), ∃ H', H.ofRows l = some H'
  | [], H => ⟨_, rfl⟩
  | b :: l, H => by
    obtain ⟨H1, h1⟩ := Mem.push_total H b
    obtain ⟨H2, h2⟩ := ofRows_total l H1
    exact ⟨H2, by simp only [Ev.Mem.ofRows, h1, h2]⟩

noncomputable def snap (w : World) : Mem := (Mem.ofRows Mem.empty ((List.range w.heap.size).map (blkOf w))).getD Mem.empty

theorem snap_spec (w : World) : (snap w).size = w.heap.size ∧ (snap w).lk = w.heap.size ∧ ∀ i, (snap w).get i = if i < w.heap.size then some (blkOf w i) else none := by
  obtain ⟨H', h⟩ := ofRows_total ((List.range w.heap.size).map (blkOf w)) Mem.empty
  obtain ⟨h1, h2, h3⟩ := Ev.ofRows_spec _ h
  have e : snap w = H' := by unfold snap; rw [h]; rfl
  rw [e]
  have hs : H'.size = w.heap.size := by rw [h1]; simp [Mem.empty]
  refine ⟨hs, by rw [h2, hs], fun i => ?_⟩
  rw [h3, if_neg (by simp [Mem.empty])]
  simp only [Mem.empty, Nat.sub_zero]
  by_cases hi : i < w.heap.size
  · rw [if_pos hi]; simp [hi]
  · rw [if_neg hi]; simp; omega

theorem snap_emb (P : Program) (w : World) (G : Nat) (hG : G ≤ w.heap.size) : Ev.Emb ⟨P, w.heap.size, w.heap.size, G, w⟩ (idR w.heap.size) (snap w) w := by
  obtain ⟨s1, s2, s3⟩ := snap_spec w
  refine ⟨Below.refl _ _, Nat.le_refl _, fun i x h => ?_, by rw [s2]; exact Nat.le_refl _, by rw [s1]; exact Nat.le_refl _, fun g hg => if_pos (Nat.lt_of_lt_of_le hg hG), fun i b hi hl => ?_, fun i j bi bj r x y hi _ hj _ hr hr' => ?_⟩
  · rw [s1]
    unfold idR at h
    split at h
    · assumption
    · cases h
  · rw [s3] at hi
    split at hi
    · rename_i hlt
      cases hi
      unfold blkOf at hl ⊢
      split at hl
      · rename_i C t fr hC
        refine ⟨i, 0, C, fr, 0, if_pos hlt, .inl hlt, hC, .inl hlt, ⟨.inl hlt, fun _ => rfl⟩, by simp, by simp, fun j v hv hj => ?_⟩
        simp only [List.getElem?_map, Option.map_eq_some_iff] at hv
        obtain ⟨u, hu, rfl⟩ := hv
        split at hj
        · rename_i hself
          rw [if_pos hself]
          exact ⟨u, by simpa using hu, hself⟩
        · cases hj
      · cases hl
    · cases hi
  · unfold idR at hr hr'
    split at hr
    · split at hr'
      · cases hr; cases hr'; rfl
      · cases hr'
    · cases hr

/-- What stays: the whole memory, when the call begins. -/
noncomputable def woOf (w : World) : Wo := ⟨allF (snap w), fun _ => none, fun _ _ => none⟩

theorem woOf_rel (w : World) : Rel (woOf w) TMem.empty (snap w) := rel_empty _ _ (fun i cs hi => by
  have hi : (alive (snap w) i).map (·.cells) = some cs := hi
  simp only [Option.map_eq_some_iff] at hi
  obtain ⟨b, h1, h2⟩ := hi; exact ⟨b, h1, h2⟩) (by obtain ⟨s1, s2, _⟩ := snap_spec w; omega)

/-- Arguments: scalars, and lists. -/
def argB : AV → Bool
  | .lst _ _ => true
  | v => scalB v

theorem arg_self {w : World} {a : AV} {x : Value} (ha : argB a = true) (h : VR (woOf w) a x) : VRel (idR w.heap.size) x x := by
  have one : ∀ (v : AV) (y : Value), (match v with | .int _ _ => true | .bool _ => true | .str _ => true | .flt _ => true | .nils => true | .nilp => true | _ => false) = true → VR (woOf w) v y → VRel (idR w.heap.size) y y := by
    intro v y hv h
    cases h <;> first | (cases hv; done) | constructor
  cases h with
  | lst e l v hS =>
    rcases hS with ⟨_, rfl⟩ | ⟨i, pre, mid, post, cap, rfl, hF, _⟩
    · exact .sliceNil _ _
    · have hF : (alive (snap w) i).map (·.cells) = some (pre ++ (mid ++ post)) := hF
      have hi : i < w.heap.size := by
        cases ha : alive (snap w) i with
        | none => rw [ha] at hF; cases hF
        | some b => have := alive_lt ha; rw [(snap_spec w).1] at this; exact this
      exact .slice i _ _ _ i 0 (if_pos hi)
  | agg l m hl hm =>
    refine .agg _ _ rfl fun j a b h1 h2 => ?_
    rw [h1] at h2; cases h2
    have hlt : j < m.length := by have := (Array.getElem?_eq_some_iff.1 h1).1; simpa using this
    have hj : m[j]? = some a := by simpa using h1
    have hlj : j < l.length := by omega
    have := List.all_eq_true.1 ha l[j] (List.getElem_mem hlj)
    exact one l[j] a this (hm j l[j] a (List.getElem?_eq_getElem hlj) hj)
  | int => exact .int _ _
  | bool => exact .bool _
  | str => exact .string _
  | flt => exact .float _ _
  | nils => exact .sliceNil _ _
  | nilp => exact .ptrNil
  | _ => cases ha

/-- **WHAT THE LAYER ANSWERS THE MACHINE'S CALL ANSWERS.** -/
theorem top_ok {X : Cfg} (hno : Ev.noOwn X.P) (hm : X.P.follows .mixedOrders = true) {kn : Ev.Known} (hK : Ev.KnownOk X.P kn) {f : FuncId} {args : List AV} {v : AV} {vE : Value} (hv : ∀ S x, VR S v x → x = vE) (hfree : Ev.addrFree vE = true)
    (h : ∀ (S : Wo) (E : Mem) (argsE : List Value), Rel S TMem.empty E → GlobOk X S → LV S args argsE → ∃ S' vE E', (∃ N, ∀ n : Nat × Nat, N ≤ n.1 ∧ N ≤ n.2 → cfOf X kn n f argsE E = some (vE, E')) ∧ VR S' v vE)
    {w : World} (hG : X.G ≤ w.heap.size) (hg : GlobOk X (woOf w)) {args' : List Value} (hargs : LV (woOf w) args args') (hb : args.all argB = true) :
    Calls X.P f args'.toArray w fun e w' => e = .returned vE ∧ Below w.heap.size w w' := by
  obtain ⟨S', vE', E', ⟨N, h1⟩, h2⟩ := h (woOf w) (snap w) args' (woOf_rel w) hg hargs
  have hvE := hv S' vE' h2
  subst hvE
  have hc := h1 (N, N) ⟨Nat.le_refl _, Nat.le_refl _⟩
  have hself : Ev.LR (VRel (idR w.heap.size)) args' args' := ⟨rfl, fun j x y hx hy => by
    rw [hx] at hy; cases hy
    have hlt : j < args.length := by rw [hargs.1]; exact get_lt hx
    exact arg_self (List.all_eq_true.1 hb _ (List.getElem_mem hlt)) (hargs.2 j _ x (List.getElem?_eq_getElem hlt) hx)⟩
  refine (Ev.call_ok hno hm hK hc (c := ⟨X.P, w.heap.size, w.heap.size, X.G, w⟩) rfl rfl (snap_emb X.P w X.G hG) hself).mono ?_
  rintro e w' ⟨ρ', v', rfl, k1, k2, k3⟩
  exact ⟨by rw [Ev.eq_of_free k2 hfree], k3.below⟩

end Go.Tv
