/- What the layer answers the machine's call answers. Calls by contracts, or by the callee's own text. Contracts that are shown by runs alone: what a run leaves, told by a reckoning. Package-level variables that read as given data, for the symbolic layer. Loops over what is known by terms alone: a loop of a function's code as a function of its rounds and of the slots that are kept at its head. Numbers, bytes and lists: lemmas for what runs of the symbolic layer come to. Slices that came in, as lists. Slices of plain data that came in, as lists. A function from a place of its code on; notes at several places; contracts of two results that are known already. -/
import Derived.Test.YtfggompceldfgaaGreatDoorLyf
import Derived.Test.YtfggompceldfgaaGreatDoorLyc
import Derived.Deep.Slices
import Derived.WideShapes

namespace Go.Tv
open Go.Ev (Tr pick2 Leave Mem Blk alive pick2_eq alive_some opA Fr VRel Ren)
open Go.RowKit

theorem one_inv {S : Wo} {vs : List AV} {x : Value} (h : VR S (oneT vs) x) : ∃ xs, x = Ev.oneA xs ∧ LV S vs xs := by
  match vs, h with
  | [], h =>
    have h : VR S (.tup []) x := h
    cases h with
    | tup _ m hl hv =>
      have : m = [] := List.length_eq_zero_iff.1 hl.symm
      subst this
      exact ⟨[], rfl, LV.nil⟩
  | [v], h => exact ⟨[x], rfl, LV.cons h LV.nil⟩
  | v :: w :: vs, h =>
    have h : VR S (.tup (v :: w :: vs)) x := h
    cases h with
    | tup _ m hl hv =>
      match m, hl, hv with
      | a :: b :: m, hl, hv => exact ⟨a :: b :: m, rfl, ⟨hl, hv⟩⟩

/-- Every row of the machine's is its own. -/
def idR (n : Nat) : Ren := fun i => if i < n then some (i, 0) else none

open Classical in
/-- A block, as a given row: what cannot be told is left open. -/
noncomputable def blkOf (w : World) (i : Nat) : Blk :=
  match w.heap[i]? with
  | some (.cells C t _) => ⟨C.toList.map fun v => if VRel (idR w.heap.size) v v then v else .chan none, t, true, false⟩
  | _ => ⟨[], 0, false, false⟩

theorem ofRows_total : ∀ (l : List Blk) (H : Mem), ∃ H', H.ofRows l = some H'
  | [], H => ⟨_, rfl⟩
  | b :: l, H => by
    obtain ⟨H1, h1⟩ := Mem.push_total H b
    obtain ⟨H2, h2⟩ := ofRows_total l H1
    exact ⟨H2, by simp only [Ev.Mem.ofRows, h1, h2]⟩

noncomputable def snap (w : World) : Mem := (Mem.ofRows Mem.empty ((List.range w.heap.size).map (blkOf w))).getD Mem.empty

theorem snap_spec (w : World) : (snap w).size = w.heap.size ∧ (snap w).lk = w.heap.size ∧ ∀ i, (snap w).get i = if i < w.heap.size then some (blkOf w i) else none := by
  obtain ⟨H', h⟩ := ofRows_total ((List.range w.heap.size).map (blkOf w)) Mem.empty
  obtain ⟨h1, h2, h3⟩ := Ev.ofRows_spec _ h
  have e : snap w = H' := by unfold snap; rw [h]; rfl
  rw [e]
  have hs : H'.size = w.heap.size := by rw [h1]; simp [Mem.empty]
  refine ⟨hs, by rw [h2, hs], fun i => ?_⟩
  rw [h3, if_neg (by simp [Mem.empty])]
  simp only [Mem.empty, Nat.sub_zero]
  by_cases hi : i < w.heap.size
  · rw [if_pos hi]; simp [hi]
  · rw [if_neg hi]; simp; omega

theorem snap_emb (P : Program) (w : World) (G : Nat) (hG : G ≤ w.heap.size) : Ev.Emb ⟨P, w.heap.size, w.heap.size, G, w, fun _ => none⟩ (idR w.heap.size) (snap w) w := by
  obtain ⟨s1, s2, s3⟩ := snap_spec w
  have noMap : ∀ {i : Nat} {b : Ev.Blk}, (snap w).get i = some b → Ev.isMapB b = false := by
    intro i b hi
    rw [s3] at hi
    split at hi
    · cases hi
      unfold blkOf
      split <;> rfl
    · cases hi
  refine ⟨⟨Below.refl _ _, fun r o h => by cases h⟩, Nat.le_refl _, fun i x h => ?_, by rw [s2]; exact Nat.le_refl _, by rw [s1]; exact Nat.le_refl _, fun g hg => if_pos (Nat.lt_of_lt_of_le hg hG), fun i b hi hl => ?_, fun i j bi bj r x y hi _ hj _ hr hr' => ?_, fun i b hi hm => (by rw [noMap hi] at hm; cases hm), fun i j bi bj r x y hi hm => (by rw [noMap hi] at hm; cases hm)⟩
  · rw [s1]
    unfold idR at h
    split at h
    · assumption
    · cases h
  · rw [s3] at hi
    split at hi
    · rename_i hlt
      cases hi
      unfold blkOf at hl ⊢
      split at hl
      · rename_i C t fr hC
        refine ⟨i, 0, C, fr, 0, if_pos hlt, .inl ⟨hlt, rfl⟩, hC, .inl hlt, ⟨.inl hlt, fun _ => rfl⟩, by simp, ⟨by simp, fun j v hv hj => ?_⟩, .inl hlt⟩
        simp only [List.getElem?_map, Option.map_eq_some_iff] at hv
        obtain ⟨u, hu, rfl⟩ := hv
        split at hj
        · rename_i hself
          rw [if_pos hself]
          exact ⟨u, by simpa using hu, hself⟩
        · cases hj
      · cases hl
    · cases hi
  · unfold idR at hr hr'
    split at hr
    · split at hr'
      · cases hr; cases hr'; rfl
      · cases hr'
    · cases hr

/-- What stays: the whole memory, when the call begins. -/
noncomputable def woOf (w : World) : Wo := ⟨allF (snap w), fun _ => none, fun _ _ => none⟩

theorem woOf_rel (w : World) : Rel (woOf w) TMem.empty (snap w) := rel_empty _ _ (fun i cs hi => by
  have hi : (alive (snap w) i).map (·.cells) = some cs := hi
  simp only [Option.map_eq_some_iff] at hi
  obtain ⟨b, h1, h2⟩ := hi; exact ⟨b, h1, h2⟩) (by obtain ⟨s1, s2, _⟩ := snap_spec w; omega)

/-- Arguments: scalars, and lists. -/
def argB : AV → Bool
  | .lst _ _ => true
  | v => scalB v

theorem arg_self {w : World} {a : AV} {x : Value} (ha : argB a = true) (h : VR (woOf w) a x) : VRel (idR w.heap.size) x x := by
  have one : ∀ (v : AV) (y : Value), (match v with | .int _ _ => true | .bool _ => true | .str _ => true | .flt _ => true | .nils => true | .nilp => true | _ => false) = true → VR (woOf w) v y → VRel (idR w.heap.size) y y := by
    intro v y hv h
    cases h <;> first | (cases hv; done) | constructor
  cases h with
  | lst e l v hS =>
    rcases hS with ⟨_, rfl⟩ | ⟨i, pre, mid, post, cap, rfl, hF, _⟩
    · exact .sliceNil _ _
    · have hF : (alive (snap w) i).map (·.cells) = some (pre ++ (mid ++ post)) := hF
      have hi : i < w.heap.size := by
        cases ha : alive (snap w) i with
        | none => rw [ha] at hF; cases hF
        | some b => have := alive_lt ha; rw [(snap_spec w).1] at this; exact this
      exact .slice i _ _ _ i 0 (if_pos hi)
  | agg l m hl hm =>
    refine .agg _ _ rfl fun j a b h1 h2 => ?_
    rw [h1] at h2; cases h2
    have hlt : j < m.length := by have := (Array.getElem?_eq_some_iff.1 h1).1; simpa using this
    have hj : m[j]? = some a := by simpa using h1
    have hlj : j < l.length := by omega
    have := List.all_eq_true.1 ha l[j] (List.getElem_mem hlj)
    exact one l[j] a this (hm j l[j] a (List.getElem?_eq_getElem hlj) hj)
  | int => exact .int _ _
  | bool => exact .bool _
  | str => exact .string _
  | flt => exact .float _ _
  | nils => exact .sliceNil _ _
  | nilp => exact .ptrNil
  | _ => cases ha

/-- **WHAT THE LAYER ANSWERS THE MACHINE'S CALL ANSWERS.** -/
theorem top_okR {X : Cfg} (hno : Ev.noOwn X.P) (hm : X.P.follows .mixedOrders = true) {kn : Ev.Known} {GR : List Ev.Blk} (hK : Ev.KnownOkR X.P GR kn) {f : FuncId} {args : List AV} {v : AV} {vE : Value} (hv : ∀ S x, VR S v x → x = vE) (hfree : Ev.addrFree vE = true)
    (h : ∀ (S : Wo) (E : Mem) (argsE : List Value), Rel S TMem.empty E → GlobOk X S → LV S args argsE → ∃ S' vE E', (∃ N, ∀ n : Nat × Nat, N ≤ n.1 ∧ N ≤ n.2 → cfOf X kn n f argsE E = some (vE, E')) ∧ VR S' v vE)
    {w : World} (hRow : Ev.RowsAt GR w) (hG : X.G ≤ w.heap.size) (hg : GlobOk X (woOf w)) {args' : List Value} (hargs : LV (woOf w) args args') (hb : args.all argB = true) :
    Calls X.P f args'.toArray w fun e w' => e = .returned vE ∧ Below w.heap.size w w' := by
  obtain ⟨S', vE', E', ⟨N, h1⟩, h2⟩ := h (woOf w) (snap w) args' (woOf_rel w) hg hargs
  have hvE := hv S' vE' h2
  subst hvE
  have hc := h1 (N, N) ⟨Nat.le_refl _, Nat.le_refl _⟩
  have hself : Ev.LR (VRel (idR w.heap.size)) args' args' := ⟨rfl, fun j x y hx hy => by
    rw [hx] at hy; cases hy
    have hlt : j < args.length := by rw [hargs.1]; exact get_lt hx
    exact arg_self (List.all_eq_true.1 hb _ (List.getElem_mem hlt)) (hargs.2 j _ x (List.getElem?_eq_getElem hlt) hx)⟩
  refine (Ev.call_ok hno hm hK hc (.inr (by first | assumption | exact hfree)) (c := ⟨X.P, w.heap.size, w.heap.size, X.G, w, fun _ => none⟩) rfl ⟨rfl, hRow, hRow.1⟩ (snap_emb X.P w X.G hG) hself).mono ?_
  rintro e w' ⟨ρ', v', rfl, k1, k2, k3⟩
  exact ⟨by rw [Ev.eq_of_free k2 hfree], k3.below⟩

theorem top_ok {X : Cfg} (hno : Ev.noOwn X.P) (hm : X.P.follows .mixedOrders = true) {kn : Ev.Known} (hK : Ev.KnownOk X.P kn) {f : FuncId} {args : List AV} {v : AV} {vE : Value} (hv : ∀ S x, VR S v x → x = vE) (hfree : Ev.addrFree vE = true)
    (h : ∀ (S : Wo) (E : Mem) (argsE : List Value), Rel S TMem.empty E → GlobOk X S → LV S args argsE → ∃ S' vE E', (∃ N, ∀ n : Nat × Nat, N ≤ n.1 ∧ N ≤ n.2 → cfOf X kn n f argsE E = some (vE, E')) ∧ VR S' v vE)
    {w : World} (hG : X.G ≤ w.heap.size) (hg : GlobOk X (woOf w)) {args' : List Value} (hargs : LV (woOf w) args args') (hb : args.all argB = true) :
    Calls X.P f args'.toArray w fun e w' => e = .returned vE ∧ Below w.heap.size w w' :=
  top_okR hno hm hK hv hfree h (Ev.RowsAt.nil w) hG hg hargs hb

end Go.Tv

namespace Go.Tv
open Go.Ev (Tr pick2 Leave Mem Blk alive pick2_eq alive_some opA Fr)
noncomputable section

def normArg (H : TMem) : Option Ty → AV → Option AV
  | some e, a => match a with
    | .str _ => none
    | a => match viewL H e a with
      | some l => some (.lst e l)
      | none => none
  | none, a => pick2 (scalF a) (some a) none

def normArgs (H : TMem) : List (Option Ty) → List AV → Option (List AV)
  | [], [] => some []
  | s :: sig, a :: args => match normArg H s a with
    | some b => match normArgs H sig args with
      | some l => some (b :: l)
      | none => none
    | none => none
  | _, _ => none

/-- A call by a contract: which arguments are lists, under which condition, and what comes of them. -/
def conCall {β : Type} (sig : List (Option Ty)) (g : List AV → Option (Bool × List PRes)) (args : List AV) (H : TMem) (k : AV → TMem → Option β) : Option β :=
  match normArgs H sig args with
  | some args' => match g args' with
    | some (c, rs) => pick2 c (k (oneT (resOf rs H).1) (resOf rs H).2) none
    | none => none
  | none => none

def ConOk (X : Cfg) (cf : Nat × Nat → Ev.CallF) (f : FuncId) (g : List AV → Option (Bool × List PRes)) : Prop :=
  ∀ args' rs, g args' = some (true, rs) → ∃ vs H1, PureAt X cf f args' vs H1 ∧ resAt H1 [] vs rs

abbrev KT2 := FuncId → Option (List (Option Ty) × (List AV → Option (Bool × List PRes)))

/-- A slice of bytes that is written over by a function that does nothing else: it is not read any more. -/
def killT {β : Type} (X : Cfg) (args : List AV) (H : TMem) (k : AV → TMem → Option β) : Option β :=
  match args with
  | [.nils] => k (.tup []) H
  | [.own i _] => match H.get i with
    | some (.list t (.int .u8) l _ _ false) => pick2 (H.mayB i && Ev.u8Type X.P t && Nat.ble 1 l.length) (k (.tup []) (H.put i .dead)) none
    | _ => none
  | _ => none

def callT (X : Cfg) (K : KT2) (inl : FuncId → Bool) (rounds : Nat) (β : Type) : Nat → CallT β :=
  fun n => Nat.rec (motive := fun _ => CallT β) (fun _ _ _ _ => none)
    (fun _ go id args H k => pick2 (X.kl id) (killT X args H k) (match K id with
      | some (sig, g) => conCall sig g args H k
      | none => pick2 (inl id) (enterT X go ⟨.none, .none, X.trs id⟩ rounds id args H k) none)) n

/-! Reading arguments of a contract. -/
def asL (e : Ty) : AV → Option (List e.den)
  | .lst e' l => castL e' e l
  | _ => none
def asI (k : IntKind) : AV → Option Int
  | .int k' n => if k = k' then some n else none
  | _ => none
def asB : AV → Option Bool
  | .bool b => some b
  | _ => none
def asS : AV → Option (List UInt8)
  | .str s => some s
  | _ => none
end

theorem asL_spec {e : Ty} {a : AV} {l : List e.den} (h : asL e a = some l) : a = .lst e l := by
  unfold asL at h
  split at h
  · obtain ⟨he, hc⟩ := castL_spec h
    subst he
    have hc : _ = l := hc
    rw [← hc]
  · cases h
theorem asI_spec {k : IntKind} {a : AV} {n : Int} (h : asI k a = some n) : a = .int k n := by
  unfold asI at h
  split at h
  · split at h
    · rename_i hk; subst hk; cases h; rfl
    · cases h
  · cases h
theorem asB_spec {a : AV} {b : Bool} (h : asB a = some b) : a = .bool b := by
  unfold asB at h
  split at h
  · cases h; rfl
  · cases h
theorem asS_spec {a : AV} {s : List UInt8} (h : asS a = some s) : a = .str s := by
  unfold asS at h
  split at h
  · cases h; rfl
  · cases h

theorem normArgs_spec {H : TMem} : ∀ {sig : List (Option Ty)} {args args' : List AV}, normArgs H sig args = some args' → args.length = args'.length ∧ ∀ (j : Nat) a b, args[j]? = some a → args'[j]? = some b → ArgAt H a b
  | [], [], args', h => by cases h; exact ⟨rfl, fun j a b ha => by simp at ha⟩
  | [], _ :: _, args', h => by cases h
  | _ :: _, [], args', h => by cases h
  | s :: sig, a :: args, args', h => by
    unfold normArgs at h
    split at h
    · rename_i b hb
      split at h
      · rename_i l hl
        cases h
        obtain ⟨h1, h2⟩ := normArgs_spec hl
        refine ⟨by simp [h1], fun j x y hx hy => ?_⟩
        cases j with
        | succ j => exact h2 j x y (by simpa using hx) (by simpa using hy)
        | zero =>
          simp at hx hy; subst hx; subst hy
          unfold normArg at hb
          split at hb
          · split at hb
            · cases hb
            · rename_i e _ hne
              split at hb
              · rename_i l' hl'
                cases hb
                exact .inr ⟨_, l', rfl, hl', fun s hs => hne s hs⟩
              · cases hb
          · rw [pick2_eq] at hb
            split at hb
            · rename_i hs; cases hb; exact .inl ⟨rfl, hs⟩
            · cases hb
      · cases h
    · cases h

section
variable {X : Cfg} {cf : Nat × Nat → Ev.CallF}

theorem conCall_ok {β : Type} {f : FuncId} {sig : List (Option Ty)} {g : List AV → Option (Bool × List PRes)} (hc : ConOk X cf f g) {args : List AV} {H : TMem} {k : AV → TMem → Option β} {r : β} (h : conCall sig g args H k = some r) : ∃ v H', k v H' = some r ∧ CSim X cf f args H v H' := by
  unfold conCall at h
  split at h
  · rename_i args' ha
    split at h
    · rename_i c rs hg
      rw [pick2_eq] at h
      split at h
      · rename_i hc'
        subst hc'
        obtain ⟨vs, H1, h1, h2⟩ := hc args' rs hg
        obtain ⟨l1, l2⟩ := normArgs_spec ha
        exact ⟨_, _, h, h1.csim h2 l1 l2⟩
      · cases h
    · cases h
  · cases h

/-- The functions that write over their slice are known. -/
def KlOk (X : Cfg) (kn : Ev.Known) : Prop := ∀ id, X.kl id = true → kn id Ev.killMark = some (.tuple #[]) ∧ kn id [.slice none 0 0] = some (.tuple #[]) ∧ ∀ i n c, kn id [.slice (some ⟨i, 0, none⟩) n c] = none

theorem CRL.u8s {F : Nat → Option (List Value)} : ∀ {l : List (Ty.den (.int .u8))} {cs : List Value}, CRL (CR F (.int .u8)) l cs → cs.all Ev.isU8V = true
  | [], cs, h => by
    have : cs = [] := h
    subst this; rfl
  | x :: l, cs, h => by
    obtain ⟨c1, c2, rfl, h1, h2⟩ := h
    have h1 : c1 = [.int .u8 x] := h1
    subst h1
    simp only [List.cons_append, List.nil_append, List.all_cons, CRL.u8s h2, Bool.and_true]
    rfl

theorem LV.single {S : Wo} {a : AV} {l : List Value} (h : LV S [a] l) : ∃ x, l = [x] ∧ VR S a x := by
  match l, h with
  | [x], h => exact ⟨x, rfl, h.2 0 a x rfl rfl⟩
  | [], h => exact absurd h.1 (by simp)
  | _ :: _ :: _, h => exact absurd h.1 (by simp)

theorem kill_sim {kn : Ev.Known} {f : FuncId} (hk : kn f Ev.killMark = some (.tuple #[]) ∧ kn f [.slice none 0 0] = some (.tuple #[]) ∧ ∀ i n c, kn f [.slice (some ⟨i, 0, none⟩) n c] = none) {β : Type} {args : List AV} {H : TMem} {k : AV → TMem → Option β} {r : β} (h : killT X args H k = some r) :
    ∃ v H', k v H' = some r ∧ CSim X (cfOf X kn) f args H v H' := by
  obtain ⟨k1, k2, k3⟩ := hk
  unfold killT at h
  split at h
  · refine ⟨_, _, h, fun S E argsE hr hg hl => ?_⟩
    obtain ⟨x, rfl, hx⟩ := LV.single hl
    cases hx
    refine ⟨S, .tuple #[], E, ⟨1, fun n hn => ?_⟩, S.le_refl, .tup [] [] rfl (fun j x y hx => by simp at hx), hr, St.refl _ _ _⟩
    obtain ⟨R, D⟩ := n
    obtain ⟨D', rfl⟩ : ∃ D', D = D' + 1 := ⟨D - 1, by have := hn.2; simp only at this; omega⟩
    show Ev.callA X.P X.G kn R (D' + 1) f _ E = _
    rw [Ev.callA_succ, k2]
    rfl
  · rename_i id n0
    split at h
    · rename_i t l ver ex hg0
      rw [pick2_eq] at h
      split at h
      · rename_i hc
        simp only [Bool.and_eq_true] at hc
        obtain ⟨⟨hmay, hu8⟩, h1⟩ := hc
        have h1 := Nat.le_of_ble_eq_true h1
        refine ⟨_, _, h, fun S E argsE hr hg hl => ?_⟩
        obtain ⟨x, rfl, hx⟩ := LV.single hl
        obtain ⟨q1, ⟨q2, g2, q3, q4⟩, q5⟩ := hr.row id _ hg0
        cases hx with
        | own _ _ i c s hρ g hg' hn =>
          rw [q3] at hg'; cases hg'
          rcases q5 with ⟨q5, _, _⟩ | ⟨i', cap', b, mid, post, e1, e2, e3, e4, e5, e6, e7, e8, e9, e10⟩
          · rw [q5] at h1; simp at h1
          · rw [hρ] at e1; cases e1
            have hmay' : H.lk ≤ id := by simpa [TMem.mayB, Nat.ble_eq] using hmay
            have hlk := hr.lk id _ _ hg0 hmay' hρ
            obtain ⟨E1, hE1⟩ := Mem.set_total (b := { b with live := false, fix := false }) (alive_lt e2) hlk
            have hkill : Ev.kill E i = some E1 := by unfold Ev.kill; rw [(alive_some e2).1]; exact hE1
            obtain ⟨z1, z2, z3, z4, z5⟩ := Ev.kill_spec hkill
            obtain ⟨m1, m2⟩ := hr.mod (S' := S) (E' := E1) (r' := .dead) hg0 rfl S.le_refl rfl (fun _ _ _ => rfl) z1 z2 (fun j hj => z4 j (hj _ hρ)) (fun j cs h => .inl h) (fun q hq => by cases hq)
            refine ⟨S, .tuple #[], E1, ⟨1, fun n hn' => ?_⟩, S.le_refl, .tup [] [] rfl (fun j x y hx => by simp at hx), m1, m2⟩
            obtain ⟨R, D⟩ := n
            obtain ⟨D', rfl⟩ : ∃ D', D = D' + 1 := ⟨D - 1, by have := hn'.2; simp only at this; omega⟩
            show Ev.callA X.P X.G kn R (D' + 1) f _ E = _
            rw [Ev.callA_succ, k3]
            obtain ⟨l2, hl2⟩ := e10.2
            have hall : b.cells.all Ev.isU8V = true := by rw [e4, List.all_append, e5.u8s, hl2.u8s]; rfl
            have hsz : (Ty.int .u8).size = 1 := rfl
            rw [hsz, Nat.mul_one] at e6
            have hks : Ev.killsA X.P kn f [.slice (some ⟨i, 0, none⟩) n0 c] E = some (.tuple #[], E1) := by
              unfold Ev.killsA
              simp only [k1, e2]
              rw [pick2_eq, if_pos]
              · simp only [hkill]
              · rw [hall, e3, hu8]
                have a1 : n0 ≤ c := by rw [← hn, q4]; exact e7
                simp only [Bool.and_true, Bool.and_eq_true]
                exact ⟨⟨⟨rfl, Nat.ble_eq_true_of_le a1⟩, by rw [Nat.beq_eq]; exact e6⟩, Nat.ble_eq_true_of_le e8⟩
            show Ev.orEnter (Ev.killsA X.P kn f _ E) _ = _
            rw [hks]; rfl
        | ownNil _ g hg' hn =>
          rw [q3] at hg'; cases hg'
          omega
      · cases h
    · cases h
  · cases h

theorem callT_ok {kn : Ev.Known} {K : KT2} {inl : FuncId → Bool} (hK : ∀ id sig g, K id = some (sig, g) → ConOk X (cfOf X kn) id g) (hi : ∀ id, inl id = true → ∀ args, kn id args = none) (rounds : Nat) (n : Nat) (β : Type) (hkl : KlOk X kn := by exact fun _ h => Bool.noConfusion (show false = true from h)) : CallTOk X (cfOf X kn) (callT X K inl rounds β n) := by
  induction n with
  | zero => exact fun f args H k r h => by cases h
  | succ n ih =>
    intro f args H k r h
    have h : pick2 (X.kl f) (killT X args H k) (match K f with
      | some (sig, g) => conCall sig g args H k
      | none => pick2 (inl f) (enterT X (callT X K inl rounds β n) ⟨.none, .none, X.trs f⟩ rounds f args H k) none) = some r := h
    rw [pick2_eq] at h
    split at h
    · rename_i hf; exact kill_sim (hkl f hf) h
    split at h
    · rename_i sig g hk; exact conCall_ok (hK f sig g hk) h
    · rw [pick2_eq] at h
      split at h
      · rename_i hin
        obtain ⟨v, H', h1, h2⟩ := enter_ok (nf := true) ih (fun _ => ⟨rfl, rfl⟩) h
        refine ⟨v, H', h1, fun S E argsE hr hg hl => ?_⟩
        obtain ⟨S', vE, E', a1, a2, a3, a4, a5⟩ := h2 S E argsE hr hg hl
        exact ⟨S', vE, E', call_of_enter (hi f hin) a1, (a5 rfl).1, a2, a3, (a5 rfl).2⟩
      · cases h

/-- A contract out of a walk. -/
theorem con_of {kn : Ev.Known} {f : FuncId} (hk : ∀ args, kn f args = none) {g : List AV → Option (Bool × List PRes)} {call : ∀ β, CallT β} (hcall : ∀ β, CallTOk X (cfOf X kn) (call β))
    (h : ∀ args' rs, g args' = some (true, rs) → ∃ vs H1 an rounds, enterT X (call (AV × TMem)) an rounds f args' TMem.empty (fun v H => some (v, H)) = some (oneT vs, H1) ∧ resAt H1 [] vs rs) : ConOk X (cfOf X kn) f g := by
  intro args' rs hg
  obtain ⟨vs, H1, an, rounds, h1, h2⟩ := h args' rs hg
  refine ⟨vs, H1, fun S E argsE hr hgl hl => ?_, h2⟩
  obtain ⟨S', vE, E', a1, a2, a3, a4⟩ := pure_of hk hcall h1 S E argsE hr hgl hl
  exact ⟨S', vE, E', a1, one_inv a2, a3, a4⟩

/-- A contract that is known already: scalars in, a scalar out. -/
theorem con_known {kn : Ev.Known} {f : FuncId} {g : List AV → Option (Bool × List PRes)}
    (h : ∀ args' rs, g args' = some (true, rs) → ∃ v vE, rs = [.val v] ∧ scalB v = true ∧ (∀ S, VR S v vE) ∧ Ev.addrFree vE = true ∧ ∀ S argsE, LV S args' argsE → kn f argsE = some vE ∧ Ev.addrFreeL argsE = true) : ConOk X (cfOf X kn) f g := by
  intro args' rs hg
  obtain ⟨v, vE, rfl, hs, hv, hfree, hkn⟩ := h args' rs hg
  refine ⟨[v], TMem.empty, fun S E argsE hr hgl hl => ?_, ⟨rfl, hs, trivial⟩⟩
  obtain ⟨k1, k2⟩ := hkn S argsE hl
  refine ⟨S, vE, E, ⟨1, fun n hn => ?_⟩, ⟨[vE], rfl, LV.cons (hv S) LV.nil⟩, hr, StC.refl _ _ _⟩
  obtain ⟨R, D⟩ := n
  obtain ⟨D', rfl⟩ : ∃ D', D = D' + 1 := ⟨D - 1, by have := hn.2; simp only at this; omega⟩
  show Ev.callA X.P X.G kn R (D' + 1) f argsE E = _
  rw [Ev.callA_succ, k1]
  simp [k2, hfree]

end
end Go.Tv

namespace Go.Tv
open Go.Ev (pick2 pick2_eq eqI eqI_spec ltI ltI_spec)
noncomputable section

def eqK1 : IntKind → IntKind → Bool
  | .i64, .i64 => true
  | .u8, .u8 => true
  | .i32, .i32 => true
  | .u64, .u64 => true
  | .u32, .u32 => true
  | .u16, .u16 => true
  | _, _ => false

def eqBs : List UInt8 → List UInt8 → Bool
  | [], [] => true
  | a :: l, b :: m => pick2 (Nat.beq a.toNat b.toNat) (eqBs l m) false
  | _, _ => false

def eqOne : AV → AV → Bool
  | .int k a, .int k' b => pick2 (eqK1 k k') (eqI a b) false
  | .bool a, .bool b => pick2 a b (!b)
  | .str a, .str b => eqBs a b
  | .flt a, .flt b => Nat.beq a b
  | .nils, .nils => true
  | .nilp, .nilp => true
  | _, _ => false

def eqAll : List AV → List AV → Bool
  | [], [] => true
  | a :: l, b :: m => pick2 (eqOne a b) (eqAll l m) false
  | _, _ => false

def eqAV : AV → AV → Bool
  | .agg l, .agg m => eqAll l m
  | a, b => eqOne a b

def eqDen : (e : Ty) → e.den → e.den → Bool
  | .int _, a, b => eqI a b
  | .bool, a, b => pick2 a b (!b)
  | .str, a, b => eqBs a b
  | .flt, a, b => Nat.beq a b
  | .unit, _, _ => true
  | .sl _, _, _ => false
  | .pair x y, a, b => pick2 (eqDen x a.1 b.1) (eqDen y a.2 b.2) false

def eqLs (e : Ty) : List e.den → List e.den → Bool
  | [], [] => true
  | a :: l, b :: m => pick2 (eqDen e a b) (eqLs e l m) false
  | _, _ => false

def rowIs (t : TypeId) (e : Ty) (l : List e.den) (room : Bool) : Option Row → Bool
  | some (.list t' e' l' _ ex ro) => pick2 (Nat.beq t t' && !ro && (pick2 room ex true)) (match castL e' e l' with
    | some m => eqLs e m l
    | none => false) false
  | _ => false

def resB (H : TMem) : List Nat → List AV → List PRes → Bool
  | _, [], [] => true
  | seen, v :: vs, .val w :: rs => pick2 (eqAV v w) (resB H seen vs rs) false
  | seen, .own id n :: vs, .list t e l :: rs => pick2 (e.flatB && Nat.beq n l.length && rowIs t e l false (H.get id) && !(seen.any (Nat.beq id))) (resB H (id :: seen) vs rs) false
  | seen, .nils :: vs, .list _ e l :: rs => pick2 (e.flatB && l.isEmpty) (resB H seen vs rs) false
  | seen, .osl id off len cap :: vs, .room t e l n :: rs => pick2 (e.flatB && Nat.beq off 0 && Nat.beq len n && Nat.beq cap l.length && rowIs t e l true (H.get id) && !(seen.any (Nat.beq id))) (resB H (id :: seen) vs rs) false
  | _, _, _ => false

/-- A run leaves just these results. -/
def leaves (rs : List PRes) : Option (AV × TMem) → Bool
  | some (.tup vs, H) => pick2 (Nat.beq vs.length 1) false (resB H [] vs rs)
  | some (v, H) => resB H [] [v] rs
  | none => false
end

theorem eqK1_spec {a b : IntKind} (h : eqK1 a b = true) : a = b := by
  cases a <;> cases b <;> first | rfl | cases h

theorem eqBs_spec : ∀ {a b : List UInt8}, eqBs a b = true → a = b
  | [], [], _ => rfl
  | [], _ :: _, h => by cases h
  | _ :: _, [], h => by cases h
  | a :: l, b :: m, h => by
    simp only [eqBs, pick2_eq, Nat.beq_eq] at h
    split at h
    · rename_i hab
      rw [eqBs_spec h, UInt8.toNat_inj.1 hab]
    · cases h

theorem eqBool_spec {a b : Bool} (h : pick2 a b (!b) = true) : a = b := by cases a <;> cases b <;> first | rfl | cases h

theorem eqOne_spec {a b : AV} (h : eqOne a b = true) : a = b ∧ scalB b = true := by
  unfold eqOne at h
  split at h
  · rw [pick2_eq] at h
    split at h
    · rename_i hk
      rw [eqI_spec] at h
      exact ⟨by rw [eqK1_spec hk, beq_iff_eq.1 h], rfl⟩
    · cases h
  · exact ⟨by rw [eqBool_spec h], rfl⟩
  · exact ⟨by rw [eqBs_spec h], rfl⟩
  · exact ⟨by rw [Nat.eq_of_beq_eq_true h], rfl⟩
  · exact ⟨rfl, rfl⟩
  · exact ⟨rfl, rfl⟩
  · cases h

theorem eqAll_spec : ∀ {l m : List AV}, eqAll l m = true → l = m ∧ scalB (.agg m) = true
  | [], [], _ => ⟨rfl, rfl⟩
  | [], _ :: _, h => by cases h
  | _ :: _, [], h => by cases h
  | a :: l, b :: m, h => by
    simp only [eqAll, pick2_eq] at h
    split at h
    · rename_i hab
      obtain ⟨rfl, hs⟩ := eqAll_spec h
      have hab' := hab
      obtain ⟨rfl, _⟩ := eqOne_spec hab
      refine ⟨rfl, ?_⟩
      unfold scalB at hs ⊢
      simp only [List.all_cons, Bool.and_eq_true]
      refine ⟨?_, hs⟩
      cases a <;> first | rfl | cases hab'
    · cases h

theorem eqAV_spec {a b : AV} (h : eqAV a b = true) : a = b ∧ scalB b = true := by
  unfold eqAV at h
  split at h
  · obtain ⟨rfl, h2⟩ := eqAll_spec h; exact ⟨rfl, h2⟩
  · exact eqOne_spec h

theorem eqDen_spec : ∀ (e : Ty) {a b : e.den}, eqDen e a b = true → a = b
  | .int _, a, b, h => by
    have h : eqI a b = true := h
    rw [eqI_spec] at h
    exact beq_iff_eq.1 h
  | .bool, a, b, h => eqBool_spec h
  | .str, a, b, h => eqBs_spec h
  | .flt, a, b, h => Nat.eq_of_beq_eq_true h
  | .unit, _, _, _ => rfl
  | .sl _, _, _, h => by cases h
  | .pair x y, a, b, h => by
    have h : pick2 (eqDen x a.1 b.1) (eqDen y a.2 b.2) false = true := h
    rw [pick2_eq] at h
    split at h
    · rename_i h1; exact Prod.ext (eqDen_spec x h1) (eqDen_spec y h)
    · cases h

theorem eqLs_spec (e : Ty) : ∀ {a b : List e.den}, eqLs e a b = true → a = b
  | [], [], _ => rfl
  | [], _ :: _, h => by cases h
  | _ :: _, [], h => by cases h
  | a :: l, b :: m, h => by
    simp only [eqLs, pick2_eq] at h
    split at h
    · rename_i hab; rw [eqDen_spec e hab, eqLs_spec e h]
    · cases h

theorem rowIs_spec {t : TypeId} {e : Ty} {l : List e.den} {room : Bool} {r : Option Row} (h : rowIs t e l room r = true) : ∃ ver ex, r = some (.list t e l ver ex false) ∧ (room = true → ex = true) := by
  unfold rowIs at h
  split at h
  · rename_i t' e' l' ver ex ro
    rw [pick2_eq] at h
    split at h
    · rename_i hc
      simp only [Bool.and_eq_true, Bool.not_eq_true', Nat.beq_eq] at hc
      obtain ⟨⟨rfl, rfl⟩, hx⟩ := hc
      split at h
      · rename_i m hm
        obtain ⟨he, hc⟩ := castL_spec hm
        subst he
        have hc : l' = m := hc
        subst hc
        have hl : l' = l := eqLs_spec _ h
        subst hl
        refine ⟨ver, ex, rfl, fun hr => ?_⟩
        subst hr; exact hx
      · cases h
    · cases h
  · cases h

theorem not_seen {id : Nat} {seen : List Nat} (h : (!(seen.any (Nat.beq id))) = true) : id ∉ seen := fun hm => by
  have : seen.any (Nat.beq id) = true := List.any_eq_true.2 ⟨id, hm, by rw [Nat.beq_eq]⟩
  rw [this] at h; cases h

theorem resB_spec {H : TMem} : ∀ {vs : List AV} {rs : List PRes} {seen : List Nat}, resB H seen vs rs = true → resAt H seen vs rs := by
  intro vs
  induction vs with
  | nil =>
    intro rs seen h
    cases rs with
    | nil => trivial
    | cons r rs => cases r <;> cases h
  | cons v vs ih =>
    intro rs seen h
    cases rs with
    | nil => cases v <;> cases h
    | cons r rs =>
      cases r with
      | val w =>
        have h : pick2 (eqAV v w) (resB H seen vs rs) false = true := by cases v <;> exact h
        rw [pick2_eq] at h
        split at h
        · rename_i hv
          obtain ⟨h1, h2⟩ := eqAV_spec hv
          exact ⟨h1, h2, ih h⟩
        · cases h
      | list t e l =>
        cases v <;> try (cases h; done)
        · simp only [resB, pick2_eq] at h
          split at h
          · rename_i hc
            simp only [Bool.and_eq_true, List.isEmpty_iff] at hc
            exact ⟨hc.1, .inr ⟨rfl, hc.2, ih h⟩⟩
          · cases h
        · rename_i id n
          simp only [resB, pick2_eq] at h
          split at h
          · rename_i hc
            simp only [Bool.and_eq_true, Nat.beq_eq] at hc
            obtain ⟨⟨⟨h1, rfl⟩, h3⟩, h4⟩ := hc
            obtain ⟨ver, ex, h5, _⟩ := rowIs_spec h3
            exact ⟨h1, .inl ⟨id, ver, ex, rfl, h5, not_seen h4, ih h⟩⟩
          · cases h
      | room t e l len =>
        cases v <;> try (cases h; done)
        rename_i id off n cap
        simp only [resB, pick2_eq] at h
        split at h
        · rename_i hc
          simp only [Bool.and_eq_true, Nat.beq_eq] at hc
          obtain ⟨⟨⟨⟨⟨h1, rfl⟩, rfl⟩, rfl⟩, h3⟩, h4⟩ := hc
          obtain ⟨ver, ex, h5, h6⟩ := rowIs_spec h3
          have := h6 rfl
          subst this
          exact ⟨h1, id, ver, rfl, h5, not_seen h4, ih h⟩
        · cases h

theorem leaves_spec {rs : List PRes} {r : Option (AV × TMem)} (h : leaves rs r = true) : ∃ vs H, r = some (oneT vs, H) ∧ resAt H [] vs rs := by
  unfold leaves at h
  split at h
  · rename_i vs H
    rw [pick2_eq] at h
    split at h
    · cases h
    · rename_i hn
      refine ⟨vs, H, ?_, resB_spec h⟩
      match vs, hn with
      | [], _ => rfl
      | [v], hn => exact absurd rfl hn
      | _ :: _ :: _, _ => rfl
  · rename_i v H hv
    exact ⟨[v], H, rfl, resB_spec h⟩
  · cases h

/-- A contract that runs show. -/
theorem con_runs {X : Cfg} {kn : Ev.Known} {f : FuncId} (hk : ∀ args, kn f args = none) {g : List AV → Option (Bool × List PRes)} {call : ∀ β, CallT β} (hcall : ∀ β, CallTOk X (cfOf X kn) (call β)) (an : FnAnn) (rounds : Nat)
    (h : ∀ args rs, g args = some (true, rs) → leaves rs (enterT X (call (AV × TMem)) an rounds f args TMem.empty (fun v H => some (v, H))) = true) : ConOk X (cfOf X kn) f g :=
  con_of hk hcall fun args rs hg => by
    obtain ⟨vs, H, h1, h2⟩ := leaves_spec (h args rs hg)
    exact ⟨vs, H, an, rounds, h1, h2⟩

theorem resAt_vals {H : TMem} : ∀ {vs : List AV} {seen : List Nat}, vs.all scalB = true → resAt H seen vs (vs.map .val)
  | [], _, _ => trivial
  | v :: vs, seen, h => by
    simp only [List.all_cons, Bool.and_eq_true] at h
    exact ⟨rfl, h.1, resAt_vals h.2⟩

/-- A contract whose results lead to no memory: the memory that a run leaves is not asked for. -/
theorem con_vals {X : Cfg} {kn : Ev.Known} {f : FuncId} (hk : ∀ args, kn f args = none) {g : List AV → Option (Bool × List PRes)} {call : ∀ β, CallT β} (hcall : ∀ β, CallTOk X (cfOf X kn) (call β))
    (h : ∀ args rs, g args = some (true, rs) → ∃ vs an rounds, enterT X (call AV) an rounds f args TMem.empty (fun v _ => some v) = some (oneT vs) ∧ rs = vs.map .val ∧ vs.all scalB = true) : ConOk X (cfOf X kn) f g := by
  intro args rs hg
  obtain ⟨vs, an, rounds, h1, h2, h3⟩ := h args rs hg
  subst h2
  obtain ⟨v', H1, k1, k2⟩ := enter_ok (nf := false) (hcall _) (fun h => by cases h) h1
  have k1 : v' = oneT vs := Option.some.inj k1
  subst k1
  refine ⟨vs, H1, fun S E argsE hr hgl hl => ?_, resAt_vals h3⟩
  obtain ⟨S', vE, E', a1, a2, a3, a4, _⟩ := k2 S E argsE hr hgl hl
  exact ⟨S', vE, E', call_of_enter hk a1, one_inv a2, a3, a4⟩

/-- A run that comes to one value, whatever memory it leaves. -/
theorem top_run {X : Cfg} {kn : Ev.Known} {id : FuncId} (hk : ∀ args, kn id args = none) {call : ∀ β, CallT β} (hcall : ∀ β, CallTOk X (cfOf X kn) (call β)) {an : FnAnn} {rounds : Nat} {args : List AV} {v : AV}
    (h : enterT X (call AV) an rounds id args TMem.empty (fun v _ => some v) = some v) : ∀ (S : Wo) (E : Ev.Mem) (argsE : List Value), Rel S TMem.empty E → GlobOk X S → LV S args argsE →
    ∃ S' vE E', (∃ N, ∀ n : Nat × Nat, N ≤ n.1 ∧ N ≤ n.2 → cfOf X kn n id argsE E = some (vE, E')) ∧ VR S' v vE := by
  obtain ⟨v', H1, h1, h2⟩ := enter_ok (nf := false) (hcall _) (fun h => by cases h) h
  cases h1
  intro S E argsE hr hg hl
  obtain ⟨S', vE, E', a1, a2, _, _, _⟩ := h2 S E argsE hr hg hl
  exact ⟨S', vE, E', call_of_enter hk a1, a2⟩

/-- The contract of a call without arguments that is known to be true. -/
noncomputable def gYes (args : List AV) : Option (Bool × List PRes) :=
  match args with
  | [] => some (true, [.val (.bool true)])
  | _ => none

theorem con_yes {X : Cfg} {kn : Ev.Known} {f : FuncId} (h : kn f [] = some (.bool true)) : ConOk X (cfOf X kn) f gYes :=
  con_known fun args rs hg => by
    unfold gYes at hg
    split at hg
    · injection hg with hg; injection hg with h1 h2
      subst h2
      refine ⟨.bool true, .bool true, rfl, rfl, fun S => .bool true, rfl, fun S argsE hl => ?_⟩
      have : argsE = [] := List.length_eq_zero_iff.1 hl.1.symm
      subst this
      exact ⟨h, rfl⟩
    · cases hg

theorem pickT {α : Type} (a b : α) : pick2 true a b = a := rfl
theorem pickF {α : Type} (a b : α) : pick2 false a b = b := rfl
end Go.Tv

namespace Go.Tv
open Go.Ev (pick2 alive addrFree addrFreeL VRel)

/-- Given rows of plain cells are what the layer takes them for. -/
theorem glob_of {X : Cfg} {w : World} (h : ∀ g, g < X.G → X.gv g ≠ [] → ∃ (cv : List Value) (t : TypeId) (fr : Nat × Nat), w.heap[g]? = some (.cells cv.toArray t fr) ∧ X.gv g = cv.map ofC ∧ addrFreeL cv = true) : GlobOk X (woOf w) := fun g hg he => by
  obtain ⟨cv, t, fr, h1, h2, h3⟩ := h g hg he
  have hlt : g < w.heap.size := (Array.getElem?_eq_some_iff.1 h1).1
  obtain ⟨_, _, s3⟩ := snap_spec w
  have hself : ∀ v ∈ cv, VRel (idR w.heap.size) v v := fun v hv => by
    obtain ⟨i, hi⟩ := List.getElem?_of_mem hv
    exact Ev.refl_of_free v (Ev.freeL_get h3 hi)
  have hb : blkOf w g = ⟨cv, t, true, false⟩ := by
    unfold blkOf
    rw [h1]
    simp only [Ev.Blk.mk.injEq, and_true]
    refine List.ext_getElem? fun i => ?_
    rw [List.getElem?_map]
    cases hi : cv[i]? with
    | none => simp [hi]
    | some v =>
      have : (cv.toArray.toList)[i]? = some v := by simpa using hi
      simp only [this, Option.map_some]
      rw [if_pos (hself v (List.mem_of_getElem? hi))]
  refine ⟨cv, ?_, fun T _ => ?_⟩
  · show (alive (Go.Tv.snap w) g).map (·.cells) = some cv
    unfold Ev.alive
    rw [s3, if_pos hlt, hb]
    rfl
  · rw [h2]
    refine ⟨by simp, fun j x y hx hy => ?_⟩
    rw [List.getElem?_map, hy] at hx
    simp only [Option.map_some, Option.some.injEq] at hx
    subst hx
    exact ofC_VR (Ev.freeL_get h3 hy)

theorem glob_rows {X : Cfg} {w : World} {rows : List Ev.Blk} (hr : Ev.RowsAt rows w) (h : ∀ g, g < X.G → X.gv g ≠ [] → ∃ b, rows[g]? = some b ∧ b.live = true ∧ X.gv g = b.cells.map ofC ∧ addrFreeL b.cells = true) : GlobOk X (woOf w) :=
  glob_of fun g hg he => by
    obtain ⟨b, h1, h2, h3, h4⟩ := h g hg he
    obtain ⟨fr, h5, _⟩ := hr.2 g b h1 h2
    exact ⟨b.cells, b.elem, fr, h5, h3, h4⟩
end Go.Tv

namespace Go.Tv
open Go.Ev (pick2 Leave)
noncomputable section
variable {β : Type}

/-- A part of code: the left one (or the inner one), the right one. -/
def inside : Code → Bool → Code
  | .seq a b, d => pick2 d b a
  | .cond _ a b, d => pick2 d b a
  | .block _ a, _ => a
  | .loop a, _ => a
  | .scope a, _ => a
  | c, _ => c

def codeAt (c : Code) : List Bool → Code
  | [] => c
  | d :: p => codeAt (inside c d) p

def annAt (a : Ann) : List Bool → Ann
  | [] => a
  | d :: p => annAt (pick2 d a.r a.l) p

/-- Notes that keep these slots at one place alone. -/
def annOf (keep : List Tmp) : List Bool → Ann
  | [] => .node (some keep) .none .none
  | d :: p => pick2 d (.node none .none (annOf keep p)) (.node none (annOf keep p) .none)

/-- What follows a part of code. -/
def ctxK (X : Cfg) (call : CallT β) (tr : List Tmp) (J : JumpT β) (rounds : Nat) : List Bool → Code → Ann → KT β → KT β
  | [], _, _, k => k
  | false :: p, .seq x y, a, k => ctxK X call tr J rounds p x a.l (seqK (fun f H => codeT X call tr J rounds y a.r f H k) k)
  | true :: p, .seq _ y, a, k => ctxK X call tr J rounds p y a.r k
  | false :: p, .cond _ x _, a, k => ctxK X call tr J rounds p x a.l k
  | true :: p, .cond _ _ y, a, k => ctxK X call tr J rounds p y a.r k
  | _ :: p, .block id b, a, k => ctxK X call tr J rounds p b a.l (blockK id k)
  | _ :: p, .scope b, a, k => ctxK X call tr J rounds p b a.l (scopeK b J k)
  | _ :: _, _, _, k => k

/-- A loop that stands in no other loop: n rounds more at most. -/
def loopN (X : Cfg) (call : CallT β) (an : FnAnn) (rounds : Nat) (id : FuncId) (p : List Bool) (k : AV → TMem → Option β) (n : Nat) (f : TFr) (H : TMem) : Option β :=
  match X.P.funcs[id]? with
  | some fn => match fn.body with
    | some c => loopT (annAt an.ann p) (fun f H k => codeT X call an.tr (jumpsT X call an.tr an.ja rounds rounds) rounds (codeAt c (p ++ [false])) (annAt an.ann p).l f H k)
        (ctxK X call an.tr (jumpsT X call an.tr an.ja rounds rounds) rounds p c an.ann (returnK X fn k)) n f H
    | none => none
  | none => none

/-- Jumps to a label of a scope that stands in no loop: n more at most. -/
def jumpN (X : Cfg) (call : CallT β) (an : FnAnn) (rounds : Nat) (id : FuncId) (p : List Bool) (l : Nat) (k : AV → TMem → Option β) (n : Nat) (f : TFr) (H : TMem) : Option β :=
  match X.P.funcs[id]? with
  | some fn => match fn.body with
    | some c => match findLabel (codeAt c (p ++ [false])) l with
      | some rest => jumpsR X call an.tr an.ja rounds n (codeAt c (p ++ [false])) rest f H (ctxK X call an.tr (jumpsT X call an.tr an.ja rounds rounds) rounds p c an.ann (returnK X fn k))
      | none => none
    | none => none
  | none => none

/-- A frame of just these slots, a memory of just these rows. -/
def frOf (n : Nat) (l : List (Tmp × AV)) : TFr := l.foldl (fun g q => g.put (some q.1) q.2) ⟨n, .e⟩
def memOf (l : List Row) : TMem := l.foldl (fun M r => M.push r) ⟨0, 0, 0, .e⟩
end
end Go.Tv

namespace Go.Tv
open Go.Ev (pick2 pick2_eq ltI eqI ltI_spec eqI_spec)

theorem i64_of (n : Int) : IntKind.wrap .i64 n = if n % 18446744073709551616 < 9223372036854775808 then n % 18446744073709551616 else n % 18446744073709551616 - 18446744073709551616 := by
  have e : IntKind.wrap .i64 n = if n % (2 ^ 64 : Int) ≥ (2 ^ 63 : Int) then n % (2 ^ 64 : Int) - (2 ^ 64 : Int) else n % (2 ^ 64 : Int) := by
    unfold IntKind.wrap
    by_cases h : n % (2 ^ 64 : Int) ≥ (2 ^ 63 : Int)
    · rw [if_pos h]
      exact if_pos (by show (true && decide (n % (2 ^ 64 : Int) ≥ (2 ^ 63 : Int))) = true; simpa using h)
    · rw [if_neg h]
      exact if_neg (by show ¬ (true && decide (n % (2 ^ 64 : Int) ≥ (2 ^ 63 : Int))) = true; simp; omega)
  rw [e]
  split <;> split <;> omega
theorem i64_in {n : Int} (h0 : -9223372036854775808 ≤ n) (h1 : n < 9223372036854775808) : IntKind.wrap .i64 n = n := by
  rw [i64_of]
  split <;> omega
theorem u64_mod (n : Int) : IntKind.wrap .u64 n = n % 18446744073709551616 := by
  unfold IntKind.wrap
  simp only [IntKind.bits, IntKind.signed, Bool.false_and, Bool.false_eq_true, if_false]
  rfl
theorem u64_in {n : Int} (h0 : 0 ≤ n) (h1 : n < 18446744073709551616) : IntKind.wrap .u64 n = n := by rw [u64_mod]; omega
theorem u32_mod (n : Int) : IntKind.wrap .u32 n = n % 4294967296 := by
  unfold IntKind.wrap
  simp only [IntKind.bits, IntKind.signed, Bool.false_and, Bool.false_eq_true, if_false]
  rfl
theorem u8_mod (n : Int) : IntKind.wrap .u8 n = n % 256 := by
  unfold IntKind.wrap
  simp only [IntKind.bits, IntKind.signed, Bool.false_and, Bool.false_eq_true, if_false]
  rfl
theorem u8_in {n : Int} (h0 : 0 ≤ n) (h1 : n < 256) : IntKind.wrap .u8 n = n := by rw [u8_mod]; omega
theorem ltT {a b : Int} (h : a < b) : ltI a b = true := by rw [ltI_spec]; simpa using h
theorem ltF {a b : Int} (h : b ≤ a) : ltI a b = false := by rw [ltI_spec]; simpa using h
theorem eqT {a b : Int} (h : a = b) : eqI a b = true := by rw [eqI_spec, h]; simp
theorem eqF {a b : Int} (h : a ≠ b) : eqI a b = false := by rw [eqI_spec]; simpa using h

theorem u8I_nn (c : UInt8) : 0 ≤ u8I c := Int.natCast_nonneg _
theorem u8I_lt (c : UInt8) : u8I c < 256 := by have := c.toNat_lt; unfold u8I; simp; omega
theorem iU8_u8I (c : UInt8) : iU8 (u8I c) = c := by unfold iU8 u8I; simp
theorem u8I_inj {a b : UInt8} (h : u8I a = u8I b) : a = b := by rw [← iU8_u8I a, h, iU8_u8I]
theorem map_iU8 (s : List UInt8) : (s.map u8I).map iU8 = s := by
  rw [List.map_map]
  have : iU8 ∘ u8I = id := funext iU8_u8I
  rw [this, List.map_id]

theorem getI_nat {α : Type} (l : List α) (n : Nat) : getI l (n : Int) = l[n]? := rfl
theorem getI_at {α : Type} (pre r : List α) (c : α) : getI (pre ++ c :: r) (pre.length : Int) = some c := by rw [getI_nat]; simp

theorem bleT {a b : Nat} (h : a ≤ b) : Nat.ble a b = true := Nat.ble_eq_true_of_le h
theorem cut_part {s w : List UInt8} {a n : Nat} (he : (s.drop a).take n = w) (f t : Nat) (ht : t ≤ n) : cutL s ((a + f : Nat) : Int) ((a + t : Nat) : Int) = (w.take t).drop f := by
  unfold cutL
  simp only [Int.toNat_natCast]
  rw [← he, List.take_take, List.drop_take, List.drop_drop, Nat.min_eq_left ht]
  congr 1; omega

/-- The low bits. -/
theorem and_low {a : Int} (h0 : 0 ≤ a) (h1 : a < 18446744073709551616) (k : Nat) (hk : k ≤ 64) : ((BitVec.ofInt 64 a &&& BitVec.ofInt 64 ((2 ^ k - 1 : Nat) : Int)).toNat : Int) = a % (2 ^ k : Nat) := by
  obtain ⟨n, rfl⟩ : ∃ n : Nat, a = n := ⟨a.toNat, by omega⟩
  rw [BitVec.toNat_and, BitVec.ofInt_natCast, BitVec.ofInt_natCast, BitVec.toNat_ofNat, BitVec.toNat_ofNat]
  have h2 : n % 2 ^ 64 = n := Nat.mod_eq_of_lt (by omega)
  have hp : 2 ^ k ≤ 2 ^ 64 := Nat.pow_le_pow_right (by omega) hk
  have hpos : 0 < 2 ^ k := Nat.two_pow_pos k
  have h3 : (2 ^ k - 1) % 2 ^ 64 = 2 ^ k - 1 := Nat.mod_eq_of_lt (by omega)
  rw [h2, h3, Nat.and_two_pow_sub_one_eq_mod]
  simp
/-! Tables of contracts -/
abbrev Con := FuncId × List (Option Ty) × (List AV → Option (Bool × List PRes))
noncomputable def tab (l : List Con) : KT2 := fun f => List.rec (motive := fun _ => Option (List (Option Ty) × (List AV → Option (Bool × List PRes)))) none (fun e _ r => pick2 (Nat.beq f e.1) (some e.2) r) l
def TabOk (X : Cfg) (cf : Nat × Nat → Ev.CallF) (l : List Con) : Prop := ∀ id sig g, tab l id = some (sig, g) → ConOk X cf id g
theorem TabOk.nil {X : Cfg} {cf : Nat × Nat → Ev.CallF} : TabOk X cf [] := fun _ _ _ h => by cases h
theorem TabOk.cons {X : Cfg} {cf : Nat × Nat → Ev.CallF} {f : FuncId} {sig : List (Option Ty)} {g : List AV → Option (Bool × List PRes)} {l : List Con} (h : ConOk X cf f g) (t : TabOk X cf l) : TabOk X cf ((f, sig, g) :: l) := fun id sig' g' hk => by
  have hk : pick2 (Nat.beq id f) (some (sig, g)) (tab l id) = some (sig', g') := hk
  cases hb : Nat.beq id f with
  | true =>
    rw [hb] at hk
    have he : id = f := Nat.eq_of_beq_eq_true hb
    have hk : (sig, g) = (sig', g') := Option.some.inj hk
    cases hk
    rw [he]; exact h
  | false => rw [hb] at hk; exact t id sig' g' hk

/-- A choice by a range. -/
noncomputable def pickR {α : Type} (n a b : Int) (x y : α) : α := pick2 (!ltI n a) (pick2 (!ltI b n) x y) y
theorem pickR_eq {α : Type} (n a b : Int) (x y : α) : pickR n a b x y = if a ≤ n ∧ n ≤ b then x else y := by
  unfold pickR
  simp only [pick2_eq, ltI_spec, Bool.not_eq_true', decide_eq_false_iff_not]
  by_cases h1 : n < a
  · rw [if_neg (by simpa using h1), if_neg (by omega)]
  · rw [if_pos h1]
    by_cases h2 : b < n
    · rw [if_neg (by simpa using h2), if_neg (by omega)]
    · rw [if_pos h2, if_pos (by omega)]
theorem pick_lt {α : Type} (a b : Int) (x y : α) : pick2 (ltI a b) x y = if a < b then x else y := by rw [pick2_eq, ltI_spec]; simp
theorem pick_nlt {α : Type} (a b : Int) (x y : α) : pick2 (!ltI a b) x y = if b ≤ a then x else y := by
  rw [pick2_eq, ltI_spec]
  by_cases h : a < b
  · rw [if_neg (by simpa using h), if_neg (by omega)]
  · rw [if_pos (by simpa using h), if_pos (by omega)]
theorem pick_eq {α : Type} (a b : Int) (x y : α) : pick2 (eqI a b) x y = if a = b then x else y := by rw [pick2_eq, eqI_spec]; simp
theorem pick_neq {α : Type} (a b : Int) (x y : α) : pick2 (!eqI a b) x y = if a = b then y else x := by
  rw [pick2_eq, eqI_spec]
  by_cases h : a = b
  · rw [if_neg (by simpa using h), if_pos h]
  · rw [if_pos (by simpa using h), if_neg h]
end Go.Tv

namespace Go.Tv
open Go.Ev (Tr pick2 Leave Mem Blk alive pick2_eq alive_some opA Fr VRel Ren)

theorem rowAt_le {p : Program} {fits : TypeId → Bool} : ∀ {d : Nat} {e : TypeId} {count off n : Nat}, rowAt p fits d e count off n = true → off ≤ count * p.cellsOf e
  | 0, _, _, _, _, h => by simp [rowAt] at h
  | d + 1, e, count, off, n, h => by
    rw [rowAt] at h
    by_cases hs : p.cellsOf e = 0
    · simp [hs] at h
    · have hdm := Nat.div_add_mod off (p.cellsOf e)
      have hr := Nat.mod_lt off (Nat.pos_of_ne_zero hs)
      simp only [if_neg hs, Bool.or_eq_true, Bool.and_eq_true, decide_eq_true_eq, beq_iff_eq] at h
      rw [Nat.mul_comm]
      rcases h with ⟨⟨h1, h2⟩, _⟩ | ⟨h1, _⟩
      · have : p.cellsOf e * (off / p.cellsOf e) ≤ p.cellsOf e * count := Nat.mul_le_mul_left _ (by omega)
        omega
      · have : p.cellsOf e * (off / p.cellsOf e + 1) ≤ p.cellsOf e * count := Nat.mul_le_mul_left _ h1
        rw [Nat.mul_add] at this
        omega

theorem liesAt_le {p : Program} : ∀ {d : Nat} {e : TypeId} {count off : Nat} {u : TypeId} {n : Nat}, liesAt p d e count off u n = true → off ≤ count * p.cellsOf e
  | 0, _, _, _, _, _, h => by simp [liesAt] at h
  | d + 1, e, count, off, u, n, h => by
    rw [liesAt, Bool.or_eq_true] at h
    rcases h with h | h
    · exact rowAt_le h
    · split at h
      · exact liesAt_le h
      · cases h

theorem has_at {P : Program} {w : World} {r : Reach} {base : Nat} {a : Addr} {e : TypeId} {n : Nat} (h : w.has P r base a e n) : a.spot = none ∧ ∃ C t fr, w.heap[a.block]? = some (.cells C t fr) ∧ a.off ≤ C.size := by
  obtain ⟨_, h1, row, cells, h2, h3⟩ := h
  refine ⟨h1, ?_⟩
  unfold World.shape? at h2
  split at h2
  · rename_i C t fr hC
    cases h2
    exact ⟨C, _, fr, hC, Nat.le_trans (liesAt_le h3) (Nat.div_mul_le_self _ _)⟩
  · cases h2

/-- What is known of a slice that came in. -/
theorem okWide_has {P : Program} {w : World} {r : Reach} {base : Nat} {t e : TypeId} {a : Addr} {len cap : Nat} (ht : P.underlying t = some (.slice e)) (h : Value.okWide P w r base t (.slice (some a) len cap)) : w.has P r base a e cap := by
  simp only [Value.okWide, ht, Cell.okWide, Cell.ok] at h
  exact h.2.2

theorem snap_alive {w : World} {i : Nat} {C : Array Value} {t : TypeId} {fr : Nat × Nat} (h : w.heap[i]? = some (.cells C t fr)) : ∃ cs, (woOf w).F i = some cs ∧ cs.length = C.size ∧ ∀ (j : Nat) v, C[j]? = some v → VRel (idR w.heap.size) v v → cs[j]? = some v := by
  have hlt : i < w.heap.size := (Array.getElem?_eq_some_iff.1 h).1
  have hg : (snap w).get i = some (blkOf w i) := by rw [(snap_spec w).2.2, if_pos hlt]
  have hb : blkOf w i = ⟨C.toList.map fun v => open Classical in if VRel (idR w.heap.size) v v then v else .chan none, t, true, false⟩ := by
    unfold blkOf; rw [h]
  have ha : alive (snap w) i = some (blkOf w i) := by unfold Ev.alive; rw [hg, hb]; rfl
  refine ⟨(blkOf w i).cells, ?_, by rw [hb]; simp, fun j v hv hs => ?_⟩
  · show (alive (snap w) i).map (·.cells) = _
    rw [ha]; rfl
  · rw [hb]
    simp [hv, hs]

theorem ints_CRL {F : Nat → Option (List Value)} {k : IntKind} : ∀ (l : List Int), CRL (CR F (.int k)) l (l.map fun n => Value.int k n)
  | [] => rfl
  | n :: l => ⟨[.int k n], l.map fun n => Value.int k n, rfl, rfl, ints_CRL l⟩

/-- A slice of integers that came in is a list. -/
theorem ints_arg {P : Program} {w : World} {r : Reach} {base : Nat} {t e : TypeId} {k : IntKind} {b : Option Addr} {len cap : Nat} {zs : List Int} (ht : P.underlying t = some (.slice e)) (h : Value.okWide P w r base t (.slice b len cap))
    (hz : (b = none ∧ len = 0 ∧ cap = 0 ∧ zs = []) ∨ ∃ x, b = some x ∧ len ≤ cap ∧ cap ≤ maxLen ∧ zs.length = cap ∧ (∀ i, i < zs.length → w.cell? (x.add i) = some (.int k (zs.getD i 0))) ∧ ∀ n ∈ zs, (Lit.int k n).wf = true) :
    VR (woOf w) (.lst (.int k) (zs.take len)) (.slice b len cap) := by
  refine .lst _ _ _ ?_
  rcases hz with ⟨rfl, rfl, rfl, rfl⟩ | ⟨x, rfl, hl, _, hn, hc, _⟩
  · exact .inl ⟨by simp, rfl⟩
  · right
    obtain ⟨hs, C, te, fr, hC, ho⟩ := has_at (okWide_has ht h)
    obtain ⟨cs, h1, h2, h3⟩ := snap_alive hC
    have hmid : (cs.drop x.off).take len = (zs.take len).map fun n => Value.int k n := by
      apply List.ext_getElem?
      intro j
      by_cases hj : j < len
      · have := hc j (by omega)
        unfold World.cell? at this
        have e1 : (x.add j).block = x.block := by unfold Addr.add; split <;> rfl
        have e2 : (x.add j).spot = none := by unfold Addr.add; split <;> first | exact hs | rfl
        have e3 : (x.add j).off = x.off + j := by
          unfold Addr.add
          split
          · rename_i hj0; rw [hj0]; rfl
          · rfl
        rw [e1, hC] at this
        simp only [e2, e3, Option.isSome_none, Bool.false_eq_true, if_false] at this
        have := h3 _ _ this (.int _ _)
        rw [List.getElem?_take_of_lt hj, List.getElem?_drop, this]
        have hjz : j < zs.length := by omega
        simp [hj, hjz]
      · rw [List.getElem?_eq_none (by simp; omega), List.getElem?_eq_none (by simp; omega)]
    have htl : (zs.take len).length = len := by simp; omega
    refine ⟨x.block, cs.take x.off, (zs.take len).map fun n => Value.int k n, (cs.drop x.off).drop len, cap, ?_, ?_, ints_CRL _, by rw [htl]; exact hl⟩
    · rw [htl]
      have : (cs.take x.off).length = x.off := by simp; omega
      rw [this]
      obtain ⟨xb, xo, xs⟩ := x
      cases hs
      rfl
    · rw [← hmid, List.take_append_drop, List.take_append_drop]
      exact h1

end Go.Tv

namespace Go.Tv
open Go.Ev (VRel)
open Go.WideShapes Go.Deep

/-- The fields of a struct, one behind the other, as pairs. -/
def fieldsIs (P : Program) (g : TypeId → Ty → Bool) : Nat → List Field → Ty → Bool
  | off, [f], e => Nat.beq f.offset off && Nat.beq (P.cellsOf f.type) e.size && g f.type e
  | off, f :: f' :: fs, .pair a b => Nat.beq f.offset off && Nat.beq (P.cellsOf f.type) a.size && g f.type a && fieldsIs P g (off + a.size) (f' :: fs) b
  | _, _, _ => false

def isIntT (k : IntKind) : Ty → Bool
  | .int k' => decide (k = k')
  | _ => false
def isBoolT : Ty → Bool
  | .bool => true
  | _ => false
def isStrT : Ty → Bool
  | .str => true
  | _ => false
theorem isIntT_spec {k : IntKind} {e : Ty} (h : isIntT k e = true) : e = .int k := by
  cases e <;> first | (cases h; done) | (rw [of_decide_eq_true h])
theorem isBoolT_spec {e : Ty} (h : isBoolT e = true) : e = .bool := by cases e <;> first | rfl | cases h
theorem isStrT_spec {e : Ty} (h : isStrT e = true) : e = .str := by cases e <;> first | rfl | cases h

/-- A type of plain data. -/
def flatIs (P : Program) : Nat → TypeId → Ty → Bool
  | 0, _, _ => false
  | d + 1, t, e => match P.underlying t with
    | some (.int k) => isIntT k e
    | some .bool => isBoolT e
    | some .string => isStrT e
    | some (.struct fs) => Nat.beq (P.cellsOf t) e.size && fieldsIs P (flatIs P d) 0 fs.toList e
    | _ => false

def wfD : (e : Ty) → e.den → Prop
  | .int k, n => (Lit.int k n).wf = true
  | .str, s => List.length s ≤ maxLen
  | .pair a b, x => wfD a x.1 ∧ wfD b x.2
  | .bool, _ => True
  | .flt, _ => True
  | .unit, _ => True
  | .sl _, _ => True

variable {H : Type} {enc : TypeId × Value → H} {P : Program} {w : World} {base : Nat} {sp : Nat → Bool} {held : Bool}

theorem fields_cr {F : Nat → Option (List Value)} {fuel : Nat} {g : TypeId → Ty → Bool} (hg : ∀ t e cs x, g t e = true → DataW.trod enc P w base sp held fuel t cs = some x → ∃ y, CR F e y cs ∧ wfD e y) {cs : List Value} :
    ∀ (fs : List Field) (off : Nat) (e : Ty), fieldsIs P g off fs e = true → (∀ f ∈ fs, ∃ x, DataW.trod enc P w base sp held fuel f.type ((cs.drop f.offset).take (P.cellsOf f.type)) = some x) → cs.length = off + e.size →
    ∃ y, CR F e y (cs.drop off) ∧ wfD e y := by
  intro fs
  induction fs with
  | nil => intro off e h; cases e <;> cases h
  | cons f fs ih =>
    intro off e h hx hl
    match fs, e, h with
    | [], e, h =>
      have h : (Nat.beq f.offset off && Nat.beq (P.cellsOf f.type) e.size && g f.type e) = true := by cases e <;> exact h
      simp only [Bool.and_eq_true, Nat.beq_eq] at h
      obtain ⟨⟨h1, h2⟩, h3⟩ := h
      obtain ⟨x, h4⟩ := hx f (List.mem_cons_self ..)
      rw [h1, h2, List.take_of_length_le (by rw [List.length_drop]; omega)] at h4
      exact hg _ _ _ _ h3 h4
    | f' :: fs, .pair a b, h =>
      have h : (Nat.beq f.offset off && Nat.beq (P.cellsOf f.type) a.size && g f.type a && fieldsIs P g (off + a.size) (f' :: fs) b) = true := h
      simp only [Bool.and_eq_true, Nat.beq_eq] at h
      obtain ⟨⟨⟨h1, h2⟩, h3⟩, h5⟩ := h
      obtain ⟨x, h4⟩ := hx f (List.mem_cons_self ..)
      rw [h1, h2] at h4
      obtain ⟨y, k1, k2⟩ := hg _ _ _ _ h3 h4
      have hs : (Ty.pair a b).size = a.size + b.size := rfl
      obtain ⟨z, k3, k4⟩ := ih (off + a.size) b h5 (fun f hf => hx f (List.mem_cons_of_mem _ hf)) (by omega)
      refine ⟨(y, z), ⟨(cs.drop off).take a.size, cs.drop (off + a.size), ?_, k1, k3⟩, k2, k4⟩
      rw [← List.drop_drop, List.take_append_drop]
    | _ :: _, .int _, h => cases h
    | _ :: _, .bool, h => cases h
    | _ :: _, .str, h => cases h
    | _ :: _, .flt, h => cases h
    | _ :: _, .unit, h => cases h
    | _ :: _, .sl _, h => cases h

theorem flat_cr {F : Nat → Option (List Value)} : ∀ (d : Nat) (fuel : Nat) (t : TypeId) (e : Ty) (cs : List Value) (x : DataW H × List MemPlace), flatIs P d t e = true → DataW.trod enc P w base sp held fuel t cs = some x → ∃ y, CR F e y cs ∧ wfD e y
  | 0, _, _, _, _, _, h, _ => by cases h
  | d + 1, fuel, t, e, cs, x, h, hx => by
    rw [flatIs] at h
    split at h
    · rename_i k hk
      obtain rfl := isIntT_spec h
      obtain ⟨n, rfl, _, hw⟩ := DataW.trod_int hk hx
      exact ⟨n, rfl, hw⟩
    · rename_i hk
      obtain rfl := isBoolT_spec h
      obtain ⟨b, rfl, _⟩ := DataW.trod_bool hk hx
      exact ⟨b, rfl, trivial⟩
    · rename_i hk
      obtain rfl := isStrT_spec h
      obtain ⟨s, rfl, _, hw⟩ := DataW.trod_string hk hx
      refine ⟨s.data.toList, ?_, ?_⟩
      · show [Value.string s] = [.string ⟨s.data.toList.toArray⟩]
        obtain ⟨a⟩ := s; simp
      · show s.data.toList.length ≤ maxLen
        simpa using hw
    · rename_i fs hk
      simp only [Bool.and_eq_true, Nat.beq_eq] at h
      obtain ⟨xs, n, _, _, hl, hlx, hm⟩ := DataW.trod_struct hk hx
      have hm : ∀ f ∈ fs.toList, ∃ x, DataW.trod enc P w base sp held n f.type ((cs.drop f.offset).take (P.cellsOf f.type)) = some x := fun f hf => by
        obtain ⟨i, hi⟩ := List.getElem?_of_mem hf
        have hi' : fs[i]? = some f := by simpa using hi
        have hlt : i < xs.length := by rw [hlx]; exact (Array.getElem?_eq_some_iff.1 hi').1
        exact ⟨xs[i], (hm i f hi').trans (List.getElem?_eq_getElem hlt)⟩
      obtain ⟨y, h1, h2⟩ := fields_cr (F := F) (g := flatIs P d) (fun t e cs x h hx => flat_cr d n t e cs x h hx) fs.toList 0 e h.2 hm (by omega)
      exact ⟨y, by simpa using h1, h2⟩
    · cases h

theorem CR.len {F : Nat → Option (List Value)} : ∀ (e : Ty) (y : e.den) (cs : List Value), CR F e y cs → cs.length = e.size
  | .int _, _, _, h => by rw [show _ = _ from h]; rfl
  | .bool, _, _, h => by rw [show _ = _ from h]; rfl
  | .str, _, _, h => by rw [show _ = _ from h]; rfl
  | .flt, _, _, h => by rw [show _ = _ from h]; rfl
  | .unit, _, _, h => by rw [show _ = _ from h]; rfl
  | .sl _, _, _, ⟨_, h, _⟩ => by rw [h]; rfl
  | .pair a b, x, _, ⟨c1, c2, h, h1, h2⟩ => by rw [h, List.length_append, CR.len a x.1 c1 h1, CR.len b x.2 c2 h2]; rfl

theorem CR.free {F : Nat → Option (List Value)} : ∀ (e : Ty) (y : e.den) (cs : List Value), e.flatB = true → CR F e y cs → ∀ v ∈ cs, Ev.addrFree v = true
  | .int _, _, _, _, h, v, hv => by rw [show _ = _ from h] at hv; obtain rfl := List.mem_singleton.1 hv; rfl
  | .bool, _, _, _, h, v, hv => by rw [show _ = _ from h] at hv; obtain rfl := List.mem_singleton.1 hv; rfl
  | .str, _, _, _, h, v, hv => by rw [show _ = _ from h] at hv; obtain rfl := List.mem_singleton.1 hv; rfl
  | .flt, _, _, _, h, v, hv => by rw [show _ = _ from h] at hv; obtain rfl := List.mem_singleton.1 hv; rfl
  | .unit, _, _, _, h, v, hv => by rw [show _ = _ from h] at hv; cases hv
  | .sl _, _, _, hf, _, _, _ => by cases hf
  | .pair a b, x, _, hf, ⟨c1, c2, h, h1, h2⟩, v, hv => by
    have hf : (a.flatB && b.flatB) = true := hf
    rw [Bool.and_eq_true] at hf
    rw [h] at hv
    rcases List.mem_append.1 hv with hv | hv
    · exact CR.free a x.1 c1 hf.1 h1 v hv
    · exact CR.free b x.2 c2 hf.2 h2 v hv

theorem crl_of {F : Nat → Option (List Value)} {e : Ty} {s : Nat} : ∀ (len : Nat) (cells : List Value), cells.length = len * s → (∀ i, i < len → ∃ y, CR F e y ((cells.drop (i * s)).take s) ∧ wfD e y) →
    ∃ l : List e.den, l.length = len ∧ CRL (CR F e) l cells ∧ ∀ y ∈ l, wfD e y
  | 0, cells, hl, _ => ⟨[], rfl, List.length_eq_zero_iff.1 (by simpa using hl), fun y hy => by cases hy⟩
  | len + 1, cells, hl, h => by
    obtain ⟨y, h1, h2⟩ := h 0 (Nat.succ_pos _)
    rw [Nat.zero_mul, List.drop_zero] at h1
    obtain ⟨l, k1, k2, k3⟩ := crl_of (F := F) (e := e) (s := s) len (cells.drop s) (by rw [List.length_drop, hl, Nat.succ_mul]; omega) (fun i hi => by
      have := h (i + 1) (by omega)
      rw [List.drop_drop]
      rw [Nat.succ_mul, Nat.add_comm] at this
      exact this)
    refine ⟨y :: l, by rw [List.length_cons, k1], ⟨_, _, (List.take_append_drop s cells).symm, h1, k2⟩, fun z hz => ?_⟩
    rcases List.mem_cons.1 hz with rfl | hz
    · exact h2
    · exact k3 z hz

/-- A slice of plain data that came in is a list. -/
theorem list_arg {r : Reach} {b0 : Nat} {t e : TypeId} {ty : Ty} {d : Nat} {v : Value} {x : DataW H} {p : List MemPlace} (ht : P.underlying t = some (.slice e)) (hf : flatIs P d e ty = true) (hs : P.cellsOf e = ty.size) (hfl : ty.flatB = true) (hok : Value.okWide P w r b0 t v)
    (h : DataW.Trod enc P w base sp held t v x p) : ∃ l : List ty.den, VR (woOf w) (.lst ty l) v ∧ (∀ y ∈ l, wfD ty y) ∧ l.length ≤ maxLen := by
  obtain ⟨fuel, h⟩ := h
  obtain ⟨b, len, cap, rfl⟩ : ∃ b len cap, v = .slice b len cap := okWide_slice ht hok
  rcases open_slice ht h with ⟨h0, _⟩ | ⟨a, len', cap', m, n, D, Pl, hc, _, hl, hm, hmm, _, hx⟩
  · simp [Value.cells] at h0
    obtain ⟨rfl, rfl, rfl⟩ := h0
    exact ⟨[], .lst _ _ _ (.inl ⟨rfl, rfl⟩), fun y hy => (by cases hy), Nat.zero_le _⟩
  · simp [Value.cells] at hc
    obtain ⟨rfl, rfl, rfl⟩ := hc
    obtain ⟨hsp, C, te, fr, hC, ho⟩ := has_at (okWide_has ht hok)
    obtain ⟨cs, h1, h2, h3⟩ := snap_alive hC
    have hle : len ≤ m := by rw [hmm]; split <;> omega
    have hel : ∀ i, i < len → (cs.drop (a.off + i * ty.size)).length ≥ ty.size ∧ ∃ y, CR (woOf w).F ty y ((cs.drop (a.off + i * ty.size)).take ty.size) ∧ wfD ty y := by
      intro i hi
      obtain ⟨cs', k1, k5⟩ := hx i (by omega)
      obtain ⟨_, k2, k3⟩ := World.cells?_some k1
      obtain ⟨y, k6, k7⟩ := flat_cr (F := (woOf w).F) d n e ty cs' _ hf k5
      have hat : ∀ j, j < ty.size → cs[a.off + i * ty.size + j]? = cs'[j]? := by
        intro j hj
        have k4 := k3 j (by omega)
        have e1 : (a.add (i * P.cellsOf e)).add j = ⟨a.block, a.off + i * ty.size + j, none⟩ := by
          obtain ⟨ab, ao, as⟩ := a
          cases hsp
          unfold Addr.add
          rw [hs]
          repeat' split
          all_goals simp_all
        rw [e1] at k4
        unfold World.cell? at k4
        simp only [hC, Option.isSome_none, Bool.false_eq_true, if_false] at k4
        have hjl : j < cs'.length := by omega
        rw [List.getElem?_eq_getElem hjl] at k4 ⊢
        exact h3 _ _ k4 (Ev.refl_of_free _ (CR.free ty y cs' hfl k6 _ (List.getElem_mem hjl)))
      have hlen : (cs.drop (a.off + i * ty.size)).length ≥ ty.size := by
        rw [List.length_drop]
        by_cases hz : ty.size = 0
        · omega
        · have := hat (ty.size - 1) (by omega)
          rw [List.getElem?_eq_getElem (show ty.size - 1 < cs'.length by omega)] at this
          have := (List.getElem?_eq_some_iff.1 this).1
          omega
      refine ⟨hlen, y, ?_, k7⟩
      have : (cs.drop (a.off + i * ty.size)).take ty.size = cs' := by
        apply List.ext_getElem?
        intro j
        by_cases hj : j < ty.size
        · rw [List.getElem?_take_of_lt hj, List.getElem?_drop, hat j hj]
        · rw [List.getElem?_eq_none (by simp; omega), List.getElem?_eq_none (by omega)]
      rw [this]; exact k6
    have hbig : len * ty.size ≤ (cs.drop a.off).length := by
      rw [List.length_drop]
      rcases Nat.eq_zero_or_pos len with rfl | hp
      · simp
      · obtain ⟨hlen, _⟩ := hel (len - 1) (by omega)
        rw [List.length_drop] at hlen
        have e2 : len * ty.size = (len - 1) * ty.size + ty.size := by
          obtain ⟨k, rfl⟩ : ∃ k, len = k + 1 := ⟨len - 1, by omega⟩
          rw [Nat.succ_mul]; rfl
        by_cases hz : ty.size = 0
        · rw [hz]; simp
        · omega
    obtain ⟨l, g1, g2, g3⟩ := crl_of (F := (woOf w).F) (e := ty) (s := ty.size) len ((cs.drop a.off).take (len * ty.size)) (by rw [List.length_take]; omega) (fun i hi => by
      obtain ⟨_, y, q1, q2⟩ := hel i hi
      refine ⟨y, ?_, q2⟩
      have e3 : (i + 1) * ty.size ≤ len * ty.size := Nat.mul_le_mul_right _ (by omega)
      rw [Nat.succ_mul] at e3
      rw [List.drop_take, List.take_take, List.drop_drop, Nat.min_eq_left (by omega)]
      exact q1)
    refine ⟨l, .lst _ _ _ (.inr ⟨a.block, cs.take a.off, (cs.drop a.off).take (len * ty.size), (cs.drop a.off).drop (len * ty.size), cap, ?_, ?_, g2, by omega⟩), g3, by omega⟩
    · have : (cs.take a.off).length = a.off := by simp; omega
      rw [this, g1]
      obtain ⟨xb, xo, xs⟩ := a
      cases hsp
      rfl
    · rw [List.take_append_drop, List.take_append_drop]
      exact h1
end Go.Tv

namespace Go.Tv
variable {β : Type}
/-- Notes without the one at their head. -/
noncomputable def bareAnn : Ann → Ann
  | .node _ l r => .node none l r
  | a => a
/-- A function from a place of its code on. -/
noncomputable def codeFrom (X : Cfg) (call : CallT β) (an : FnAnn) (rounds : Nat) (id : FuncId) (p : List Bool) (k : AV → TMem → Option β) (f : TFr) (H : TMem) : Option β :=
  match X.P.funcs[id]? with
  | some fn => match fn.body with
    | some c => codeT X call an.tr (jumpsT X call an.tr an.ja rounds rounds) rounds (codeAt c p) (bareAnn (annAt an.ann p)) f H (ctxK X call an.tr (jumpsT X call an.tr an.ja rounds rounds) rounds p c an.ann (returnK X fn k))
    | none => none
  | none => none
end Go.Tv
namespace Go.Tv
/-- The notes of two. -/
def annPlus : Ann → Ann → Ann
  | .none, b => b
  | .node o l r, .none => .node o l r
  | .node o l r, .node o' l' r' => .node (match o with | some x => some x | none => o') (annPlus l l') (annPlus r r')
end Go.Tv
namespace Go.Tv
open Go.Ev
/-- A contract that is known already, of two results that lead to no memory. -/
theorem con_known2 {X : Cfg} {kn : Ev.Known} {f : FuncId} {g : List AV → Option (Bool × List PRes)}
    (h : ∀ args' rs, g args' = some (true, rs) → ∃ v u vE uE, rs = [.val v, .val u] ∧ scalB v = true ∧ scalB u = true ∧ (∀ S, VR S v vE) ∧ (∀ S, VR S u uE) ∧ ∀ S argsE, LV S args' argsE → kn f argsE = some (.tuple #[vE, uE]) ∧ Ev.addrFreeL argsE = true ∧ Ev.addrFree (.tuple #[vE, uE]) = true) : ConOk X (cfOf X kn) f g := by
  intro args' rs hg
  obtain ⟨v, u, vE, uE, rfl, hs, hs2, hv, hu, hkn⟩ := h args' rs hg
  refine ⟨[v, u], TMem.empty, fun S E argsE hr hgl hl => ?_, ⟨rfl, hs, rfl, hs2, trivial⟩⟩
  obtain ⟨k1, k2, k3⟩ := hkn S argsE hl
  refine ⟨S, .tuple #[vE, uE], E, ⟨1, fun n hn => ?_⟩, ⟨[vE, uE], rfl, LV.cons (hv S) (LV.cons (hu S) LV.nil)⟩, hr, StC.refl _ _ _⟩
  obtain ⟨R, D⟩ := n
  obtain ⟨D', rfl⟩ : ∃ D', D = D' + 1 := ⟨D - 1, by have := hn.2; simp only at this; omega⟩
  show Ev.callA X.P X.G kn R (D' + 1) f argsE E = _
  rw [Ev.callA_succ, k1]
  simp only [k2, k3, Bool.and_self, if_true]
end Go.Tv
namespace Go.Tv
open Go.Ev
noncomputable section
variable {β : Type}
/-- Code without what begins at a place (of sequences alone). -/
def preC : Code → List Bool → Code
  | .seq x y, true :: p => .seq x (preC y p)
  | _, _ => .skip
/-- A place that is reached through sequences alone, and is one. -/
def onSeq : Code → List Bool → Bool
  | .seq _ y, true :: p => onSeq y p
  | .seq _ _, [] => true
  | _, _ => false
theorem seqK_seqK (r : TFr → TMem → Option β) (k : KT β) (y : TFr → TMem → Option β) (hy : y = r) : seqK y (seqK r k) = seqK y k := by
  funext lv f H
  cases lv <;> first | rfl | (subst hy; rfl)
theorem code_split (X : Cfg) (call : CallT β) (tr : List Tmp) (J : JumpT β) (rounds : Nat) : ∀ (p : List Bool) (c : Code), onSeq c p = true → ∀ (a : Ann) (f : TFr) (H : TMem) (k : KT β),
    codeT X call tr J rounds c a f H k = codeT X call tr J rounds (preC c p) a f H (seqK (fun f H => codeT X call tr J rounds (codeAt c p) (annAt a p) f H k) k)
  | [], c, h, a, f, H, k => by
    cases c <;> first | (cases h; done) | rfl
  | false :: p, c, h, a, f, H, k => by cases c <;> cases h
  | true :: p, c, h, a, f, H, k => by
    cases c with
    | seq x y =>
      have ih := code_split X call tr J rounds p y h
      show atT a f H (fun f H => codeT X call tr J rounds x a.l f H (seqK (fun f H => codeT X call tr J rounds y a.r f H k) k)) =
        atT a f H (fun f H => codeT X call tr J rounds x a.l f H (seqK (fun f H => codeT X call tr J rounds (preC y p) a.r f H (seqK (fun f H => codeT X call tr J rounds (codeAt y p) (annAt a.r p) f H k) k)) (seqK (fun f H => codeT X call tr J rounds (codeAt y p) (annAt a.r p) f H k) k)))
      congr 1
      funext f H
      congr 1
      funext lv f H
      cases lv with
      | normal => exact ih a.r f H k
      | exit id => rfl
      | ret => rfl
      | goto l => rfl
    | _ => cases h
theorem code_note (X : Cfg) (call : CallT β) (tr : List Tmp) (J : JumpT β) (rounds : Nat) : ∀ (p : List Bool) (c : Code), onSeq c p = true → ∀ (a : Ann) (f : TFr) (H : TMem) (k : KT β),
    codeT X call tr J rounds (codeAt c p) (annAt a p) f H k = atT (annAt a p) f H fun f H => codeT X call tr J rounds (codeAt c p) (bareAnn (annAt a p)) f H k
  | [], c, h, a, f, H, k => by
    cases c with
    | seq x y =>
      cases a with
      | none => rfl
      | node o l r => rfl
    | _ => cases h
  | false :: p, c, h, a, f, H, k => by cases c <;> cases h
  | true :: p, c, h, a, f, H, k => by
    cases c with
    | seq x y => exact code_note X call tr J rounds p y h a.r f H k
    | _ => cases h
theorem ctx_seq (X : Cfg) (call : CallT β) (tr : List Tmp) (J : JumpT β) (rounds : Nat) : ∀ (p : List Bool) (c : Code), onSeq c p = true → ∀ (a : Ann) (k : KT β), ctxK X call tr J rounds p c a k = k
  | [], c, _, a, k => by cases c <;> rfl
  | false :: p, c, h, a, k => by cases c <;> cases h
  | true :: p, c, h, a, k => by
    cases c with
    | seq x y => exact ctx_seq X call tr J rounds p y h a.r k
    | _ => cases h
/-- The part of a function ahead of a place; what follows is open. -/
def preT (X : Cfg) (call : CallT β) (an : FnAnn) (rounds : Nat) (id : FuncId) (p : List Bool) (args : List AV) (H : TMem) (k : AV → TMem → Option β) (K : TFr → TMem → Option β) : Option β :=
  match X.P.funcs[id]? with
  | some fn => match fn.body with
    | some c => pick2 (Nat.ble args.length fn.ntmps)
        (codeT X call an.tr (jumpsT X call an.tr an.ja rounds rounds) rounds (preC c p) an.ann ((TFr.mk fn.ntmps .e).fill 0 args) H (seqK (fun f H => atT (annAt an.ann p) f H K) (returnK X fn k))) none
    | none => none
  | none => none
def seqAt (X : Cfg) (id : FuncId) (p : List Bool) : Bool :=
  match X.P.funcs[id]? with
  | some fn => match fn.body with
    | some c => onSeq c p
    | none => false
  | none => false
/-- A function is its part ahead of a place, and what follows from there. -/
theorem enter_from {X : Cfg} {call : CallT β} {an : FnAnn} {rounds : Nat} {id : FuncId} {p : List Bool} (hp : seqAt X id p = true) (args : List AV) (H : TMem) (k : AV → TMem → Option β) :
    enterT X call an rounds id args H k = preT X call an rounds id p args H k (codeFrom X call an rounds id p k) := by
  unfold seqAt at hp
  unfold enterT preT
  cases hf : X.P.funcs[id]? with
  | none => rfl
  | some fn =>
    rw [hf] at hp
    simp only at hp ⊢
    cases hb : fn.body with
    | none => rfl
    | some c =>
      rw [hb] at hp
      simp only at hp ⊢
      rw [code_split X call an.tr _ rounds p c hp]
      have e : (fun f H => codeT X call an.tr (jumpsT X call an.tr an.ja rounds rounds) rounds (codeAt c p) (annAt an.ann p) f H (returnK X fn k)) =
          fun f H => atT (annAt an.ann p) f H (codeFrom X call an rounds id p k) := by
        funext f H
        rw [code_note X call an.tr _ rounds p c hp]
        congr 1
        funext f H
        unfold codeFrom
        rw [hf]
        simp only
        rw [hb]
        simp only
        rw [ctx_seq X call an.tr _ rounds p c hp]
      rw [e]
end
end Go.Tv
