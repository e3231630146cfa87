/- The evaluator's values and memory beside the machine's own: how the two are held against each other. -/
import Derived.Test.YtcafcgiemdlobaaDoorEv
import Derived.Below
import Derived.Laws.Cells
import Derived.Laws.Append
import Derived.Laws.IdiomStrings
import Derived.Laws.BytesString
import Derived.Still
import Derived.Lib.Builder
import Derived.Lib.UnsafeStr
namespace Go.Ev
open Go.RowKit

/-- Which row of the machine's memory stands for a row of the evaluator's, and how many elements more it has room for. -/
abbrev Ren := Nat → Option (Nat × Nat)

def Ren.le (ρ ρ' : Ren) : Prop := ∀ i x, ρ i = some x → ρ' i = some x
theorem Ren.le_refl (ρ : Ren) : ρ.le ρ := fun _ _ h => h
theorem Ren.le_trans {a b c : Ren} (h : a.le b) (k : b.le c) : a.le c := fun i x hx => k i x (h i x hx)

inductive VRel (ρ : Ren) : Value → Value → Prop where
  | bool (b) : VRel ρ (.bool b) (.bool b)
  | int (k n) : VRel ρ (.int k n) (.int k n)
  | float (k n) : VRel ρ (.float k n) (.float k n)
  | complex (k a b) : VRel ρ (.complex k a b) (.complex k a b)
  | string (s) : VRel ρ (.string s) (.string s)
  | ptrNil : VRel ρ (.pointer none) (.pointer none)
  | ptr (i off r x) (h : ρ i = some (r, x)) : VRel ρ (.pointer (some ⟨i, off, none⟩)) (.pointer (some ⟨r, off, none⟩))
  | sliceNil (l c) : VRel ρ (.slice none l c) (.slice none l c)
  | slice (i off l c r x) (h : ρ i = some (r, x)) : VRel ρ (.slice (some ⟨i, off, none⟩) l c) (.slice (some ⟨r, off, none⟩) l (c + x))
  | mapNil : VRel ρ (.map none) (.map none)
  | nilFunc : VRel ρ .nilFunc .nilFunc
  | nilIface : VRel ρ .nilIface .nilIface
  | iface (t v v') (h : VRel ρ v v') : VRel ρ (.iface t v) (.iface t v')
  | func (fn) (a a' b b' : Array Value) (sa : a.size = a'.size) (ha : ∀ (i : Nat) x y, a[i]? = some x → a'[i]? = some y → VRel ρ x y)
      (sb : b.size = b'.size) (hb : ∀ (i : Nat) x y, b[i]? = some x → b'[i]? = some y → VRel ρ x y) : VRel ρ (.func fn a b) (.func fn a' b')
  | agg (a a' : Array Value) (sa : a.size = a'.size) (ha : ∀ (i : Nat) x y, a[i]? = some x → a'[i]? = some y → VRel ρ x y) : VRel ρ (.agg a) (.agg a')
  | tuple (a a' : Array Value) (sa : a.size = a'.size) (ha : ∀ (i : Nat) x y, a[i]? = some x → a'[i]? = some y → VRel ρ x y) : VRel ρ (.tuple a) (.tuple a')

theorem VRel.mono {ρ ρ' : Ren} (hle : ρ.le ρ') {v v' : Value} (h : VRel ρ v v') : VRel ρ' v v' := by
  induction h with
  | bool => exact .bool _
  | int => exact .int _ _
  | float => exact .float _ _
  | complex => exact .complex _ _ _
  | string => exact .string _
  | ptrNil => exact .ptrNil
  | ptr i off r x h => exact .ptr i off r x (hle _ _ h)
  | sliceNil => exact .sliceNil _ _
  | slice i off l c r x h => exact .slice i off l c r x (hle _ _ h)
  | mapNil => exact .mapNil
  | nilFunc => exact .nilFunc
  | nilIface => exact .nilIface
  | iface t v v' _ ih => exact .iface t v v' ih
  | func fn a a' b b' sa _ sb _ iha ihb => exact .func fn a a' b b' sa (fun i x y hx hy => iha i x y hx hy) sb (fun i x y hx hy => ihb i x y hx hy)
  | agg a a' sa _ ih => exact .agg a a' sa (fun i x y hx hy => ih i x y hx hy)
  | tuple a a' sa _ ih => exact .tuple a a' sa (fun i x y hx hy => ih i x y hx hy)

/-- Two lists, element by element. -/
def LR (R : Value → Value → Prop) (l l' : List Value) : Prop := l.length = l'.length ∧ ∀ (i : Nat) x y, l[i]? = some x → l'[i]? = some y → R x y
def AR (R : Value → Value → Prop) (a a' : Array Value) : Prop := a.size = a'.size ∧ ∀ (i : Nat) x y, a[i]? = some x → a'[i]? = some y → R x y

theorem AR.list {R : Value → Value → Prop} {a a' : Array Value} (h : AR R a a') : LR R a.toList a'.toList :=
  ⟨by simpa using h.1, fun i x y hx hy => h.2 i x y (by simpa using hx) (by simpa using hy)⟩
theorem LR.array {R : Value → Value → Prop} {l l' : List Value} (h : LR R l l') : AR R l.toArray l'.toArray :=
  ⟨by simpa using h.1, fun i x y hx hy => h.2 i x y (by simpa using hx) (by simpa using hy)⟩
theorem LR.of_array {R : Value → Value → Prop} {a a' : Array Value} (h : LR R a.toList a'.toList) : AR R a a' :=
  ⟨by simpa using h.1, fun i x y hx hy => h.2 i x y (by simpa using hx) (by simpa using hy)⟩

theorem LR.nil {R : Value → Value → Prop} : LR R [] [] := ⟨rfl, fun i x y hx => by simp at hx⟩
theorem LR.cons {R : Value → Value → Prop} {v v' : Value} {l l' : List Value} (hv : R v v') (h : LR R l l') : LR R (v :: l) (v' :: l') :=
  ⟨by simp [h.1], fun i x y hx hy => by
    cases i with
    | zero => simp at hx hy; subst hx hy; exact hv
    | succ i => exact h.2 i x y (by simpa using hx) (by simpa using hy)⟩
theorem LR.uncons {R : Value → Value → Prop} {v : Value} {l l' : List Value} (h : LR R (v :: l) l') : ∃ v' t', l' = v' :: t' ∧ R v v' ∧ LR R l t' := by
  cases l' with
  | nil => have := h.1; simp at this
  | cons v' t' => exact ⟨v', t', rfl, h.2 0 v v' rfl rfl, by have := h.1; simpa using this, fun i x y hx hy => h.2 (i + 1) x y (by simpa using hx) (by simpa using hy)⟩
theorem LR.unnil {R : Value → Value → Prop} {l' : List Value} (h : LR R [] l') : l' = [] := by
  have := h.1; simpa using this.symm
theorem LR.append {R : Value → Value → Prop} {a a' b b' : List Value} (h : LR R a a') (k : LR R b b') : LR R (a ++ b) (a' ++ b') :=
  ⟨by simp [h.1, k.1], fun i x y hx hy => by
    rw [List.getElem?_append] at hx hy
    by_cases hi : i < a.length
    · rw [if_pos hi] at hx; rw [if_pos (h.1 ▸ hi)] at hy; exact h.2 i x y hx hy
    · rw [if_neg hi] at hx; rw [if_neg (h.1 ▸ hi)] at hy; exact k.2 _ x y hx (by rw [h.1]; exact hy)⟩
theorem LR.take {R : Value → Value → Prop} {a a' : List Value} (h : LR R a a') (n : Nat) : LR R (a.take n) (a'.take n) :=
  ⟨by simp [h.1], fun i x y hx hy => by
    rw [List.getElem?_take] at hx hy
    by_cases hi : i < n
    · rw [if_pos hi] at hx hy; exact h.2 i x y hx hy
    · rw [if_neg hi] at hx; cases hx⟩
theorem LR.drop {R : Value → Value → Prop} {a a' : List Value} (h : LR R a a') (n : Nat) : LR R (a.drop n) (a'.drop n) :=
  ⟨by simp [h.1], fun i x y hx hy => by
    rw [List.getElem?_drop] at hx hy; exact h.2 _ x y hx hy⟩
theorem LR.get {R : Value → Value → Prop} {a a' : List Value} (h : LR R a a') {i : Nat} {x : Value} (hx : a[i]? = some x) : ∃ y, a'[i]? = some y ∧ R x y := by
  have hlt : i < a.length := (List.getElem?_eq_some_iff.1 hx).1
  have hlt' : i < a'.length := h.1 ▸ hlt
  exact ⟨a'[i], by simp [hlt'], h.2 i x _ hx (by simp [hlt'])⟩
theorem LR.set {R : Value → Value → Prop} {a a' : List Value} (h : LR R a a') (i : Nat) {v v' : Value} (hv : R v v') : LR R (a.set i v) (a'.set i v') :=
  ⟨by simp [h.1], fun j x y hx hy => by
    rw [List.getElem?_set] at hx hy
    by_cases hij : i = j
    · rw [if_pos hij] at hx hy
      by_cases hl : i < a.length
      · have hl' : i < a'.length := h.1 ▸ hl
        rw [if_pos (hij ▸ hl)] at hx; rw [if_pos (hij ▸ hl')] at hy; cases hx; cases hy; exact hv
      · rw [if_neg (hij ▸ hl)] at hx; cases hx
    · rw [if_neg hij] at hx hy; exact h.2 j x y hx hy⟩
theorem LR.mono {R R' : Value → Value → Prop} (hr : ∀ x y, R x y → R' x y) {a a' : List Value} (h : LR R a a') : LR R' a a' := ⟨h.1, fun i x y hx hy => hr _ _ (h.2 i x y hx hy)⟩
theorem AR.mono {R R' : Value → Value → Prop} (hr : ∀ x y, R x y → R' x y) {a a' : Array Value} (h : AR R a a') : AR R' a a' := ⟨h.1, fun i x y hx hy => hr _ _ (h.2 i x y hx hy)⟩

/-! ### Values that lead to no memory -/

mutual
theorem refl_of_free {ρ : Ren} : ∀ v, addrFree v = true → VRel ρ v v
  | .bool _, _ => .bool _
  | .int _ _, _ => .int _ _
  | .float _ _, _ => .float _ _
  | .complex _ _ _, _ => .complex _ _ _
  | .string _, _ => .string _
  | .pointer none, _ => .ptrNil
  | .pointer (some _), h => by simp [addrFree] at h
  | .slice none _ _, _ => .sliceNil _ _
  | .slice (some _) _ _, h => by simp [addrFree] at h
  | .map none, _ => .mapNil
  | .map (some _), h => by simp [addrFree] at h
  | .chan _, h => by simp [addrFree] at h
  | .func fn a b, h => by
    simp only [addrFree, Bool.and_eq_true] at h
    exact .func fn a a b b rfl (refl_of_freeA a h.1) rfl (refl_of_freeA b h.2)
  | .nilFunc, _ => .nilFunc
  | .iface t v, h => .iface t v v (refl_of_free v (by simpa [addrFree] using h))
  | .nilIface, _ => .nilIface
  | .agg cs, h => .agg cs cs rfl (refl_of_freeA cs (by simpa [addrFree] using h))
  | .tuple cs, h => .tuple cs cs rfl (refl_of_freeA cs (by simpa [addrFree] using h))
theorem refl_of_freeA {ρ : Ren} : ∀ a : Array Value, addrFreeA a = true → ∀ (i : Nat) x y, a[i]? = some x → a[i]? = some y → VRel ρ x y
  | ⟨l⟩, h, i, x, y, hx, hy => refl_of_freeL l (by simpa [addrFreeA] using h) i x y (by simpa using hx) (by simpa using hy)
theorem refl_of_freeL {ρ : Ren} : ∀ l : List Value, addrFreeL l = true → ∀ (i : Nat) x y, l[i]? = some x → l[i]? = some y → VRel ρ x y
  | [], _, i, x, y, hx, _ => by simp at hx
  | v :: l, h, 0, x, y, hx, hy => by
    simp only [addrFreeL, Bool.and_eq_true] at h
    simp at hx hy; subst hx hy; exact refl_of_free v h.1
  | v :: l, h, i + 1, x, y, hx, hy => by
    simp only [addrFreeL, Bool.and_eq_true] at h
    exact refl_of_freeL l h.2 i x y (by simpa using hx) (by simpa using hy)
end

theorem freeL_get : ∀ {l : List Value}, addrFreeL l = true → ∀ {i : Nat} {x : Value}, l[i]? = some x → addrFree x = true
  | [], _, i, x, hx => by simp at hx
  | v :: l, h, 0, x, hx => by
    simp only [addrFreeL, Bool.and_eq_true] at h
    simp at hx; subst hx; exact h.1
  | v :: l, h, i + 1, x, hx => by
    simp only [addrFreeL, Bool.and_eq_true] at h
    exact freeL_get h.2 (by simpa using hx)
theorem freeA_get {a : Array Value} (h : addrFreeA a = true) {i : Nat} {x : Value} (hx : a[i]? = some x) : addrFree x = true := by
  cases a with
  | mk l => exact freeL_get (l := l) (by simpa [addrFreeA] using h) (by simpa using hx)

theorem arr_eq {a a' : Array Value} (hs : a.size = a'.size) (h : ∀ (i : Nat) x y, a[i]? = some x → a'[i]? = some y → y = x) : a' = a := by
  apply Array.ext_getElem?
  intro i
  by_cases hi : i < a.size
  · have hi' : i < a'.size := hs ▸ hi
    rw [Array.getElem?_eq_getElem hi, Array.getElem?_eq_getElem hi']
    exact congrArg some (h i _ _ (Array.getElem?_eq_getElem hi) (Array.getElem?_eq_getElem hi'))
  · rw [Array.getElem?_eq_none (Nat.le_of_not_lt hi), Array.getElem?_eq_none (Nat.le_of_not_lt (hs ▸ hi))]

theorem eq_of_free {ρ : Ren} {v v' : Value} (h : VRel ρ v v') (hf : addrFree v = true) : v' = v := by
  induction h with
  | ptr => simp [addrFree] at hf
  | slice => simp [addrFree] at hf
  | iface t v v' _ ih => rw [ih (by simpa [addrFree] using hf)]
  | func fn a a' b b' sa _ sb _ iha ihb =>
    simp only [addrFree, Bool.and_eq_true] at hf
    rw [arr_eq sa (fun i x y hx hy => iha i x y hx hy (freeA_get hf.1 hx)), arr_eq sb (fun i x y hx hy => ihb i x y hx hy (freeA_get hf.2 hx))]
  | agg a a' sa _ ih =>
    simp only [addrFree] at hf
    rw [arr_eq sa (fun i x y hx hy => ih i x y hx hy (freeA_get hf hx))]
  | tuple a a' sa _ ih =>
    simp only [addrFree] at hf
    rw [arr_eq sa (fun i x y hx hy => ih i x y hx hy (freeA_get hf hx))]
  | _ => rfl

theorem AR.eq_of_free {ρ : Ren} {a a' : Array Value} (h : AR (VRel ρ) a a') (hf : addrFreeA a = true) : a' = a :=
  arr_eq h.1 fun i x y hx hy => Ev.eq_of_free (h.2 i x y hx hy) (freeA_get hf hx)
theorem AR.refl_of_free {ρ : Ren} {a : Array Value} (hf : addrFreeA a = true) : AR (VRel ρ) a a := ⟨rfl, refl_of_freeA a hf⟩

theorem VRel.undef {ρ : Ren} : VRel ρ Go.undef Go.undef := .tuple _ _ rfl (fun i x y hx => by simp at hx)

theorem VRel.cells {ρ : Ren} {v v' : Value} (h : VRel ρ v v') : AR (VRel ρ) v.cells v'.cells := by
  have one : ∀ {v v' : Value}, VRel ρ v v' → AR (VRel ρ) #[v] #[v'] := fun h => ⟨rfl, fun i x y hx hy => by
    cases i with
    | zero => simp at hx hy; subst hx hy; exact h
    | succ i => simp at hx⟩
  cases h with
  | agg a a' sa ha => exact ⟨sa, ha⟩
  | bool => exact one (.bool _)
  | int => exact one (.int _ _)
  | float => exact one (.float _ _)
  | complex => exact one (.complex _ _ _)
  | string => exact one (.string _)
  | ptrNil => exact one .ptrNil
  | ptr i off r x h => exact one (.ptr i off r x h)
  | sliceNil => exact one (.sliceNil _ _)
  | slice i off l c r x h => exact one (.slice i off l c r x h)
  | mapNil => exact one .mapNil
  | nilFunc => exact one .nilFunc
  | nilIface => exact one .nilIface
  | iface t v v' h => exact one (.iface t v v' h)
  | func fn a a' b b' sa ha sb hb => exact one (.func fn a a' b b' sa ha sb hb)
  | tuple a a' sa ha => exact one (.tuple a a' sa ha)

theorem VRel.plain {ρ : Ren} {v v' : Value} (h : VRel ρ v v') (hp : plainCell v = true) : v'.oneCell' = true := by
  cases h <;> first | rfl | (simp [plainCell] at hp)

/-! ### Memory -/

/-- The machine's cells begin with the evaluator's. -/
def Begins (R : Value → Value → Prop) (l : List Value) (C : Array Value) : Prop := l.length ≤ C.size ∧ ∀ (j : Nat) v, l[j]? = some v → isJunk v = false → ∃ v', C[j]? = some v' ∧ R v v'

def unfrozen (C : Array Value) (fr : Nat × Nat) : Prop := fr.1 ≤ fr.2 ∧ ∀ j, j < C.size → ¬ (fr.1 ≤ j ∧ j < fr.2)

theorem pick2_true {α : Type} (x y : α) : pick2 true x y = x := rfl
theorem pick2_false {α : Type} (x y : α) : pick2 false x y = y := rfl
theorem pick2_eq {α : Type} (b : Bool) (x y : α) : pick2 b x y = if b then x else y := by cases b <;> rfl

theorem Tr.get_n {α : Type} (l : Tr α) (v : Option α) (r : Tr α) (k : Nat) : (Tr.n l v r).get k = if k = 0 then v else if k % 2 = 1 then l.get (k / 2) else r.get (k / 2 - 1) := by
  show pick2 (Nat.beq k 0) v (pick2 (Nat.beq (k % 2) 1) (l.get (k / 2)) (r.get (k / 2 - 1))) = _
  rw [pick2_eq, pick2_eq]; simp only [Nat.beq_eq]

theorem Tr.set_n {α : Type} (l : Tr α) (v : Option α) (r : Tr α) (k : Nat) (x : α) : (Tr.n l v r).set k x = if k = 0 then some (.n l (some x) r) else if k % 2 = 1 then (l.set (k / 2) x).map (fun l' => .n l' v r) else (r.set (k / 2 - 1) x).map (fun r' => .n l v r') := by
  show pick2 (Nat.beq k 0) (some (Tr.n l (some x) r)) (pick2 (Nat.beq (k % 2) 1) (Option.rec (motive := fun _ => Option (Tr α)) none (fun l' => some (Tr.n l' v r)) (l.set (k / 2) x)) (Option.rec (motive := fun _ => Option (Tr α)) none (fun r' => some (Tr.n l v r')) (r.set (k / 2 - 1) x))) = _
  rw [pick2_eq, pick2_eq]; simp only [Nat.beq_eq]
  cases l.set (k / 2) x <;> cases r.set (k / 2 - 1) x <;> rfl

theorem Tr.get_e {α : Type} (j : Nat) : (Tr.e : Tr α).get j = none := rfl

theorem Tr.get_mk1 {α : Type} {x : α} : ∀ (d k : Nat), k ≤ d → ∀ j, (Tr.mk1 x d k).get j = if j = k then some x else none
  | 0, k, hk, j => by
    obtain rfl : k = 0 := by omega
    show (Tr.n .e (some x) .e).get j = _
    rw [Tr.get_n]; simp only [Tr.get_e]; split <;> simp_all
  | d + 1, k, hk, j => by
    show (pick2 (Nat.beq k 0) (Tr.n .e (some x) .e) (pick2 (Nat.beq (k % 2) 1) (.n (Tr.mk1 x d (k / 2)) none .e) (.n .e none (Tr.mk1 x d (k / 2 - 1))))).get j = _
    rw [pick2_eq, pick2_eq]; simp only [Nat.beq_eq]
    by_cases h0 : k = 0
    · rw [if_pos h0, Tr.get_n]; simp only [Tr.get_e]; subst h0; split <;> simp_all
    · rw [if_neg h0]
      by_cases h1 : k % 2 = 1
      · rw [if_pos h1, Tr.get_n, Tr.get_mk1 d (k / 2) (by omega)]
        simp only [Tr.get_e]
        by_cases hj : j = 0
        · rw [if_pos hj, if_neg (by omega)]
        · rw [if_neg hj]
          by_cases hjm : j % 2 = 1
          · rw [if_pos hjm]
            by_cases hjk : j / 2 = k / 2
            · rw [if_pos hjk, if_pos (by omega)]
            · rw [if_neg hjk, if_neg (by omega)]
          · rw [if_neg hjm, if_neg (by omega)]
      · rw [if_neg h1, Tr.get_n, Tr.get_mk1 d (k / 2 - 1) (by omega)]
        simp only [Tr.get_e]
        by_cases hj : j = 0
        · rw [if_pos hj, if_neg (by omega)]
        · rw [if_neg hj]
          by_cases hjm : j % 2 = 1
          · rw [if_pos hjm, if_neg (by omega)]
          · rw [if_neg hjm]
            by_cases hjk : j / 2 - 1 = k / 2 - 1
            · rw [if_pos hjk, if_pos (by omega)]
            · rw [if_neg hjk, if_neg (by omega)]

theorem Tr.set_total {α : Type} (x : α) : ∀ (t : Tr α) (k : Nat), ∃ t', t.set k x = some t' := by
  intro t
  induction t with
  | e => exact fun k => ⟨_, rfl⟩
  | n l v r ihl ihr =>
    intro k
    rw [Tr.set_n]
    obtain ⟨l', hl⟩ := ihl (k / 2)
    obtain ⟨r', hr⟩ := ihr (k / 2 - 1)
    rw [hl, hr]
    split
    · exact ⟨_, rfl⟩
    · split <;> exact ⟨_, rfl⟩

theorem Tr.get_set {α : Type} {x : α} : ∀ {t t' : Tr α} {k : Nat}, t.set k x = some t' → ∀ j, t'.get j = if j = k then some x else t.get j := by
  intro t
  induction t with
  | e =>
    intro t' k h j
    have h' : some (Tr.mk1 x k k) = some t' := h
    cases h'
    exact Tr.get_mk1 k k (Nat.le_refl k) j
  | n l v r ihl ihr =>
    intro t' k h j
    rw [Tr.set_n] at h
    by_cases hk : k = 0
    · rw [if_pos hk] at h; cases h
      rw [Tr.get_n, Tr.get_n, hk]
      by_cases hj : j = 0 <;> simp [hj]
    · rw [if_neg hk] at h
      by_cases hm : k % 2 = 1
      · rw [if_pos hm] at h
        simp only [Option.map_eq_some_iff] at h
        obtain ⟨l', hl, rfl⟩ := h
        rw [Tr.get_n, Tr.get_n]
        by_cases hj : j = 0
        · rw [if_pos hj, if_pos hj, if_neg (by omega)]
        · rw [if_neg hj, if_neg hj]
          by_cases hjm : j % 2 = 1
          · rw [if_pos hjm, if_pos hjm, ihl hl]
            by_cases hjk : j / 2 = k / 2
            · rw [if_pos hjk, if_pos (by omega)]
            · rw [if_neg hjk, if_neg (by omega)]
          · rw [if_neg hjm, if_neg hjm, if_neg (by omega)]
      · rw [if_neg hm] at h
        simp only [Option.map_eq_some_iff] at h
        obtain ⟨r', hr, rfl⟩ := h
        rw [Tr.get_n, Tr.get_n]
        by_cases hj : j = 0
        · rw [if_pos hj, if_pos hj, if_neg (by omega)]
        · rw [if_neg hj, if_neg hj]
          by_cases hjm : j % 2 = 1
          · rw [if_pos hjm, if_pos hjm, if_neg (by omega)]
          · rw [if_neg hjm, if_neg hjm, ihr hr]
            by_cases hjk : j / 2 - 1 = k / 2 - 1
            · rw [if_pos hjk, if_pos (by omega)]
            · rw [if_neg hjk, if_neg (by omega)]

theorem ble_succ (i n : Nat) : Nat.ble (Nat.succ i) n = decide (i < n) := by
  rw [Bool.eq_iff_iff]; simp [Nat.ble_eq]; omega
theorem ble_dec (i n : Nat) : Nat.ble i n = decide (i ≤ n) := by
  rw [Bool.eq_iff_iff]; simp [Nat.ble_eq]

theorem Mem.get_eq (H : Mem) (i : Nat) : H.get i = if i < H.size then H.t.get i else none := by
  unfold Mem.get; rw [pick2_eq, ble_succ]; simp

theorem Mem.get_lt {H : Mem} {i : Nat} {b : Blk} (h : H.get i = some b) : i < H.size := by
  rw [Mem.get_eq] at h; split at h
  · assumption
  · cases h

theorem Mem.push_spec {H H' : Mem} {b : Blk} (h : H.push b = some H') : H'.size = H.size + 1 ∧ H'.lk = H.lk ∧ ∀ i, H'.get i = if i = H.size then some b else H.get i := by
  unfold Mem.push at h
  cases hs : H.t.set H.size b with
  | none => rw [hs] at h; cases h
  | some t =>
    rw [hs] at h
    have h' : some (Mem.mk (H.size + 1) H.lk t) = some H' := h
    cases h'
    refine ⟨rfl, rfl, fun i => ?_⟩
    rw [Mem.get_eq, Mem.get_eq]
    simp only [Tr.get_set hs]
    by_cases h1 : i = H.size
    · subst h1; simp
    · rw [if_neg h1, if_neg h1]
      by_cases h2 : i < H.size
      · rw [if_pos h2, if_pos (by omega)]
      · rw [if_neg h2, if_neg (by omega)]

theorem Mem.set_spec {H H' : Mem} {i : Nat} {b : Blk} (h : H.set i b = some H') : i < H.size ∧ H.lk ≤ i ∧ H'.size = H.size ∧ H'.lk = H.lk ∧ ∀ j, H'.get j = if j = i then some b else H.get j := by
  unfold Mem.set at h
  rw [pick2_eq, pick2_eq, ble_succ, ble_dec] at h
  split at h
  · rename_i hi
    simp only [decide_eq_true_eq] at hi
    split at h
    · rename_i hl
      simp only [decide_eq_true_eq] at hl
      cases hs : H.t.set i b with
      | none => rw [hs] at h; cases h
      | some t =>
        rw [hs] at h
        have h' : some (Mem.mk H.size H.lk t) = some H' := h
        cases h'
        refine ⟨hi, hl, rfl, rfl, fun j => ?_⟩
        rw [Mem.get_eq, Mem.get_eq]
        simp only [Tr.get_set hs]
        by_cases h1 : j = i
        · subst h1; rw [if_pos rfl, if_pos rfl, if_pos hi]
        · rw [if_neg h1, if_neg h1]
    · cases h
  · cases h

/-- Where a run stands: the program, the heap's size when it began, how many rows are given, how many of them are package-level variables, the world when it began. -/
structure Cx where
  P : Program
  B : Nat
  L : Nat
  G : Nat
  w0 : World

/-- A row of the evaluator's, held against the machine's memory. -/
def BlkAt (c : Cx) (ρ : Ren) (w : World) (i : Nat) (b : Blk) : Prop :=
  ∃ r x C fr s, ρ i = some (r, x) ∧ (i < c.L ∨ c.B ≤ r) ∧ w.heap[r]? = some (.cells C b.elem fr) ∧ (i < c.L ∨ unfrozen C fr) ∧ ((i < c.L ∨ sizeA c.P b.elem = some s) ∧ (b.fix = true → x = 0)) ∧ C.size = b.cells.length + x * s ∧ Begins (VRel ρ) b.cells C

structure Emb (c : Cx) (ρ : Ren) (H : Mem) (w : World) : Prop where
  below : Below c.B c.w0 w
  base : c.B ≤ w.heap.size
  dom : ∀ i x, ρ i = some x → i < H.size
  lk : c.L ≤ H.lk
  lsz : c.L ≤ H.size
  glob : ∀ g, g < c.G → ρ g = some (g, 0)
  blk : ∀ i b, H.get i = some b → b.live = true → BlkAt c ρ w i b
  inj : ∀ i j bi bj r x y, H.get i = some bi → bi.live = true → H.get j = some bj → bj.live = true → ρ i = some (r, x) → ρ j = some (r, y) → i = j

theorem alive_some {H : Mem} {i : Nat} {b : Blk} (h : alive H i = some b) : H.get i = some b ∧ b.live = true := by
  unfold alive at h
  split at h
  · rename_i b' hb'
    cases hl : b'.live with
    | true => rw [hl] at h; cases h; exact ⟨hb', hl⟩
    | false => rw [hl] at h; cases h
  · cases h

section
variable {c : Cx} {w : World} {ρ : Ren} {H : Mem}

theorem Emb.drew (h : Emb c ρ H w) : Emb c ρ H w.drew := ⟨h.below.drew, h.base, h.dom, h.lk, h.lsz, h.glob, h.blk, h.inj⟩

/-- The machine's memory may grow behind what there is. -/
theorem Emb.grow {w' : World} (h : Emb c ρ H w) (hb : Below w.heap.size w w') : Emb c ρ H w' := by
  refine ⟨h.below.trans (hb.mono h.base), Nat.le_trans h.base hb.size, h.dom, h.lk, h.lsz, h.glob, fun i b hi hl => ?_, h.inj⟩
  obtain ⟨r, x, C, fr, s, h1, h2, h3, h4⟩ := h.blk i b hi hl
  have hr : r < w.heap.size := (Array.getElem?_eq_some_iff.1 h3).1
  exact ⟨r, x, C, fr, s, h1, h2, by rw [hb.block r hr]; exact h3, h4⟩

theorem Begins.mono {R R' : Value → Value → Prop} (hr : ∀ x y, R x y → R' x y) {l : List Value} {C : Array Value} (h : Begins R l C) : Begins R' l C :=
  ⟨h.1, fun j v hv hj => let ⟨v', h1, h2⟩ := h.2 j v hv hj; ⟨v', h1, hr _ _ h2⟩⟩

def Ren.put (ρ : Ren) (i : Nat) (x : Nat × Nat) : Ren := fun j => if j = i then some x else ρ j

theorem Ren.put_same (ρ : Ren) (i : Nat) (x : Nat × Nat) : ρ.put i x i = some x := by simp [Ren.put]
theorem Ren.put_other (ρ : Ren) {i j : Nat} (x : Nat × Nat) (h : j ≠ i) : ρ.put i x j = ρ j := by simp [Ren.put, h]

theorem Emb.unused (h : Emb c ρ H w) {i : Nat} (hi : H.size ≤ i) : ρ i = Option.none := by
  cases hx : ρ i with
  | none => rfl
  | some x => have := h.dom i x hx; omega

theorem Emb.le_put (h : Emb c ρ H w) {i : Nat} (hi : H.size ≤ i) (x : Nat × Nat) : ρ.le (ρ.put i x) := by
  intro j y hy
  have : j ≠ i := by intro e; subst e; rw [h.unused hi] at hy; cases hy
  rw [Ren.put_other ρ x this]; exact hy

/-- A row more, wherever it lies, if it is none of those that are live. -/
theorem Emb.add {w' : World} {H' : Mem} (h : Emb c ρ H w) {t : TypeId} {cs : List Value} {C : Array Value} {fr : Nat × Nat} {r x s : Nat} {fx : Bool} (hp : H.push ⟨cs, t, true, fx⟩ = some H')
    (hbel : Below c.B c.w0 w') (hbase : c.B ≤ w'.heap.size) (hold : ∀ (i : Nat) (b : Blk), H.get i = some b → b.live = true → BlkAt c ρ w' i b)
    (hfresh : ∀ (i : Nat) (b : Blk) r' y, H.get i = some b → b.live = true → ρ i = some (r', y) → r' ≠ r)
    (hnew : w'.heap[r]? = some (.cells C t fr)) (hB : c.B ≤ r) (hf : unfrozen C fr) (hs : sizeA c.P t = some s) (hsz : C.size = cs.length + x * s) (hb : Begins (VRel ρ) cs C) (hfx : fx = true → x = 0) :
    Emb c (ρ.put H.size (r, x)) H' w' := by
  have hle := h.le_put (Nat.le_refl H.size) (r, x)
  obtain ⟨q1, q2, q3⟩ := Mem.push_spec hp
  have at1 : ∀ {i : Nat} {b : Blk}, H'.get i = some b → (i < H.size ∧ H.get i = some b) ∨ (i = H.size ∧ b = ⟨cs, t, true, fx⟩) := by
    intro i b hi
    rw [q3] at hi
    by_cases h1 : i = H.size
    · rw [if_pos h1] at hi; cases hi; exact .inr ⟨h1, rfl⟩
    · rw [if_neg h1] at hi; exact .inl ⟨Mem.get_lt hi, hi⟩
  refine ⟨hbel, hbase, ?_, by rw [q2]; exact h.lk, by rw [q1]; have := h.lsz; omega, fun g hg => hle _ _ (h.glob g hg), ?_, ?_⟩
  · intro i y hy
    rw [q1]
    by_cases hi : i = H.size
    · omega
    · rw [Ren.put_other ρ _ hi] at hy; have := h.dom i y hy; omega
  · intro i b hi hl
    rcases at1 hi with ⟨hlt, hi'⟩ | ⟨rfl, rfl⟩
    · obtain ⟨r', y, D, gr, s', h1, h2, h3, h4, h5, h6, h7⟩ := hold i b hi' hl
      exact ⟨r', y, D, gr, s', hle _ _ h1, h2, h3, h4, h5, h6, h7.mono fun _ _ => VRel.mono hle⟩
    · exact ⟨r, x, C, fr, s, Ren.put_same _ _ _, .inr hB, hnew, .inr hf, ⟨.inr hs, hfx⟩, hsz, hb.mono fun _ _ => VRel.mono hle⟩
  · intro i j bi bj q y z hi hli hj hlj hr hr'
    rcases at1 hi with ⟨hlt, hi'⟩ | ⟨rfl, rfl⟩
    · rw [Ren.put_other ρ _ (by omega)] at hr
      rcases at1 hj with ⟨hlt', hj'⟩ | ⟨rfl, rfl⟩
      · rw [Ren.put_other ρ _ (by omega)] at hr'
        exact h.inj i j bi bj q y z hi' hli hj' hlj hr hr'
      · rw [Ren.put_same] at hr'; cases hr'
        exact absurd rfl (hfresh i bi _ _ hi' hli hr)
    · rcases at1 hj with ⟨hlt', hj'⟩ | ⟨rfl, rfl⟩
      · rw [Ren.put_other ρ _ (by omega)] at hr'
        rw [Ren.put_same] at hr; cases hr
        exact absurd rfl (hfresh j bj _ _ hj' hlj hr')
      · rfl

/-- A new row. -/
theorem Emb.new (h : Emb c ρ H w) {t : TypeId} {cs : List Value} {C : Array Value} {fr : Nat × Nat} {x s : Nat} {H' : Mem} {fx : Bool} (hp : H.push ⟨cs, t, true, fx⟩ = some H')
    (hs : sizeA c.P t = some s) (hb : Begins (VRel ρ) cs C) (hsz : C.size = cs.length + x * s) (hf : unfrozen C fr) (hfx : fx = true → x = 0) :
    Emb c (ρ.put H.size (w.heap.size, x)) H' (w.alloc (.cells C t fr)) := by
  refine h.add hp (h.below.alloc h.base _) (Nat.le_trans h.base (by simp)) ?_ ?_ (by show (w.heap.push _)[w.heap.size]? = _; simp) h.base hf hs hsz hb hfx
  · intro i b hi hl
    obtain ⟨r, y, D, gr, s', h1, h2, h3, h4⟩ := h.blk i b hi hl
    have hr : r < w.heap.size := (Array.getElem?_eq_some_iff.1 h3).1
    exact ⟨r, y, D, gr, s', h1, h2, by rw [Below.heap_alloc _ _ _ hr]; exact h3, h4⟩
  · intro i b r' y hi hl hr
    obtain ⟨r2, y2, D, gr, s', h1, h2, h3, _⟩ := h.blk i b hi hl
    rw [hr] at h1; cases h1
    exact Nat.ne_of_lt (Array.getElem?_eq_some_iff.1 h3).1

/-- Less is asked of a memory whose live rows are live, and the same, in another. -/
theorem Emb.less {H' : Mem} (h : Emb c ρ H w) (hl : H.size ≤ H'.size) (hlk : c.L ≤ H'.lk) (hh : ∀ (i : Nat) (b' : Blk), H'.get i = some b' → b'.live = true → H.get i = some b') : Emb c ρ H' w := by
  refine ⟨h.below, h.base, fun i x hx => Nat.lt_of_lt_of_le (h.dom i x hx) hl, hlk, Nat.le_trans h.lsz hl, h.glob, fun i b' hi hb' => h.blk i b' (hh i b' hi hb') hb', fun i j bi bj r x y hi hli hj hlj hr hr' => ?_⟩
  exact h.inj i j bi bj r x y (hh i bi hi hli) hli (hh j bj hj hlj) hlj hr hr'

theorem kill_spec {H H' : Mem} {i : Nat} (h : kill H i = some H') : H'.size = H.size ∧ H'.lk = H.lk ∧ (∀ (j : Nat) (b : Blk), H'.get j = some b → b.live = true → H.get j = some b ∧ j ≠ i) ∧ (∀ j, j ≠ i → H'.get j = H.get j) ∧ H.lk ≤ i := by
  unfold kill at h
  split at h
  · rename_i b hb
    obtain ⟨h1, h2, h3, h4, h5⟩ := Mem.set_spec h
    refine ⟨h3, h4, fun j b' hj hl => ?_, fun j hj => by rw [h5, if_neg hj], h2⟩
    rw [h5] at hj
    by_cases hij : j = i
    · rw [if_pos hij] at hj; cases hj; simp at hl
    · rw [if_neg hij] at hj; exact ⟨hj, hij⟩
  · cases h

theorem Emb.kill {H' : Mem} {i : Nat} (h : Emb c ρ H w) (hk : kill H i = some H') : Emb c ρ H' w := by
  obtain ⟨h1, h2, h3, _⟩ := kill_spec hk
  exact h.less (by omega) (by rw [h2]; exact h.lk) fun j b' hj hl => (h3 j b' hj hl).1

/-! ### One row written -/

def withBlk (w : World) (r : Nat) (o : Obj) : World := { w with heap := w.heap.setIfInBounds r o }

theorem withBlk_heap (w : World) (r : Nat) (o : Obj) (k : Nat) (h : k ≠ r) : (withBlk w r o).heap[k]? = w.heap[k]? := by
  simp [withBlk, Ne.symm h]
theorem withBlk_same (w : World) (r : Nat) (o : Obj) (h : r < w.heap.size) : (withBlk w r o).heap[r]? = some o := by
  simp [withBlk, h]
theorem withBlk_twice (w : World) (r : Nat) (o o' : Obj) : withBlk (withBlk w r o) r o' = withBlk w r o' := by
  simp [withBlk]
theorem withBlk_self (w : World) (r : Nat) (o : Obj) (h : w.heap[r]? = some o) : withBlk w r o = w := by
  have hr : r < w.heap.size := (Array.getElem?_eq_some_iff.1 h).1
  have : w.heap.setIfInBounds r o = w.heap := by
    apply Array.ext_getElem?
    intro k
    rw [Array.getElem?_setIfInBounds]
    by_cases hk : r = k
    · subst hk; simp [hr]; exact ((Array.getElem?_eq_some_iff.1 h).2).symm
    · simp [hk]
  simp [withBlk, this]

theorem setCell_withBlk {r j : Nat} {C : Array Value} {t : TypeId} {fr : Nat × Nat} (v : Value) (h : w.heap[r]? = some (.cells C t fr)) :
    w.setCell ⟨r, j, none⟩ v = withBlk w r (.cells (C.setIfInBounds j v) t fr) := by
  have : w.heap.modify r (fun | .cells c elem frozen => .cells (if (none : Option Nat).isSome then c else c.setIfInBounds j v) elem frozen | o => o) = w.heap.setIfInBounds r (.cells (C.setIfInBounds j v) t fr) := by
    apply Array.ext_getElem?
    intro k
    rw [Array.getElem?_modify, Array.getElem?_setIfInBounds]
    by_cases hk : r = k
    · subst hk
      have hr : r < w.heap.size := (Array.getElem?_eq_some_iff.1 h).1
      have hv := (Array.getElem?_eq_some_iff.1 h).2
      simp [hr, hv]
    · simp [hk]
  simp only [World.setCell, withBlk]
  rw [← this]
  rfl

def putArr (C : Array Value) (k : Nat) : List Value → Array Value
  | [] => C
  | v :: vs => putArr (C.setIfInBounds k v) (k + 1) vs

theorem putArr_size : ∀ (vs : List Value) (C : Array Value) (k : Nat), (putArr C k vs).size = C.size
  | [], _, _ => rfl
  | v :: vs, C, k => by simp [putArr, putArr_size vs]

theorem putCells_length : ∀ (vs l : List Value) (k : Nat), (putCells l k vs).length = l.length
  | [], _, _ => rfl
  | v :: vs, l, k => by simp [putCells, putCells_length vs]

theorem Begins.set {R : Value → Value → Prop} {l : List Value} {C : Array Value} (h : Begins R l C) (k : Nat) {v v' : Value} (hv : R v v') : Begins R (l.set k v) (C.setIfInBounds k v') := by
  refine ⟨by simpa using h.1, fun j u hu hju => ?_⟩
  rw [List.getElem?_set] at hu
  by_cases hkj : k = j
  · subst hkj
    rw [if_pos rfl] at hu
    split at hu
    · rename_i hlt
      cases hu
      have hC : k < C.size := Nat.lt_of_lt_of_le hlt h.1
      exact ⟨v', by simp [hC], hv⟩
    · cases hu
  · rw [if_neg hkj] at hu
    obtain ⟨u', h1, h2⟩ := h.2 j u hu hju
    exact ⟨u', by rw [Array.getElem?_setIfInBounds, if_neg hkj]; exact h1, h2⟩

theorem Begins.put {R : Value → Value → Prop} : ∀ {vs vs' l : List Value} {C : Array Value} {k : Nat}, LR R vs vs' → Begins R l C → Begins R (putCells l k vs) (putArr C k vs')
  | [], vs', l, C, k, hv, h => by rw [hv.unnil]; exact h
  | v :: vs, vs', l, C, k, hv, h => by
    obtain ⟨v', t', rfl, h1, h2⟩ := hv.uncons
    simp only [putCells, putArr]
    exact Begins.put h2 (h.set k h1)

/-- The machine's stores, one behind the other. -/
theorem run_stores {r off : Nat} {t : TypeId} {fr : Nat × Nat} : ∀ (vs : List Value) (i : Nat) (C : Array Value) (w : World), w.heap[r]? = some (.cells C t fr) → unfrozen C fr → off + i + vs.length ≤ C.size →
    (∀ v ∈ vs, v.oneCell' = true) → (storeCells ⟨r, off, none⟩ vs i).run c.P w = .ok () (withBlk w r (.cells (putArr C (off + i) vs) t fr))
  | [], i, C, w, hw, _, _, _ => by
    simp only [storeCells, putArr]
    rw [withBlk_self w r _ hw]; rfl
  | v :: vs, i, C, w, hw, hf, hl, hv => by
    simp only [List.length_cons] at hl
    have hadd : (⟨r, off, none⟩ : Addr).add i = ⟨r, off + i, none⟩ := by
      unfold Addr.add; split
      · rename_i h; subst h; rfl
      · rfl
    have hlt : off + i < C.size := by omega
    have hcell : w.cell? ⟨r, off + i, none⟩ = some C[off + i] := by simp [World.cell?, hw, hlt]
    have hfz : w.frozen? ⟨r, off + i, none⟩ = false := by
      have := hf.2 _ hlt
      simp only [World.frozen?, hw]
      rw [← Bool.not_eq_true]; intro hh
      simp at hh
      exact this hh
    have hone := hv v (by simp)
    simp only [storeCells, Sem.run_bind, hadd]
    rw [run_store c.P w _ v _ hone, hcell]
    simp only [hfz, Bool.false_eq_true, if_false, Result.andThen]
    rw [setCell_withBlk v hw]
    have hr : r < w.heap.size := (Array.getElem?_eq_some_iff.1 hw).1
    rw [run_stores vs (i + 1) (C.setIfInBounds (off + i) v) _ (withBlk_same w r _ hr) ⟨hf.1, fun j hj => hf.2 j (by simpa using hj)⟩ (by simp; omega) (fun u hu => hv u (by simp [hu]))]
    rw [withBlk_twice]
    simp [putArr, Nat.add_assoc]

/-- A row of the evaluator's written, and the machine's. -/
theorem Emb.write (h : Emb c ρ H w) {i : Nat} {b : Blk} {H' : Mem} (hi : alive H i = some b) {cs : List Value} {r x : Nat} {C C' : Array Value} {fr : Nat × Nat} (hset : H.set i { b with cells := cs } = some H')
    (hr : ρ i = some (r, x)) (hw : w.heap[r]? = some (.cells C b.elem fr)) (hl : cs.length = b.cells.length) (hC : C'.size = C.size) (hb : Begins (VRel ρ) cs C') :
    Emb c ρ H' (withBlk w r (.cells C' b.elem fr)) := by
  obtain ⟨hi1, hi2⟩ := alive_some hi
  obtain ⟨e1, e2, e3, e4, e5⟩ := Mem.set_spec hset
  obtain ⟨r', x', D, gr, s, k1, k2, k3, k4, k5, k6, k7⟩ := h.blk i b hi1 hi2
  rw [hr] at k1; cases k1
  rw [hw] at k3; cases k3
  have hrs : r < w.heap.size := (Array.getElem?_eq_some_iff.1 hw).1
  have hB : c.B ≤ r := by rcases k2 with k2 | k2; · have := h.lk; omega
                          · exact k2
  refine ⟨h.below.trans ⟨rfl, rfl, rfl, by simp [withBlk], fun k hk => withBlk_heap _ _ _ _ (by omega)⟩, by simpa [withBlk] using h.base, fun j y hy => by rw [e3]; exact h.dom j y hy, by rw [e4]; exact h.lk, by rw [e3]; exact h.lsz, h.glob, ?_, ?_⟩
  · intro j bj hj hlj
    rw [e5] at hj
    by_cases hij : j = i
    · subst hij
      rw [if_pos rfl] at hj
      cases hj
      exact ⟨r, x, C', fr, s, hr, k2, withBlk_same _ _ _ hrs, by
        rcases k4 with k4 | k4
        · exact .inl k4
        · exact .inr ⟨k4.1, fun q hq => k4.2 q (by rw [← hC]; exact hq)⟩, k5, by simp only [hl, hC]; exact k6, hb⟩
    · rw [if_neg hij] at hj
      obtain ⟨q, y, E, er, s', m1, m2, m3, m4⟩ := h.blk j bj hj hlj
      have hne : q ≠ r := by
        intro e; subst e
        exact hij (h.inj j i bj b q y x hj hlj hi1 hi2 m1 hr)
      exact ⟨q, y, E, er, s', m1, m2, by rw [withBlk_heap _ _ _ _ hne]; exact m3, m4⟩
  · intro j k bj bk q y z hj hlj hk hlk hq hq'
    have back : ∀ {j : Nat} {bj : Blk}, H'.get j = some bj → bj.live = true → ∃ b', H.get j = some b' ∧ b'.live = true := by
      intro j bj hj hlj
      rw [e5] at hj
      by_cases hij : j = i
      · subst hij; exact ⟨b, hi1, hi2⟩
      · rw [if_neg hij] at hj; exact ⟨bj, hj, hlj⟩
    obtain ⟨b1, e1, e2⟩ := back hj hlj
    obtain ⟨b2, e3, e4⟩ := back hk hlk
    exact h.inj j k b1 b2 q y z e1 e2 e3 e4 hq hq'

end
end Go.Ev
