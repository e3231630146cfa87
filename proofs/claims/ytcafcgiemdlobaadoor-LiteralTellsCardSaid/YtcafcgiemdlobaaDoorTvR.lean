/- The layer's values and memory beside the evaluator's. -/
import Derived.Test.YtcafcgiemdlobaaDoorTv
namespace Go.Tv
open Go.Ev (Tr pick2 Leave Mem Blk alive pick2_eq)

/-- What goes with a run: cells that stay, by row; the row of the evaluator's that stands for one of ours (its number, its room, how many cells an element has); what lists were, by how often they were written. -/
structure Wo where
  F : Nat → Option (List Value)
  ρ : Nat → Option (Nat × Nat × Nat)
  Γ : Nat → Nat → Option (Sigma fun e : Ty => List e.den)

structure Wo.le (S T : Wo) : Prop where
  F : ∀ i x, S.F i = some x → T.F i = some x
  ρ : ∀ i x, S.ρ i = some x → T.ρ i = some x
  Γ : ∀ i v x, S.Γ i v = some x → T.Γ i v = some x
  -- a row that has none keeps none, so long as it is told of
theorem Wo.le_refl (S : Wo) : S.le S := ⟨fun _ _ h => h, fun _ _ h => h, fun _ _ _ h => h⟩
theorem Wo.le_trans {a b c : Wo} (h : a.le b) (k : b.le c) : a.le c := ⟨fun i x hx => k.F i x (h.F i x hx), fun i x hx => k.ρ i x (h.ρ i x hx), fun i v x hx => k.Γ i v x (h.Γ i v x hx)⟩

def CRL {α : Type} (R : α → List Value → Prop) : List α → List Value → Prop
  | [], cs => cs = []
  | x :: l, cs => ∃ c1 c2, cs = c1 ++ c2 ∧ R x c1 ∧ CRL R l c2

def SR {α : Type} (R : α → List Value → Prop) (F : Nat → Option (List Value)) (l : List α) (v : Value) : Prop :=
  (l = [] ∧ v = .slice none 0 0) ∨ ∃ i pre mid post cap, v = .slice (some ⟨i, pre.length, none⟩) l.length cap ∧ F i = some (pre ++ (mid ++ post)) ∧ CRL R l mid ∧ l.length ≤ cap

/-- Plain data as cells. -/
def CR (F : Nat → Option (List Value)) : (e : Ty) → e.den → List Value → Prop
  | .int k, n, cs => cs = [.int k n]
  | .bool, b, cs => cs = [.bool b]
  | .str, s, cs => cs = [.string ⟨s.toArray⟩]
  | .flt, n, cs => cs = [.float .f64 n]
  | .unit, _, cs => cs = []
  | .sl e, l, cs => ∃ v, cs = [v] ∧ SR (CR F e) F l v
  | .pair a b, x, cs => ∃ c1 c2, cs = c1 ++ c2 ∧ CR F a x.1 c1 ∧ CR F b x.2 c2

theorem CRL.mono {α : Type} {R R' : α → List Value → Prop} (h : ∀ x c, R x c → R' x c) : ∀ {l : List α} {cs : List Value}, CRL R l cs → CRL R' l cs
  | [], _, hc => hc
  | _ :: _, _, ⟨c1, c2, e, h1, h2⟩ => ⟨c1, c2, e, h _ _ h1, h2.mono h⟩

theorem CR.mono {F F' : Nat → Option (List Value)} (hF : ∀ i x, F i = some x → F' i = some x) : ∀ (e : Ty) (x : e.den) (cs : List Value), CR F e x cs → CR F' e x cs
  | .int _, _, _, h => h
  | .bool, _, _, h => h
  | .str, _, _, h => h
  | .flt, _, _, h => h
  | .unit, _, _, h => h
  | .sl e, l, cs, ⟨v, e1, h⟩ => ⟨v, e1, by
      rcases h with h | ⟨i, pre, mid, post, cap, h1, h2, h3, h4⟩
      · exact .inl h
      · exact .inr ⟨i, pre, mid, post, cap, h1, hF _ _ h2, h3.mono fun x c => CR.mono hF e x c, h4⟩⟩
  | .pair a b, _, _, ⟨c1, c2, e, h1, h2⟩ => ⟨c1, c2, e, CR.mono hF a _ _ h1, CR.mono hF b _ _ h2⟩

theorem SR.mono {F F' : Nat → Option (List Value)} (hF : ∀ i x, F i = some x → F' i = some x) {e : Ty} {l : List e.den} {v : Value} (h : SR (CR F e) F l v) : SR (CR F' e) F' l v := by
  rcases h with h | ⟨i, pre, mid, post, cap, h1, h2, h3, h4⟩
  · exact .inl h
  · exact .inr ⟨i, pre, mid, post, cap, h1, hF _ _ h2, h3.mono fun x c => CR.mono hF e x c, h4⟩

theorem CR.length {F : Nat → Option (List Value)} : ∀ (e : Ty) (x : e.den) (cs : List Value), CR F e x cs → cs.length = e.size
  | .int _, _, _, h => by rw [h]; rfl
  | .bool, _, _, h => by rw [h]; rfl
  | .str, _, _, h => by rw [h]; rfl
  | .flt, _, _, h => by rw [h]; rfl
  | .unit, _, _, h => by rw [h]; rfl
  | .sl _, _, _, ⟨v, h, _⟩ => by rw [h]; rfl
  | .pair a b, _, _, ⟨c1, c2, e, h1, h2⟩ => by rw [e, List.length_append, CR.length a _ _ h1, CR.length b _ _ h2]; rfl

theorem CRL.length {α : Type} {R : α → List Value → Prop} {s : Nat} (hR : ∀ x c, R x c → c.length = s) : ∀ {l : List α} {cs : List Value}, CRL R l cs → cs.length = l.length * s
  | [], _, h => by rw [h]; simp
  | x :: l, _, ⟨c1, c2, e, h1, h2⟩ => by rw [e, List.length_append, hR _ _ h1, h2.length hR, List.length_cons, Nat.succ_mul, Nat.add_comm]

theorem CRL.append {α : Type} {R : α → List Value → Prop} : ∀ {l m : List α} {cs ds : List Value}, CRL R l cs → CRL R m ds → CRL R (l ++ m) (cs ++ ds)
  | [], _, _, _, h, k => by rw [h]; simpa using k
  | x :: l, m, _, ds, ⟨c1, c2, e, h1, h2⟩, k => ⟨c1, c2 ++ ds, by rw [e]; simp, h1, h2.append k⟩

/-- The cells of an element. -/
theorem CRL.get {α : Type} {R : α → List Value → Prop} {s : Nat} (hR : ∀ x c, R x c → c.length = s) : ∀ {l : List α} {cs : List Value} {j : Nat} {x : α}, CRL R l cs → l[j]? = some x → ∃ a c b, cs = a ++ (c ++ b) ∧ a.length = j * s ∧ R x c ∧ CRL R (l.take j) a ∧ CRL R (l.drop (j + 1)) b
  | [], _, _, _, _, h => by simp at h
  | y :: l, _, 0, x, ⟨c1, c2, e, h1, h2⟩, h => by
    simp at h; subst h
    exact ⟨[], c1, c2, by simpa using e, by simp, h1, rfl, by simpa using h2⟩
  | y :: l, _, j + 1, x, ⟨c1, c2, e, h1, h2⟩, h => by
    obtain ⟨a, c, b, e1, e2, e3, e4, e5⟩ := h2.get hR (j := j) (x := x) (by simpa using h)
    exact ⟨c1 ++ a, c, b, by rw [e, e1]; simp, by rw [List.length_append, e2, hR _ _ h1, Nat.succ_mul, Nat.add_comm], e3, ⟨c1, a, rfl, h1, e4⟩, by simpa using e5⟩

theorem CRL.split {α : Type} {R : α → List Value → Prop} {s : Nat} (hR : ∀ x c, R x c → c.length = s) : ∀ {l : List α} {cs : List Value} (j : Nat), CRL R l cs → ∃ a b, cs = a ++ b ∧ CRL R (l.take j) a ∧ CRL R (l.drop j) b
  | l, cs, 0, h => ⟨[], cs, by simp, by simp [CRL], by simpa using h⟩
  | [], cs, j + 1, h => ⟨[], [], by rw [show cs = [] from h]; rfl, by simp [CRL], by simp [CRL]⟩
  | x :: l, _, j + 1, ⟨c1, c2, e, h1, h2⟩ => by
    obtain ⟨a, b, e1, e2, e3⟩ := h2.split hR j
    exact ⟨c1 ++ a, b, by rw [e, e1]; simp, ⟨c1, a, rfl, h1, e2⟩, by simpa using e3⟩

inductive VR (S : Wo) : AV → Value → Prop where
  | int (k n) : VR S (.int k n) (.int k n)
  | bool (b) : VR S (.bool b) (.bool b)
  | str (s) : VR S (.str s) (.string ⟨s.toArray⟩)
  | flt (n) : VR S (.flt n) (.float .f64 n)
  | lst (e l v) (h : SR (CR S.F e) S.F l v) : VR S (.lst e l) v
  | nils : VR S .nils (.slice none 0 0)
  | own (id n i cap s) (h : S.ρ id = some (i, cap, s)) (g) (hg : S.Γ id 0 = some g) (hn : g.2.length = n) : VR S (.own id n) (.slice (some ⟨i, 0, none⟩) n cap)
  | ownNil (id g) (hg : S.Γ id 0 = some g) (hn : g.2.length = 0) : VR S (.own id 0) (.slice none 0 0)
  | osl (id off len cap i c s) (h : S.ρ id = some (i, c, s)) (g) (hg : S.Γ id 0 = some g) (hc : off + cap = g.2.length) (hl : len ≤ cap) : VR S (.osl id off len cap) (.slice (some ⟨i, off * s, none⟩) len cap)
  | ptr (id off i c s) (h : S.ρ id = some (i, c, s)) : VR S (.ptr id off) (.pointer (some ⟨i, off, none⟩))
  | ept (id j fo ver cur i c) (e : Ty) (l : List e.den) (y : e.den) (h : S.ρ id = some (i, c, e.size)) (hg : S.Γ id ver = some ⟨e, l⟩) (hy : l[j]? = some y) (hc : cur = flat e y) : VR S (.ept id j fo ver cur) (.pointer (some ⟨i, j * e.size + fo, none⟩))
  | apt (id n i c s) (h : S.ρ id = some (i, c, s)) (g) (hg : S.Γ id 0 = some g) (hn : g.2.length = n) : VR S (.apt id n) (.pointer (some ⟨i, 0, none⟩))
  | fpt (cs : List AV) (i) (pre mid post : List Value) (h : S.F i = some (pre ++ (mid ++ post))) (hl : cs.length = mid.length) (hc : ∀ (j : Nat) x y, cs[j]? = some x → mid[j]? = some y → VR S x y) : VR S (.fpt cs) (.pointer (some ⟨i, pre.length, none⟩))
  | nilp : VR S .nilp (.pointer none)
  | fn (f) (a b : List AV) (a' b' : List Value) (ha : a.length = a'.length) (hb : b.length = b'.length) (va : ∀ (j : Nat) x y, a[j]? = some x → a'[j]? = some y → VR S x y) (vb : ∀ (j : Nat) x y, b[j]? = some x → b'[j]? = some y → VR S x y) : VR S (.fn f a b) (.func (.func f) a'.toArray b'.toArray)
  | agg (l : List AV) (m : List Value) (hl : l.length = m.length) (hv : ∀ (j : Nat) x y, l[j]? = some x → m[j]? = some y → VR S x y) : VR S (.agg l) (.agg m.toArray)
  | tup (l : List AV) (m : List Value) (hl : l.length = m.length) (hv : ∀ (j : Nat) x y, l[j]? = some x → m[j]? = some y → VR S x y) : VR S (.tup l) (.tuple m.toArray)
  | opq (v) (h : Ev.addrFree v = true) : VR S (.opq v) v
  | unk (v) : VR S .unk v

theorem VR.int_inv {S : Wo} {k : IntKind} {n : Int} {v : Value} (h : VR S (.int k n) v) : v = .int k n := by cases h; rfl
theorem VR.bool_inv {S : Wo} {b : Bool} {v : Value} (h : VR S (.bool b) v) : v = .bool b := by cases h; rfl
theorem VR.str_inv {S : Wo} {s : List UInt8} {v : Value} (h : VR S (.str s) v) : v = .string ⟨s.toArray⟩ := by cases h; rfl

def LV (S : Wo) (l : List AV) (m : List Value) : Prop := l.length = m.length ∧ ∀ (j : Nat) x y, l[j]? = some x → m[j]? = some y → VR S x y

theorem VR.mono {S T : Wo} (hle : S.le T) {v : AV} {x : Value} (h : VR S v x) : VR T v x := by
  induction h with
  | int => exact .int _ _
  | bool => exact .bool _
  | str => exact .str _
  | flt => exact .flt _
  | lst e l v h => exact .lst e l v (h.mono hle.F)
  | nils => exact .nils
  | own id n i cap s h g hg hn => exact .own id n i cap s (hle.ρ _ _ h) g (hle.Γ _ _ _ hg) hn
  | ownNil id g hg hn => exact .ownNil id g (hle.Γ _ _ _ hg) hn
  | osl id off len cap i c s h g hg hc hl => exact .osl id off len cap i c s (hle.ρ _ _ h) g (hle.Γ _ _ _ hg) hc hl
  | ptr id off i c s h => exact .ptr id off i c s (hle.ρ _ _ h)
  | ept id j fo ver cur i c e l y h hg hy hc => exact .ept id j fo ver cur i c e l y (hle.ρ _ _ h) (hle.Γ _ _ _ hg) hy hc
  | apt id n i c s h g hg hn => exact .apt id n i c s (hle.ρ _ _ h) g (hle.Γ _ _ _ hg) hn
  | fpt cs i pre mid post h hl _ ih => exact .fpt cs i pre mid post (hle.F _ _ h) hl ih
  | nilp => exact .nilp
  | fn f a b a' b' ha hb _ _ iha ihb => exact .fn f a b a' b' ha hb iha ihb
  | agg l m hl _ ih => exact .agg l m hl ih
  | tup l m hl _ ih => exact .tup l m hl ih
  | opq v h => exact .opq v h
  | unk v => exact .unk v

theorem LV.mono {S T : Wo} (hle : S.le T) {l : List AV} {m : List Value} (h : LV S l m) : LV T l m := ⟨h.1, fun j x y hx hy => (h.2 j x y hx hy).mono hle⟩

theorem LV.nil {S : Wo} : LV S [] [] := ⟨rfl, fun j x y hx => by simp at hx⟩
theorem LV.cons {S : Wo} {v : AV} {x : Value} {l : List AV} {m : List Value} (h : VR S v x) (k : LV S l m) : LV S (v :: l) (x :: m) :=
  ⟨by simp [k.1], fun j a b ha hb => by
    cases j with
    | zero => simp at ha hb; subst ha; subst hb; exact h
    | succ j => exact k.2 j a b (by simpa using ha) (by simpa using hb)⟩
theorem LV.nil_inv {S : Wo} {m : List Value} (h : LV S [] m) : m = [] := by
  have := h.1; simp at this; exact List.length_eq_zero_iff.1 this.symm
theorem LV.cons_inv {S : Wo} {v : AV} {l : List AV} {m : List Value} (h : LV S (v :: l) m) : ∃ x m', m = x :: m' ∧ VR S v x ∧ LV S l m' := by
  cases m with
  | nil => have := h.1; simp at this
  | cons x m' => exact ⟨x, m', rfl, h.2 0 v x rfl rfl, by have := h.1; simpa using this, fun j a b ha hb => h.2 (j + 1) a b (by simpa using ha) (by simpa using hb)⟩
theorem LV.append {S : Wo} : ∀ {l l' : List AV} {m m' : List Value}, LV S l m → LV S l' m' → LV S (l ++ l') (m ++ m')
  | [], _, m, _, h, k => by rw [h.nil_inv]; simpa using k
  | v :: l, l', m, m', h, k => by
    obtain ⟨x, m1, rfl, h1, h2⟩ := h.cons_inv
    exact LV.cons h1 (h2.append k)
theorem LV.drop {S : Wo} {l : List AV} {m : List Value} (h : LV S l m) (n : Nat) : LV S (l.drop n) (m.drop n) :=
  ⟨by simp [h.1], fun j x y hx hy => h.2 (n + j) x y (by simpa using hx) (by simpa using hy)⟩
theorem LV.take {S : Wo} {l : List AV} {m : List Value} (h : LV S l m) (n : Nat) : LV S (l.take n) (m.take n) :=
  ⟨by simp [h.1], fun j x y hx hy => by
    rw [List.getElem?_take] at hx hy
    by_cases hj : j < n
    · rw [if_pos hj] at hx hy; exact h.2 j x y hx hy
    · rw [if_neg hj] at hx; cases hx⟩
theorem LV.get {S : Wo} {l : List AV} {m : List Value} (h : LV S l m) {j : Nat} {x : AV} (hx : l[j]? = some x) : ∃ y, m[j]? = some y ∧ VR S x y := by
  have hlt : j < l.length := (List.getElem?_eq_some_iff.1 hx).1
  have : j < m.length := by rw [← h.1]; exact hlt
  exact ⟨m[j], List.getElem?_eq_getElem this, h.2 j x _ hx (List.getElem?_eq_getElem this)⟩
theorem LV.map {S : Wo} {α : Type} {f : α → AV} {g : α → Value} : ∀ (l : List α), (∀ x ∈ l, VR S (f x) (g x)) → LV S (l.map f) (l.map g)
  | [], _ => LV.nil
  | x :: l, h => LV.cons (h x (by simp)) (LV.map l fun y hy => h y (by simp [hy]))
theorem LV.set {S : Wo} {l : List AV} {m : List Value} (h : LV S l m) (i : Nat) {v : AV} {x : Value} (hv : VR S v x) : LV S (l.set i v) (m.set i x) :=
  ⟨by simp [h.1], fun j a b ha hb => by
    rw [List.getElem?_set] at ha hb
    by_cases hj : i = j
    · subst hj
      rw [if_pos rfl] at ha hb
      split at ha
      · split at hb
        · cases ha; cases hb; exact hv
        · cases hb
      · cases ha
    · rw [if_neg hj] at ha hb; exact h.2 j a b ha hb⟩
theorem LV.putL {S : Wo} : ∀ (vs : List AV) (xs : List Value) {l : List AV} {m : List Value} (off : Nat), LV S vs xs → LV S l m → LV S (putL l off vs) (Ev.putCells m off xs)
  | [], xs, l, m, off, h, k => by rw [h.nil_inv]; exact k
  | v :: vs, xs, l, m, off, h, k => by
    obtain ⟨x, xs', rfl, h1, h2⟩ := h.cons_inv
    exact LV.putL vs xs' (off + 1) h2 (k.set off h1)

/-- Cells of plain data. -/
theorem CR.flat {S : Wo} : ∀ (e : Ty) (x : e.den) (cs : List Value), CR S.F e x cs → LV S (flat e x) cs
  | .int k, n, _, h => by rw [h]; exact LV.cons (.int k n) LV.nil
  | .bool, b, _, h => by rw [h]; exact LV.cons (.bool b) LV.nil
  | .str, s, _, h => by rw [h]; exact LV.cons (.str s) LV.nil
  | .flt, n, _, h => by rw [h]; exact LV.cons (.flt n) LV.nil
  | .unit, _, _, h => by rw [h]; exact LV.nil
  | .sl e, l, _, ⟨v, h1, h2⟩ => by rw [h1]; exact LV.cons (.lst e l v h2) LV.nil
  | .pair a b, x, _, ⟨c1, c2, e, h1, h2⟩ => by rw [e]; exact (CR.flat a _ _ h1).append (CR.flat b _ _ h2)

theorem castL_spec {e e' : Ty} {l : List e.den} {l' : List e'.den} (h : castL e e' l = some l') : ∃ he : e = e', he ▸ l = l' := by
  unfold castL at h
  split at h
  · rename_i he; exact ⟨he, by simpa using h⟩
  · cases h

theorem flat_length : ∀ (e : Ty) (x : e.den), (flat e x).length = e.size
  | .int _, _ => rfl
  | .bool, _ => rfl
  | .str, _ => rfl
  | .flt, _ => rfl
  | .unit, _ => rfl
  | .sl _, _ => rfl
  | .pair a b, x => by show (flat a x.1 ++ flat b x.2).length = _; rw [List.length_append, flat_length a, flat_length b]; rfl

/-- Cells that are plain data. -/
theorem unflat_spec {S : Wo} : ∀ (e : Ty) {l r : List AV} {x : e.den} {m : List Value}, unflat e l = some (x, r) → LV S l m → ∃ c m', m = c ++ m' ∧ CR S.F e x c ∧ LV S r m'
  | .int k, l, r, x, m, h, hl => by
    have h : hInt k l = some (x, r) := h
    unfold hInt at h
    split at h
    · split at h
      · rename_i k' n r' _ hk
        obtain ⟨y, m', rfl, h1, h2⟩ := hl.cons_inv
        have e1 : n = x := congrArg Prod.fst (Option.some.inj h)
        have e2 : r' = r := congrArg Prod.snd (Option.some.inj h)
        subst e1; subst e2; subst hk
        cases h1
        exact ⟨[_], m', rfl, rfl, h2⟩
      · cases h
    · cases h
  | .bool, l, r, x, m, h, hl => by
    have h : hBool l = some (x, r) := h
    unfold hBool at h
    split at h
    · cases h
      obtain ⟨y, m', rfl, h1, h2⟩ := hl.cons_inv
      cases h1
      exact ⟨[_], m', rfl, rfl, h2⟩
    · cases h
  | .str, l, r, x, m, h, hl => by
    have h : hStr l = some (x, r) := h
    unfold hStr at h
    split at h
    · cases h
      obtain ⟨y, m', rfl, h1, h2⟩ := hl.cons_inv
      cases h1
      exact ⟨[_], m', rfl, rfl, h2⟩
    · cases h
  | .flt, l, r, x, m, h, hl => by
    have h : hFlt l = some (x, r) := h
    unfold hFlt at h
    split at h
    · cases h
      obtain ⟨y, m', rfl, h1, h2⟩ := hl.cons_inv
      cases h1
      exact ⟨[_], m', rfl, rfl, h2⟩
    · cases h
  | .unit, l, r, x, m, h, hl => by
    have h : some ((), l) = some (x, r) := h
    cases h
    exact ⟨[], m, rfl, rfl, hl⟩
  | .sl e, l, r, x, m, h, hl => by
    have h : hSl e l = some (x, r) := h
    unfold hSl at h
    split at h
    · split at h
      · rename_i l' hc
        cases h
        obtain ⟨he, hc'⟩ := castL_spec hc
        subst he
        obtain ⟨y, m', rfl, h1, h2⟩ := hl.cons_inv
        cases hc'
        cases h1
        rename_i hs
        exact ⟨[_], m', rfl, ⟨_, rfl, hs⟩, h2⟩
      · cases h
    · cases h
      obtain ⟨y, m', rfl, h1, h2⟩ := hl.cons_inv
      cases h1
      exact ⟨[_], m', rfl, ⟨_, rfl, .inl ⟨rfl, rfl⟩⟩, h2⟩
    · cases h
  | .pair a b, l, r, x, m, h, hl => by
    unfold unflat at h
    split at h
    · rename_i x1 r1 h1
      split at h
      · rename_i y1 r2 h2
        cases h
        obtain ⟨c1, m1, rfl, k1, k2⟩ := unflat_spec a h1 hl
        obtain ⟨c2, m2, rfl, k3, k4⟩ := unflat_spec b h2 k2
        exact ⟨c1 ++ c2, m2, by simp, ⟨c1, c2, rfl, k1, k3⟩, k4⟩
      · cases h
    · cases h

theorem unflatN_spec {S : Wo} (e : Ty) : ∀ (n : Nat) {l : List AV} {xs : List e.den} {m : List Value}, unflatN e n l = some xs → LV S l m → CRL (CR S.F e) xs m ∧ xs.length = n
  | 0, [], xs, m, h, hl => by simp [unflatN] at h; subst h; exact ⟨hl.nil_inv, rfl⟩
  | 0, _ :: _, xs, m, h, hl => by simp [unflatN] at h
  | n + 1, l, xs, m, h, hl => by
    unfold unflatN at h
    split at h
    · rename_i x r h1
      split at h
      · rename_i l' h2
        cases h
        obtain ⟨c, m', rfl, k1, k2⟩ := unflat_spec e h1 hl
        obtain ⟨k3, k4⟩ := unflatN_spec e n h2 k2
        exact ⟨⟨c, m', rfl, k1, k3⟩, by simp [k4]⟩
      · cases h
    · cases h

theorem VR.noJunk {S : Wo} {v : AV} {x : Value} (h : VR S v x) (hp : plainT v = true) : Ev.isJunk x = false := by
  cases h with
  | lst e l v hs => rcases hs with ⟨_, rfl⟩ | ⟨i, pre, mid, post, cap, rfl, _⟩ <;> rfl
  | agg => cases hp
  | tup => cases hp
  | unk => cases hp
  | opq v hf => cases x <;> first | rfl | cases hf
  | _ => rfl

theorem LV.noJunk {S : Wo} : ∀ {l : List AV} {m : List Value}, LV S l m → l.all plainT = true → m.any Ev.isJunk = false
  | [], m, h, _ => by rw [h.nil_inv]; rfl
  | v :: l, m, h, hp => by
    obtain ⟨x, m', rfl, h1, h2⟩ := h.cons_inv
    simp only [List.all_cons, Bool.and_eq_true] at hp
    simp only [List.any_cons, h1.noJunk hp.1, h2.noJunk hp.2, Bool.or_self]

theorem CR.noJunk {F : Nat → Option (List Value)} : ∀ (e : Ty) (x : e.den) (cs : List Value), CR F e x cs → cs.any Ev.isJunk = false
  | .int _, _, _, h => by rw [h]; rfl
  | .bool, _, _, h => by rw [h]; rfl
  | .str, _, _, h => by rw [h]; rfl
  | .flt, _, _, h => by rw [h]; rfl
  | .unit, _, _, h => by rw [h]; rfl
  | .sl _, _, _, ⟨v, h, hs⟩ => by
    rw [h]
    rcases hs with ⟨_, rfl⟩ | ⟨i, pre, mid, post, cap, rfl, _⟩ <;> rfl
  | .pair a b, _, _, ⟨c1, c2, e, h1, h2⟩ => by rw [e, List.any_append, CR.noJunk a _ _ h1, CR.noJunk b _ _ h2]; rfl

theorem CRL.noJunk {F : Nat → Option (List Value)} {e : Ty} : ∀ {l : List e.den} {cs : List Value}, CRL (CR F e) l cs → cs.any Ev.isJunk = false
  | [], _, h => by rw [h]; rfl
  | x :: l, _, ⟨c1, c2, e', h1, h2⟩ => by rw [e', List.any_append, CR.noJunk e _ _ h1, h2.noJunk]; rfl

end Go.Tv
