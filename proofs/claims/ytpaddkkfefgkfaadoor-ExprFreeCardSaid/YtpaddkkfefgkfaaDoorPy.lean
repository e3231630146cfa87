/- Expressions: whether one may be, the tokens of one, a text that is told and read again. -/
import Derived.Test.YtpaddkkfefgkfaaDoorPx
namespace Go.Px
variable {nm : List UInt8 → Bool}

/-- There is such a node, and what it does not have is 0 or empty. -/
def fieldsB (nm : List UInt8 → Bool) (n : Nd) : Bool :=
  decide (1 ≤ n.1) && decide (n.1 ≤ 16) && (decide (n.1 = 1) || decide (n.2.1 = 0)) && (if n.1 = 2 then nm n.2.2.1 else decide (n.2.2.1 = [])) && (!decide (n.1 ≤ 4) || decide (n.2.2.2.1 = 0)) && (decide (6 < n.1) || decide (n.2.2.2.2 = 0))

/-- The nodes that are not operands so far, behind one more. -/
def stepO (i : Int) (n : Nd) (o : List Int) : Option (List Int) :=
  if n.1 ≤ 4 then some (o ++ [i])
  else if n.1 ≤ 6 then (if o.length < 1 ∨ o[o.length - 1]? ≠ some n.2.2.2.1 then none else some (o.take (o.length - 1) ++ [i]))
  else (if o.length < 2 ∨ o[o.length - 2]? ≠ some n.2.2.2.1 ∨ o[o.length - 1]? ≠ some n.2.2.2.2 then none else some (o.take (o.length - 2) ++ [i]))

def chkL (nm : List UInt8 → Bool) : Nat → List Nd → List Int → Int
  | _, [], o => if o.length = 1 then 0 else 2
  | i, n :: r, o => if fieldsB nm n = true then (match stepO i n o with
    | some o' => chkL nm (i + 1) r o'
    | none => 2) else 2

def chkF (nm : List UInt8 → Bool) (x : List Nd) : Int := if 200 < x.length then 3 else chkL nm 0 x []

/-! ### Forests, the last tree first -/

def fsize : List T → Nat
  | [] => 0
  | t :: r => fsize r + t.size
def fpost : List T → List Nd
  | [] => []
  | t :: r => fpost r ++ t.post (fsize r)
def froot : List T → List Int
  | [] => []
  | t :: r => froot r ++ [((fsize r + t.size : Nat) : Int) - 1]
theorem fpost_len : ∀ r : List T, (fpost r).length = fsize r
  | [] => rfl
  | t :: r => by rw [fpost, List.length_append, fpost_len r, T.post_len, fsize]
theorem froot_len : ∀ r : List T, (froot r).length = r.length
  | [] => rfl
  | t :: r => by rw [froot, List.length_append, froot_len r]; rfl

theorem fields_leaf {n : Nd} (h : fieldsB nm n = true) (h4 : n.1 ≤ 4) : leafOk nm n := by
  obtain ⟨op, k, s, L, R⟩ := n
  simp only [fieldsB, Bool.and_eq_true, Bool.or_eq_true, decide_eq_true_eq, Bool.not_eq_true', decide_eq_false_iff_not] at h
  simp only at h4
  obtain ⟨⟨⟨⟨⟨h1, h2⟩, h3⟩, h5⟩, h6⟩, h7⟩ := h
  have hL : L = 0 := by omega
  have hR : R = 0 := by omega
  subst hL; subst hR
  obtain rfl | rfl | rfl | rfl : op = 1 ∨ op = 2 ∨ op = 3 ∨ op = 4 := by omega
  · rw [if_neg (by decide)] at h5
    have : s = [] := of_decide_eq_true h5
    subst this; exact .inl ⟨k, rfl⟩
  · have : k = 0 := by omega
    subst this
    rw [if_pos rfl] at h5
    exact .inr (.inl ⟨s, rfl, h5⟩)
  · have : k = 0 := by omega
    subst this
    rw [if_neg (by decide)] at h5
    have : s = [] := of_decide_eq_true h5
    subst this; exact .inr (.inr (.inl rfl))
  · have : k = 0 := by omega
    subst this
    rw [if_neg (by decide)] at h5
    have : s = [] := of_decide_eq_true h5
    subst this; exact .inr (.inr (.inr rfl))
theorem fields_op {n : Nd} (h : fieldsB nm n = true) (h4 : ¬ n.1 ≤ 4) : n.2.1 = 0 ∧ n.2.2.1 = [] ∧ n.1 ≤ 16 ∧ (n.1 ≤ 6 → n.2.2.2.2 = 0) := by
  obtain ⟨op, k, s, L, R⟩ := n
  simp only [fieldsB, Bool.and_eq_true, Bool.or_eq_true, decide_eq_true_eq, Bool.not_eq_true', decide_eq_false_iff_not] at h
  simp only at h4 ⊢
  obtain ⟨⟨⟨⟨⟨h1, h2⟩, h3⟩, h5⟩, h6⟩, h7⟩ := h
  rw [if_neg (by omega)] at h5
  exact ⟨by omega, of_decide_eq_true h5, h2, fun h => by omega⟩

theorem last_get (o : List Int) (a : Int) : (o ++ [a])[(o ++ [a]).length - 1]? = some a := by simp
theorem last_take (o : List Int) (a : Int) : (o ++ [a]).take ((o ++ [a]).length - 1) = o := by simp

/-- What may be is a tree's nodes. -/
theorem chk_forest : ∀ (x : List Nd) (f : List T), (∀ t ∈ f, t.ok nm) → chkL nm (fsize f) x (froot f) = 0 → ∃ t : T, t.ok nm ∧ fpost f ++ x = t.post 0
  | [], f, hok, h => by
    unfold chkL at h
    split at h
    · rename_i hl
      rw [froot_len] at hl
      match f, hl with
      | [t], _ => exact ⟨t, hok t (by simp), by simp [fpost, fsize]⟩
    · exact absurd h (by decide)
  | n :: x, f, hok, h => by
    unfold chkL at h
    split at h
    · rename_i hf
      split at h
      · rename_i o' ho
        have go : ∀ (f' : List T), (∀ t ∈ f', t.ok nm) → fpost f' = fpost f ++ [n] → froot f' = o' → ∃ t : T, t.ok nm ∧ fpost f ++ (n :: x) = t.post 0 := fun f' hok' hp hr => by
          have hsz : fsize f' = fsize f + 1 := by rw [← fpost_len, hp, List.length_append, fpost_len]; rfl
          rw [← hr, ← hsz] at h
          obtain ⟨t, k1, k2⟩ := chk_forest x f' hok' h
          exact ⟨t, k1, by rw [← k2, hp]; simp⟩
        unfold stepO at ho
        split at ho
        · rename_i h4
          cases ho
          refine go (.leaf n :: f) (fun t ht => ?_) rfl ?_
          · rcases List.mem_cons.1 ht with rfl | ht
            · exact fields_leaf hf h4
            · exact hok t ht
          · simp only [froot, T.size]; congr 2; omega
        · rename_i h4
          obtain ⟨e1, e2, e3, e4⟩ := fields_op hf h4
          obtain ⟨op, k, s, L, R⟩ := n
          simp only at e1 e2 e3 e4 h4
          subst e1; subst e2
          split at ho
          · rename_i h6
            simp only at h6
            have hR := e4 h6
            subst hR
            split at ho
            · cases ho
            · rename_i hc
              cases ho
              match f, hok with
              | [], _ => exact absurd (Or.inl (by simp [froot])) hc
              | a :: r, hok =>
                have hL : (froot (a :: r))[(froot (a :: r)).length - 1]? = some L := Classical.byContradiction fun hn => hc (.inr hn)
                rw [froot, last_get] at hL
                have hL := Option.some.inj hL
                refine go (.un op a :: r) (fun t ht => ?_) ?_ ?_
                · rcases List.mem_cons.1 ht with rfl | ht
                  · exact ⟨by omega, hok a (by simp)⟩
                  · exact hok t (by simp [ht])
                · simp only [fpost, T.post, hL, List.append_assoc]
                · rw [froot, froot, last_take]; simp only [T.size, fsize]; congr 2; omega
          · rename_i h6
            simp only at h6
            split at ho
            · cases ho
            · rename_i hc
              cases ho
              match f, hok with
              | [], _ => exact absurd (Or.inl (by simp [froot])) hc
              | [_], _ => exact absurd (Or.inl (by simp [froot])) hc
              | b :: a :: r, hok =>
                have hlen : (froot (b :: a :: r)).length = (froot r).length + 2 := by simp [froot_len]
                have hR : (froot (b :: a :: r))[(froot (b :: a :: r)).length - 1]? = some R := Classical.byContradiction fun hn => hc (.inr (.inr hn))
                have hL : (froot (b :: a :: r))[(froot (b :: a :: r)).length - 2]? = some L := Classical.byContradiction fun hn => hc (.inr (.inl hn))
                rw [froot, last_get] at hR
                have hR := Option.some.inj hR
                rw [hlen, froot, froot] at hL
                simp only [Nat.add_sub_cancel, List.append_assoc] at hL
                rw [List.getElem?_append_right (Nat.le_refl _)] at hL
                simp only [Nat.sub_self, List.singleton_append, List.getElem?_cons_zero] at hL
                have hL := Option.some.inj hL
                refine go (.bi op a b :: r) (fun t ht => ?_) ?_ ?_
                · rcases List.mem_cons.1 ht with rfl | ht
                  · exact ⟨by omega, e3, hok a (by simp), hok b (by simp)⟩
                  · exact hok t (by simp [ht])
                · simp only [fpost, fsize] at hL hR ⊢
                  simp only [T.post, hL, hR, List.append_assoc]
                · have e2 : (froot (b :: a :: r)).take ((froot (b :: a :: r)).length - 2) = froot r := by
                    rw [hlen, froot, froot]; simp
                  rw [e2, froot]
                  simp only [T.size, fsize]; congr 2; omega
      · exact absurd h (by decide)
    · exact absurd h (by decide)

theorem chk_tree {x : List Nd} (h : chkF nm x = 0) : ∃ t : T, t.ok nm ∧ x = t.post 0 ∧ x.length ≤ 200 := by
  unfold chkF at h
  split at h
  · exact absurd h (by decide)
  · rename_i hl
    obtain ⟨t, h1, h2⟩ := chk_forest x [] (fun t ht => by simp at ht) h
    exact ⟨t, h1, by simpa [fpost] using h2, by omega⟩

theorem leaf_fields {n : Nd} (h : leafOk nm n) : fieldsB nm n = true ∧ n.1 ≤ 4 := by
  rcases h with ⟨k, rfl⟩ | ⟨s, rfl, hs⟩ | rfl | rfl
  · exact ⟨by simp [fieldsB], by show (1 : Int) ≤ 4; decide⟩
  · exact ⟨by simp [fieldsB, hs], by show (2 : Int) ≤ 4; decide⟩
  · exact ⟨by simp [fieldsB], by show (3 : Int) ≤ 4; decide⟩
  · exact ⟨by simp [fieldsB], by show (4 : Int) ≤ 4; decide⟩

/-- A tree's nodes may be. -/
theorem tree_chk : ∀ (t : T), t.ok nm → ∀ (i : Nat) (r : List Nd) (o : List Int), chkL nm i (t.post i ++ r) o = chkL nm (i + t.size) r (o ++ [((i + t.size : Nat) : Int) - 1])
  | .leaf n, h, i, r, o => by
    obtain ⟨h1, h2⟩ := leaf_fields h
    show chkL nm i (n :: r) o = _
    rw [chkL, if_pos h1]
    unfold stepO
    rw [if_pos h2]
    simp only [T.size]
    congr 3; omega
  | .un op a, ⟨hop, ha⟩, i, r, o => by
    have e : (T.un op a).post i ++ r = a.post i ++ ((op, 0, [], ((i + a.size : Nat) : Int) - 1, 0) :: r) := by simp [T.post]
    rw [e, tree_chk a ha, chkL, if_pos (by rcases hop with rfl | rfl <;> simp [fieldsB])]
    unfold stepO
    simp only
    rw [if_neg (by omega), if_pos (by omega), if_neg (by rw [last_get]; simp), last_take]
    show chkL nm (i + a.size + 1) r (o ++ [((i + a.size : Nat) : Int)]) = chkL nm (i + a.size + 1) r (o ++ [((i + a.size + 1 : Nat) : Int) - 1])
    rw [show ((i + a.size + 1 : Nat) : Int) - 1 = ((i + a.size : Nat) : Int) by omega]
  | .bi op u v, ⟨h7, h16, hu, hv⟩, i, r, o => by
    have e : (T.bi op u v).post i ++ r = u.post i ++ (v.post (i + u.size) ++ ((op, 0, [], ((i + u.size : Nat) : Int) - 1, ((i + u.size + v.size : Nat) : Int) - 1) :: r)) := by simp [T.post]
    rw [e, tree_chk u hu, tree_chk v hv, chkL, if_pos (by
      simp only [fieldsB, Bool.and_eq_true, Bool.or_eq_true, decide_eq_true_eq, Bool.not_eq_true', decide_eq_false_iff_not]
      rw [if_neg (by omega)]
      refine ⟨⟨⟨⟨⟨by omega, by omega⟩, .inr trivial⟩, by simp⟩, .inl (by omega)⟩, .inl (by omega)⟩)]
    unfold stepO
    simp only
    rw [if_neg (by omega), if_neg (by omega), if_neg (by simp)]
    have et : (o ++ [((i + u.size : Nat) : Int) - 1] ++ [((i + u.size + v.size : Nat) : Int) - 1]).take ((o ++ [((i + u.size : Nat) : Int) - 1] ++ [((i + u.size + v.size : Nat) : Int) - 1]).length - 2) = o := by simp
    rw [et]
    show chkL nm (i + u.size + v.size + 1) r (o ++ [((i + u.size + v.size : Nat) : Int)]) = chkL nm (i + (u.size + v.size + 1)) r (o ++ [((i + (u.size + v.size + 1) : Nat) : Int) - 1])
    rw [show i + (u.size + v.size + 1) = i + u.size + v.size + 1 by omega, show ((i + u.size + v.size + 1 : Nat) : Int) - 1 = ((i + u.size + v.size : Nat) : Int) by omega]

theorem tree_chkF {t : T} (h : t.ok nm) (hs : t.size ≤ 200) : chkF nm (t.post 0) = 0 := by
  unfold chkF
  rw [T.post_len, if_neg (by omega)]
  have := tree_chk t h 0 [] []
  rw [List.append_nil] at this
  rw [this]
  rfl

/-! ### The tokens of one -/

def textF (x : List Nd) : Nat → Int → Bool → Option (List Tok)
  | 0, _, _ => none
  | k + 1, a, w => match at? x a with
    | none => none
    | some n =>
      if n.1 = 1 then some [(2, n.2.1, [], 0)]
      else if n.1 = 2 then some [(1, 0, n.2.2.1, 0)]
      else if n.1 ≤ 4 then some [sgn (signOf n.1)]
      else if n.1 ≤ 6 then (match textF x k n.2.2.2.1 false with
        | some u => some (sgn (signOf n.1) :: u)
        | none => none)
      else (match textF x k n.2.2.2.1 false, textF x k n.2.2.2.2 false with
        | some u, some v => some ((if w then [] else [sgn [40]]) ++ (u ++ (sgn (signOf n.1) :: (v ++ (if w then [] else [sgn [41]])))))
        | _, _ => none)

theorem text_tree : ∀ (t : T), t.ok nm → ∀ (x p r : List Nd) (k : Nat) (w : Bool), x = p ++ (t.post p.length ++ r) → t.size ≤ k → textF x k (((p.length + t.size : Nat) : Int) - 1) w = some (t.toks w)
  | .leaf n, h, x, p, r, k, w, hx, hk => by
    obtain ⟨k, rfl⟩ : ∃ k', k = k' + 1 := ⟨k - 1, by simp only [T.size] at hk; omega⟩
    have hat : at? x (((p.length + 1 : Nat) : Int) - 1) = some n := by
      have : ((p.length + 1 : Nat) : Int) - 1 = ((p.length : Nat) : Int) := by omega
      rw [this, hx]; exact at_app p r n
    simp only [T.size]
    unfold textF
    rw [hat]
    rcases h with ⟨k, rfl⟩ | ⟨s, rfl, hs⟩ | rfl | rfl <;> rfl
  | .un op a, ⟨hop, ha⟩, x, p, r, k, w, hx, hk => by
    obtain ⟨k, rfl⟩ : ∃ k', k = k' + 1 := ⟨k - 1, by simp only [T.size] at hk; omega⟩
    have hx1 : x = p ++ (a.post p.length ++ ((op, 0, [], ((p.length + a.size : Nat) : Int) - 1, 0) :: r)) := by rw [hx]; simp [T.post]
    have hat : at? x (((p.length + (a.size + 1) : Nat) : Int) - 1) = some (op, 0, [], ((p.length + a.size : Nat) : Int) - 1, 0) := by
      have e1 : ((p.length + (a.size + 1) : Nat) : Int) - 1 = (((p ++ a.post p.length).length : Nat) : Int) := by simp [T.post_len]; omega
      rw [e1, hx1, ← List.append_assoc]; exact at_app _ _ _
    have ih := text_tree a ha x p _ k false hx1 (by simp only [T.size] at hk; omega)
    simp only [T.size]
    unfold textF
    rw [hat]
    simp only
    rw [if_neg (by omega), if_neg (by omega), if_neg (by omega), if_pos (by omega), ih]
    rfl
  | .bi op u v, ⟨h7, h16, hu, hv⟩, x, p, r, k, w, hx, hk => by
    obtain ⟨k, rfl⟩ : ∃ k', k = k' + 1 := ⟨k - 1, by simp only [T.size] at hk; omega⟩
    have hx1 : x = p ++ (u.post p.length ++ (v.post (p.length + u.size) ++ ((op, 0, [], ((p.length + u.size : Nat) : Int) - 1, ((p.length + u.size + v.size : Nat) : Int) - 1) :: r))) := by rw [hx]; simp [T.post]
    have hpl : (p ++ u.post p.length).length = p.length + u.size := by simp [T.post_len]
    have hx2 : x = (p ++ u.post p.length) ++ (v.post (p ++ u.post p.length).length ++ ((op, 0, [], ((p.length + u.size : Nat) : Int) - 1, ((p.length + u.size + v.size : Nat) : Int) - 1) :: r)) := by rw [hpl, hx1]; simp
    have hat : at? x (((p.length + (u.size + v.size + 1) : Nat) : Int) - 1) = some (op, 0, [], ((p.length + u.size : Nat) : Int) - 1, ((p.length + u.size + v.size : Nat) : Int) - 1) := by
      have e1 : ((p.length + (u.size + v.size + 1) : Nat) : Int) - 1 = ((((p ++ u.post p.length) ++ v.post (p.length + u.size)).length : Nat) : Int) := by simp [T.post_len]; omega
      rw [e1, hx1]
      have : p ++ (u.post p.length ++ (v.post (p.length + u.size) ++ ((op, 0, [], ((p.length + u.size : Nat) : Int) - 1, ((p.length + u.size + v.size : Nat) : Int) - 1) :: r))) = ((p ++ u.post p.length) ++ v.post (p.length + u.size)) ++ ((op, 0, [], ((p.length + u.size : Nat) : Int) - 1, ((p.length + u.size + v.size : Nat) : Int) - 1) :: r) := by simp
      rw [this]; exact at_app _ _ _
    have ih1 := text_tree u hu x p _ k false hx1 (by simp only [T.size] at hk; omega)
    have ih2 := text_tree v hv x (p ++ u.post p.length) _ k false hx2 (by simp only [T.size] at hk; omega)
    rw [hpl] at ih2
    simp only [T.size]
    unfold textF
    rw [hat]
    simp only
    rw [if_neg (by omega), if_neg (by omega), if_neg (by omega), if_neg (by omega), ih1, ih2]
    rfl

/-! ### An expression from a token on -/

def parseF (nm : List UInt8 → Bool) (l : List Tok) (a : Int) : Option (List Nd × Int × Int × Int) :=
  if a < 0 ∨ (l.length : Int) < a then some ([], 0, 2, 0) else
  match climbF nm l (l.length + 1) 1 ⟨a, 0, [], 0, 0⟩ with
  | some (true, st) => some (st.x, st.a, 0, 0)
  | some (false, st) => some ([], 0, st.e, st.f)
  | none => none

theorem parse_some (l : List Tok) (a : Int) : ∃ r, parseF nm l a = some r := by
  unfold parseF
  split
  · exact ⟨_, rfl⟩
  · rename_i h
    obtain ⟨⟨b, st⟩, hr⟩ := climb_some (nm := nm) l (l.length + 1) 1 ⟨a, 0, [], 0, 0⟩ (by decide) (by simp) (by show 0 ≤ a; omega) (by show a ≤ _; omega) (by show _ - a < _; omega)
    rw [hr]
    cases b <;> exact ⟨_, rfl⟩

/-- A fault is told by a number that is not 0. -/
def Faulty (r : Res) : Prop := ∀ st, r = some (false, st) → st.e ≠ 0
theorem fail_f (st : St) {e : Int} (f : Int) (h : e ≠ 0) : Faulty (failS st e f) := fun s hs => by cases hs; exact h
theorem go_f {r : Res} {k : St → Res} (h : Faulty r) (hk : ∀ s, Faulty (k s)) : Faulty (goS r k) := fun st hs => by
  unfold goS at hs
  split at hs
  · exact hk _ st hs
  · cases hs; exact h _ rfl
  · cases hs
theorem node_f {st : St} {n : Nd} {f : Int} {k : St → Res} (hk : ∀ s, Faulty (k s)) : Faulty (nodeS st n f k) := by
  unfold nodeS
  split
  · exact fail_f _ _ (by decide)
  · exact hk _
theorem deep_f {st : St} {k : St → Res} (hk : ∀ s, Faulty (k s)) : Faulty (deepS st k) := by
  unfold deepS
  split
  · exact fail_f _ _ (by decide)
  · exact hk _
theorem more_f {l : List Tok} {rec : Int → St → Res} (hr : ∀ s st, Faulty (rec s st)) (str : Int) : ∀ (n : Nat) (st : St), Faulty (moreF l rec str n st)
  | 0, st => fun _ h => by cases h
  | n + 1, st => by
    unfold moreF
    split
    · intro _ h; cases h
    · split
      · intro _ h; cases h
      · exact go_f (hr _ _) fun s => node_f fun s => more_f hr str n s
theorem climb_f (l : List Tok) : ∀ (k : Nat) (str : Int) (st : St), Faulty (climbF nm l k str st)
  | 0, _, _ => fun _ h => by cases h
  | k + 1, str, st => by
    have ih := climb_f l k
    show Faulty (headF nm l (climbF nm l k) st (moreF l (climbF nm l k) str (l.length + 1)))
    have hm := more_f (l := l) ih str (l.length + 1)
    unfold headF
    split
    · exact fail_f _ _ (by decide)
    · split
      · exact node_f hm
      · split
        · refine deep_f fun s => go_f (ih _ _) fun s => ?_
          split
          · exact hm _
          · exact node_f hm
        · split
          · refine deep_f fun s => go_f (ih _ _) fun s => ?_
            split
            · exact fail_f _ _ (by decide)
            · split
              · exact hm _
              · exact fail_f _ _ (by decide)
          · exact fail_f _ _ (by decide)

/-- What is parsed may be. -/
theorem parse_ok {l : List Tok} {a : Int} {y : List Nd} {e f g : Int} (h : parseF nm l a = some (y, e, f, g)) : (f ≠ 0 → y = [] ∧ e = 0) ∧ (f = 0 → chkF nm y = 0 ∧ a < e ∧ e ≤ (l.length : Int)) := by
  unfold parseF at h
  split at h
  · cases h
    exact ⟨fun _ => ⟨rfl, rfl⟩, fun h => absurd h (by decide)⟩
  · rename_i ha
    split at h
    · rename_i st hc
      cases h
      refine ⟨fun h => absurd rfl h, fun _ => ?_⟩
      obtain ⟨t, h1, h2, h3, h4, h5, _, _, h8⟩ := climb_grown l _ 1 ⟨a, 0, [], 0, 0⟩ st (by decide) (by simp) (by show a ≤ _; omega) hc
      have h2 : st.x = t.post 0 := by rw [h2]; rfl
      refine ⟨?_, h3, h4⟩
      rw [h2] at h8 ⊢
      exact tree_chkF h1 (by rw [T.post_len] at h8; exact h8)
    · rename_i st hc
      cases h
      exact ⟨fun _ => ⟨rfl, rfl⟩, fun h => absurd h (climb_f l _ _ _ st hc)⟩
    · cases h

theorem T.need_le : ∀ (t : T), t.need ≤ (t.toks false).length
  | .leaf _ => Nat.zero_le _
  | .un _ a => by have := a.need_le; simp only [T.need, T.toks, List.length_cons]; omega
  | .bi _ u v => by
    have h1 := u.need_le
    have h2 := v.need_le
    simp [T.need, T.toks]; omega

/-- What is told is read, or is too great. -/
theorem again_tree {t : T} (h : t.ok nm) : (∃ f, parseF nm (t.toks true) 0 = some ([], 0, 3, f)) ∨ parseF nm (t.toks true) 0 = some (t.post 0, ((t.toks true).length : Int), 0, 0) := by
  have key : Long (climbF nm (t.toks true) ((t.toks true).length + 1) 1 ⟨0, 0, [], 0, 0⟩) ∨ climbF nm (t.toks true) ((t.toks true).length + 1) 1 ⟨0, 0, [], 0, 0⟩ = some (true, ⟨((t.toks true).length : Int), 0, t.post 0, 0, 0⟩) := by
    have hc : ∀ k s st', climbF nm (t.toks true) (k + 1) s st' = headF nm (t.toks true) (climbF nm (t.toks true) k) st' (moreF (t.toks true) (climbF nm (t.toks true) k) s ((t.toks true).length + 1)) := fun _ _ _ => rfl
    have one : t.toks true = t.toks false → Long (climbF nm (t.toks true) ((t.toks true).length + 1) 1 ⟨0, 0, [], 0, 0⟩) ∨ climbF nm (t.toks true) ((t.toks true).length + 1) 1 ⟨0, 0, [], 0, 0⟩ = some (true, ⟨((t.toks true).length : Int), 0, t.post 0, 0, 0⟩) := fun e => by
      rw [hc]
      rcases head_toks t h (t.toks true) [] [] (t.toks true).length ⟨0, 0, [], 0, 0⟩ (moreF (t.toks true) (climbF nm (t.toks true) (t.toks true).length) 1 ((t.toks true).length + 1)) (by rw [e]; simp) rfl (by rw [e]; exact t.need_le) with h1 | h1
      · exact .inl h1
      · right
        rw [h1, more_stop (p := t.toks true) (suf := []) (by simp) (by rw [e]; simp) trivial]
        rw [e]; simp
    cases t with
    | leaf n => exact one rfl
    | un op a => exact one rfl
    | bi op u v =>
      obtain ⟨h7, h16, hu, hv⟩ := h
      obtain ⟨b1, b2, b3⟩ := bin_sign op h7 h16
      generalize hl : (T.bi op u v).toks true = l at hc
      have hl1 : l = [] ++ (u.toks false ++ (sgn (signOf op) :: (v.toks false))) := by rw [← hl]; simp [T.toks]
      have hlen : l.length = (u.toks false).length + (v.toks false).length + 1 := by rw [hl1]; simp; omega
      obtain ⟨m, hm⟩ : ∃ m, l.length = m + 1 := ⟨l.length - 1, by omega⟩
      have n1 := u.need_le
      have n2 := v.need_le
      rw [hc, hm]
      rcases head_toks u hu l [] _ (m + 1) ⟨0, 0, [], 0, 0⟩ (moreF l (climbF nm l (m + 1)) 1 (m + 1 + 1)) hl1 rfl (by omega) with h1 | h1
      · exact .inl h1
      rw [h1]
      have hat : at? l ((([] : List Tok).length + (u.toks false).length : Nat) : Int) = some (sgn (signOf op)) := by
        rw [hl1, List.nil_append]; simp only [List.length_nil, Nat.zero_add]; exact at_app _ _ _
      have step : moreF l (climbF nm l (m + 1)) 1 (m + 1 + 1) { a := ((([] : List Tok).length + (u.toks false).length : Nat) : Int), d := 0, x := [] ++ u.post ([] : List Nd).length, e := 0, f := 0 } =
          goS (climbF nm l (m + 1) ((bin (sgn (signOf op))).2 + 1) { a := ((([] : List Tok).length + (u.toks false).length : Nat) : Int) + 1, d := 0, x := [] ++ u.post ([] : List Nd).length, e := 0, f := 0 }) fun s2 =>
            nodeS s2 ((bin (sgn (signOf op))).1, 0, [], (([] ++ u.post ([] : List Nd).length).length : Int) - 1, s2.x.length - 1) ((([] : List Tok).length + (u.toks false).length : Nat) : Int) (moreF l (climbF nm l (m + 1)) 1 (m + 1)) := by
        conv => lhs; unfold moreF
        simp only [hat]
        rw [if_neg (by omega)]
      rw [step, b1, hc]
      have hl2 : l = (u.toks false ++ [sgn (signOf op)]) ++ (v.toks false ++ []) := by rw [hl1]; simp
      rcases head_toks v hv l (u.toks false ++ [sgn (signOf op)]) [] m { a := ((([] : List Tok).length + (u.toks false).length : Nat) : Int) + 1, d := 0, x := [] ++ u.post ([] : List Nd).length, e := 0, f := 0 } (moreF l (climbF nm l m) ((bin (sgn (signOf op))).2 + 1) (l.length + 1)) hl2 (by simp) (by omega) with h2 | h2
      · exact .inl (go_long h2)
      rw [h2, more_stop (p := l) (suf := []) (by simp) (by simp [hlen]; omega) trivial]
      simp only [goS]
      rcases node_or (st := { a := (((u.toks false ++ [sgn (signOf op)]).length + (v.toks false).length : Nat) : Int), d := 0, x := [] ++ u.post ([] : List Nd).length ++ v.post ([] ++ u.post ([] : List Nd).length).length, e := 0, f := 0 })
          (n := (op, 0, [], (([] ++ u.post ([] : List Nd).length).length : Int) - 1, (([] ++ u.post ([] : List Nd).length ++ v.post ([] ++ u.post ([] : List Nd).length).length).length : Int) - 1)) (f := ((([] : List Tok).length + (u.toks false).length : Nat) : Int)) (k := moreF l (climbF nm l (m + 1)) 1 (m + 1)) with h3 | h3
      · exact .inl h3
      right
      rw [h3, more_stop (p := l) (suf := []) (by simp) (by simp [hlen]; omega) trivial]
      simp only [Option.some.injEq, Prod.mk.injEq, true_and, St.mk.injEq, and_true]
      refine ⟨by simp [hlen]; omega, ?_⟩
      simp [T.post, T.post_len]
  unfold parseF
  rw [if_neg (by omega)]
  rcases key with ⟨st, h1, h2⟩ | h1
  · rw [h1]
    exact .inl ⟨st.f, by rw [← h2]⟩
  · rw [h1]
    exact .inr rfl

end Go.Px
