/- Expressions: what reading them comes to, and what they are told as; trees. -/
namespace Go.Px

abbrev Tok := Int × Int × List UInt8 × Int
abbrev Nd := Int × Int × List UInt8 × Int × Int

/-- An element, by a number that may be too small or too great. -/
def at? {α : Type} (l : List α) (i : Int) : Option α :=
  match i with
  | .ofNat n => l[n]?
  | .negSucc _ => none

def isS (t : Tok) (s : List UInt8) : Bool := decide (t.1 = 4) && decide (t.2.2.1 = s)

/-- The node that a token alone is. -/
def opnd (nm : List UInt8 → Bool) (t : Tok) : Option Nd :=
  if t.1 = 2 then some (1, t.2.1, [], 0, 0)
  else if t.1 = 1 ∧ nm t.2.2.1 = true then some (2, 0, t.2.2.1, 0, 0)
  else if isS t [36] = true then some (3, 0, [], 0, 0)
  else if isS t [36, 36] = true then some (4, 0, [], 0, 0)
  else none

/-- What a prefix is. -/
def pref (t : Tok) : Option Int :=
  if isS t [45] = true then some 5 else if isS t [126] = true then some 6 else if isS t [43] = true then some 0 else none

def binL : List (List UInt8 × Int × Int) := [([42], 7, 6), ([47], 8, 6), ([37], 9, 6), ([43], 10, 5), ([45], 11, 5), ([60, 60], 12, 4), ([62, 62], 13, 4), ([38], 14, 3), ([94], 15, 2), ([124], 16, 1)]
def binFind (s : List UInt8) : List (List UInt8 × Int × Int) → Int × Int
  | [] => (0, 0)
  | q :: l => if s = q.1 then q.2 else binFind s l
/-- The operator of two operands, its strength. -/
def bin (t : Tok) : Int × Int := if t.1 = 4 then binFind t.2.2.1 binL else (0, 0)

/-- Where a reading stands: a place, how deep, the nodes, the fault. -/
structure St where
  a : Int
  d : Int
  x : List Nd
  e : Int
  f : Int

abbrev Res := Option (Bool × St)

def failS (st : St) (e f : Int) : Res := some (false, { st with e := e, f := f })
def nodeS (st : St) (n : Nd) (f : Int) (k : St → Res) : Res := if st.x.length = 200 then failS st 3 f else k { st with x := st.x ++ [n] }
def deepS (st : St) (k : St → Res) : Res := if st.d = 50 then failS st 3 st.a else k { st with d := st.d + 1, a := st.a + 1 }
def goS (r : Res) (k : St → Res) : Res :=
  match r with
  | some (true, st) => k st
  | some (false, st) => some (false, st)
  | none => none

section
variable (nm : List UInt8 → Bool) (l : List Tok)

/-- What an expression begins with. -/
def headF (rec : Int → St → Res) (st : St) (k : St → Res) : Res :=
  match at? l st.a with
  | none => failS st 4 st.a
  | some t => match opnd nm t with
    | some n => nodeS { st with a := st.a + 1 } n st.a k
    | none => match pref t with
      | some op => deepS st fun s1 => goS (rec 7 s1) fun s2 =>
          if op = 0 then k { s2 with d := s2.d - 1 } else nodeS { s2 with d := s2.d - 1 } (op, 0, [], s2.x.length - 1, 0) st.a k
      | none => if isS t [40] = true then deepS st fun s1 => goS (rec 1 s1) fun s2 => match at? l s2.a with
          | none => failS s2 4 s2.a
          | some c => if isS c [41] = true then k { s2 with d := s2.d - 1, a := s2.a + 1 } else failS s2 4 s2.a
        else failS st 4 st.a

/-- Operators of two operands, so long as they bind strongly enough. -/
def moreF (rec : Int → St → Res) (str : Int) : Nat → St → Res
  | 0, _ => none
  | n + 1, st => match at? l st.a with
    | none => some (true, st)
    | some t => if (bin t).2 < str then some (true, st) else
        goS (rec ((bin t).2 + 1) { st with a := st.a + 1 }) fun s2 => nodeS s2 ((bin t).1, 0, [], st.x.length - 1, s2.x.length - 1) st.a (moreF rec str n)

def climbF : Nat → Int → St → Res
  | 0 => fun _ _ => none
  | k + 1 => fun str st => headF nm l (climbF k) st (moreF l (climbF k) str (l.length + 1))
end

/-! ### Trees -/

inductive T where
  | leaf (n : Nd)
  | un (op : Int) (a : T)
  | bi (op : Int) (a b : T)

def T.size : T → Nat
  | .leaf _ => 1
  | .un _ a => a.size + 1
  | .bi _ a b => a.size + b.size + 1

theorem T.size_pos : ∀ t : T, 0 < t.size
  | .leaf _ => Nat.zero_lt_one
  | .un _ _ => Nat.succ_pos _
  | .bi _ _ _ => Nat.succ_pos _

/-- A tree's nodes, behind so many others. -/
def T.post (b : Nat) : T → List Nd
  | .leaf n => [n]
  | .un op a => a.post b ++ [(op, 0, [], ((b + a.size : Nat) : Int) - 1, 0)]
  | .bi op u v => u.post b ++ (v.post (b + u.size) ++ [(op, 0, [], ((b + u.size : Nat) : Int) - 1, ((b + u.size + v.size : Nat) : Int) - 1)])

theorem T.post_len : ∀ (t : T) (b : Nat), (t.post b).length = t.size
  | .leaf _, _ => rfl
  | .un _ a, b => by simp [T.post, T.size, a.post_len b]
  | .bi _ u v, b => by simp [T.post, T.size, u.post_len b, v.post_len (b + u.size)]; omega

/-- The nodes that stand alone. -/
def leafOk (nm : List UInt8 → Bool) (n : Nd) : Prop :=
  (∃ k, n = (1, k, [], 0, 0)) ∨ (∃ s, n = (2, 0, s, 0, 0) ∧ nm s = true) ∨ n = (3, 0, [], 0, 0) ∨ n = (4, 0, [], 0, 0)

def T.ok (nm : List UInt8 → Bool) : T → Prop
  | .leaf n => leafOk nm n
  | .un op a => (op = 5 ∨ op = 6) ∧ a.ok nm
  | .bi op u v => 7 ≤ op ∧ op ≤ 16 ∧ u.ok nm ∧ v.ok nm

/-- The sign of a node that is no number and no name. -/
def signOf (op : Int) : List UInt8 :=
  if op = 3 then [36] else if op = 4 then [36, 36] else if op = 5 ∨ op = 11 then [45] else if op = 6 then [126] else if op = 7 then [42] else if op = 8 then [47]
  else if op = 9 then [37] else if op = 10 then [43] else if op = 12 then [60, 60] else if op = 13 then [62, 62] else if op = 14 then [38] else if op = 15 then [94] else [124]

def sgn (s : List UInt8) : Tok := (4, 0, s, 0)
def leafTok (n : Nd) : Tok := if n.1 = 1 then (2, n.2.1, [], 0) else if n.1 = 2 then (1, 0, n.2.2.1, 0) else sgn (signOf n.1)

/-- A tree's tokens. -/
def T.toks (w : Bool) : T → List Tok
  | .leaf n => [leafTok n]
  | .un op a => sgn (signOf op) :: a.toks false
  | .bi op u v => (if w then [] else [sgn [40]]) ++ (u.toks false ++ (sgn (signOf op) :: (v.toks false ++ (if w then [] else [sgn [41]]))))

theorem at_app {α : Type} (p r : List α) (c : α) : at? (p ++ c :: r) ((p.length : Nat) : Int) = some c := by
  show (p ++ c :: r)[p.length]? = some c
  simp
theorem at_end {α : Type} (p : List α) : at? p ((p.length : Nat) : Int) = none := by
  show p[p.length]? = none
  simp

/-! ### What is told is read -/

def endTok (t : Tok) : Prop := (bin t).2 = 0
theorem bin_sign (op : Int) (h7 : 7 ≤ op) (h16 : op ≤ 16) : (bin (sgn (signOf op))).1 = op ∧ 1 ≤ (bin (sgn (signOf op))).2 ∧ (bin (sgn (signOf op))).2 ≤ 6 := by
  obtain rfl | rfl | rfl | rfl | rfl | rfl | rfl | rfl | rfl | rfl : op = 7 ∨ op = 8 ∨ op = 9 ∨ op = 10 ∨ op = 11 ∨ op = 12 ∨ op = 13 ∨ op = 14 ∨ op = 15 ∨ op = 16 := by omega
  all_goals decide
theorem bin_close : (bin (sgn [41])).2 = 0 := by decide

/-- A fault for want of room. -/
def Long (r : Res) : Prop := ∃ st, r = some (false, st) ∧ st.e = 3

theorem node_or {st : St} {n : Nd} {f : Int} {k : St → Res} : Long (nodeS st n f k) ∨ nodeS st n f k = k { st with x := st.x ++ [n] } := by
  unfold nodeS
  split
  · exact .inl ⟨_, rfl, rfl⟩
  · exact .inr rfl
theorem deep_or {st : St} {k : St → Res} : Long (deepS st k) ∨ deepS st k = k { st with d := st.d + 1, a := st.a + 1 } := by
  unfold deepS
  split
  · exact .inl ⟨_, rfl, rfl⟩
  · exact .inr rfl
theorem go_long {r : Res} {k : St → Res} (h : Long r) : Long (goS r k) := by
  obtain ⟨st, rfl, h⟩ := h
  exact ⟨st, rfl, h⟩

variable {nm : List UInt8 → Bool}

theorem opnd_leaf {n : Nd} (h : leafOk nm n) : opnd nm (leafTok n) = some n := by
  rcases h with ⟨k, rfl⟩ | ⟨s, rfl, hs⟩ | rfl | rfl
  · rfl
  · have e : leafTok (2, 0, s, 0, 0) = (1, 0, s, 0) := rfl
    rw [e]
    unfold opnd
    rw [if_neg (show ¬ (1 : Int) = 2 by decide), if_pos ⟨rfl, hs⟩]
  · rfl
  · rfl
theorem pref_sign (op : Int) (h : op = 5 ∨ op = 6) : opnd nm (sgn (signOf op)) = none ∧ pref (sgn (signOf op)) = some op := by
  rcases h with rfl | rfl <;> exact ⟨rfl, rfl⟩
theorem open_tok : opnd nm (sgn [40]) = none ∧ pref (sgn [40]) = none ∧ isS (sgn [40]) [40] = true := ⟨rfl, rfl, by decide⟩

/-- How many calls within one another a tree's tokens need. -/
def T.need : T → Nat
  | .leaf _ => 0
  | .un _ a => a.need + 1
  | .bi _ u v => max u.need v.need + 2

/-- Behind a tree's tokens an operator, if there is one, does not bind more strongly than 'str'. -/
def Stops (str : Int) (suf : List Tok) : Prop := match suf with
  | [] => True
  | t :: _ => (bin t).2 < str

theorem more_stop {l : List Tok} {rec : Int → St → Res} {str : Int} {n : Nat} {st : St} {p suf : List Tok} (hl : l = p ++ suf) (ha : st.a = (p.length : Nat)) (hs : Stops str suf) : moreF l rec str (n + 1) st = some (true, st) := by
  unfold moreF
  cases suf with
  | nil => rw [ha, hl, List.append_nil, at_end]
  | cons t r =>
    rw [ha, hl, at_app]
    simp only
    rw [if_pos (show (bin t).2 < str from hs)]

theorem head_toks : ∀ (t : T), t.ok nm → ∀ (l p suf : List Tok) (k : Nat) (st : St) (K : St → Res), l = p ++ (t.toks false ++ suf) → st.a = (p.length : Nat) → t.need ≤ k →
    Long (headF nm l (climbF nm l k) st K) ∨ headF nm l (climbF nm l k) st K = K { st with a := ((p.length + (t.toks false).length : Nat) : Int), x := st.x ++ t.post st.x.length }
  | .leaf n, hok, l, p, suf, k, st, K, hl, ha, hk => by
    have e : headF nm l (climbF nm l k) st K = nodeS { st with a := st.a + 1 } n st.a K := by
      unfold headF
      have : at? l st.a = some (leafTok n) := by rw [ha, hl]; exact at_app p _ _
      rw [this]
      simp only [opnd_leaf hok]
    rw [e]
    rcases node_or (st := { st with a := st.a + 1 }) (n := n) (f := st.a) (k := K) with h | h
    · exact .inl h
    · right
      rw [h, ha]
      rfl
  | .un op a, ⟨hop, hok⟩, l, p, suf, k, st, K, hl, ha, hk => by
    obtain ⟨k, rfl⟩ : ∃ k', k = k' + 1 := ⟨k - 1, by simp only [T.need] at hk; omega⟩
    obtain ⟨h1, h2⟩ := pref_sign (nm := nm) op hop
    have hl2 : l = (p ++ [sgn (signOf op)]) ++ (a.toks false ++ suf) := by rw [hl]; simp [T.toks]
    have e : headF nm l (climbF nm l (k + 1)) st K = deepS st fun s1 => goS (climbF nm l (k + 1) 7 s1) fun s2 =>
          if op = 0 then K { s2 with d := s2.d - 1 } else nodeS { s2 with d := s2.d - 1 } (op, 0, [], s2.x.length - 1, 0) st.a K := by
      unfold headF
      have : at? l st.a = some (sgn (signOf op)) := by rw [ha, hl]; exact at_app p _ _
      rw [this]
      simp only [h1, h2]
    rw [e]
    rcases deep_or (st := st) (k := fun s1 => goS (climbF nm l (k + 1) 7 s1) fun s2 =>
          if op = 0 then K { s2 with d := s2.d - 1 } else nodeS { s2 with d := s2.d - 1 } (op, 0, [], s2.x.length - 1, 0) st.a K) with h | h
    · exact .inl h
    rw [h]
    have ih := head_toks a hok l (p ++ [sgn (signOf op)]) suf k { st with d := st.d + 1, a := st.a + 1 } (moreF l (climbF nm l k) 7 (l.length + 1)) hl2 (by simp [ha]) (by simp only [T.need] at hk; omega)
    have hc : climbF nm l (k + 1) 7 { st with d := st.d + 1, a := st.a + 1 } = headF nm l (climbF nm l k) { st with d := st.d + 1, a := st.a + 1 } (moreF l (climbF nm l k) 7 (l.length + 1)) := rfl
    rw [hc]
    rcases ih with ih | ih
    · exact .inl (go_long ih)
    rw [ih, more_stop (p := p ++ sgn (signOf op) :: a.toks false) (suf := suf) (by rw [hl]; simp [T.toks]) (by simp; omega) (by
      unfold Stops
      split
      · trivial
      · rename_i t r
        have : ∀ (s : List UInt8) (m : List (List UInt8 × Int × Int)), (∀ q ∈ m, q.2.2 < 7) → (binFind s m).2 < 7 := by
          intro s m
          induction m with
          | nil => intro _; show (0 : Int) < 7; decide
          | cons q m ihm =>
            intro hm
            unfold binFind
            split
            · exact hm q (List.mem_cons_self ..)
            · exact ihm fun x hx => hm x (List.mem_cons_of_mem _ hx)
        unfold bin
        split
        · exact this _ _ (by decide)
        · decide)]
    unfold goS
    simp only
    rw [if_neg (by omega)]
    rcases node_or (st := { st with d := st.d + 1 - 1, a := (((p ++ [sgn (signOf op)]).length + (a.toks false).length : Nat) : Int), x := st.x ++ a.post st.x.length }) (n := (op, 0, [], ((st.x ++ a.post st.x.length).length : Int) - 1, 0)) (f := st.a) (k := K) with h | h
    · exact .inl h
    · right
      rw [h]
      congr 1
      simp only [St.mk.injEq, true_and, and_true]
      refine ⟨?_, by omega, ?_⟩
      · simp [T.toks]; omega
      · simp [T.post, T.post_len]
  | .bi op u v, ⟨h7, h16, hu, hv⟩, l, p, suf, k, st, K, hl, ha, hk => by
    obtain ⟨k, rfl⟩ : ∃ k', k = k' + 2 := ⟨k - 2, by simp only [T.need] at hk; omega⟩
    obtain ⟨o1, o2, o3⟩ := open_tok (nm := nm)
    obtain ⟨b1, b2, b3⟩ := bin_sign op h7 h16
    have hku : u.need ≤ k + 1 := by simp only [T.need] at hk; omega
    have hkv : v.need ≤ k := by simp only [T.need] at hk; omega
    have hl1 : l = (p ++ [sgn [40]]) ++ (u.toks false ++ (sgn (signOf op) :: (v.toks false ++ (sgn [41] :: suf)))) := by rw [hl]; simp [T.toks]
    have e : headF nm l (climbF nm l (k + 2)) st K = deepS st fun s1 => goS (climbF nm l (k + 2) 1 s1) fun s2 => match at? l s2.a with
          | none => failS s2 4 s2.a
          | some c => if isS c [41] = true then K { s2 with d := s2.d - 1, a := s2.a + 1 } else failS s2 4 s2.a := by
      unfold headF
      have : at? l st.a = some (sgn [40]) := by rw [ha, hl1]; simp only [List.append_assoc, List.singleton_append]; exact at_app p _ _
      rw [this]
      simp only [o1, o2, o3, if_true]
    rw [e]
    rcases deep_or (st := st) (k := fun s1 => goS (climbF nm l (k + 2) 1 s1) fun s2 => match at? l s2.a with
          | none => failS s2 4 s2.a
          | some c => if isS c [41] = true then K { s2 with d := s2.d - 1, a := s2.a + 1 } else failS s2 4 s2.a) with h | h
    · exact .inl h
    rw [h]
    have hc : climbF nm l (k + 2) 1 { st with d := st.d + 1, a := st.a + 1 } = headF nm l (climbF nm l (k + 1)) { st with d := st.d + 1, a := st.a + 1 } (moreF l (climbF nm l (k + 1)) 1 (l.length + 1)) := rfl
    rw [hc]
    rcases head_toks u hu l (p ++ [sgn [40]]) (sgn (signOf op) :: (v.toks false ++ (sgn [41] :: suf))) (k + 1) { st with d := st.d + 1, a := st.a + 1 } (moreF l (climbF nm l (k + 1)) 1 (l.length + 1)) hl1 (by simp [ha]) hku with ih | ih
    · exact .inl (go_long ih)
    rw [ih]
    -- the operator
    obtain ⟨m, hm⟩ : ∃ m, l.length = m + 1 := ⟨l.length - 1, by rw [hl1]; simp; omega⟩
    have hat : at? l (((p ++ [sgn [40]]).length + (u.toks false).length : Nat) : Int) = some (sgn (signOf op)) := by
      have : l = ((p ++ [sgn [40]]) ++ u.toks false) ++ (sgn (signOf op) :: (v.toks false ++ (sgn [41] :: suf))) := by rw [hl1]; simp
      rw [this, ← List.length_append]; exact at_app _ _ _
    rw [hm]
    have step : moreF l (climbF nm l (k + 1)) 1 (m + 1 + 1) { st with d := st.d + 1, a := (((p ++ [sgn [40]]).length + (u.toks false).length : Nat) : Int), x := st.x ++ u.post st.x.length } =
        goS (climbF nm l (k + 1) ((bin (sgn (signOf op))).2 + 1) { st with d := st.d + 1, a := (((p ++ [sgn [40]]).length + (u.toks false).length : Nat) : Int) + 1, x := st.x ++ u.post st.x.length }) fun s2 =>
          nodeS s2 ((bin (sgn (signOf op))).1, 0, [], ((st.x ++ u.post st.x.length).length : Int) - 1, s2.x.length - 1) (((p ++ [sgn [40]]).length + (u.toks false).length : Nat) : Int) (moreF l (climbF nm l (k + 1)) 1 (m + 1)) := by
      conv => lhs; unfold moreF
      simp only [hat]
      rw [if_neg (by omega)]
    rw [step, b1]
    have hc2 : ∀ s st', climbF nm l (k + 1) s st' = headF nm l (climbF nm l k) st' (moreF l (climbF nm l k) s (l.length + 1)) := fun _ _ => rfl
    rw [hc2]
    have hl2 : l = ((p ++ [sgn [40]]) ++ (u.toks false ++ [sgn (signOf op)])) ++ (v.toks false ++ (sgn [41] :: suf)) := by rw [hl1]; simp
    rcases head_toks v hv l ((p ++ [sgn [40]]) ++ (u.toks false ++ [sgn (signOf op)])) (sgn [41] :: suf) k { st with d := st.d + 1, a := (((p ++ [sgn [40]]).length + (u.toks false).length : Nat) : Int) + 1, x := st.x ++ u.post st.x.length } (moreF l (climbF nm l k) ((bin (sgn (signOf op))).2 + 1) (l.length + 1)) hl2 (by simp; omega) hkv with ih2 | ih2
    · exact .inl (go_long (go_long ih2))
    have hl3 : l = ((p ++ [sgn [40]]) ++ (u.toks false ++ (sgn (signOf op) :: v.toks false))) ++ (sgn [41] :: suf) := by rw [hl1]; simp
    rw [ih2, more_stop (p := (p ++ [sgn [40]]) ++ (u.toks false ++ (sgn (signOf op) :: v.toks false))) (suf := sgn [41] :: suf) hl3 (by simp; omega) (by show (bin (sgn [41])).2 < _; rw [bin_close]; omega)]
    simp only [goS]
    have hx : (st.x ++ u.post st.x.length).length = st.x.length + u.size := by rw [List.length_append, T.post_len]
    rcases node_or (st := { st with d := st.d + 1, a := ((((p ++ [sgn [40]]) ++ (u.toks false ++ [sgn (signOf op)])).length + (v.toks false).length : Nat) : Int), x := st.x ++ u.post st.x.length ++ v.post (st.x ++ u.post st.x.length).length })
        (n := (op, 0, [], ((st.x ++ u.post st.x.length).length : Int) - 1, ((st.x ++ u.post st.x.length ++ v.post (st.x ++ u.post st.x.length).length).length : Int) - 1)) (f := (((p ++ [sgn [40]]).length + (u.toks false).length : Nat) : Int)) (k := moreF l (climbF nm l (k + 1)) 1 (m + 1)) with h2 | h2
    · exact .inl (go_long h2)
    rw [h2, more_stop (p := (p ++ [sgn [40]]) ++ (u.toks false ++ (sgn (signOf op) :: v.toks false))) (suf := sgn [41] :: suf) hl3 (by simp; omega) (by show (bin (sgn [41])).2 < _; rw [bin_close]; omega)]
    simp only [goS]
    have hat3 : at? l ((((p ++ [sgn [40]]) ++ (u.toks false ++ [sgn (signOf op)])).length + (v.toks false).length : Nat) : Int) = some (sgn [41]) := by
      have e1 : ((p ++ [sgn [40]]) ++ (u.toks false ++ [sgn (signOf op)])).length + (v.toks false).length = ((p ++ [sgn [40]]) ++ (u.toks false ++ (sgn (signOf op) :: v.toks false))).length := by simp; omega
      rw [e1, hl3]; exact at_app _ _ _
    rw [hat3]
    simp only
    rw [if_pos (by decide)]
    right
    congr 1
    simp only [St.mk.injEq, true_and, and_true]
    refine ⟨?_, by omega, ?_⟩
    · simp [T.toks]; omega
    · simp only [T.post, hx, List.append_assoc, List.length_append, T.post_len]
      congr 3
      simp; omega


/-! ### What is read is a tree -/

theorem at_lt {α : Type} {l : List α} {i : Int} {c : α} (h : at? l i = some c) : 0 ≤ i ∧ i < (l.length : Int) := by
  unfold at? at h
  split at h
  · rename_i n
    have := (List.getElem?_eq_some_iff.1 h).1
    simp; omega
  · cases h
theorem opnd_ok {t : Tok} {n : Nd} (h : opnd nm t = some n) : leafOk nm n := by
  unfold opnd at h
  split at h
  · cases h; exact .inl ⟨_, rfl⟩
  · split at h
    · rename_i h2; cases h; exact .inr (.inl ⟨_, rfl, h2.2⟩)
    · split at h
      · cases h; exact .inr (.inr (.inl rfl))
      · split at h
        · cases h; exact .inr (.inr (.inr rfl))
        · cases h
theorem pref_ok {t : Tok} {op : Int} (h : pref t = some op) : op = 0 ∨ op = 5 ∨ op = 6 := by
  unfold pref at h
  split at h
  · cases h; omega
  · split at h
    · cases h; omega
    · split at h
      · cases h; omega
      · cases h
theorem bin_ok {t : Tok} (h : 1 ≤ (bin t).2) : 7 ≤ (bin t).1 ∧ (bin t).1 ≤ 16 ∧ (bin t).2 ≤ 6 := by
  have key : ∀ (s : List UInt8) (m : List (List UInt8 × Int × Int)), (∀ q ∈ m, 7 ≤ q.2.1 ∧ q.2.1 ≤ 16 ∧ q.2.2 ≤ 6) → 1 ≤ (binFind s m).2 → 7 ≤ (binFind s m).1 ∧ (binFind s m).1 ≤ 16 ∧ (binFind s m).2 ≤ 6 := by
    intro s m
    induction m with
    | nil => intro _ h; exact absurd h (by show ¬ (1 : Int) ≤ 0; decide)
    | cons q m ih =>
      intro hm h
      unfold binFind at h ⊢
      split
      · exact hm q (List.mem_cons_self ..)
      · rename_i hq
        rw [if_neg hq] at h
        exact ih (fun x hx => hm x (List.mem_cons_of_mem _ hx)) h
  unfold bin at h ⊢
  split
  · rename_i ht
    rw [if_pos ht] at h
    exact key _ _ (by decide) h
  · rename_i ht
    rw [if_neg ht] at h
    exact absurd h (by show ¬ (1 : Int) ≤ 0; decide)

/-- A reading that has come on: one tree more. -/
def Grown (nm : List UInt8 → Bool) (l : List Tok) (st st' : St) : Prop :=
  ∃ t : T, t.ok nm ∧ st'.x = st.x ++ t.post st.x.length ∧ st.a < st'.a ∧ st'.a ≤ (l.length : Int) ∧ st'.d = st.d ∧ st'.e = st.e ∧ st'.f = st.f ∧ st'.x.length ≤ 200

theorem go_inv {r : Res} {k : St → Res} {st' : St} (h : goS r k = some (true, st')) : ∃ s, r = some (true, s) ∧ k s = some (true, st') := by
  unfold goS at h
  split at h
  · exact ⟨_, rfl, h⟩
  · cases h
  · cases h
theorem node_inv {st : St} {n : Nd} {f : Int} {k : St → Res} {st' : St} (h : nodeS st n f k = some (true, st')) : st.x.length ≠ 200 ∧ k { st with x := st.x ++ [n] } = some (true, st') := by
  unfold nodeS at h
  split at h
  · cases h
  · rename_i h1; exact ⟨h1, h⟩
theorem deep_inv {st : St} {k : St → Res} {st' : St} (h : deepS st k = some (true, st')) : k { st with d := st.d + 1, a := st.a + 1 } = some (true, st') := by
  unfold deepS at h
  split at h
  · cases h
  · exact h

/-- The first tree is one operand of what follows. -/
theorem more_grown {l : List Tok} {rec : Int → St → Res} (hrec : ∀ s st st', st.x.length ≤ 200 → st.a ≤ (l.length : Int) → rec s st = some (true, st') → Grown nm l st st') {str : Int} (h1 : 1 ≤ str) : ∀ (n : Nat) (st0 st st' : St), Grown nm l st0 st → moreF l rec str n st = some (true, st') → Grown nm l st0 st'
  | 0, _, _, _, _, h => by cases h
  | n + 1, st0, st, st', hg, h => by
    unfold moreF at h
    split at h
    · cases h; exact hg
    · rename_i tok hat
      split at h
      · cases h; exact hg
      · rename_i hstr
        obtain ⟨s2, h2, h3⟩ := go_inv h
        obtain ⟨h4, h5⟩ := node_inv h3
        obtain ⟨t, k1, k2, k3, k4, k5, k6, k7, k8⟩ := hg
        have hlt := at_lt hat
        obtain ⟨u, m1, m2, m3, m4, m5, m6, m7, m8⟩ := hrec _ { st with a := st.a + 1 } _ k8 (by show st.a + 1 ≤ _; omega) h2
        have hb := bin_ok (t := tok) (by omega)
        refine more_grown hrec h1 n st0 { s2 with x := s2.x ++ [((bin tok).1, 0, [], (st.x.length : Int) - 1, (s2.x.length : Int) - 1)] } st' ?_ h5
        refine ⟨.bi (bin tok).1 t u, ⟨hb.1, hb.2.1, k1, m1⟩, ?_, by show st0.a < s2.a; have : st.a + 1 < s2.a := m3; omega, m4, by show s2.d = _; rw [m5]; exact k5, by show s2.e = _; rw [m6]; exact k6, by show s2.f = _; rw [m7]; exact k7, ?_⟩
        · show s2.x ++ [_] = _
          have e2 : s2.x = st.x ++ u.post st.x.length := m2
          have el : st.x.length = st0.x.length + t.size := by rw [k2, List.length_append, T.post_len]
          have el2 : s2.x.length = st0.x.length + t.size + u.size := by rw [e2, List.length_append, T.post_len, el]
          rw [el2, e2, el, k2]
          simp only [T.post, List.append_assoc]
        · show (s2.x ++ [_]).length ≤ 200
          have : s2.x.length ≤ 200 := m8
          simp; omega

theorem climb_grown (l : List Tok) : ∀ (k : Nat) (str : Int) (st st' : St), 1 ≤ str → st.x.length ≤ 200 → st.a ≤ (l.length : Int) → climbF nm l k str st = some (true, st') → Grown nm l st st'
  | 0, _, _, _, _, _, _, h => by cases h
  | k + 1, str, st, st', hs, hx, ha, h => by
    have h : headF nm l (climbF nm l k) st (moreF l (climbF nm l k) str (l.length + 1)) = some (true, st') := h
    have hmore : ∀ s1, Grown nm l st s1 → moreF l (climbF nm l k) str (l.length + 1) s1 = some (true, st') → Grown nm l st st' := fun s1 hg hm =>
      more_grown (rec := fun s st => if 1 ≤ s then climbF nm l k s st else none) (fun s a b hxa haa hr => by
        split at hr
        · rename_i h1; exact climb_grown l k s a b h1 hxa haa hr
        · cases hr) hs (l.length + 1) st s1 st' hg (by
          have : ∀ n s, moreF l (fun s st => if 1 ≤ s then climbF nm l k s st else none) str n s = moreF l (climbF nm l k) str n s := by
            intro n
            induction n with
            | zero => intro s; rfl
            | succ n ih =>
              intro s
              unfold moreF
              split
              · rfl
              · split
                · rfl
                · rename_i tok _ hlt
                  rw [if_pos (by omega)]
                  congr 1
                  funext s2
                  rw [show moreF l (fun s st => if 1 ≤ s then climbF nm l k s st else none) str n = moreF l (climbF nm l k) str n from funext ih]
          rw [this]; exact hm)
    unfold headF at h
    split at h
    · cases h
    · rename_i tok hat
      have hlt := at_lt hat
      split at h
      · rename_i n hn
        obtain ⟨h4, h5⟩ := node_inv h
        refine hmore { st with a := st.a + 1, x := st.x ++ [n] } ⟨.leaf n, opnd_ok hn, rfl, by show st.a < st.a + 1; omega, by show st.a + 1 ≤ _; omega, rfl, rfl, rfl, ?_⟩ h5
        show (st.x ++ [n]).length ≤ 200
        have : st.x.length ≠ 200 := h4
        simp; omega
      · split at h
        · rename_i op hp
          have h := deep_inv h
          obtain ⟨s2, h2, h3⟩ := go_inv h
          obtain ⟨u, m1, m2, m3, m4, m5, m6, m7, m8⟩ := climb_grown l k 7 { st with d := st.d + 1, a := st.a + 1 } s2 (by decide) hx (by show st.a + 1 ≤ _; omega) h2
          have m3 : st.a + 1 < s2.a := m3
          have m5 : s2.d = st.d + 1 := m5
          split at h3
          · refine hmore { s2 with d := s2.d - 1 } ⟨u, m1, m2, by show st.a < s2.a; omega, m4, by show s2.d - 1 = st.d; omega, m6, m7, m8⟩ h3
          · rename_i hop
            obtain ⟨h4, h5⟩ := node_inv h3
            have h4 : s2.x.length ≠ 200 := h4
            refine hmore { s2 with d := s2.d - 1, x := s2.x ++ [(op, 0, [], (s2.x.length : Int) - 1, 0)] } ⟨.un op u, ⟨by have := pref_ok hp; omega, m1⟩, ?_, by show st.a < s2.a; omega, m4, by show s2.d - 1 = st.d; omega, m6, m7, ?_⟩ h5
            · show s2.x ++ [_] = _
              have e2 : s2.x = st.x ++ u.post st.x.length := m2
              rw [e2]
              simp [T.post, T.post_len]
            · show (s2.x ++ [_]).length ≤ 200
              have : s2.x.length ≤ 200 := m8
              simp; omega
        · split at h
          · have h := deep_inv h
            obtain ⟨s2, h2, h3⟩ := go_inv h
            obtain ⟨u, m1, m2, m3, m4, m5, m6, m7, m8⟩ := climb_grown l k 1 { st with d := st.d + 1, a := st.a + 1 } s2 (by decide) hx (by show st.a + 1 ≤ _; omega) h2
            have m3 : st.a + 1 < s2.a := m3
            have m5 : s2.d = st.d + 1 := m5
            split at h3
            · cases h3
            · rename_i c hc
              have hlt2 := at_lt hc
              split at h3
              · exact hmore { s2 with d := s2.d - 1, a := s2.a + 1 } ⟨u, m1, m2, by show st.a < s2.a + 1; omega, by show s2.a + 1 ≤ _; omega, by show s2.d - 1 = st.d; omega, m6, m7, m8⟩ h3
              · cases h3
          · cases h

/-! ### Reading comes to an end -/

/-- At a place that is not there: a fault at once. -/
theorem go_some {r : Res} {k : St → Res} (h : ∃ x, r = some x) (hk : ∀ s, r = some (true, s) → ∃ y, k s = some y) : ∃ y, goS r k = some y := by
  obtain ⟨⟨b, s⟩, rfl⟩ := h
  cases b with
  | true => exact hk s rfl
  | false => exact ⟨_, rfl⟩
theorem node_some {st : St} {n : Nd} {f : Int} {k : St → Res} (hk : st.x.length ≠ 200 → ∃ y, k { st with x := st.x ++ [n] } = some y) : ∃ y, nodeS st n f k = some y := by
  unfold nodeS
  split
  · exact ⟨_, rfl⟩
  · rename_i h; exact hk h
theorem deep_some {st : St} {k : St → Res} (hk : ∃ y, k { st with d := st.d + 1, a := st.a + 1 } = some y) : ∃ y, deepS st k = some y := by
  unfold deepS
  split
  · exact ⟨_, rfl⟩
  · exact hk

theorem climb_some (l : List Tok) : ∀ (k : Nat) (str : Int) (st : St), 1 ≤ str → st.x.length ≤ 200 → 0 ≤ st.a → st.a ≤ (l.length : Int) → (l.length : Int) - st.a < k → ∃ r, climbF nm l k str st = some r
  | 0, _, _, _, _, _, _, h => by omega
  | k + 1, str, st, hs, hx, h0, ha, hk => by
    have more : ∀ (n : Nat) (s : St), s.x.length ≤ 200 → st.a < s.a → s.a ≤ (l.length : Int) → (l.length : Int) - s.a < n → ∃ r, moreF l (climbF nm l k) str n s = some r := by
      intro n
      induction n with
      | zero => intro s _ _ _ h; omega
      | succ n ih =>
        intro s hsx hsa hsl hn
        unfold moreF
        split
        · exact ⟨_, rfl⟩
        · rename_i tok hat
          have hlt := at_lt hat
          split
          · exact ⟨_, rfl⟩
          · refine go_some (climb_some l k _ { s with a := s.a + 1 } (by omega) hsx (by show 0 ≤ s.a + 1; omega) (by show s.a + 1 ≤ _; omega) (by show _ - (s.a + 1) < _; omega)) fun s2 h2 => node_some fun hne => ?_
            obtain ⟨u, m1, m2, m3, m4, m5, m6, m7, m8⟩ := climb_grown l k _ { s with a := s.a + 1 } s2 (by omega) hsx (by show s.a + 1 ≤ _; omega) h2
            have m3 : s.a + 1 < s2.a := m3
            exact ih _ (by show (s2.x ++ [_]).length ≤ 200; simp; omega) (by show st.a < s2.a; omega) m4 (by show _ - s2.a < _; omega)
    show ∃ r, headF nm l (climbF nm l k) st (moreF l (climbF nm l k) str (l.length + 1)) = some r
    unfold headF
    split
    · exact ⟨_, rfl⟩
    · rename_i tok hat
      have hlt := at_lt hat
      split
      · exact node_some fun hne => more _ _ (by show (st.x ++ [_]).length ≤ 200; have : st.x.length ≠ 200 := hne; simp; omega) (by show st.a < st.a + 1; omega) (by show st.a + 1 ≤ _; omega) (by show _ - (st.a + 1) < _; omega)
      · split
        · refine deep_some (go_some (climb_some l k 7 { st with d := st.d + 1, a := st.a + 1 } (by decide) hx (by show 0 ≤ st.a + 1; omega) (by show st.a + 1 ≤ _; omega) (by show _ - (st.a + 1) < _; omega)) fun s2 h2 => ?_)
          obtain ⟨u, m1, m2, m3, m4, m5, m6, m7, m8⟩ := climb_grown l k _ { st with d := st.d + 1, a := st.a + 1 } s2 (by decide) hx (by show st.a + 1 ≤ _; omega) h2
          have m3 : st.a + 1 < s2.a := m3
          split
          · exact more _ _ m8 (by show st.a < s2.a; omega) m4 (by show _ - s2.a < _; omega)
          · exact node_some fun hne => more _ _ (by show (s2.x ++ [_]).length ≤ 200; have : s2.x.length ≠ 200 := hne; simp; omega) (by show st.a < s2.a; omega) m4 (by show _ - s2.a < _; omega)
        · split
          · refine deep_some (go_some (climb_some l k 1 { st with d := st.d + 1, a := st.a + 1 } (by decide) hx (by show 0 ≤ st.a + 1; omega) (by show st.a + 1 ≤ _; omega) (by show _ - (st.a + 1) < _; omega)) fun s2 h2 => ?_)
            obtain ⟨u, m1, m2, m3, m4, m5, m6, m7, m8⟩ := climb_grown l k _ { st with d := st.d + 1, a := st.a + 1 } s2 (by decide) hx (by show st.a + 1 ≤ _; omega) h2
            have m3 : st.a + 1 < s2.a := m3
            split
            · exact ⟨_, rfl⟩
            · rename_i c hc
              have hlt2 := at_lt hc
              split
              · exact more _ _ m8 (by show st.a < s2.a + 1; omega) (by show s2.a + 1 ≤ _; omega) (by show _ - (s2.a + 1) < _; omega)
              · exact ⟨_, rfl⟩
          · exact ⟨_, rfl⟩

end Go.Px
