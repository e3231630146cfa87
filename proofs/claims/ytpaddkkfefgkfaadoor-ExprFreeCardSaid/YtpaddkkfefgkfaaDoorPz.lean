/- Expressions: their numbers, their names; plain. -/
import Derived.Test.YtpaddkkfefgkfaaDoorPy
namespace Go.Px

abbrev Sym := List UInt8 × Int × Bool

def firstF : List Sym → List UInt8 → Option Sym
  | [], _ => none
  | q :: l, s => if q.1 = s then some q else firstF l s
/-- The last symbol of a name. -/
def lastF (l : List Sym) (s : List UInt8) : Option Sym := firstF l.reverse s

def vget (v : List Int) (i : Int) : Int := (at? v i).getD 0

section
variable (neg inv : Int → Int) (bin : Int → Int → Int → Int × Bool) (l : List Sym) (here start : Int)

/-- What a node comes to: an error, a number, whether it hangs on a place. -/
def opE (v : List Int) (nd : Nd) : Int × Int × Bool :=
  if nd.1 = 1 then (0, nd.2.1, false)
  else if nd.1 = 2 then (match lastF l nd.2.2.1 with
    | some q => (0, q.2.1, q.2.2)
    | none => (6, 0, false))
  else if nd.1 = 3 then (0, here, true)
  else if nd.1 = 4 then (0, start, true)
  else if nd.1 = 5 then (0, neg (vget v nd.2.2.2.1), false)
  else if nd.1 = 6 then (0, inv (vget v nd.2.2.2.1), false)
  else if (bin nd.1 (vget v nd.2.2.2.1) (vget v nd.2.2.2.2)).2 = true then (0, (bin nd.1 (vget v nd.2.2.2.1) (vget v nd.2.2.2.2)).1, false)
  else (5, 0, false)

/-- The number of what is left of an expression, whether it hangs on a place, an error. -/
def evL : List Nd → Nat → List Int → Bool → Int × Bool × Int
  | [], i, v, p => (vget v ((i : Int) - 1), p, 0)
  | nd :: r, i, v, p =>
    if (opE neg inv bin l here start v nd).1 = 0 then evL r (i + 1) (v.set i (opE neg inv bin l here start v nd).2.1) (p || (opE neg inv bin l here start v nd).2.2)
    else (0, false, (opE neg inv bin l here start v nd).1)
end

section
variable {neg inv : Int → Int} {bin : Int → Int → Int → Int × Bool}

theorem opE_err {l : List Sym} {here start : Int} {v : List Int} {nd : Nd} : (opE neg inv bin l here start v nd).1 = 0 ∨ (opE neg inv bin l here start v nd).1 = 5 ∨ (nd.1 = 2 ∧ (opE neg inv bin l here start v nd).1 = 6) := by
  unfold opE
  split
  · exact .inl rfl
  · split
    · split
      · exact .inl rfl
      · rename_i h _ _; exact .inr (.inr ⟨h, rfl⟩)
    · split
      · exact .inl rfl
      · split
        · exact .inl rfl
        · split
          · exact .inl rfl
          · split
            · exact .inl rfl
            · split
              · exact .inl rfl
              · exact .inr (.inl rfl)

theorem opE_free {l : List Sym} {here start : Int} {v : List Int} {nd : Nd} (h2 : nd.1 ≠ 2) (h3 : nd.1 ≠ 3) (h4 : nd.1 ≠ 4) : opE neg inv bin l here start v nd = opE neg inv bin [] 0 0 v nd ∧ (opE neg inv bin [] 0 0 v nd).2.2 = false := by
  unfold opE
  simp only [if_neg h2, if_neg h3, if_neg h4]
  refine ⟨trivial, ?_⟩
  repeat' split
  all_goals rfl

theorem ev_free (l : List Sym) (here start : Int) : ∀ (x : List Nd) (i : Nat) (v : List Int), (∀ nd ∈ x, nd.1 ≠ 2 ∧ nd.1 ≠ 3 ∧ nd.1 ≠ 4) →
    evL neg inv bin l here start x i v false = evL neg inv bin [] 0 0 x i v false ∧ (evL neg inv bin [] 0 0 x i v false).2.1 = false
  | [], i, v, _ => ⟨rfl, rfl⟩
  | nd :: r, i, v, h => by
    obtain ⟨h2, h3, h4⟩ := h nd (by simp)
    obtain ⟨e1, e2⟩ := opE_free (neg := neg) (inv := inv) (bin := bin) (l := l) (here := here) (start := start) (v := v) h2 h3 h4
    unfold evL
    rw [e1]
    split
    · rw [e2]
      exact ev_free l here start r _ _ fun n hn => h n (by simp [hn])
    · exact ⟨rfl, rfl⟩

theorem ev_names (here start : Int) : ∀ (x : List Nd) (i : Nat) (v : List Int) (p : Bool), (∃ nd ∈ x, nd.1 = 2) → (evL neg inv bin [] here start x i v p).2.2 = 6 ∨ (evL neg inv bin [] here start x i v p).2.2 = 5
  | [], i, v, p, ⟨nd, h, _⟩ => by cases h
  | nd :: r, i, v, p, ⟨nd', hm, h2⟩ => by
    unfold evL
    by_cases h0 : (opE neg inv bin [] here start v nd).1 = 0
    · rw [if_pos h0]
      have hne : nd.1 ≠ 2 := fun e => by
        have : (opE neg inv bin [] here start v nd).1 = 6 := by
          unfold opE
          rw [if_neg (by omega), if_pos e]; rfl
        omega
      refine ev_names here start r _ _ _ ⟨nd', ?_, h2⟩
      rcases List.mem_cons.1 hm with rfl | hm
      · exact absurd h2 hne
      · exact hm
    · rw [if_neg h0]
      rcases opE_err (neg := neg) (inv := inv) (bin := bin) (l := []) (here := here) (start := start) (v := v) (nd := nd) with h | h | ⟨_, h⟩
      · exact absurd h h0
      · exact .inr h
      · exact .inl h

/-- Does a node hang on a place? -/
def hangN (l : List Sym) (nd : Nd) : Bool := decide (nd.1 = 3) || (decide (nd.1 = 4) || (decide (nd.1 = 2) && (match lastF l nd.2.2.1 with
  | some q => q.2.2
  | none => false)))

theorem opE_ok {l : List Sym} {here start : Int} {v : List Int} {nd : Nd} (h : (opE neg inv bin l here start v nd).1 = 0) : (opE neg inv bin l here start v nd).2.2 = hangN l nd ∧ (nd.1 = 2 → (lastF l nd.2.2.1).isSome = true) := by
  unfold opE at h ⊢
  unfold hangN
  by_cases h1 : nd.1 = 1
  · rw [if_pos h1, decide_eq_false (by omega), decide_eq_false (by omega), decide_eq_false (by omega)]
    exact ⟨rfl, fun h => by omega⟩
  · rw [if_neg h1] at h ⊢
    by_cases h2 : nd.1 = 2
    · rw [if_pos h2] at h ⊢
      rw [decide_eq_false (by omega), decide_eq_false (by omega), decide_eq_true h2]
      cases hl : lastF l nd.2.2.1 with
      | none => rw [hl] at h; simp at h
      | some q => exact ⟨rfl, fun _ => rfl⟩
    · rw [if_neg h2] at h ⊢
      by_cases h3 : nd.1 = 3
      · rw [if_pos h3, decide_eq_true h3]; exact ⟨rfl, fun h => absurd h h2⟩
      · rw [if_neg h3] at h ⊢
        by_cases h4 : nd.1 = 4
        · rw [if_pos h4, decide_eq_false h3, decide_eq_true h4]; exact ⟨rfl, fun h => absurd h h2⟩
        · rw [if_neg h4] at h ⊢
          rw [decide_eq_false h2, decide_eq_false h3, decide_eq_false h4]
          refine ⟨?_, fun h => absurd h h2⟩
          repeat' split
          all_goals rfl

theorem ev_ok (l : List Sym) (here start : Int) : ∀ (x : List Nd) (i : Nat) (v : List Int) (p : Bool), (evL neg inv bin l here start x i v p).2.2 = 0 →
    (evL neg inv bin l here start x i v p).2.1 = (p || x.any (hangN l)) ∧ ∀ nd ∈ x, nd.1 = 2 → (lastF l nd.2.2.1).isSome = true
  | [], i, v, p, _ => ⟨by simp [evL], fun nd h => by cases h⟩
  | nd :: r, i, v, p, h => by
    unfold evL at h ⊢
    by_cases h0 : (opE neg inv bin l here start v nd).1 = 0
    · rw [if_pos h0] at h ⊢
      obtain ⟨k1, k2⟩ := opE_ok h0
      obtain ⟨g1, g2⟩ := ev_ok l here start r _ _ _ h
      refine ⟨by rw [g1, k1, List.any_cons, Bool.or_assoc], fun n hn => ?_⟩
      rcases List.mem_cons.1 hn with rfl | hn
      · exact k2
      · exact g2 n hn
    · rw [if_neg h0] at h
      exact absurd h h0
end

/-- Names, each but once. -/
def nmsL : List Nd → List (List UInt8) → List (List UInt8)
  | [], out => out
  | nd :: r, out => if nd.1 = 2 ∧ nd.2.2.1 ∉ out then nmsL r (out ++ [nd.2.2.1]) else nmsL r out

theorem nms_mem : ∀ (x : List Nd) (out : List (List UInt8)) (s : List UInt8), s ∈ nmsL x out ↔ s ∈ out ∨ ∃ nd ∈ x, nd.1 = 2 ∧ nd.2.2.1 = s
  | [], out, s => by simp [nmsL]
  | nd :: r, out, s => by
    unfold nmsL
    split
    · rename_i h
      rw [nms_mem r]
      simp only [List.mem_append, List.mem_cons, List.not_mem_nil, or_false]
      constructor
      · rintro ((h1 | h1) | ⟨n, h1, h2⟩)
        · exact .inl h1
        · exact .inr ⟨nd, .inl rfl, h.1, h1.symm⟩
        · exact .inr ⟨n, .inr h1, h2⟩
      · rintro (h1 | ⟨n, rfl | h1, h2, h3⟩)
        · exact .inl (.inl h1)
        · exact .inl (.inr h3.symm)
        · exact .inr ⟨n, h1, h2, h3⟩
    · rename_i h
      rw [nms_mem r]
      constructor
      · rintro (h1 | ⟨n, h1, h2⟩)
        · exact .inl h1
        · exact .inr ⟨n, by simp [h1], h2⟩
      · rintro (h1 | ⟨n, h1, h2, h3⟩)
        · exact .inl h1
        · rcases List.mem_cons.1 h1 with rfl | h1
          · left
            by_cases hm : n.2.2.1 ∈ out
            · rw [← h3]; exact hm
            · exact absurd ⟨h2, hm⟩ h
          · exact .inr ⟨n, h1, h2, h3⟩

/-- Whether it hangs on a place, by its nodes, is whether by its names. -/
theorem hang_names (l : List Sym) (x : List Nd) : x.any (hangN l) = (x.any (fun nd => decide (nd.1 = 3) || decide (nd.1 = 4)) || (nmsL x []).any fun s => match lastF l s with | some q => q.2.2 | none => false) := by
  rw [Bool.eq_iff_iff]
  simp only [List.any_eq_true, Bool.or_eq_true]
  constructor
  · rintro ⟨nd, h1, h2⟩
    unfold hangN at h2
    simp only [Bool.or_eq_true, Bool.and_eq_true, decide_eq_true_eq] at h2
    rcases h2 with h2 | h2 | ⟨h2, h3⟩
    · exact .inl ⟨nd, h1, by simp [h2]⟩
    · exact .inl ⟨nd, h1, by simp [h2]⟩
    · exact .inr ⟨nd.2.2.1, (nms_mem x [] _).2 (.inr ⟨nd, h1, h2, rfl⟩), h3⟩
  · rintro (⟨nd, h1, h2⟩ | ⟨s, h1, h2⟩)
    · simp only [decide_eq_true_eq] at h2
      refine ⟨nd, h1, ?_⟩
      unfold hangN
      rcases h2 with h2 | h2 <;> simp [h2]
    · rcases (nms_mem x [] s).1 h1 with h | ⟨nd, h3, h4, h5⟩
      · cases h
      · refine ⟨nd, h3, ?_⟩
        unfold hangN
        rw [h5, h4]
        simp only [Bool.or_eq_true, Bool.and_eq_true]
        exact .inr (.inr ⟨rfl, h2⟩)

/-- Operands stand ahead of their operator. -/
def bndL : Nat → List Nd → Prop
  | _, [] => True
  | i, nd :: r => (1 ≤ nd.1 ∧ (4 < nd.1 → 0 ≤ nd.2.2.2.1 ∧ nd.2.2.2.1 < (i : Int)) ∧ (6 < nd.1 → 0 ≤ nd.2.2.2.2 ∧ nd.2.2.2.2 < (i : Int))) ∧ bndL (i + 1) r

theorem chk_bnd {nm : List UInt8 → Bool} : ∀ (x : List Nd) (i : Nat) (o : List Int), (∀ a ∈ o, 0 ≤ a ∧ a < (i : Int)) → chkL nm i x o = 0 → bndL i x
  | [], _, _, _, _ => trivial
  | nd :: r, i, o, ho, h => by
    unfold chkL at h
    split at h
    case isFalse => omega
    rename_i hf
    split at h
    case h_2 => omega
    rename_i o' hs
    have h1 : 1 ≤ nd.1 := by
      unfold fieldsB at hf
      simp only [Bool.and_eq_true, decide_eq_true_eq] at hf
      exact hf.1.1.1.1.1
    have sub : ∀ (n : Nat) (a : Int), a ∈ o.take n ++ [(i : Int)] → 0 ≤ a ∧ a < ((i + 1 : Nat) : Int) := fun n a ha => by
      rcases List.mem_append.1 ha with ha | ha
      · have := ho a (List.mem_of_mem_take ha); omega
      · have : a = i := by simpa using ha
        omega
    have mem : ∀ (j : Nat) (z : Int), o[j]? = some z → 0 ≤ z ∧ z < (i : Int) := fun j z hz => ho z (List.mem_of_getElem? hz)
    unfold stepO at hs
    split at hs
    · rename_i h4
      refine ⟨⟨h1, fun h => by omega, fun h => by omega⟩, chk_bnd r (i + 1) o' ?_ h⟩
      simp only [Option.some.injEq] at hs
      subst hs
      intro a ha
      rcases List.mem_append.1 ha with ha | ha
      · have := ho a ha; omega
      · have : a = i := by simpa using ha
        omega
    · split at hs
      · rename_i h4 h6
        split at hs
        · cases hs
        · rename_i hn
          simp only [Option.some.injEq] at hs
          subst hs
          refine ⟨⟨h1, fun _ => mem _ _ (Classical.not_not.1 fun h => hn (.inr h)), fun h => by omega⟩, chk_bnd r (i + 1) _ (sub _) h⟩
      · split at hs
        · cases hs
        · rename_i hn
          simp only [Option.some.injEq] at hs
          subst hs
          refine ⟨⟨h1, fun _ => mem _ _ (Classical.not_not.1 fun h => hn (.inr (.inl h))), fun _ => mem _ _ (Classical.not_not.1 fun h => hn (.inr (.inr h)))⟩, chk_bnd r (i + 1) _ (sub _) h⟩

theorem chkF_bnd {nm : List UInt8 → Bool} {x : List Nd} (h : chkF nm x = 0) : x ≠ [] ∧ x.length ≤ 200 ∧ bndL 0 x := by
  unfold chkF at h
  split at h
  · omega
  · refine ⟨fun e => by subst e; simp [chkL] at h, by omega, chk_bnd x 0 [] (fun a h => by cases h) h⟩
end Go.Px
