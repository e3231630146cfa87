/- Contracts of functions that are handed a pointer to a row of theirs, and hand back lists in lists. -/
import Derived.Test.YtfggompceldfgaaGreatDoorLyg

namespace Go.Tv
open Go.Ev (Tr pick2 Leave Mem Blk alive pick2_eq alive_some)
noncomputable section

/-- One value that leads to no row of the run's own. -/
def fixOne : AV → Bool
  | .int _ _ => true
  | .bool _ => true
  | .str _ => true
  | .flt _ => true
  | .nils => true
  | .nilp => true
  | .lst _ _ => true
  | _ => false

/-- Values that lead to cells that stay alone. -/
def fixB : AV → Bool
  | .agg l => l.all fixOne
  | v => fixOne v

/-- What is handed over: a value that leads to cells that stay alone, or a list of its own. -/
inductive NRes where
  | val (v : AV)
  | list (t : TypeId) (e : Ty) (l : List e.den)

theorem fix_VR {S S' : Wo} (hF : ∀ i x, S.F i = some x → S'.F i = some x) {v : AV} {x : Value} (h : fixB v = true) (hv : VR S v x) : VR S' v x := by
  have one : ∀ {v : AV} {x : Value}, fixOne v = true → VR S v x → VR S' v x := fun h hv => by
    cases hv with
    | int => exact .int _ _
    | bool => exact .bool _
    | str => exact .str _
    | flt => exact .flt _
    | nils => exact .nils
    | nilp => exact .nilp
    | lst e l _ h => exact .lst e l _ (h.mono hF)
    | _ => cases h
  cases hv with
  | agg l m hl hm => exact .agg l m hl fun j a b ha hb => one (List.all_eq_true.1 h a (List.mem_of_getElem? ha)) (hm j a b ha hb)
  | int k n => exact one h (.int k n)
  | bool b => exact one h (.bool b)
  | str s => exact one h (.str s)
  | flt n => exact one h (.flt n)
  | nils => exact .nils
  | nilp => exact .nilp
  | lst e l _ h => exact .lst e l _ (h.mono hF)
  | _ => cases h

/-! ### What is handed over, in a memory -/

/-- Values, and the memory with their lists. -/
def nresOf : List NRes → TMem → List AV × TMem
  | [], H => ([], H)
  | .val v :: rs, H => (v :: (nresOf rs H).1, (nresOf rs H).2)
  | .list t e l :: rs, H => (.own H.next l.length :: (nresOf rs (H.push (.list t e l 0 false false))).1, (nresOf rs (H.push (.list t e l 0 false false))).2)

/-- What a run leaves is just this. -/
def nresAt (M : TMem) : List Nat → List AV → List NRes → Prop
  | _, [], [] => True
  | seen, v :: vs, .val w :: rs => v = w ∧ fixB w = true ∧ nresAt M seen vs rs
  | seen, v :: vs, .list t e l :: rs => (∃ id ver ex, v = .own id l.length ∧ M.get id = some (.list t e l ver ex false) ∧ id ∉ seen ∧ nresAt M (id :: seen) vs rs) ∨ (v = .nils ∧ l = [] ∧ nresAt M seen vs rs)
  | _, _, _ => False

def NTook (S : Wo) (H : TMem) (E : Mem) (Free : Nat → Prop) (rs : List NRes) (xs : List Value) : Prop :=
  ∃ S', S.le S' ∧ LV S' (nresOf rs H).1 xs ∧ Rel S' (nresOf rs H).2 E ∧ S'.F = S.F ∧ H.next ≤ (nresOf rs H).2.next ∧ (nresOf rs H).2.lk = H.lk ∧ (nresOf rs H).2.par = H.par ∧
      (∀ id, id < H.next → (nresOf rs H).2.get id = H.get id ∧ S'.ρ id = S.ρ id) ∧ (∀ id q z, H.next ≤ id → (nresOf rs H).2.get id = some q → S'.ρ id = some z → Free z.1)

/-- What a run has made is taken over (what stays is one and the same). -/
theorem ntake {S1 : Wo} {M1 : TMem} {E : Mem} (hr1 : Rel S1 M1 E) (Free : Nat → Prop) (hlk : M1.lk = 0) : ∀ {vs : List AV} {rs : List NRes} {seen : List Nat} {xs : List Value} {S : Wo} {H : TMem}, nresAt M1 seen vs rs → LV S1 vs xs → Rel S H E → S.F = S1.F →
    (∀ id r y, M1.get id = some r → id ∉ seen → S1.ρ id = some y → r.roB = false → Free y.1 ∧ ∀ id2 q z, H.get id2 = some q → S.ρ id2 = some z → z.1 ≠ y.1) →
    NTook S H E Free rs xs
  | [], [], seen, xs, S, H, _, hl, hr, hF, hown => by
    rw [hl.nil_inv]
    exact ⟨S, S.le_refl, LV.nil, hr, rfl, Nat.le_refl _, rfl, rfl, fun _ _ => ⟨rfl, rfl⟩, fun id q z hid hq _ => absurd (TMem.get_lt hq) (by show ¬ id < H.next; omega)⟩
  | v :: vs, r0 :: rs, seen, xs, S, H, h, hl, hr, hF, hown => by
    obtain ⟨x, xs', rfl, h1, h2⟩ := hl.cons_inv
    have hgam : ∀ v, S.Γ H.next v = none := fun v => hr.gam _ _ (Nat.le_refl _)
    have go : ∀ (t : TypeId) (e : Ty) (l : List e.den) (seen' : List Nat) (y : Option (Nat × Nat × Nat)), r0 = .list t e l → nresAt M1 seen' vs rs → S.le (S.new H.next y (some ⟨e, l⟩)) → Rel (S.new H.next y (some ⟨e, l⟩)) (H.push (.list t e l 0 false false)) E → VR (S.new H.next y (some ⟨e, l⟩)) (.own H.next l.length) x →
        (∀ z, y = some z → Free z.1 ∧ ∃ id1 y1 r1, id1 ∈ seen' ∧ S1.ρ id1 = some y1 ∧ y1.1 = z.1 ∧ M1.get id1 = some r1) → (∀ id, id ∈ seen → id ∈ seen') → NTook S H E Free (r0 :: rs) (x :: xs') := fun t e l seen' y hr0 hres hle hrel hvr hy hsub => by
      subst hr0
      obtain ⟨p1, p2, p3, p4⟩ := TMem.push_spec H (.list t e l 0 false false)
      have hown' : ∀ id r y', M1.get id = some r → id ∉ seen' → S1.ρ id = some y' → r.roB = false → Free y'.1 ∧ ∀ id2 q z, (H.push (.list t e l 0 false false)).get id2 = some q → (S.new H.next y (some ⟨e, l⟩)).ρ id2 = some z → z.1 ≠ y'.1 := fun id r y' hg hns hρ hro => by
        obtain ⟨k1, k2⟩ := hown id r y' hg (fun hm => hns (hsub _ hm)) hρ hro
        refine ⟨k1, fun id2 q z hq hz => ?_⟩
        rw [p4] at hq
        by_cases hid : id2 = H.next
        · subst hid
          have hz : y = some z := by rw [← hz]; exact (if_pos rfl).symm
          obtain ⟨_, id1, y1, r1, b1, b2, b3, b4⟩ := hy z hz
          intro he
          have := hr1.inj id1 id r1 r y1 y' b4 hg b2 hρ (by omega)
          subst this
          exact hns b1
        · rw [if_neg hid] at hq
          have hz : S.ρ id2 = some z := by rw [← hz]; exact (if_neg hid).symm
          exact k2 id2 q z hq hz
      obtain ⟨S', a1, a2, a3, a4, a5, a6, a7, a8, a9⟩ := ntake hr1 Free hlk hres h2 hrel hF hown'
      rw [p1] at a5 a8 a9
      rw [p2] at a6; rw [p3] at a7
      refine ⟨S', Wo.le_trans hle a1, LV.cons (hvr.mono a1) a2, a3, a4, Nat.le_trans (Nat.le_succ _) a5, a6, a7, fun id hid => ?_, fun id q z hid hq hz => ?_⟩
      · obtain ⟨b1, b2⟩ := a8 id (by omega)
        exact ⟨b1.trans (by rw [p4, if_neg (by omega)]), b2.trans (if_neg (by omega))⟩
      · by_cases hid' : id = H.next
        · subst hid'
          have : S'.ρ H.next = (S.new H.next y (some ⟨e, l⟩)).ρ H.next := (a8 H.next (by omega)).2
          rw [this] at hz
          have hz : y = some z := by rw [← hz]; exact (if_pos rfl).symm
          exact (hy z hz).1
        · exact a9 id q z (by omega) hq hz
    cases r0 with
    | val w =>
      obtain ⟨rfl, hs, h⟩ := h
      obtain ⟨S', a1, a2, a3, a4⟩ := ntake hr1 Free hlk h h2 hr hF hown
      exact ⟨S', a1, LV.cons (fix_VR (fun i x hx => by rw [a4.1, hF]; exact hx) hs h1) a2, a3, a4⟩
    | list t e l =>
      rcases h with ⟨id, ver, ex, rfl, hg, hns, h⟩ | ⟨rfl, rfl, h⟩
      · obtain ⟨g1, ⟨g0, g, g2, g2'⟩, g3⟩ := hr1.row id _ hg
        generalize hll : l.length = n at h1
        cases h1 with
        | own _ _ i0 cap0 s0 hρ g' hg' hn' =>
          rcases g3 with ⟨_, g5, _⟩ | ⟨i', cap, b, mid, post, q1, q2, q3, q4, q5, q6, q7, q8, q9, q10⟩
          · rw [hρ] at g5; cases g5
          · rw [hρ] at q1; cases q1
            subst hll
            obtain ⟨f1, f2⟩ := hown id _ _ hg hns hρ rfl
            obtain ⟨b1, b2⟩ := hr.addAt (r := .list t e l 0 false false) (x := some (i0, cap0, e.size)) (g := some ⟨e, l⟩) (fun r' hr' => by
              cases hr'
              exact new_rowAt hgam q2 q3 q4 (by rw [hF]; exact q5) q6 q7 q8 (fun h => by cases h) (by rw [hF]; exact q10.2)) (fun y hy => by
                cases hy
                exact ⟨f2, by rw [hF]; exact hr1.sep id _ _ hg rfl hρ, hr1.lk id _ _ hg (by omega) hρ⟩)
            refine go t e l (id :: seen) _ rfl h b1 b2 (.own _ _ i0 cap0 e.size (if_pos rfl) ⟨e, l⟩ (if_pos ⟨rfl, rfl⟩) rfl) (fun z hz => ?_) (fun id hid => List.mem_cons_of_mem _ hid)
            cases hz
            exact ⟨f1, id, _, _, List.mem_cons_self, hρ, rfl, hg⟩
        | ownNil _ g' hg' hn' =>
          have hl0 : l = [] := List.length_eq_zero_iff.1 hll
          subst hl0
          obtain ⟨b1, b2⟩ := hr.addAt (r := .list t e [] 0 false false) (x := none) (g := some ⟨e, []⟩) (fun r' hr' => by cases hr'; exact nil_rowAt hgam) (fun y hy => by cases hy)
          exact go t e [] (id :: seen) none rfl h b1 b2 (.ownNil _ ⟨e, []⟩ (if_pos ⟨rfl, rfl⟩) rfl) (fun z hz => by cases hz) (fun id hid => List.mem_cons_of_mem _ hid)
      · cases h1
        obtain ⟨b1, b2⟩ := hr.addAt (r := .list t e [] 0 false false) (x := none) (g := some ⟨e, []⟩) (fun r' hr' => by cases hr'; exact nil_rowAt hgam) (fun y hy => by cases hy)
        exact go t e [] seen none rfl h b1 b2 (.ownNil _ ⟨e, []⟩ (if_pos ⟨rfl, rfl⟩) rfl) (fun z hz => by cases hz) (fun id hid => hid)

/-- A row that had gone is there again. -/
theorem Rel.putAt {S : Wo} {H : TMem} {E : Mem} (h : Rel S H E) {id : Nat} {r : Row} (hid : id < H.next) (hro : r.roB = false) (hr : ∀ r', r.live = some r' → RowAt S E id r')
    (hx : ∀ y, S.ρ id = some y → (∀ id' q z, H.get id' = some q → id' ≠ id → S.ρ id' = some z → z.1 ≠ y.1) ∧ S.F y.1 = none ∧ E.lk ≤ y.1) : Rel S (H.put id r) E := by
  obtain ⟨p1, p2, p3, p4⟩ := TMem.put_spec H id r
  have get1 : ∀ j q, (H.put id r).get j = some q → (j = id ∧ r.live = some q) ∨ (j ≠ id ∧ H.get j = some q) := fun j q hj => by
    rw [p4] at hj
    by_cases e : j = id
    · rw [if_pos e, if_pos hid] at hj; exact .inl ⟨e, hj⟩
    · rw [if_neg e] at hj; exact .inr ⟨e, hj⟩
  refine ⟨h.fz, fun j y hy => by rw [p1]; exact h.dom j y hy, fun j v hj => by rw [p1] at hj; exact h.gam j v hj, fun j q hj => ?_, fun j j' q q' y y' hj hj' hy hy' he => ?_, fun j q y hj hb hy => ?_, fun j q y hj hl hy => ?_, by rw [p1, p2]; exact h.lsz, by rw [p1, p3]; exact h.psz, h.esz⟩
  · rcases get1 j q hj with ⟨rfl, h1⟩ | ⟨_, h1⟩
    · exact hr q h1
    · exact h.row j q h1
  · rcases get1 j q hj with ⟨rfl, h1⟩ | ⟨e1, h1⟩ <;> rcases get1 j' q' hj' with ⟨rfl, h2⟩ | ⟨e2, h2⟩
    · rfl
    · exact absurd he.symm ((hx y hy).1 j' q' y' h2 e2 hy')
    · exact absurd he ((hx y' hy').1 j q y h1 e1 hy)
    · exact h.inj j j' q q' y y' h1 h2 hy hy' he
  · rcases get1 j q hj with ⟨rfl, h1⟩ | ⟨_, h1⟩
    · exact (hx y hy).2.1
    · exact h.sep j q y h1 hb hy
  · rcases get1 j q hj with ⟨rfl, h1⟩ | ⟨_, h1⟩
    · exact (hx y hy).2.2
    · rw [p2] at hl; exact h.lk j q y h1 hl hy

/-! ### A call's memory as the callee sees it -/

/-- Its cells, the lists behind them numbered from n on. -/
def cellsIn : Nat → List NRes → List AV
  | _, [] => []
  | n, .val v :: rs => v :: cellsIn n rs
  | n, .list _ _ l :: rs => .own n l.length :: cellsIn (n + 1) rs

/-- Its lists. -/
def listsIn : TMem → List NRes → TMem
  | M, [] => M
  | M, .val _ :: rs => listsIn M rs
  | M, .list t e l :: rs => listsIn (M.push (.list t e l 0 false false)) rs

/-- A row of cells (the first n of what is handed over), the lists behind. -/
def memIn (t : TypeId) (n : Nat) (rs : List NRes) : TMem := listsIn ⟨1, 0, 1, (TMem.empty.push (.cells t ((cellsIn 1 rs).take n))).t⟩ rs

/-- Cells that are handed over as they are: lists of rows of the run's own are made to stay. -/
def frzCells : TMem → List (Option (TypeId × Ty)) → List AV → Option (List AV × TMem)
  | H, [], [] => some ([], H)
  | H, none :: sig, a :: cs => match freezeT H [a] with
    | some ([a'], H1) => match frzCells H1 sig cs with
      | some (l, H2) => some (a' :: l, H2)
      | none => none
    | _ => none
  | H, some _ :: sig, a :: cs => match frzCells H sig cs with
    | some (l, H2) => some (a :: l, H2)
    | none => none
  | _, _, _ => none

/-- Cells as they are handed over; the rows of the lists that go with them are gone. -/
def inCells : TMem → List (Option (TypeId × Ty)) → List AV → Option (List NRes × TMem)
  | H, [], [] => some ([], H)
  | H, none :: sig, a :: cs => pick2 (fixB a) (match inCells H sig cs with
    | some (rs, H') => some (.val a :: rs, H')
    | none => none) none
  | H, some (t, e) :: sig, .nils :: cs => match inCells H sig cs with
    | some (rs, H') => some (.list t e [] :: rs, H')
    | none => none
  | H, some (t, e) :: sig, .own id _ :: cs => match H.get id with
    | some (.list t' e' l _ _ false) => pick2 (H.mayB id && Nat.beq t' t) (match castL e' e l with
      | some l' => match inCells (H.put id .dead) sig cs with
        | some (rs, H') => some (.list t e l' :: rs, H')
        | none => none
      | none => none) none
    | _ => none
  | _, _, _ => none

theorem frz_sim {S0 : Wo} {H0 : TMem} {E : Mem} : ∀ {sig : List (Option (TypeId × Ty))} {cs cs' : List AV} {H H' : TMem} {S : Wo} {C : List Value}, Rel S H E → S0.le S → St S0 H0 E S H E → LV S cs C → frzCells H sig cs = some (cs', H') → ∃ S', S0.le S' ∧ Rel S' H' E ∧ St S0 H0 E S' H' E ∧ LV S' cs' C ∧ S.le S'
  | [], [], cs', H, H', S, C, hr, hle, hst, hl, h => by
    simp only [frzCells, Option.some.injEq, Prod.mk.injEq] at h
    obtain ⟨rfl, rfl⟩ := h
    exact ⟨S, hle, hr, hst, hl, S.le_refl⟩
  | none :: sig, a :: cs, cs', H, H', S, C, hr, hle, hst, hl, h => by
    obtain ⟨x, C', rfl, h1, h2⟩ := hl.cons_inv
    unfold frzCells at h
    split at h
    · rename_i a' H1 hf
      obtain ⟨S1, b1, b2, b3, b4, b5⟩ := freeze_sim hr hle hst (LV.cons h1 LV.nil) hf
      obtain ⟨x', _, e, b6, _⟩ := b4.cons_inv
      cases e
      split at h
      · rename_i l H2 hg
        simp only [Option.some.injEq, Prod.mk.injEq] at h
        obtain ⟨rfl, rfl⟩ := h
        obtain ⟨S2, c1, c2, c3, c4, c5⟩ := frz_sim b2 b1 b3 (h2.mono b5) hg
        exact ⟨S2, c1, c2, c3, LV.cons (b6.mono c5) c4, Wo.le_trans b5 c5⟩
      · cases h
    · cases h
  | some _ :: sig, a :: cs, cs', H, H', S, C, hr, hle, hst, hl, h => by
    obtain ⟨x, C', rfl, h1, h2⟩ := hl.cons_inv
    unfold frzCells at h
    split at h
    · rename_i l H2 hg
      simp only [Option.some.injEq, Prod.mk.injEq] at h
      obtain ⟨rfl, rfl⟩ := h
      obtain ⟨S2, c1, c2, c3, c4, c5⟩ := frz_sim hr hle hst h2 hg
      exact ⟨S2, c1, c2, c3, LV.cons (h1.mono c5) c4, c5⟩
    · cases h
  | [], _ :: _, _, _, _, _, _, _, _, _, _, h => by simp [frzCells] at h
  | none :: _, [], _, _, _, _, _, _, _, _, _, h => by simp [frzCells] at h
  | some _ :: _, [], _, _, _, _, _, _, _, _, _, h => by simp [frzCells] at h

/-- What became of the caller's rows. -/
structure Gone (H H' : TMem) : Prop where
  next : H'.next = H.next
  lk : H'.lk = H.lk
  par : H'.par = H.par
  get : ∀ j r, H'.get j = some r → H.get j = some r

theorem Gone.refl (H : TMem) : Gone H H := ⟨rfl, rfl, rfl, fun _ _ h => h⟩
theorem Gone.trans {a b c : TMem} (h : Gone a b) (k : Gone b c) : Gone a c := ⟨k.next.trans h.next, k.lk.trans h.lk, k.par.trans h.par, fun j r hj => h.get j r (k.get j r hj)⟩
theorem Gone.dead (H : TMem) (id : Nat) : Gone H (H.put id .dead) := by
  obtain ⟨p1, p2, p3, p4⟩ := TMem.put_spec H id .dead
  refine ⟨p1, p2, p3, fun j r hj => ?_⟩
  rw [p4] at hj
  by_cases e : j = id
  · rw [if_pos e] at hj
    split at hj <;> cases hj
  · rw [if_neg e] at hj; exact hj
theorem dead_get (H : TMem) (id : Nat) : (H.put id .dead).get id = none := by
  rw [(TMem.put_spec H id .dead).2.2.2, if_pos rfl]
  split <;> rfl

/-- The machine's row y is one of the caller's rows that are gone. -/
def Taken (S : Wo) (H H' : TMem) (i : Nat) : Prop := ∃ id r z, H.get id = some r ∧ r.roB = false ∧ S.ρ id = some z ∧ z.1 = i ∧ H'.get id = none

theorem Taken.later {S : Wo} {H H' H'' : TMem} {i : Nat} (h : Taken S H H' i) (k : Gone H' H'') : Taken S H H'' i := by
  obtain ⟨id, r, z, h1, h2, h3, h4, h5⟩ := h
  refine ⟨id, r, z, h1, h2, h3, h4, ?_⟩
  cases hg : H''.get id with
  | none => rfl
  | some q => rw [k.get id q hg] at h5; cases h5
theorem Taken.earlier {S : Wo} {H0 H H' : TMem} {i : Nat} (h : Taken S H H' i) (k : Gone H0 H) : Taken S H0 H' i := by
  obtain ⟨id, r, z, h1, h2⟩ := h
  exact ⟨id, r, z, k.get _ _ h1, h2⟩

/-- The lists that a row's cells hold, as rows of the callee's. -/
theorem lists_in {S : Wo} {H0 : TMem} {E : Mem} (hr : Rel S H0 E) : ∀ {sig : List (Option (TypeId × Ty))} {cs : List AV} {rs : List NRes} {H H' M : TMem} {S0 : Wo} {C : List Value}, Gone H0 H → inCells H sig cs = some (rs, H') → LV S cs C → Rel S0 M E → S0.F = S.F → M.lk = 0 →
    (∀ j q y, M.get j = some q → S0.ρ j = some y → ∀ id q' z, H.get id = some q' → q'.roB = false → (∃ t e l v x, q' = .list t e l v x false) → S.ρ id = some z → z.1 ≠ y.1) →
    Gone H H' ∧ rs.length = cs.length ∧ rs.length = sig.length ∧ ∃ S0', S0.le S0' ∧ Rel S0' (listsIn M rs) E ∧ LV S0' (cellsIn M.next rs) C ∧ S0'.F = S0.F ∧ M.next ≤ (listsIn M rs).next ∧ (listsIn M rs).lk = 0 ∧ (listsIn M rs).par = M.par ∧
      (∀ j, j < M.next → (listsIn M rs).get j = M.get j ∧ S0'.ρ j = S0.ρ j) ∧ (∀ j q y, M.next ≤ j → (listsIn M rs).get j = some q → S0'.ρ j = some y → Taken S H H' y.1 ∧ (∃ t e l v x, q = .list t e l v x false))
  | [], [], rs, H, H', M, S0, C, hgo, h, hl, hm, hF, hlk, hown => by
    simp only [inCells, Option.some.injEq, Prod.mk.injEq] at h
    obtain ⟨rfl, rfl⟩ := h
    rw [hl.nil_inv]
    exact ⟨Gone.refl _, rfl, rfl, S0, S0.le_refl, hm, LV.nil, rfl, Nat.le_refl _, hlk, rfl, fun _ _ => ⟨rfl, rfl⟩, fun j q y hj hq _ => absurd (TMem.get_lt hq) (by show ¬ j < M.next; omega)⟩
  | none :: sig, a :: cs, rs, H, H', M, S0, C, hgo, h, hl, hm, hF, hlk, hown => by
    obtain ⟨x, C', rfl, h1, h2⟩ := hl.cons_inv
    unfold inCells at h
    rw [pick2_eq] at h
    split at h
    · rename_i hfx
      split at h
      · rename_i rs' H1 hi
        simp only [Option.some.injEq, Prod.mk.injEq] at h
        obtain ⟨rfl, rfl⟩ := h
        obtain ⟨g1, g2, g2', S0', a1, a2, a3, a4, a5⟩ := lists_in hr hgo hi h2 hm hF hlk hown
        exact ⟨g1, by simp [g2], by simp [g2'], S0', a1, a2, LV.cons (fix_VR (fun i x hx => by rw [a4, hF]; exact hx) hfx h1) a3, a4, a5⟩
      · cases h
    · cases h
  | some (t, e) :: sig, a :: cs, rs, H, H', M, S0, C, hgo, h, hl, hm, hF, hlk, hown => by
    obtain ⟨x, C', rfl, h1, h2⟩ := hl.cons_inv
    have hgam : ∀ v, S0.Γ M.next v = none := fun v => hm.gam _ _ (Nat.le_refl _)
    have go : ∀ (l : List e.den) (rs' : List NRes) (H1 : TMem) (y : Option (Nat × Nat × Nat)), Gone H H1 → inCells H1 sig cs = some (rs', H') → rs = .list t e l :: rs' → S0.le (S0.new M.next y (some ⟨e, l⟩)) → Rel (S0.new M.next y (some ⟨e, l⟩)) (M.push (.list t e l 0 false false)) E → VR (S0.new M.next y (some ⟨e, l⟩)) (.own M.next l.length) x →
        (∀ z, y = some z → Taken S H H1 z.1) →
        Gone H H' ∧ rs.length = (a :: cs).length ∧ rs.length = (some (t, e) :: sig).length ∧ ∃ S0', S0.le S0' ∧ Rel S0' (listsIn M rs) E ∧ LV S0' (cellsIn M.next rs) (x :: C') ∧ S0'.F = S0.F ∧ M.next ≤ (listsIn M rs).next ∧ (listsIn M rs).lk = 0 ∧ (listsIn M rs).par = M.par ∧
          (∀ j, j < M.next → (listsIn M rs).get j = M.get j ∧ S0'.ρ j = S0.ρ j) ∧ (∀ j q y, M.next ≤ j → (listsIn M rs).get j = some q → S0'.ρ j = some y → Taken S H H' y.1 ∧ (∃ t e l v x, q = .list t e l v x false)) := by
      intro l rs' H1 y hg1 hi hrs hle hrel hvr hy
      subst hrs
      obtain ⟨p1, p2, p3, p4⟩ := TMem.push_spec M (.list t e l 0 false false)
      obtain ⟨g1, g2, g2', S0', a1, a2, a3, a4, a5, a6, a7, a8, a9⟩ := lists_in hr (hgo.trans hg1) hi h2 hrel hF (by rw [p2]; exact hlk) (fun j q y' hj hy' id q' z hq' hro hls hz => by
        rw [p4] at hj
        by_cases ej : j = M.next
        · subst ej
          have hz' : y = some y' := by rw [← hy']; exact (if_pos rfl).symm
          obtain ⟨id2, r2, z2, k1, k2, k3, k4, k5⟩ := hy y' hz'
          intro he
          have := hr.inj id id2 q' r2 z z2 (hgo.get _ _ (hg1.get _ _ hq')) (hgo.get _ _ k1) hz k3 (by omega)
          subst this
          rw [hq'] at k5; cases k5
        · rw [if_neg ej] at hj
          have hy'' : S0.ρ j = some y' := by rw [← hy']; exact (if_neg ej).symm
          exact hown j q y' hj hy'' id q' z (hg1.get _ _ hq') hro hls hz)
      rw [p1] at a3 a5 a8 a9
      rw [p3] at a7
      refine ⟨hg1.trans g1, by simp [g2], by simp [g2'], S0', Wo.le_trans hle a1, a2, LV.cons (hvr.mono a1) a3, a4, Nat.le_trans (Nat.le_succ _) a5, a6, a7, fun j hj => ?_, fun j q y' hj hq hy' => ?_⟩
      · obtain ⟨b1, b2⟩ := a8 j (by omega)
        exact ⟨b1.trans (by rw [p4, if_neg (by omega)]), b2.trans (if_neg (by omega))⟩
      · by_cases ej : j = M.next
        · subst ej
          obtain ⟨b1, b2⟩ := a8 M.next (by omega)
          have b2' : S0'.ρ M.next = y := b2.trans (if_pos rfl)
          rw [b2'] at hy'
          have b1' : (listsIn M (.list t e l :: rs')).get M.next = some (.list t e l 0 false false) := by
            have : (listsIn (M.push (.list t e l 0 false false)) rs').get M.next = some (.list t e l 0 false false) := b1.trans (by rw [p4, if_pos rfl]; rfl)
            exact this
          rw [b1'] at hq; cases hq
          exact ⟨(hy y' hy').later g1, _, _, _, _, _, rfl⟩
        · obtain ⟨b1, b2⟩ := a9 j q y' (by omega) hq hy'
          exact ⟨b1.earlier hg1, b2⟩
    cases a with
    | nils =>
      unfold inCells at h
      split at h
      · rename_i rs' H1 hi
        simp only [Option.some.injEq, Prod.mk.injEq] at h
        obtain ⟨rfl, rfl⟩ := h
        cases h1
        obtain ⟨b1, b2⟩ := hm.addAt (r := .list t e [] 0 false false) (x := none) (g := some ⟨e, []⟩) (fun r' hr' => by cases hr'; exact nil_rowAt hgam) (fun y hy => by cases hy)
        exact go [] rs' H none (Gone.refl _) hi rfl b1 b2 (.ownNil _ ⟨e, []⟩ (if_pos ⟨rfl, rfl⟩) rfl) (fun z hz => by cases hz)
      · cases h
    | own id n =>
      unfold inCells at h
      split at h
      · rename_i t' e' l ver ex hg
        rw [pick2_eq] at h
        split at h
        · rename_i hmay
          simp only [Bool.and_eq_true, Nat.beq_eq] at hmay
          obtain ⟨hmay, rfl⟩ := hmay
          split at h
          · rename_i l' hcl
            split at h
            · rename_i rs' H1 hi
              simp only [Option.some.injEq, Prod.mk.injEq] at h
              obtain ⟨rfl, rfl⟩ := h
              obtain ⟨he, hc⟩ := castL_spec hcl
              subst he
              have hc : l = l' := hc
              subst hc
              have hg0 := hgo.get _ _ hg
              obtain ⟨g1, ⟨g0, g, g2, g2'⟩, g3⟩ := hr.row id _ hg0
              cases h1 with
              | own _ _ i0 cap0 s0 hρ g' hg' hn' =>
                rw [g2] at hg'; cases hg'
                rcases g3 with ⟨_, g5, _⟩ | ⟨i', cap, b, mid, post, q1, q2, q3, q4, q5, q6, q7, q8, q9, q10⟩
                · rw [hρ] at g5; cases g5
                · rw [hρ] at q1; cases q1
                  have hn : n = l.length := by omega
                  subst hn
                  obtain ⟨b1, b2⟩ := hm.addAt (r := .list t' e' l 0 false false) (x := some (i0, cap0, e'.size)) (g := some ⟨e', l⟩) (fun r' hr' => by
                    cases hr'
                    exact new_rowAt hgam q2 q3 q4 (by rw [hF]; exact q5) q6 q7 q8 (fun h => by cases h) (by rw [hF]; exact q10.2)) (fun y hy => by
                      cases hy
                      refine ⟨fun j q z hj hz he => hown j q z hj hz id _ _ hg rfl ⟨_, _, _, _, _, rfl⟩ hρ he.symm, by rw [hF]; exact hr.sep id _ _ hg0 rfl hρ, hr.lk id _ _ hg0 (by have := hgo.lk; simp only [TMem.mayB, Nat.ble_eq] at hmay; omega) hρ⟩)
                  exact go l rs' (H.put id .dead) _ (Gone.dead H id) hi rfl b1 b2 (.own _ _ i0 cap0 e'.size (if_pos rfl) ⟨e', l⟩ (if_pos ⟨rfl, rfl⟩) rfl) (fun z hz => by
                    cases hz
                    exact ⟨id, _, _, hg, rfl, hρ, rfl, dead_get H id⟩)
              | ownNil _ g' hg' hn' =>
                rw [g2] at hg'; cases hg'
                have h0 : l = [] := List.length_eq_zero_iff.1 (by omega)
                subst h0
                obtain ⟨b1, b2⟩ := hm.addAt (r := .list t' e' [] 0 false false) (x := none) (g := some ⟨e', []⟩) (fun r' hr' => by cases hr'; exact nil_rowAt hgam) (fun y hy => by cases hy)
                exact go [] rs' (H.put id .dead) none (Gone.dead H id) hi rfl b1 b2 (.ownNil _ ⟨e', []⟩ (if_pos ⟨rfl, rfl⟩) rfl) (fun z hz => by cases hz)
            · cases h
          · cases h
        · cases h
      · cases h
    | _ => simp [inCells] at h
  | [], _ :: _, _, _, _, _, _, _, _, h, _, _, _, _, _ => by simp [inCells] at h
  | none :: _, [], _, _, _, _, _, _, _, h, _, _, _, _, _ => by simp [inCells] at h
  | some (_, _) :: _, [], _, _, _, _, _, _, _, h, _, _, _, _, _ => by simp [inCells] at h

/-- Behind a call: the caller's rows that were not handed over. -/
theorem base_back {S S0 S1 : Wo} {H H3 M0 M1 : TMem} {E E' : Mem} (hr : Rel S H E) (hF : S0.F = S.F) (hgo : Gone H H3) (hown : ∀ i, Own S0 M0 i → Taken S H H3 i) (hr1 : Rel S1 M1 E') (hst : StC S0 M0 E S1 M1 E') :
    S.le ⟨S1.F, S.ρ, S.Γ⟩ ∧ Rel ⟨S1.F, S.ρ, S.Γ⟩ H3 E' := by
  have hle : S.le ⟨S1.F, S.ρ, S.Γ⟩ := ⟨fun i x hx => hst.F i x (by rw [hF]; exact hx), fun _ _ h => h, fun _ _ _ h => h⟩
  have far : ∀ id r y, H3.get id = some r → S.ρ id = some y → ¬ Own S0 M0 y.1 := fun id r y hg hy ho => by
    obtain ⟨id2, r2, z, k1, k2, k3, k4, k5⟩ := hown _ ho
    have := hr.inj id id2 r r2 y z (hgo.get _ _ hg) k1 hy k3 k4.symm
    subst this
    rw [hg] at k5; cases k5
  have old : ∀ id r y, H3.get id = some r → S.ρ id = some y → y.1 < E.size := fun id r y hg hy => (let ⟨_, hb⟩ := hr.old (hgo.get _ _ hg) hy; Mem.get_lt hb)
  refine ⟨hle, ⟨hr1.fz, fun id x hx => by rw [hgo.next]; exact hr.dom id x hx, fun id v hv => hr.gam id v (by rw [hgo.next] at hv; exact hv), fun id r hg => ?_, fun id id' r r' x x' hg hg' hx hx' he => hr.inj id id' r r' x x' (hgo.get _ _ hg) (hgo.get _ _ hg') hx hx' he, fun id r x hg hro hx => ?_, fun id r x hg hl hx => ?_, by rw [hgo.lk, hgo.next]; exact hr.lsz, by rw [hgo.par, hgo.next]; exact hr.psz, hr1.esz⟩⟩
  · exact (hr.row id r (hgo.get _ _ hg)).keep hle (fun h => h) (fun _ h => h) fun x hx => hst.keep _ (old id r x hg hx) (far id r x hg hx)
  · show S1.F x.1 = none
    cases hq : S1.F x.1 with
    | none => rfl
    | some cs =>
      rcases hst.frz x.1 (by rw [hq]; simp) with h1 | h1 | h1
      · rw [hF] at h1; exact absurd (hr.sep id r x (hgo.get _ _ hg) hro hx) h1
      · exact absurd h1 (far id r x hg hx)
      · have := old id r x hg hx; omega
  · rw [hst.lk]; exact hr.lk id r x (hgo.get _ _ hg) (by rw [← hgo.lk]; exact hl) hx

/-! ### Contracts -/

/-- ptr: the type and the cells of the row that the first argument points to (if it is a pointer); sig: the other arguments (none: values, and lists that are lent; some: lists that go). g: cells and the other arguments; a condition, the cells behind, the results. -/
structure NCon where
  ptr : Option (TypeId × List (Option (TypeId × Ty)))
  sig : List (Option (TypeId × Ty))
  g : List NRes → Option (Bool × List NRes × List NRes)

/-- A call by such a contract. -/
def ncall {β : Type} (c : NCon) (args : List AV) (H : TMem) (k : AV → TMem → Option β) : Option β :=
  match c.ptr with
  | none => match frzCells H c.sig args with
    | some (args', H1) => match inCells H1 c.sig args' with
      | some (ins, H2) => match c.g ins with
        | some (cnd, _, rs) => pick2 cnd (k (oneT (nresOf rs H2).1) (nresOf rs H2).2) none
        | none => none
      | none => none
    | none => none
  | some (t, sig) => match args with
    | .ptr id 0 :: args => match H.get id with
      | some (.cells t' cs) => match frzCells H (sig ++ c.sig) (cs ++ args) with
        | some (cs', H2) => match inCells H2 (sig ++ c.sig) cs' with
          | some (ins, H3) => pick2 (Nat.beq t t' && H.mayB id && Nat.beq cs.length sig.length) (match c.g ins with
            | some (cnd, outs, rs) => pick2 (cnd && Nat.beq outs.length sig.length)
                (k (oneT ((nresOf (outs ++ rs) (H3.put id .dead)).1.drop sig.length)) ((nresOf (outs ++ rs) (H3.put id .dead)).2.put id (.cells t ((nresOf (outs ++ rs) (H3.put id .dead)).1.take sig.length)))) none
            | none => none) none
          | none => none
        | none => none
      | _ => none
    | _ => none

section
variable {X : Cfg} {cf : Nat × Nat → Ev.CallF}

/-- A run of a function from a memory. -/
def NRun (X : Cfg) (cf : Nat × Nat → Ev.CallF) (f : FuncId) (args : List AV) (M : TMem) (vs : List AV) (M' : TMem) : Prop :=
  ∀ (S : Wo) (E : Mem) (argsE : List Value), Rel S M E → GlobOk X S → LV S args argsE →
    ∃ S' vE E', (∃ N, ∀ n : Nat × Nat, N ≤ n.1 ∧ N ≤ n.2 → cf n f argsE E = some (vE, E')) ∧ (∃ xs, vE = Ev.oneA xs ∧ LV S' vs xs) ∧ Rel S' M' E' ∧ StC S M E S' M' E'

def NConOk (X : Cfg) (cf : Nat × Nat → Ev.CallF) (f : FuncId) (c : NCon) : Prop :=
  ∀ ins outs rs, c.g ins = some (true, outs, rs) →
    match c.ptr with
    | none => ins.length = c.sig.length → ∃ vs M1, NRun X cf f (cellsIn 0 ins) (listsIn TMem.empty ins) vs M1 ∧ nresAt M1 [] vs rs
    | some (t, sig) => outs.length = sig.length → ins.length = (sig ++ c.sig).length → ∃ vs M1 cs1, NRun X cf f (.ptr 0 0 :: (cellsIn 1 ins).drop sig.length) (memIn t sig.length ins) vs M1 ∧ M1.get 0 = some (.cells t cs1) ∧ cs1.length = sig.length ∧ nresAt M1 [0] (cs1 ++ vs) (outs ++ rs)

theorem mem_head (t : TypeId) (cs : List AV) : ((⟨1, 0, 1, (TMem.empty.push (.cells t cs)).t⟩ : TMem).get 0) = some (.cells t cs) ∧ ∀ j, j ≠ 0 → ((⟨1, 0, 1, (TMem.empty.push (.cells t cs)).t⟩ : TMem).get j) = none := by
  obtain ⟨p1, p2, p3, p4⟩ := TMem.push_spec TMem.empty (.cells t cs)
  have e : ∀ j, ((⟨1, 0, 1, (TMem.empty.push (.cells t cs)).t⟩ : TMem).get j) = (TMem.empty.push (.cells t cs)).get j := fun j => by
    rw [TMem.get_eq, TMem.get_eq, p1]; rfl
  refine ⟨?_, fun j hj => ?_⟩
  · rw [e, p4]; rfl
  · rw [e, p4, if_neg (by show j ≠ 0; exact hj), empty_get]

/-- Lists behind another memory that reads the same but for its rows there. -/
theorem lists_same : ∀ (rs : List NRes) (M M' : TMem), M'.next = M.next → M'.lk = M.lk → M'.par = M.par → (listsIn M' rs).next = (listsIn M rs).next ∧ (listsIn M' rs).lk = (listsIn M rs).lk ∧ (listsIn M' rs).par = (listsIn M rs).par ∧ M.next ≤ (listsIn M rs).next ∧
    ∀ j, (j < M.next → (listsIn M' rs).get j = M'.get j ∧ (listsIn M rs).get j = M.get j) ∧ (M.next ≤ j → (listsIn M' rs).get j = (listsIn M rs).get j)
  | [], M, M', h1, h2, h3 => ⟨h1, h2, h3, Nat.le_refl _, fun j => ⟨fun _ => ⟨rfl, rfl⟩, fun hj => by
      have a : M'.get j = none := by rw [TMem.get_eq, if_neg (by omega)]
      have b : M.get j = none := by rw [TMem.get_eq, if_neg (by omega)]
      show M'.get j = M.get j
      rw [a, b]⟩⟩
  | .val v :: rs, M, M', h1, h2, h3 => lists_same rs M M' h1 h2 h3
  | .list t e l :: rs, M, M', h1, h2, h3 => by
    obtain ⟨p1, p2, p3, p4⟩ := TMem.push_spec M (.list t e l 0 false false)
    obtain ⟨q1, q2, q3, q4⟩ := TMem.push_spec M' (.list t e l 0 false false)
    obtain ⟨a1, a2, a3, a4, a5⟩ := lists_same rs (M.push (.list t e l 0 false false)) (M'.push (.list t e l 0 false false)) (by rw [p1, q1, h1]) (by rw [p2, q2, h2]) (by rw [p3, q3, h3])
    refine ⟨a1, a2, a3, by rw [p1] at a4; exact Nat.le_trans (Nat.le_succ _) a4, fun j => ⟨fun hj => ?_, fun hj => ?_⟩⟩
    · obtain ⟨b1, b2⟩ := (a5 j).1 (by omega)
      exact ⟨b1.trans (by rw [q4, if_neg (by omega)]), b2.trans (by rw [p4, if_neg (by omega)])⟩
    · by_cases e' : j = M.next
      · obtain ⟨b1, b2⟩ := (a5 j).1 (by omega)
        have c1 : (listsIn M' (.list t e l :: rs)).get j = (M'.push (.list t e l 0 false false)).get j := b1
        have c2 : (listsIn M (.list t e l :: rs)).get j = (M.push (.list t e l 0 false false)).get j := b2
        rw [c1, c2, q4, p4, h1]
        simp only [e', if_true]
      · exact (a5 j).2 (by omega)

theorem nres_len : ∀ (rs : List NRes) (H : TMem), (nresOf rs H).1.length = rs.length
  | [], _ => rfl
  | .val v :: rs, H => by simp [nresOf, nres_len rs H]
  | .list t e l :: rs, H => by simp [nresOf, nres_len rs]

theorem frz_cells {id : Nat} {t : TypeId} {cs : List AV} : ∀ {sig : List (Option (TypeId × Ty))} {cs0 cs1 : List AV} {A B : TMem}, frzCells A sig cs0 = some (cs1, B) → A.get id = some (.cells t cs) → B.get id = some (.cells t cs) := by
  have one : ∀ {l l' : List AV} {A B : TMem}, freezeT A l = some (l', B) → A.get id = some (.cells t cs) → B.get id = some (.cells t cs) := by
    intro l
    induction l with
    | nil => intro l' A B hf hA; simp only [freezeT, Option.some.injEq, Prod.mk.injEq] at hf; rw [← hf.2]; exact hA
    | cons v l ih =>
      intro l' A B hf hA
      cases v with
      | own id1 n1 =>
        unfold freezeT at hf
        split at hf
        · rename_i t1 e1 l1 ver ex ro hgg
          rw [pick2_eq] at hf
          split at hf
          · split at hf
            · rename_i r' H' hf2
              simp only [Option.some.injEq, Prod.mk.injEq] at hf
              obtain ⟨_, rfl⟩ := hf
              refine ih hf2 ?_
              rw [(TMem.put_spec _ _ _).2.2.2, if_neg (fun e => by subst e; rw [hA] at hgg; cases hgg)]
              exact hA
            · cases hf
          · cases hf
        · cases hf
      | _ =>
        simp only [freezeT] at hf
        split at hf
        · rename_i r' H' hf2
          simp only [Option.some.injEq, Prod.mk.injEq] at hf
          obtain ⟨_, rfl⟩ := hf
          exact ih hf2 hA
        · cases hf
  intro sig
  induction sig with
  | nil =>
    intro cs0 cs1 A B hf hA
    cases cs0 with
    | nil => simp only [frzCells, Option.some.injEq, Prod.mk.injEq] at hf; rw [← hf.2]; exact hA
    | cons a l => simp [frzCells] at hf
  | cons s sig ih =>
    intro cs0 cs1 A B hf hA
    cases cs0 with
    | nil => cases s <;> simp [frzCells] at hf
    | cons a l =>
      cases s with
      | none =>
        unfold frzCells at hf
        split at hf
        · rename_i a' A1 hf1
          split at hf
          · rename_i l2 A2 hf2
            simp only [Option.some.injEq, Prod.mk.injEq] at hf
            obtain ⟨_, rfl⟩ := hf
            exact ih hf2 (one hf1 hA)
          · cases hf
        · cases hf
      | some q =>
        unfold frzCells at hf
        split at hf
        · rename_i l2 A2 hf2
          simp only [Option.some.injEq, Prod.mk.injEq] at hf
          obtain ⟨_, rfl⟩ := hf
          exact ih hf2 hA
        · cases hf

theorem in_cells {id : Nat} {t : TypeId} {cs : List AV} : ∀ {sig : List (Option (TypeId × Ty))} {l : List AV} {rr : List NRes} {A B : TMem}, inCells A sig l = some (rr, B) → A.get id = some (.cells t cs) → B.get id = some (.cells t cs) := by
  intro sig
  induction sig with
  | nil =>
    intro l rr A B hf hA
    cases l with
    | nil => simp only [inCells, Option.some.injEq, Prod.mk.injEq] at hf; rw [← hf.2]; exact hA
    | cons a l => simp [inCells] at hf
  | cons s sig ih =>
    intro l rr A B hf hA
    cases l with
    | nil => cases s with
      | none => simp [inCells] at hf
      | some q => obtain ⟨q1, q2⟩ := q; simp [inCells] at hf
    | cons a l =>
      cases s with
      | none =>
        unfold inCells at hf
        rw [pick2_eq] at hf
        split at hf
        · split at hf
          · rename_i rr' A2 hf2
            simp only [Option.some.injEq, Prod.mk.injEq] at hf
            obtain ⟨_, rfl⟩ := hf
            exact ih hf2 hA
          · cases hf
        · cases hf
      | some q =>
        obtain ⟨q1, q2⟩ := q
        cases a with
        | nils =>
          unfold inCells at hf
          split at hf
          · rename_i rr' A2 hf2
            simp only [Option.some.injEq, Prod.mk.injEq] at hf
            obtain ⟨_, rfl⟩ := hf
            exact ih hf2 hA
          · cases hf
        | own id1 n1 =>
          unfold inCells at hf
          split at hf
          · rename_i t2 e2' l2 v2 x2 hgg
            rw [pick2_eq] at hf
            split at hf
            · split at hf
              · split at hf
                · rename_i rr' A2 hf2
                  simp only [Option.some.injEq, Prod.mk.injEq] at hf
                  obtain ⟨_, rfl⟩ := hf
                  refine ih hf2 ?_
                  rw [(TMem.put_spec _ _ _).2.2.2, if_neg (fun e => by subst e; rw [hA] at hgg; cases hgg)]
                  exact hA
                · cases hf
              · cases hf
            · cases hf
          · cases hf
        | _ => simp [inCells] at hf

theorem cellsIn_len : ∀ (rs : List NRes) (n : Nat), (cellsIn n rs).length = rs.length
  | [], _ => rfl
  | .val v :: rs, n => by simp [cellsIn, cellsIn_len rs n]
  | .list t e l :: rs, n => by simp [cellsIn, cellsIn_len rs (n + 1)]

theorem ncall_ok {β : Type} {f : FuncId} {c : NCon} (hc : NConOk X cf f c) {args : List AV} {H : TMem} {k : AV → TMem → Option β} {r : β} (h : ncall c args H k = some r) : ∃ v H', k v H' = some r ∧ CSim X cf f args H v H' := by
  unfold ncall at h
  obtain ⟨ptr, sigA, g⟩ := c
  cases ptr with
  | none =>
    simp only at h
    split at h
    case h_2 => cases h
    rename_i args' H1 hfz
    split at h
    case h_2 => cases h
    rename_i ins H2 hin
    split at h
    case h_2 => cases h
    rename_i cnd o rs hg
    rw [pick2_eq] at h
    split at h
    case isFalse => cases h
    rename_i hcnd
    subst hcnd
    refine ⟨_, _, h, fun S E argsE hr hgl hl => ?_⟩
    obtain ⟨S2, b1, b2, b3, b4, _⟩ := frz_sim hr S.le_refl (St.refl S H E) hl hfz
    have hrB : Rel ⟨S2.F, fun _ => none, fun _ _ => none⟩ TMem.empty E := rel_empty _ E b2.fz b2.esz
    obtain ⟨g1, g2, g2', T, f1, f2, f3, f4, f5, f6, f7, f8, f9⟩ := lists_in b2 (Gone.refl H1) hin b4 hrB rfl rfl (fun j q y hj => by rw [empty_get] at hj; cases hj)
    obtain ⟨vs, M1, hrun, hres⟩ := hc ins o rs hg g2'
    obtain ⟨S1, vE, E', a1, ⟨xs, rfl, a2⟩, a3, a4⟩ := hrun T E argsE f2 (hgl.mono' fun i x hx => by rw [f4]; exact b1.F i x hx) f3
    have hown : ∀ i, Own T (listsIn TMem.empty ins) i → Taken S2 H1 H2 i := fun i ⟨j, q, y, k1, k2, k3, k4⟩ => by
      obtain ⟨b, _⟩ := f9 j q y (Nat.zero_le _) k1 k3
      rw [k4] at b; exact b
    obtain ⟨c1, c2⟩ := base_back b2 f4 g1 hown a3 a4
    have hnx : H2.next = H1.next := g1.next
    have hownS : ∀ i, Own T (listsIn TMem.empty ins) i → Own S2 H1 i := fun i ho => by
      obtain ⟨j, q, z, k1, k2, k3, k4, _⟩ := hown i ho
      exact ⟨j, q, z, k1, k2, k3, k4⟩
    obtain ⟨S', d1, d2, d3, d4, d5, d6, d7, d8, d9⟩ := ntake (Free := fun i => E.size ≤ i ∨ Own T (listsIn TMem.empty ins) i) a3 (by rw [a4.tlk]; exact f6) hres a2 c2 rfl (fun id q y hq _ hy hro => by
      have hor : E.size ≤ y.1 ∨ Own T (listsIn TMem.empty ins) y.1 := by
        by_cases hy' : y.1 < E.size
        · exact .inr (a4.own y.1 ⟨id, q, y, hq, hro, hy, rfl⟩ hy')
        · exact .inl (by omega)
      refine ⟨hor, fun id2 q2 z hq2 hz he => ?_⟩
      have hq2' := g1.get _ _ hq2
      rcases hor with h1 | h1
      · obtain ⟨b, hb⟩ := b2.old hq2' hz
        have := Mem.get_lt hb
        omega
      · obtain ⟨id3, r3', z3, k1, k2, k3, k4, k5⟩ := hown _ h1
        have := b2.inj id2 id3 q2 r3' z z3 hq2' k1 hz k3 (by omega)
        subst this
        rw [hq2] at k5; cases k5)
    rw [hnx] at d5 d8 d9
    have hleS : S.le S' := Wo.le_trans b1 (Wo.le_trans c1 d1)
    refine ⟨S', Ev.oneA xs, E', a1, hleS, one_ok d2, d3, ⟨a4.sz, a4.lk, by rw [d6, g1.lk]; exact b3.tlk, by rw [d7, g1.par]; exact b3.tpar, hleS.F, fun i ho hi => ?_, fun i hi => ?_, fun i hi ho => a4.keep i hi (fun h1 => ho (b3.own i (hownS i h1) hi)), fun id hid => ?_, Nat.le_trans b3.nx d5, fun id hid hlv => ?_, fun id hid hn => ?_⟩⟩
    · obtain ⟨id, q, y, h1, h2, h3, rfl⟩ := ho
      by_cases hid : id < H1.next
      · rw [(d8 id hid).1] at h1
        rw [(d8 id hid).2] at h3
        exact b3.own _ ⟨id, q, y, g1.get _ _ h1, h2, h3, rfl⟩ hi
      · rcases d9 id q y (by omega) h1 h3 with h4 | h4
        · omega
        · exact b3.own _ (hownS _ h4) hi
    · rw [d4] at hi
      rcases a4.frz i hi with h1 | h1 | h1
      · rw [f4] at h1; exact b3.frz i h1
      · by_cases hsz : i < E.size
        · exact .inr (.inl (b3.own i (hownS i h1) hsz))
        · exact .inr (.inr (by omega))
      · exact .inr (.inr h1)
    · rw [(d8 id (by have := hr.psz; have := b3.nx; omega)).2]; exact b3.par id hid
    · have hlt : id < H1.next := by have := b3.nx; omega
      rw [(d8 id hlt).1] at hlv
      exact b3.live id hid (fun hn => by
        cases hq : H2.get id with
        | none => exact hlv hq
        | some q => rw [g1.get id q hq] at hn; cases hn)
    · rw [(d8 id (by have := b3.nx; omega)).2]; exact b3.rn id hid hn
  | some p =>
    obtain ⟨t, sig⟩ := p
    simp only at h
    split at h
    case h_2 => cases h
    rename_i id args
    split at h
    case h_2 => cases h
    rename_i t' cs hcell
    split at h
    case h_2 => cases h
    rename_i cs' H2 hfz
    split at h
    case h_2 => cases h
    rename_i ins H3 hin
    rw [pick2_eq] at h
    split at h
    case isFalse => cases h
    rename_i hb
    simp only [Bool.and_eq_true, Nat.beq_eq] at hb
    obtain ⟨⟨rfl, hmay⟩, hcl⟩ := hb
    split at h
    case h_2 => cases h
    rename_i cnd outs rs hg
    rw [pick2_eq] at h
    split at h
    case isFalse => cases h
    rename_i hcnd
    simp only [Bool.and_eq_true, Nat.beq_eq] at hcnd
    obtain ⟨rfl, hol⟩ := hcnd
    refine ⟨_, _, h, fun S E argsE hr hgl hl => ?_⟩
    obtain ⟨xp, argsE', rfl, hp, hla⟩ := hl.cons_inv
    -- the pointer's row
    obtain ⟨i0, c0, s0, bk, r1, r2, r3, r4, r5⟩ := hr.row id _ hcell
    obtain ⟨S2, e1, e2, e3, e4, e5⟩ := frz_sim hr S.le_refl (St.refl S H E) (r3.append hla) hfz
    have hρ2 : S2.ρ id = some (i0, c0, s0) := e5.ρ _ _ r1
    have hget2 : H2.get id = some (.cells t cs) := frz_cells hfz hcell
    have hg3 : H3.get id = some (.cells t cs) := in_cells hin hget2
    have hsz0 : i0 < E.size := alive_lt r2
    have hbl : bk.cells.length = sig.length := by rw [← r3.1, hcl]
    -- what the callee sees
    let B0 : TMem := ⟨1, 0, 1, .e⟩
    have hB0 : ∀ j, B0.get j = none := fun j => by
      rw [TMem.get_eq]
      split
      · show (Tr.get Tr.e j).bind Row.live = none; rw [Ev.Tr.get_e]; rfl
      · rfl
    let T0 : Wo := ⟨S2.F, fun j => if j = 0 then some (i0, c0, s0) else none, fun _ _ => none⟩
    have hrB : Rel T0 B0 E := ⟨e2.fz, fun j x hx => (by
        have hx : (if j = 0 then some (i0, c0, s0) else none) = some x := hx
        by_cases ej : j = 0
        · subst ej; exact Nat.zero_lt_one
        · rw [if_neg ej] at hx; cases hx), fun _ _ _ => rfl, fun j q hj => (by rw [hB0] at hj; cases hj), fun j j' q q' x x' hj => (by rw [hB0] at hj; cases hj), fun j q x hj => (by rw [hB0] at hj; cases hj), fun j q x hj => (by rw [hB0] at hj; cases hj), Nat.zero_le _, Nat.le_refl _, e2.esz⟩
    obtain ⟨g1, g2, g2', T, f1, f2, f3, f4, f5, f6, f7, f8, f9⟩ := lists_in e2 (Gone.refl H2) hin e4 hrB rfl rfl (fun j q y hj => by rw [hB0] at hj; cases hj)
    have hT0 : T.ρ 0 = some (i0, c0, s0) := (f8 0 Nat.zero_lt_one).2
    have f3' : LV T (cellsIn 1 ins) (bk.cells ++ argsE') := f3
    have f3a : LV T ((cellsIn 1 ins).take sig.length) bk.cells := by
      have := f3'.take sig.length
      rwa [List.take_append_of_le_length (l₁ := bk.cells) (by omega), List.take_of_length_le (l := bk.cells) (by omega)] at this
    have f3b : LV T ((cellsIn 1 ins).drop sig.length) argsE' := by
      have := f3'.drop sig.length
      rwa [List.drop_append_of_le_length (l₁ := bk.cells) (by omega), List.drop_of_length_le (l := bk.cells) (by omega), List.nil_append] at this
    have hLI := lists_same ins B0 ⟨1, 0, 1, (TMem.empty.push (.cells t ((cellsIn 1 ins).take sig.length))).t⟩ rfl rfl rfl
    obtain ⟨m1, m2, m3, m4, m5⟩ := hLI
    obtain ⟨hd1, hd2⟩ := mem_head t ((cellsIn 1 ins).take sig.length)
    have hM0 : (memIn t sig.length ins).get 0 = some (.cells t ((cellsIn 1 ins).take sig.length)) := by
      have := ((m5 0).1 Nat.zero_lt_one).1
      exact this.trans hd1
    have hMj : ∀ j, j ≠ 0 → (memIn t sig.length ins).get j = (listsIn B0 ins).get j := fun j hj => (m5 j).2 (by show 1 ≤ j; omega)
    have hi0 : ∀ j q y, (listsIn B0 ins).get j = some q → T.ρ j = some y → j ≠ 0 → y.1 ≠ i0 := fun j q y hq hy hj he => by
      obtain ⟨⟨id2, r2', z, k1, k2, k3, k4, k5⟩, ty⟩ := f9 j q y (by show 1 ≤ j; omega) hq hy
      have := e2.inj id id2 _ r2' _ z hget2 k1 hρ2 k3 (by show i0 = z.1; omega)
      subst this
      rw [hg3] at k5; cases k5
    have hr0 : Rel T (memIn t sig.length ins) E := by
      refine ⟨f2.fz, fun j x hx => ?_, fun j v hj => ?_, fun j q hj => ?_, fun j j' q q' x x' hj hj' hx hx' he => ?_, fun j q x hj hb hx => ?_, fun j q x hj _ hx => ?_, ?_, ?_, f2.esz⟩
      · show j < (memIn t sig.length ins).next
        rw [show (memIn t sig.length ins).next = (listsIn B0 ins).next from m1]; exact f2.dom j x hx
      · rw [show (memIn t sig.length ins).next = (listsIn B0 ins).next from m1] at hj; exact f2.gam j v hj
      · by_cases ej : j = 0
        · subst ej
          rw [hM0] at hj; cases hj
          exact ⟨i0, c0, s0, bk, hT0, r2, f3a, r4, r5⟩
        · rw [hMj j ej] at hj; exact f2.row j q hj
      · by_cases ej : j = 0
        · by_cases ej' : j' = 0
          · omega
          · subst ej
            rw [hT0] at hx; cases hx
            rw [hMj j' ej'] at hj'
            exact absurd he.symm (hi0 j' q' x' hj' hx' ej')
        · rw [hMj j ej] at hj
          by_cases ej' : j' = 0
          · subst ej'
            rw [hT0] at hx'; cases hx'
            exact absurd he (hi0 j q x hj hx ej)
          · rw [hMj j' ej'] at hj'
            exact f2.inj j j' q q' x x' hj hj' hx hx' he
      · by_cases ej : j = 0
        · subst ej
          rw [hT0] at hx; cases hx
          rw [f4]; exact e2.sep id _ _ hget2 rfl hρ2
        · rw [hMj j ej] at hj; exact f2.sep j q x hj hb hx
      · by_cases ej : j = 0
        · subst ej
          rw [hT0] at hx; cases hx
          exact e2.lk id _ _ hget2 (by rw [e3.tlk]; simpa [TMem.mayB, Nat.ble_eq] using hmay) hρ2
        · rw [hMj j ej] at hj; exact f2.lk j q x hj (by rw [f6]; exact Nat.zero_le _) hx
      · show (memIn t sig.length ins).lk ≤ _
        rw [show (memIn t sig.length ins).lk = (listsIn B0 ins).lk from m2, f6]; exact Nat.zero_le _
      · rw [show (memIn t sig.length ins).par = (listsIn B0 ins).par from m3, f7, show (memIn t sig.length ins).next = (listsIn B0 ins).next from m1]; exact f5
    have hFT : T.F = S2.F := f4
    have hlT : LV T (.ptr 0 0 :: (cellsIn 1 ins).drop sig.length) (xp :: argsE') := by
      cases hp with
      | ptr _ _ ip cp sp hρp =>
        rw [r1] at hρp; cases hρp
        exact LV.cons (.ptr 0 0 _ _ _ hT0) f3b
    obtain ⟨vs, M1, cs1, hrun, hM1, hlen1, hres⟩ := hc ins outs rs hg hol g2'
    obtain ⟨S1, vE, E', a1, ⟨xs, rfl, a2⟩, a3, a4⟩ := hrun T E _ hr0 (hgl.mono' fun i x hx => by rw [hFT]; exact e5.F i x hx) hlT
    have hρ1 : S1.ρ 0 = some (i0, c0, s0) := (a4.par 0 (by rw [show (memIn t sig.length ins).par = (listsIn B0 ins).par from m3, f7]; exact Nat.zero_lt_one)).trans hT0
    have hH3 : Gone H2 (H3.put id .dead) := g1.trans (Gone.dead H3 id)
    have hown : ∀ i, Own T (memIn t sig.length ins) i → Taken S2 H2 (H3.put id .dead) i := fun i ⟨j, q, y, k1, k2, k3, k4⟩ => by
      by_cases ej : j = 0
      · subst ej
        rw [hT0] at k3; cases k3
        exact ⟨id, _, _, hget2, rfl, hρ2, k4, dead_get _ _⟩
      · rw [hMj j ej] at k1
        obtain ⟨b, _⟩ := f9 j q y (by show 1 ≤ j; omega) k1 k3
        rw [k4] at b
        exact b.later (Gone.dead H3 id)
    obtain ⟨c1, c2⟩ := base_back e2 hFT hH3 hown a3 a4
    obtain ⟨i1, c1', s1, bk1, u1, u2, u3, u4, u5⟩ := a3.row 0 _ hM1
    rw [hρ1] at u1; cases u1
    have hnx : (H3.put id .dead).next = H2.next := hH3.next
    have hownS : ∀ i, Own T (memIn t sig.length ins) i → Own S2 H2 i := fun i ho => by
      obtain ⟨j, q, z, k1, k2, k3, k4, _⟩ := hown i ho
      exact ⟨j, q, z, k1, k2, k3, k4⟩
    obtain ⟨S', d1, d2, d3, d4, d5, d6, d7, d8, d9⟩ := ntake (Free := fun i => (E.size ≤ i ∨ Own T (memIn t sig.length ins) i) ∧ i ≠ i0) a3 (by rw [a4.tlk]; exact m2.trans f6) hres (u3.append a2) c2 rfl (fun j q y hq hns hy hro => by
      have hne : y.1 ≠ i0 := fun he => by
        have := a3.inj j 0 q _ y _ hq hM1 hy hρ1 he
        exact hns (by simp [this])
      have hor : E.size ≤ y.1 ∨ Own T (memIn t sig.length ins) y.1 := by
        by_cases hy' : y.1 < E.size
        · exact .inr (a4.own y.1 ⟨j, q, y, hq, hro, hy, rfl⟩ hy')
        · exact .inl (by omega)
      refine ⟨⟨hor, hne⟩, fun id2 q2 z hq2 hz he => ?_⟩
      have hq2' := hH3.get _ _ hq2
      rcases hor with h1 | h1
      · obtain ⟨b, hb⟩ := e2.old hq2' hz
        have := Mem.get_lt hb
        omega
      · obtain ⟨id3, r3', z3, k1, k2, k3, k4, k5⟩ := hown _ h1
        have := e2.inj id2 id3 q2 r3' z z3 hq2' k1 hz k3 (by omega)
        subst this
        rw [hq2] at k5; cases k5)
    rw [hnx] at d5 d8 d9
    have hid2 : id < H2.next := TMem.get_lt hget2
    have hρ' : S'.ρ id = some (i0, c0, s0) := ((d8 id hid2).2).trans hρ2
    have hu3 := u3.1
    have d2a : LV S' ((nresOf (outs ++ rs) (H3.put id .dead)).1.take sig.length) bk1.cells := by
      have := d2.take sig.length
      rwa [List.take_append_of_le_length (l₁ := bk1.cells) (by omega), List.take_of_length_le (l := bk1.cells) (by omega)] at this
    have d2b : LV S' ((nresOf (outs ++ rs) (H3.put id .dead)).1.drop sig.length) xs := by
      have := d2.drop sig.length
      rwa [List.drop_append_of_le_length (l₁ := bk1.cells) (by omega), List.drop_of_length_le (l := bk1.cells) (by omega), List.nil_append] at this
    have hfin := d3.putAt (id := id) (r := .cells t ((nresOf (outs ++ rs) (H3.put id .dead)).1.take sig.length)) (by omega) rfl (fun r' hr' => by
      cases hr'
      exact ⟨i0, c0, s0, bk1, hρ', u2, d2a, u4, u5⟩) (fun y hy => by
        rw [hρ'] at hy; cases hy
        refine ⟨fun id' q z hq hne hz he => ?_, by rw [d4]; exact a3.sep 0 _ _ hM1 rfl hρ1, a3.lk 0 _ _ hM1 (by rw [a4.tlk, show (memIn t sig.length ins).lk = (listsIn B0 ins).lk from m2, f6]; exact Nat.zero_le _) hρ1⟩
        by_cases hlt : id' < H2.next
        · rw [(d8 id' hlt).1] at hq
          rw [(d8 id' hlt).2] at hz
          exact hne (e2.inj id' id q _ z _ (hH3.get _ _ hq) hget2 hz hρ2 he)
        · exact (d9 id' q z (by omega) hq hz).2 he)
    obtain ⟨p1, p2, p3, p4⟩ := TMem.put_spec (nresOf (outs ++ rs) (H3.put id .dead)).2 id (.cells t ((nresOf (outs ++ rs) (H3.put id .dead)).1.take sig.length))
    have hleS : S.le S' := Wo.le_trans e1 (Wo.le_trans c1 d1)
    refine ⟨S', Ev.oneA xs, E', a1, hleS, one_ok d2b, hfin, ⟨a4.sz, a4.lk, by rw [p2, d6, hH3.lk]; exact e3.tlk, by rw [p3, d7, hH3.par]; exact e3.tpar, hleS.F, fun i ho hi => ?_, fun i hi => ?_, fun i hi ho => a4.keep i hi (fun h1 => ho (e3.own i (hownS i h1) hi)), fun j hj => ?_, ?_, fun j hj hlv => ?_, fun j hj hn => ?_⟩⟩
    · obtain ⟨j, q, y, h1, h2, h3, rfl⟩ := ho
      refine e3.own _ ?_ hi
      rw [p4] at h1
      by_cases ej : j = id
      · subst ej
        rw [hρ'] at h3; cases h3
        exact ⟨j, _, _, hget2, rfl, hρ2, rfl⟩
      · rw [if_neg ej] at h1
        by_cases hlt : j < H2.next
        · rw [(d8 j hlt).1] at h1
          rw [(d8 j hlt).2] at h3
          exact ⟨j, q, y, hH3.get _ _ h1, h2, h3, rfl⟩
        · rcases (d9 j q y (by omega) h1 h3).1 with h4 | h4
          · omega
          · exact hownS _ h4
    · rw [d4] at hi
      rcases a4.frz i hi with h1 | h1 | h1
      · rw [hFT] at h1; exact e3.frz i h1
      · by_cases hsz : i < E.size
        · exact .inr (.inl (e3.own i (hownS i h1) hsz))
        · exact .inr (.inr (by omega))
      · exact .inr (.inr h1)
    · rw [(d8 j (by have := hr.psz; have := e3.nx; omega)).2]; exact e3.par j hj
    · rw [p1]; exact Nat.le_trans e3.nx d5
    · rw [p4] at hlv
      by_cases ej : j = id
      · subst ej
        exact e3.live j hj (by rw [hget2]; simp)
      · rw [if_neg ej] at hlv
        have hlt : j < H2.next := by have := e3.nx; omega
        rw [(d8 j hlt).1] at hlv
        exact e3.live j hj (fun hn => by
          cases hq : (H3.put id .dead).get j with
          | none => exact hlv hq
          | some q => rw [hH3.get j q hq] at hn; cases hn)
    · rw [(d8 j (by have := e3.nx; omega)).2]; exact e3.rn j hj hn

end

section
variable {X : Cfg}

/-- Results as they are told: lists in structs are made to stay. -/
def sealL : TMem → List NRes → List AV → Option (List AV × TMem)
  | M, [], [] => some ([], M)
  | M, .val _ :: rs, v :: vs => match v with
    | .agg l => match freezeT M l with
      | some (l', M1) => match sealL M1 rs vs with
        | some (r, M2) => some (.agg l' :: r, M2)
        | none => none
      | none => none
    | v => match freezeT M [v] with
      | some ([v'], M1) => match sealL M1 rs vs with
        | some (r, M2) => some (v' :: r, M2)
        | none => none
      | _ => none
  | M, .list _ _ _ :: rs, v :: vs => match sealL M rs vs with
    | some (r, M2) => some (v :: r, M2)
    | none => none
  | _, _, _ => none

theorem seal_sim {S0 : Wo} {H0 : TMem} {E0 E : Mem} : ∀ {rs : List NRes} {vs vs' : List AV} {M M' : TMem} {S : Wo} {C : List Value}, Rel S M E → StC S0 H0 E0 S M E → LV S vs C → sealL M rs vs = some (vs', M') → ∃ S', Rel S' M' E ∧ StC S0 H0 E0 S' M' E ∧ LV S' vs' C ∧ S.le S'
  | [], [], vs', M, M', S, C, hr, hst, hl, h => by
    simp only [sealL, Option.some.injEq, Prod.mk.injEq] at h
    obtain ⟨rfl, rfl⟩ := h
    exact ⟨S, hr, hst, hl, S.le_refl⟩
  | .val w :: rs, v :: vs, vs', M, M', S, C, hr, hst, hl, h => by
    obtain ⟨x, C', rfl, h1, h2⟩ := hl.cons_inv
    unfold sealL at h
    split at h
    · rename_i l
      split at h
      · rename_i l' M1 hf
        cases h1 with
        | agg _ m hm1 hm2 =>
          obtain ⟨S1, b1, b2, b3, b4, b5⟩ := freeze_sim hr S.le_refl (St.refl S M E) ⟨hm1, hm2⟩ hf
          split at h
          · rename_i r M2 hg
            simp only [Option.some.injEq, Prod.mk.injEq] at h
            obtain ⟨rfl, rfl⟩ := h
            obtain ⟨S2, c2, c3, c4, c5⟩ := seal_sim b2 (hst.trans b3.toC) (h2.mono b5) hg
            exact ⟨S2, c2, c3, LV.cons (.agg _ _ (b4.mono c5).1 (b4.mono c5).2) c4, Wo.le_trans b5 c5⟩
          · cases h
      · cases h
    · split at h
      · rename_i v' M1 hf
        obtain ⟨S1, b1, b2, b3, b4, b5⟩ := freeze_sim hr S.le_refl (St.refl S M E) (LV.cons h1 LV.nil) hf
        obtain ⟨x', _, e, b6, _⟩ := b4.cons_inv
        cases e
        split at h
        · rename_i r M2 hg
          simp only [Option.some.injEq, Prod.mk.injEq] at h
          obtain ⟨rfl, rfl⟩ := h
          obtain ⟨S2, c2, c3, c4, c5⟩ := seal_sim b2 (hst.trans b3.toC) (h2.mono b5) hg
          exact ⟨S2, c2, c3, LV.cons (b6.mono c5) c4, Wo.le_trans b5 c5⟩
        · cases h
      · cases h
  | .list t e l :: rs, v :: vs, vs', M, M', S, C, hr, hst, hl, h => by
    obtain ⟨x, C', rfl, h1, h2⟩ := hl.cons_inv
    unfold sealL at h
    split at h
    · rename_i r M2 hg
      simp only [Option.some.injEq, Prod.mk.injEq] at h
      obtain ⟨rfl, rfl⟩ := h
      obtain ⟨S2, c2, c3, c4, c5⟩ := seal_sim hr hst h2 hg
      exact ⟨S2, c2, c3, LV.cons (h1.mono c5) c4, c5⟩
    · cases h
  | [], _ :: _, _, _, _, _, _, _, _, _, h => by simp [sealL] at h
  | .val _ :: _, [], _, _, _, _, _, _, _, _, h => by simp [sealL] at h
  | .list _ _ _ :: _, [], _, _, _, _, _, _, _, _, h => by simp [sealL] at h

/-- A run out of a walk. -/
theorem nrun_of {kn : Ev.Known} {id : FuncId} (hk : ∀ args, kn id args = none) {call : ∀ β, CallT β} (hcall : ∀ β, CallTOk X (cfOf X kn) (call β)) {an : FnAnn} {rounds : Nat} {args vs vs' : List AV} {M M1 M2 : TMem} {rs : List NRes}
    (h : enterT X (call (AV × TMem)) an rounds id args M (fun v H => some (v, H)) = some (oneT vs, M1)) (hs : sealL M1 rs vs = some (vs', M2)) : NRun X (cfOf X kn) id args M vs' M2 := by
  obtain ⟨v', M', h1, h2⟩ := enter_ok (nf := false) (hcall _) (fun h => by cases h) h
  cases h1
  intro S E argsE hr hg hl
  obtain ⟨S', vE, E', a1, a2, a3, a4, _⟩ := h2 S E argsE hr hg hl
  obtain ⟨xs, rfl, hx⟩ := one_inv a2
  obtain ⟨S2, b1, b2, b3, b4⟩ := seal_sim a3 a4 hx hs
  exact ⟨S2, _, E', call_of_enter hk a1, ⟨xs, rfl, b3⟩, b1, b2⟩

/-- A run of which something is looked at. -/
theorem nrun_obs {γ : Type} {kn : Ev.Known} {id : FuncId} (hk : ∀ args, kn id args = none) {call : CallT γ} (hcall : CallTOk X (cfOf X kn) call) {an : FnAnn} {rounds : Nat} {args : List AV} {M : TMem} {obs : AV → TMem → Option γ} {r : γ}
    (h : enterT X call an rounds id args M obs = some r) : ∃ v M1, obs v M1 = some r ∧ ∀ vs, v = oneT vs → NRun X (cfOf X kn) id args M vs M1 := by
  obtain ⟨v, M1, h1, h2⟩ := enter_ok (nf := false) hcall (fun h => by cases h) h
  refine ⟨v, M1, h1, fun vs hv => ?_⟩
  subst hv
  intro S E argsE hr hg hl
  obtain ⟨S', vE, E', a1, a2, a3, a4, _⟩ := h2 S E argsE hr hg hl
  obtain ⟨xs, rfl, hx⟩ := one_inv a2
  exact ⟨S', _, E', call_of_enter hk a1, ⟨xs, rfl, hx⟩, a3, a4⟩

theorem NRun.sealed {cf : Nat × Nat → Ev.CallF} {id : FuncId} {args vs vs' : List AV} {M M1 M2 : TMem} {rs : List NRes} (h : NRun X cf id args M vs M1) (hs : sealL M1 rs vs = some (vs', M2)) : NRun X cf id args M vs' M2 := by
  intro S E argsE hr hg hl
  obtain ⟨S', vE, E', a1, ⟨xs, rfl, a2⟩, a3, a4⟩ := h S E argsE hr hg hl
  obtain ⟨S2, b1, b2, b3, b4⟩ := seal_sim a3 a4 a2 hs
  exact ⟨S2, _, E', a1, ⟨xs, rfl, b3⟩, b1, b2⟩

abbrev KTN := FuncId → Option NCon

/-- Calls by contracts of both kinds, or by the callee's own text. -/
def callU (X : Cfg) (K : KT2) (KN : KTN) (inl : FuncId → Bool) (rounds : Nat) (β : Type) : Nat → CallT β :=
  fun n => Nat.rec (motive := fun _ => CallT β) (fun _ _ _ _ => none)
    (fun _ go id args H k => pick2 (X.kl id) (killT X args H k) (match K id with
      | some (sig, g) => conCall sig g args H k
      | none => match KN id with
        | some c => ncall c args H k
        | none => pick2 (inl id) (enterT X go ⟨.none, .none, X.trs id⟩ rounds id args H k) none)) n

theorem callU_ok {kn : Ev.Known} {K : KT2} {KN : KTN} {inl : FuncId → Bool} (hK : ∀ id sig g, K id = some (sig, g) → ConOk X (cfOf X kn) id g) (hN : ∀ id c, KN id = some c → NConOk X (cfOf X kn) id c) (hi : ∀ id, inl id = true → ∀ args, kn id args = none) (rounds : Nat) (n : Nat) (β : Type) (hkl : KlOk X kn := by exact fun _ h => Bool.noConfusion (show false = true from h)) : CallTOk X (cfOf X kn) (callU X K KN inl rounds β n) := by
  induction n with
  | zero => exact fun f args H k r h => by cases h
  | succ n ih =>
    intro f args H k r h
    have h : pick2 (X.kl f) (killT X args H k) (match K f with
      | some (sig, g) => conCall sig g args H k
      | none => match KN f with
        | some c => ncall c args H k
        | none => pick2 (inl f) (enterT X (callU X K KN inl rounds β n) ⟨.none, .none, X.trs f⟩ rounds f args H k) none) = some r := h
    rw [pick2_eq] at h
    split at h
    · rename_i hf; exact kill_sim (hkl f hf) h
    split at h
    · rename_i sig g hk; exact conCall_ok (hK f sig g hk) h
    · split at h
      · rename_i c hc; exact ncall_ok (hN f c hc) h
      · rw [pick2_eq] at h
        split at h
        · rename_i hin
          obtain ⟨v, H', h1, h2⟩ := enter_ok (nf := true) ih (fun _ => ⟨rfl, rfl⟩) h
          refine ⟨v, H', h1, fun S E argsE hr hg hl => ?_⟩
          obtain ⟨S', vE, E', a1, a2, a3, a4, a5⟩ := h2 S E argsE hr hg hl
          exact ⟨S', vE, E', call_of_enter (hi f hin) a1, (a5 rfl).1, a2, a3, (a5 rfl).2⟩
        · cases h

/-- Contracts of the new kind in a table. -/
abbrev ConN := FuncId × NCon
def tabN (l : List ConN) : KTN := fun f => List.rec (motive := fun _ => Option NCon) none (fun e _ r => pick2 (Nat.beq f e.1) (some e.2) r) l
def TabNOk (X : Cfg) (cf : Nat × Nat → Ev.CallF) (l : List ConN) : Prop := ∀ id c, tabN l id = some c → NConOk X cf id c
theorem TabNOk.nil {cf : Nat × Nat → Ev.CallF} : TabNOk X cf [] := fun _ _ h => by cases h
theorem TabNOk.cons {cf : Nat × Nat → Ev.CallF} {f : FuncId} {c : NCon} {l : List ConN} (h : NConOk X cf f c) (t : TabNOk X cf l) : TabNOk X cf ((f, c) :: l) := fun id c' hk => by
  have hk2 : pick2 (Nat.beq id f) (some c) (tabN l id) = some c' := hk
  clear hk
  rw [pick2_eq] at hk2
  split at hk2
  · rename_i hf
    obtain rfl := Nat.eq_of_beq_eq_true hf
    have hk3 : c = c' := Option.some.inj hk2
    subst hk3; exact h
  · exact t id c' hk2
end
end
end Go.Tv
