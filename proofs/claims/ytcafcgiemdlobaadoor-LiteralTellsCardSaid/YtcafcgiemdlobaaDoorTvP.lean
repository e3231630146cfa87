/- Contracts of functions that are handed plain data and hand back plain data. -/
import Derived.Test.YtcafcgiemdlobaaDoorTvC
namespace Go.Tv
open Go.Ev (Tr pick2 Leave Mem Blk alive pick2_eq alive_some opA Fr)

/-- A result: a value that leads to no memory, or a list of its own. -/
inductive PRes where
  | val (v : AV)
  | list (t : TypeId) (e : Ty) (l : List e.den)
  | room (t : TypeId) (e : Ty) (l : List e.den) (len : Nat)

/-- Results in a memory. -/
noncomputable def resOf : List PRes → TMem → List AV × TMem
  | [], H => ([], H)
  | .val v :: rs, H => (v :: (resOf rs H).1, (resOf rs H).2)
  | .list t e l :: rs, H => (.own H.next l.length :: (resOf rs (H.push (.list t e l 0 false false))).1, (resOf rs (H.push (.list t e l 0 false false))).2)
  | .room t e l len :: rs, H => (.osl H.next 0 len l.length :: (resOf rs (H.push (.list t e l 0 true false))).1, (resOf rs (H.push (.list t e l 0 true false))).2)

/-- A value that leads to no memory. -/
def scalB : AV → Bool
  | .int _ _ => true
  | .bool _ => true
  | .str _ => true
  | .flt _ => true
  | .nils => true
  | .nilp => true
  | .agg l => l.all fun v => match v with
    | .int _ _ => true
    | .bool _ => true
    | .str _ => true
    | .flt _ => true
    | .nils => true
    | .nilp => true
    | _ => false
  | _ => false

/-- What a run leaves is just these results. -/
def resAt (H : TMem) : List Nat → List AV → List PRes → Prop
  | _, [], [] => True
  | seen, v :: vs, .val w :: rs => v = w ∧ scalB w = true ∧ resAt H seen vs rs
  | seen, v :: vs, .list t e l :: rs => e.flatB = true ∧ ((∃ id ver ex, v = .own id l.length ∧ H.get id = some (.list t e l ver ex false) ∧ id ∉ seen ∧ resAt H (id :: seen) vs rs) ∨ (v = .nils ∧ l = [] ∧ resAt H seen vs rs))
  | seen, v :: vs, .room t e l len :: rs => e.flatB = true ∧ ∃ id ver, v = .osl id 0 len l.length ∧ H.get id = some (.list t e l ver true false) ∧ id ∉ seen ∧ resAt H (id :: seen) vs rs
  | _, _, _ => False

theorem CR.flatF {F F' : Nat → Option (List Value)} : ∀ (e : Ty), e.flatB = true → ∀ (x : e.den) (cs : List Value), CR F e x cs → CR F' e x cs
  | .int _, _, _, _, h => h
  | .bool, _, _, _, h => h
  | .str, _, _, _, h => h
  | .flt, _, _, _, h => h
  | .unit, _, _, _, h => h
  | .sl _, h, _, _, _ => by cases h
  | .pair a b, h, _, _, ⟨c1, c2, e, h1, h2⟩ => by
    simp only [Ty.flatB, Bool.and_eq_true] at h
    exact ⟨c1, c2, e, CR.flatF a h.1 _ _ h1, CR.flatF b h.2 _ _ h2⟩

theorem scal_VR {S S' : Wo} {v : AV} {x : Value} (h : scalB v = true) (hv : VR S v x) : VR S' v x := by
  cases hv with
  | int => exact .int _ _
  | bool => exact .bool _
  | str => exact .str _
  | flt => exact .flt _
  | nils => exact .nils
  | nilp => exact .nilp
  | agg l m hl hm =>
    refine .agg l m hl fun j a b ha hb => ?_
    have h1 := hm j a b ha hb
    have h2 := List.all_eq_true.1 h a (List.mem_of_getElem? ha)
    cases h1 <;> first | (cases h2; done) | constructor
  | _ => cases h

/-- The evaluator's memory may grow. -/
theorem Rel.grow {S : Wo} {H : TMem} {E E' : Mem} (h : Rel S H E) (hs : E.size ≤ E'.size) (hlk : E'.lk = E.lk) (hk : ∀ i, i < E.size → E'.get i = E.get i) : Rel S H E' := by
  refine ⟨fun i cs hi => ?_, h.dom, h.gam, fun id q hq => ?_, h.inj, h.sep, fun id q x hq hl hx => by rw [hlk]; exact h.lk id q x hq hl hx, h.lsz, h.psz, by rw [hlk]; have := h.esz; omega⟩
  · obtain ⟨b, h1, h2⟩ := h.fz i cs hi
    exact ⟨b, by rw [alive_congr (hk i (alive_lt h1))]; exact h1, h2⟩
  · exact (h.row id q hq).keep S.le_refl (fun h => h) (fun _ h => h) fun x hx => by
      obtain ⟨b, hb⟩ := h.old hq hx
      exact alive_congr (hk _ (alive_lt hb))

/-- A row more on our side: one that is there and nobody's. -/
theorem Rel.addAt {S : Wo} {H : TMem} {E : Mem} (h : Rel S H E) {r : Row} {x : Option (Nat × Nat × Nat)} {g : Option (Sigma fun e : Ty => List e.den)}
    (hr : ∀ r', r.live = some r' → RowAt (S.new H.next x g) E H.next r')
    (hx : ∀ y, x = some y → (∀ id q z, H.get id = some q → S.ρ id = some z → z.1 ≠ y.1) ∧ S.F y.1 = none ∧ E.lk ≤ y.1) :
    S.le (S.new H.next x g) ∧ Rel (S.new H.next x g) (H.push r) E := by
  have hle := Wo.new_le h x g
  obtain ⟨p1, p2, p3, p4⟩ := TMem.push_spec H r
  have ρne : ∀ id, id ≠ H.next → (S.new H.next x g).ρ id = S.ρ id := fun id hid => if_neg hid
  have ρeq : (S.new H.next x g).ρ H.next = x := if_pos rfl
  have Γne : ∀ id v, id ≠ H.next → (S.new H.next x g).Γ id v = S.Γ id v := fun id v hid => if_neg (by omega)
  have get1 : ∀ id r', (H.push r).get id = some r' → (id = H.next ∧ r.live = some r') ∨ (id ≠ H.next ∧ H.get id = some r') := fun id r' hid => by
    rw [p4] at hid
    by_cases e : id = H.next
    · rw [if_pos e] at hid; exact .inl ⟨e, hid⟩
    · rw [if_neg e] at hid; exact .inr ⟨e, hid⟩
  refine ⟨hle, ⟨h.fz, fun id y hy => ?_, fun id v hv => ?_, fun id r' hg => ?_, fun id id' r1 r2 y y' hg hg' hy hy' he => ?_, fun id r' y hg hb hy => ?_, fun id r' y hg hl hy => ?_, by rw [p1, p2]; have := h.lsz; omega, by rw [p1, p3]; have := h.psz; omega, h.esz⟩⟩
  · rw [p1]
    by_cases e : id = H.next
    · omega
    · rw [ρne id e] at hy; have := h.dom id y hy; omega
  · rw [p1] at hv
    rw [Γne id v (by omega)]; exact h.gam id v (by omega)
  · rcases get1 id r' hg with ⟨rfl, hr'⟩ | ⟨e, hg'⟩
    · exact hr r' hr'
    · exact (h.row id r' hg').keep hle (fun hn => by rw [ρne id e]; exact hn) (fun v hv => by rw [Γne id v e]; exact hv) fun y hy => rfl
  · rcases get1 id r1 hg with ⟨rfl, h1⟩ | ⟨e1, h1⟩ <;> rcases get1 id' r2 hg' with ⟨rfl, h2⟩ | ⟨e2, h2⟩
    · rfl
    · rw [ρeq] at hy; rw [ρne id' e2] at hy'
      exact absurd he.symm ((hx y hy).1 id' r2 y' h2 hy')
    · rw [ρeq] at hy'; rw [ρne id e1] at hy
      exact absurd he ((hx y' hy').1 id r1 y h1 hy)
    · rw [ρne id e1] at hy; rw [ρne id' e2] at hy'
      exact h.inj id id' r1 r2 y y' h1 h2 hy hy' he
  · rcases get1 id r' hg with ⟨rfl, h1⟩ | ⟨e1, h1⟩
    · rw [ρeq] at hy; exact (hx y hy).2.1
    · rw [ρne id e1] at hy; exact h.sep id r' y h1 hb hy
  · rw [p2] at hl
    rcases get1 id r' hg with ⟨rfl, h1⟩ | ⟨e1, h1⟩
    · rw [ρeq] at hy; exact (hx y hy).2.2
    · rw [ρne id e1] at hy; exact h.lk id r' y h1 hl hy

def TookOver (S : Wo) (H : TMem) (E E' : Mem) (rs : List PRes) (xs : List Value) : Prop :=
  ∃ S', S.le S' ∧ LV S' (resOf rs H).1 xs ∧ Rel S' (resOf rs H).2 E' ∧ S'.F = S.F ∧ H.next ≤ (resOf rs H).2.next ∧ (resOf rs H).2.lk = H.lk ∧ (resOf rs H).2.par = H.par ∧
      (∀ id, id < H.next → (resOf rs H).2.get id = H.get id ∧ S'.ρ id = S.ρ id) ∧ (∀ id q z, H.next ≤ id → (resOf rs H).2.get id = some q → S'.ρ id = some z → E.size ≤ z.1)

/-- Results are taken over. -/
theorem take_over {S1 : Wo} {H1 : TMem} {E E' : Mem} (hr1 : Rel S1 H1 E') (hnew : ∀ id r y, H1.get id = some r → r.roB = false → S1.ρ id = some y → E.size ≤ y.1) (hlk : E'.lk ≤ E.size) : ∀ {vs : List AV} {rs : List PRes} {seen : List Nat} {xs : List Value} {S : Wo} {H : TMem}, resAt H1 seen vs rs → LV S1 vs xs → Rel S H E' →
    (∀ i, S.F i ≠ none → i < E.size) → (∀ id q z, H.get id = some q → S.ρ id = some z → z.1 < E.size ∨ ∃ id1 y, id1 ∈ seen ∧ S1.ρ id1 = some y ∧ y.1 = z.1 ∧ H1.get id1 ≠ none) →
    TookOver S H E E' rs xs
  | [], [], seen, xs, S, H, _, hl, hr, hF, hown => by
    rw [hl.nil_inv]
    exact ⟨S, S.le_refl, LV.nil, hr, rfl, Nat.le_refl _, rfl, rfl, fun _ _ => ⟨rfl, rfl⟩, fun id q z hid hq _ => absurd (TMem.get_lt hq) (by show ¬ id < H.next; omega)⟩
  | v :: vs, r0 :: rs, seen, xs, S, H, h, hl, hr, hF, hown => by
    obtain ⟨x, xs', rfl, h1, h2⟩ := hl.cons_inv
    have hgam : ∀ v, S.Γ H.next v = none := fun v => hr.gam _ _ (Nat.le_refl _)
    -- how to go on behind a row more
    have go : ∀ (t : TypeId) (e : Ty) (l : List e.den) (ex : Bool) (vv : AV) (seen' : List Nat) (y : Option (Nat × Nat × Nat)), (resOf (r0 :: rs) H = (vv :: (resOf rs (H.push (.list t e l 0 ex false))).1, (resOf rs (H.push (.list t e l 0 ex false))).2)) → resAt H1 seen' vs rs → S.le (S.new H.next y (some ⟨e, l⟩)) → Rel (S.new H.next y (some ⟨e, l⟩)) (H.push (.list t e l 0 ex false)) E' → VR (S.new H.next y (some ⟨e, l⟩)) vv x →
        (∀ z, y = some z → E.size ≤ z.1 ∧ ∃ id1 y1, id1 ∈ seen' ∧ S1.ρ id1 = some y1 ∧ y1.1 = z.1 ∧ H1.get id1 ≠ none) → (∀ id, id ∈ seen → id ∈ seen') → TookOver S H E E' (r0 :: rs) (x :: xs') := fun t e l ex vv seen' y heq hres hle hrel hvr hy hsub => by
      obtain ⟨p1, p2, p3, p4⟩ := TMem.push_spec H (.list t e l 0 ex false)
      have hown' : ∀ id q z, (H.push (.list t e l 0 ex false)).get id = some q → (S.new H.next y (some ⟨e, l⟩)).ρ id = some z → z.1 < E.size ∨ ∃ id1 y, id1 ∈ seen' ∧ S1.ρ id1 = some y ∧ y.1 = z.1 ∧ H1.get id1 ≠ none := fun id q z hq hz => by
        rw [p4] at hq
        by_cases hid : id = H.next
        · subst hid
          have hz : y = some z := by rw [← hz]; exact (if_pos rfl).symm
          exact .inr (hy z hz).2
        · rw [if_neg hid] at hq
          have hz : S.ρ id = some z := by rw [← hz]; exact (if_neg hid).symm
          rcases hown id q z hq hz with h | ⟨id1, y1, k1, k2⟩
          · exact .inl h
          · exact .inr ⟨id1, y1, hsub _ k1, k2⟩
      obtain ⟨S', a1, a2, a3, a4, a5, a6, a7, a8, a9⟩ := take_over hr1 hnew hlk hres h2 hrel hF hown'
      rw [p1] at a5 a8 a9
      rw [p2] at a6; rw [p3] at a7
      unfold TookOver
      rw [heq]
      exact
        ⟨S', Wo.le_trans hle a1, LV.cons (hvr.mono a1) a2, a3, a4, by show H.next ≤ _; exact Nat.le_trans (Nat.le_succ _) a5, a6, a7, fun id hid => by
          obtain ⟨b1, b2⟩ := a8 id (by omega)
          refine ⟨b1.trans (by rw [p4, if_neg (by omega)]), b2.trans (if_neg (by omega))⟩, fun id q z hid hq hz => by
          by_cases hid' : id = H.next
          · subst hid'
            have : S'.ρ H.next = (S.new H.next y (some ⟨e, l⟩)).ρ H.next := (a8 H.next (by omega)).2
            rw [this] at hz
            have hz : y = some z := by rw [← hz]; exact (if_pos rfl).symm
            exact (hy z hz).1
          · exact a9 id q z (by omega) hq hz⟩
    -- a row that is nobody's
    have nobody : ∀ {id : Nat} {q0 : Row} {i0 cap0 s0 : Nat}, H1.get id = some q0 → q0.roB = false → S1.ρ id = some (i0, cap0, s0) → id ∉ seen → E.size ≤ i0 ∧ ((∀ id2 q z, H.get id2 = some q → S.ρ id2 = some z → z.1 ≠ i0) ∧ S.F i0 = none ∧ E'.lk ≤ i0) := fun {id q0 i0 cap0 s0} hg hro hρ hns => by
      have hsz := hnew id _ _ hg hro hρ
      simp only at hsz
      refine ⟨hsz, fun id2 q z hq hz he => ?_, ?_, by omega⟩
      · rcases hown id2 q z hq hz with h3 | ⟨id1, y1, k1, k2, k3, k4⟩
        · omega
        · cases hq1 : H1.get id1 with
          | none => exact absurd hq1 k4
          | some r1 =>
            have := hr1.inj id1 id r1 _ y1 _ hq1 hg k2 hρ (by simp only; omega)
            subst this
            exact hns k1
      · cases hFi : S.F i0 with
        | none => rfl
        | some cs => have := hF i0 (by rw [hFi]; simp); omega
    cases r0 with
    | val w =>
      obtain ⟨rfl, hs, h⟩ := h
      obtain ⟨S', a1, a2, a3⟩ := take_over hr1 hnew hlk h h2 hr hF hown
      exact ⟨S', a1, LV.cons (scal_VR hs h1) a2, a3⟩
    | room t e l len =>
      obtain ⟨hflat, id, ver, rfl, hg, hns, h⟩ := h
      obtain ⟨g1, ⟨g0, g, g2, g2'⟩, g3⟩ := hr1.row id _ hg
      generalize hll : l.length = n at h1
      generalize hlz : (0 : Nat) = zz at h1
      cases h1 with
      | osl _ _ _ _ i0 c0 s0 hρ g' hg' hcc hle0 =>
        subst hlz; subst hll
        rcases g3 with ⟨_, g5, _⟩ | ⟨i', cap, b, mid, post, q1, q2, q3, q4, q5, q6, q7, q8, q9, q10⟩
        · rw [hρ] at g5; cases g5
        · rw [hρ] at q1; cases q1
          obtain ⟨hsz, hno⟩ := nobody hg rfl hρ hns
          obtain ⟨b1, b2⟩ := hr.addAt (r := .list t e l 0 true false) (x := some (i0, c0, e.size)) (g := some ⟨e, l⟩) (fun r' hr' => by
            cases hr'
            exact new_rowAt hgam q2 q3 q4 (q5.mono fun x c => CR.flatF e hflat x c) q6 q7 q8 (fun _ => q9 rfl)) (fun y hy => by cases hy; exact hno)
          refine go t e l true _ (id :: seen) _ rfl h b1 b2 (.osl _ 0 len l.length i0 c0 e.size (if_pos rfl) ⟨e, l⟩ (if_pos ⟨rfl, rfl⟩) (by simp) hle0) (fun z hz => ?_) (fun id hid => List.mem_cons_of_mem _ hid)
          cases hz
          exact ⟨hsz, id, _, List.mem_cons_self, hρ, rfl, by rw [hg]; simp⟩
    | list t e l =>
      obtain ⟨hflat, h⟩ := h
      rcases h with ⟨id, ver, ex, rfl, hg, hns, h⟩ | ⟨rfl, rfl, h⟩
      · obtain ⟨g1, ⟨g0, g, g2, g2'⟩, g3⟩ := hr1.row id _ hg
        have hCR : ∀ {mid : List Value}, CRL (CR S1.F e) l mid → CRL (CR S.F e) l mid := fun hC => hC.mono fun x c => CR.flatF e hflat x c
        generalize hll : l.length = n at h1
        cases h1 with
        | own _ _ i0 cap0 s0 hρ g' hg' hn' =>
          rcases g3 with ⟨_, g5, _⟩ | ⟨i', cap, b, mid, post, q1, q2, q3, q4, q5, q6, q7, q8, q9, q10⟩
          · rw [hρ] at g5; cases g5
          · rw [hρ] at q1; cases q1
            subst hll
            obtain ⟨hsz, hno⟩ := nobody hg rfl hρ hns
            obtain ⟨b1, b2⟩ := hr.addAt (r := .list t e l 0 false false) (x := some (i0, cap0, e.size)) (g := some ⟨e, l⟩) (fun r' hr' => by
              cases hr'
              exact new_rowAt hgam q2 q3 q4 (hCR q5) q6 q7 q8 (fun h => by cases h)) (fun y hy => by cases hy; exact hno)
            refine go t e l false _ (id :: seen) _ rfl h b1 b2 (.own _ _ i0 cap0 e.size (if_pos rfl) ⟨e, l⟩ (if_pos ⟨rfl, rfl⟩) rfl) (fun z hz => ?_) (fun id hid => List.mem_cons_of_mem _ hid)
            cases hz
            exact ⟨hsz, id, _, List.mem_cons_self, hρ, rfl, by rw [hg]; simp⟩
        | ownNil _ g' hg' hn' =>
          have hl0 : l = [] := List.length_eq_zero_iff.1 hll
          subst hl0
          obtain ⟨b1, b2⟩ := hr.addAt (r := .list t e [] 0 false false) (x := none) (g := some ⟨e, []⟩) (fun r' hr' => by cases hr'; exact nil_rowAt hgam) (fun y hy => by cases hy)
          exact go t e [] false _ (id :: seen) none rfl h b1 b2 (.ownNil _ ⟨e, []⟩ (if_pos ⟨rfl, rfl⟩) rfl) (fun z hz => by cases hz) (fun id hid => List.mem_cons_of_mem _ hid)
      · cases h1
        obtain ⟨b1, b2⟩ := hr.addAt (r := .list t e [] 0 false false) (x := none) (g := some ⟨e, []⟩) (fun r' hr' => by cases hr'; exact nil_rowAt hgam) (fun y hy => by cases hy)
        exact go t e [] false _ seen none rfl h b1 b2 (.ownNil _ ⟨e, []⟩ (if_pos ⟨rfl, rfl⟩) rfl) (fun z hz => by cases hz) (fun id hid => hid)

/-- How arguments of a call are seen by the function: as they are, or lists by their elements. -/
def ArgAt (H : TMem) (a b : AV) : Prop := (a = b ∧ scalB a = true) ∨ (∃ e l, b = .lst e l ∧ viewL H e a = some l ∧ ∀ s, a ≠ .str s)

section
variable {X : Cfg} {cf : Nat × Nat → Ev.CallF}

/-- A run of a function from no rows of its own. -/
def PureAt (X : Cfg) (cf : Nat × Nat → Ev.CallF) (f : FuncId) (args : List AV) (vs : List AV) (H' : TMem) : Prop :=
  ∀ (S : Wo) (E : Mem) (argsE : List Value), Rel S TMem.empty E → GlobOk X S → LV S args argsE →
    ∃ S' vE E', (∃ N, ∀ n : Nat × Nat, N ≤ n.1 ∧ N ≤ n.2 → cf n f argsE E = some (vE, E')) ∧ (∃ xs, vE = Ev.oneA xs ∧ LV S' vs xs) ∧ Rel S' H' E' ∧ StC S TMem.empty E S' H' E'

theorem empty_get (j : Nat) : TMem.empty.get j = none := by
  rw [TMem.get_eq]; simp [TMem.empty]

theorem rel_empty (F : Nat → Option (List Value)) (E : Mem) (hF : ∀ i cs, F i = some cs → ∃ b, alive E i = some b ∧ b.cells = cs) (he : E.lk ≤ E.size) : Rel ⟨F, fun _ => none, fun _ _ => none⟩ TMem.empty E :=
  ⟨hF, fun _ _ h => (by cases h), fun _ _ _ => rfl, fun id r h => (by rw [empty_get] at h; cases h), fun id id' r r' x x' h => (by rw [empty_get] at h; cases h), fun id r x h => (by rw [empty_get] at h; cases h), fun id r x h => (by rw [empty_get] at h; cases h), Nat.le_refl _, Nat.le_refl _, he⟩

/-- All rows that are there, made to stay for a while. -/
noncomputable def allF (E : Mem) : Nat → Option (List Value) := fun i => (alive E i).map (·.cells)

theorem arg_ok {S : Wo} {H : TMem} {E : Mem} (hr : Rel S H E) {a b : AV} {x : Value} (h : ArgAt H a b) (hx : VR S a x) : VR ⟨allF E, fun _ => none, fun _ _ => none⟩ b x := by
  have hle : ∀ i cs, S.F i = some cs → allF E i = some cs := fun i cs hi => by
    obtain ⟨bk, h1, h2⟩ := hr.fz i cs hi
    show (alive E i).map (·.cells) = _
    rw [h1]; simp [h2]
  rcases h with ⟨rfl, hs⟩ | ⟨e, l, rfl, hv, hns⟩
  · exact scal_VR hs hx
  · refine .lst e l x ?_
    have hCR : ∀ {l : List e.den} {mid : List Value}, CRL (CR S.F e) l mid → CRL (CR (allF E) e) l mid := fun hC => hC.mono fun x c => CR.mono hle e x c
    have row : ∀ (i : Nat) (bk : Blk), alive E i = some bk → allF E i = some bk.cells := fun i bk hb => by show (alive E i).map (·.cells) = _; rw [hb]; rfl
    unfold viewL at hv
    split at hv
    · rename_i e' l'
      obtain ⟨he, hc⟩ := castL_spec hv
      subst he
      have hc : l' = l := hc
      subst hc
      cases hx with
      | lst _ _ _ hS => exact hS.mono hle
    · cases hv; cases hx; exact .inl ⟨rfl, rfl⟩
    · rename_i id n
      split at hv
      · rename_i t' e' l' ver ex ro hg
        obtain ⟨he, hc⟩ := castL_spec hv
        subst he
        have hc : l' = l := hc
        subst hc
        obtain ⟨S', k1, k2, k3, k4⟩ := freeze_row hr hg
        obtain ⟨rfl, hv⟩ := k4 n x hx
        rcases hv with ⟨rfl, rfl⟩ | ⟨i, mid, post, cap, rfl, hF, hC, hcap⟩
        · exact .inl ⟨rfl, rfl⟩
        · obtain ⟨bk, b1, b2⟩ := k2.fz i _ hF
          refine .inr ⟨i, [], mid, post, cap, rfl, by show allF E i = _; rw [row i bk b1, b2]; rfl, ?_, hcap⟩
          exact hC.mono fun x c => CR.mono (fun i cs hi => by
            obtain ⟨bk, h1, h2⟩ := k2.fz i cs hi
            show allF E i = _
            rw [row i bk h1, h2]) e' x c
      · cases hv
    · rename_i id off len cap1
      split at hv
      · rename_i t' e' l' ver ex ro hg
        split at hv
        · rename_i l2 hcl
          cases hv
          obtain ⟨he, hc⟩ := castL_spec hcl
          subst he
          have hc : l' = l2 := hc
          subst hc
          obtain ⟨g1, ⟨_, g, g2, g2'⟩, g3⟩ := hr.row id _ hg
          cases hx with
          | osl _ _ _ _ i0 c0 s0 hρ g' hg' hcc hll =>
            rw [g2] at hg'; cases hg'
            rcases g3 with ⟨_, g5, _⟩ | ⟨i', cap, b, mid, post, q1, q2, q3, q4, q5, q6, q7, q8, q9, q10⟩
            · rw [hρ] at g5; cases g5
            · rw [hρ] at q1; cases q1
              have hlen : ((l'.drop off).take len).length = len := by simp; omega
              have := SR.cut (cap := cap1 + off) (a := (off : Int)) (b := ((off + len : Nat) : Int)) (pre := []) (post := post) (F := allF E) (i := i0) (fun x c => CR.length e' x c) (by rw [row i0 b q2, q4]; rfl) (hCR q5) (by omega) (by omega) (by omega) (by omega)
              have e1 : cutL l' (off : Int) ((off + len : Nat) : Int) = (l'.drop off).take len := by
                simp only [cutL, Int.toNat_natCast]; congr 1; omega
              rw [e1] at this
              simp only [Int.toNat_natCast, List.length_nil, Nat.zero_add, Nat.add_sub_cancel_left, Nat.add_sub_cancel] at this
              exact this
        · cases hv
      · cases hv
    · rename_i s; exact absurd rfl (hns s)
    · cases hv

/-- **A CONTRACT, WHEREVER IT IS CALLED.** -/
theorem PureAt.csim {f : FuncId} {args args2 vs : List AV} {H1 : TMem} {rs : List PRes} (h : PureAt X cf f args vs H1) (hres : resAt H1 [] vs rs) {H : TMem} (hargs : args2.length = args.length) (hat : ∀ (j : Nat) a b, args2[j]? = some a → args[j]? = some b → ArgAt H a b) :
    CSim X cf f args2 H (oneT (resOf rs H).1) (resOf rs H).2 := by
  intro S E argsE hr hg hl
  have hle : ∀ i cs, S.F i = some cs → allF E i = some cs := fun i cs hi => by
    obtain ⟨bk, h1, h2⟩ := hr.fz i cs hi
    show (alive E i).map (·.cells) = _
    rw [h1]; simp [h2]
  have hr0 : Rel ⟨allF E, fun _ => none, fun _ _ => none⟩ TMem.empty E := rel_empty _ E (fun i cs hi => by
    have hi : (alive E i).map (·.cells) = some cs := hi
    simp only [Option.map_eq_some_iff] at hi
    obtain ⟨b, h1, h2⟩ := hi; exact ⟨b, h1, h2⟩) hr.esz
  have hl0 : LV ⟨allF E, fun _ => none, fun _ _ => none⟩ args argsE := ⟨by rw [← hargs]; exact hl.1, fun j b x hb hx => by
    have hlt := get_lt hb
    have h2 : j < args2.length := by omega
    exact arg_ok hr (hat j args2[j] b (List.getElem?_eq_getElem h2) hb) (hl.2 j _ x (List.getElem?_eq_getElem h2) hx)⟩
  obtain ⟨S1, vE, E', a1, ⟨xs, rfl, a2⟩, a3, a4⟩ := h _ E argsE hr0 (hg.mono' hle) hl0
  have noOwn : ∀ i, ¬ Own ⟨allF E, fun _ => none, fun _ _ => none⟩ TMem.empty i := fun i ⟨id, r, x, h1, _⟩ => by rw [empty_get] at h1; cases h1
  have hkeep : ∀ i, i < E.size → E'.get i = E.get i := fun i hi => a4.keep i hi (noOwn i)
  have hrE := hr.grow a4.sz a4.lk hkeep
  obtain ⟨S', b1, b2, b3, b4, b5, b6, b7, b8, b9⟩ := take_over (E := E) a3 (fun id r y h1 h2 h3 => by
    by_cases hy : y.1 < E.size
    · exact absurd (a4.own y.1 ⟨id, r, y, h1, h2, h3, rfl⟩ hy) (noOwn _)
    · omega) (by rw [a4.lk]; exact hr.esz) hres a2 hrE (fun i hi => by
    cases hF : S.F i with
    | none => exact absurd hF hi
    | some cs => obtain ⟨b, h1, _⟩ := hr.fz i cs hF; exact alive_lt h1) (fun id q z hq hz => .inl (by obtain ⟨b, hb⟩ := hr.old hq hz; exact alive_lt hb))
  refine ⟨S', Ev.oneA xs, E', a1, b1, one_ok b2, b3, ⟨a4.sz, a4.lk, b6, b7, b1.F, fun i ho hi => ?_, fun i hi => .inl (by rw [b4] at hi; exact hi), fun i hi _ => hkeep i hi, fun id hid => (b8 id (Nat.lt_of_lt_of_le hid hr.psz)).2, b5, fun id hid hl => by rw [(b8 id hid).1] at hl; exact hl, fun id hid hn => by rw [(b8 id hid).2]; exact hn⟩⟩
  obtain ⟨id, q, y, h1, h2, h3, rfl⟩ := ho
  by_cases hid : id < H.next
  · rw [(b8 id hid).1] at h1
    rw [(b8 id hid).2] at h3
    exact ⟨id, q, y, h1, h2, h3, rfl⟩
  · have := b9 id q y (by omega) h1 h3
    omega

/-- A run out of a walk. -/
theorem pure_of {kn : Ev.Known} {id : FuncId} (hk : ∀ args, kn id args = none) {call : ∀ β, CallT β} (hcall : ∀ β, CallTOk X (cfOf X kn) (call β)) {an : FnAnn} {rounds : Nat} {args vs : List AV} {H' : TMem}
    (h : enterT X (call (AV × TMem)) an rounds id args TMem.empty (fun v H => some (v, H)) = some (oneT vs, H')) : ∀ (S : Wo) (E : Mem) (argsE : List Value), Rel S TMem.empty E → GlobOk X S → LV S args argsE →
    ∃ S' vE E', (∃ N, ∀ n : Nat × Nat, N ≤ n.1 ∧ N ≤ n.2 → cfOf X kn n id argsE E = some (vE, E')) ∧ VR S' (oneT vs) vE ∧ Rel S' H' E' ∧ StC S TMem.empty E S' H' E' := by
  obtain ⟨v', H1, h1, h2⟩ := enter_ok (nf := false) (hcall _) (fun h => by cases h) h
  cases h1
  intro S E argsE hr hg hl
  obtain ⟨S', vE, E', a1, a2, a3, a4, _⟩ := h2 S E argsE hr hg hl
  exact ⟨S', vE, E', call_of_enter hk a1, a2, a3, a4⟩

end
end Go.Tv
