/- Frames and memories made alike; loops, code, functions. -/
import Derived.Test.YtcafcgiemdlobaaDoorTvY
namespace Go.Tv
open Go.Ev (Tr pick2 Leave Mem Blk alive pick2_eq alive_some opA Fr)

theorem placeOf_spec : ∀ (l : List Nat) (id n i : Nat), placeOf id l n = some i → n ≤ i ∧ l[i - n]? = some id
  | [], id, n, i, h => by cases h
  | x :: l, id, n, i, h => by
    unfold placeOf at h
    rw [pick2_eq] at h
    split at h
    · rename_i hx
      cases h
      have : x = id := by simpa [Nat.beq_eq] using hx
      subst this; simp
    · obtain ⟨h1, h2⟩ := placeOf_spec l id (n + 1) i h
      refine ⟨by omega, ?_⟩
      have : i - n = (i - (n + 1)) + 1 := by omega
      rw [this]; simpa using h2

theorem nodupB_spec : ∀ {l : List Nat}, nodupB l = true → ∀ (i j : Nat) x, l[i]? = some x → l[j]? = some x → i = j
  | [], _, i, j, x, h, _ => by simp at h
  | y :: l, h, i, j, x, hi, hj => by
    simp only [nodupB, Bool.and_eq_true, Bool.not_eq_true'] at h
    have hy : y ∉ l := fun hm => by
      have : l.any (Nat.beq y) = true := List.any_eq_true.2 ⟨y, hm, by simp [Nat.beq_eq]⟩
      rw [this] at h; cases h.1
    cases i with
    | zero =>
      cases j with
      | zero => rfl
      | succ j =>
        simp at hi hj; subst hi
        exact absurd (List.mem_of_getElem? hj) hy
    | succ i =>
      cases j with
      | zero =>
        simp at hi hj; subst hj
        exact absurd (List.mem_of_getElem? hi) hy
      | succ j => rw [nodupB_spec h.2 i j x (by simpa using hi) (by simpa using hj)]

/-- What goes with the rows that are kept. -/
noncomputable def Wo.ren (S : Wo) (H : TMem) (ids : List Nat) : Wo :=
  ⟨S.F, fun j => (ids[j]?).bind S.ρ, fun j v => if v = 0 then (ids[j]?).bind fun id => match H.get id with
    | some (.list _ e l _ _ _) => some ⟨e, l⟩
    | _ => S.Γ id 0 else none⟩

section
variable {S : Wo} {H : TMem} {ids : List Nat}

theorem ren_len {E : Mem} (hr : Rel S H E) {id i : Nat} (hi : ids[i]? = some id) {g : Sigma fun e : Ty => List e.den} (hg : S.Γ id 0 = some g) : ∃ g', (S.ren H ids).Γ i 0 = some g' ∧ g'.2.length = g.2.length := by
  show ∃ g', (if 0 = 0 then (ids[i]?).bind _ else none) = some g' ∧ _
  rw [if_pos rfl, hi]
  simp only [Option.bind_some]
  split
  · rename_i t e l ver ex ro hrow
    obtain ⟨_, ⟨_, g0, h1, h2⟩, _⟩ := hr.row id _ hrow
    rw [hg] at h1; cases h1
    exact ⟨_, rfl, h2.symm⟩
  · exact ⟨g, hg, rfl⟩

theorem VR.ren {E : Mem} (hr : Rel S H E) {v : AV} {x : Value} (h : VR S v x) : VR (S.ren H ids) (renA ids v) x := by
  have lst : ∀ {l : List AV} {m : List Value}, (∀ (j : Nat) a b, l[j]? = some a → m[j]? = some b → VR (S.ren H ids) (renA ids a) b) → (∀ (j : Nat) a b, (renL ids l)[j]? = some a → m[j]? = some b → VR (S.ren H ids) a b) ∧ (renL ids l).length = l.length := by
    intro l
    induction l with
    | nil => intro m h; exact ⟨fun j a b ha => by simp [renL] at ha, rfl⟩
    | cons v l ih =>
      intro m h
      cases m with
      | nil => exact ⟨fun j a b ha hb => by simp at hb, by have := (ih (m := []) (fun j a b _ hb => by simp at hb)).2; simp [renL, this]⟩
      | cons y m =>
        obtain ⟨h1, h2⟩ := ih (m := m) fun j a b ha hb => h (j + 1) a b (by simpa using ha) (by simpa using hb)
        refine ⟨fun j a b ha hb => ?_, by simp [renL, h2]⟩
        cases j with
        | zero => simp [renL] at ha hb; subst ha; subst hb; exact h 0 v y rfl rfl
        | succ j => exact h1 j a b (by simpa [renL] using ha) (by simpa using hb)
  have ρi : ∀ {id i : Nat} {y}, ids[i]? = some id → S.ρ id = some y → (S.ren H ids).ρ i = some y := fun hi hy => by
    show (ids[_]?).bind S.ρ = _
    rw [hi]; exact hy
  have plc : ∀ {id i : Nat}, placeOf id ids 0 = some i → ids[i]? = some id := fun h => by simpa using (placeOf_spec ids _ 0 _ h).2
  induction h with
  | int => unfold renA; exact .int _ _
  | bool => unfold renA; exact .bool _
  | str => unfold renA; exact .str _
  | flt => unfold renA; exact .flt _
  | lst e l v h => unfold renA; exact .lst e l v h
  | nils => unfold renA; exact .nils
  | own id n i cap s h g hg hn =>
    unfold renA
    split
    · rename_i j hj
      obtain ⟨g', h1, h2⟩ := ren_len hr (plc hj) hg
      exact .own j n i cap s (ρi (plc hj) h) g' h1 (by omega)
    · exact .unk _
  | ownNil id g hg hn =>
    unfold renA
    split
    · rename_i j hj
      obtain ⟨g', h1, h2⟩ := ren_len hr (plc hj) hg
      exact .ownNil j g' h1 (by omega)
    · exact .unk _
  | osl id off len cap i c s h g hg hc hl =>
    unfold renA
    split
    · rename_i j hj
      obtain ⟨g', h1, h2⟩ := ren_len hr (plc hj) hg
      exact .osl j off len cap i c s (ρi (plc hj) h) g' h1 (by omega) hl
    · exact .unk _
  | ptr id off i c s h =>
    unfold renA
    split
    · rename_i j hj; exact .ptr j off i c s (ρi (plc hj) h)
    · exact .unk _
  | ept => unfold renA; exact .unk _
  | apt id n i c s h g hg hn =>
    unfold renA
    split
    · rename_i j hj
      obtain ⟨g', h1, h2⟩ := ren_len hr (plc hj) hg
      exact .apt j n i c s (ρi (plc hj) h) g' h1 (by omega)
    · exact .unk _
  | fpt cs i pre mid post h hl _ ih =>
    unfold renA
    obtain ⟨l1, l2⟩ := lst ih
    exact .fpt _ i pre mid post h (by omega) l1
  | nilp => unfold renA; exact .nilp
  | fn f a b a' b' ha hb _ _ iha ihb =>
    unfold renA
    obtain ⟨l1, l2⟩ := lst iha
    obtain ⟨m1, m2⟩ := lst ihb
    exact .fn f _ _ a' b' (by omega) (by omega) l1 m1
  | agg l m hl _ ih =>
    unfold renA
    obtain ⟨l1, l2⟩ := lst ih
    exact .agg _ m (by omega) l1
  | tup l m hl _ ih =>
    unfold renA
    obtain ⟨l1, l2⟩ := lst ih
    exact .tup _ m (by omega) l1
  | opq v h => unfold renA; exact .opq v h
  | unk v => unfold renA; exact .unk v

theorem LV.ren {E : Mem} (hr : Rel S H E) : ∀ {l : List AV} {m : List Value}, LV S l m → LV (S.ren H ids) (renL ids l) m
  | [], m, h => by rw [h.nil_inv]; exact LV.nil
  | v :: l, m, h => by
    obtain ⟨x, m', rfl, h1, h2⟩ := h.cons_inv
    exact LV.cons (h1.ren hr) (LV.ren hr h2)

theorem renR_ro (r : Row) : (renR ids r).roB = r.roB := by cases r <;> rfl

/-- The rows that are kept. -/
theorem push_all (H : TMem) (ids : List Nat) : ∀ (l : List Nat) (M : TMem), (l.foldl (fun M id => M.push (keptRow H ids id)) M).next = M.next + l.length ∧
    (l.foldl (fun M id => M.push (keptRow H ids id)) M).lk = M.lk ∧ (l.foldl (fun M id => M.push (keptRow H ids id)) M).par = M.par ∧
    ∀ j, (l.foldl (fun M id => M.push (keptRow H ids id)) M).get j = if j < M.next then M.get j else ((l[j - M.next]?).bind H.get).map (renR ids)
  | [], M => by
    refine ⟨rfl, rfl, rfl, fun j => ?_⟩
    show M.get j = _
    by_cases hj : j < M.next
    · rw [if_pos hj]
    · rw [if_neg hj]; simp
      cases h : M.get j with
      | none => rfl
      | some r => exact absurd (TMem.get_lt h) hj
  | id :: l, M => by
    rw [List.foldl_cons]
    obtain ⟨h1, h2, h3, h4⟩ := push_all H ids l (M.push (keptRow H ids id))
    obtain ⟨p1, p2, p3, p4⟩ := TMem.push_spec M (keptRow H ids id)
    refine ⟨by rw [h1, p1]; simp; omega, by rw [h2, p2], by rw [h3, p3], fun j => ?_⟩
    rw [h4, p1, p4]
    by_cases hj : j < M.next
    · rw [if_pos (by omega), if_neg (by omega), if_pos hj]
    · rw [if_neg hj]
      by_cases hj2 : j = M.next
      · subst hj2
        rw [if_pos (by omega), if_pos rfl]
        simp only [Nat.sub_self, List.getElem?_cons_zero, Option.bind_some]
        unfold keptRow
        cases hg : H.get id with
        | none => rfl
        | some r => cases r <;> first | rfl | exact absurd hg TMem.get_ne
      · rw [if_neg (by omega)]
        have : j - M.next = (j - (M.next + 1)) + 1 := by omega
        rw [this]; rfl

theorem keep_all (ids : List Nat) (f : TFr) (n : Nat) : ∀ (keep : List Tmp) (g : TFr), g.n = n → ((keep.foldl (fun g t => g.put (some t) (renA ids (f.get t))) g).n = n ∧ ∀ i, (keep.foldl (fun g t => g.put (some t) (renA ids (f.get t))) g).get i = g.get i ∨ (keep.foldl (fun g t => g.put (some t) (renA ids (f.get t))) g).get i = renA ids (f.get i))
  | [], g, hg => ⟨hg, fun i => .inl rfl⟩
  | t :: keep, g, hg => by
    rw [List.foldl_cons]
    obtain ⟨e1, e2⟩ := TFr.put_get g t (renA ids (f.get t))
    obtain ⟨h1, h2⟩ := keep_all ids f n keep (g.put (some t) (renA ids (f.get t))) (by rw [e1, hg])
    refine ⟨h1, fun i => ?_⟩
    rcases h2 i with h | h
    · rw [h, e2]
      by_cases hi : i = t ∧ t < g.n
      · rw [if_pos hi, hi.1]; exact .inr rfl
      · rw [if_neg hi]; exact .inl rfl
    · exact .inr h

variable {β : Type} {r : β}

theorem norm_ok {keep : List Tmp} {f : TFr} {k : TFr → TMem → Option β} (h : normT keep f H k = some r) : ∃ f' H', k f' H' = some r ∧ ∀ (S : Wo) (E : Mem) (fE : Fr), Rel S H E → RelF S f fE → ∃ S', RelF S' f' fE ∧ Rel S' H' E ∧ StC S H E S' H' E := by
  unfold normT at h
  simp only at h
  generalize hids : (keep.foldl (fun acc t => refsA acc (f.get t)) (List.range H.par)).foldl (refsIn H) (keep.foldl (fun acc t => refsA acc (f.get t)) (List.range H.par)) = ids at h
  rw [pick2_eq] at h
  split at h
  case isFalse => cases h
  rename_i hc
  simp only [Bool.and_eq_true, Nat.beq_eq] at hc
  obtain ⟨⟨hnd, hpar⟩, hlk⟩ := hc
  have hpar : ids.take H.par = List.range H.par := by simpa using hpar
  refine ⟨_, _, h, fun S E fE hr hf => ⟨S.ren H ids, ?_, ?_, ?_⟩⟩
  all_goals
    obtain ⟨k1, k2⟩ := keep_all ids f f.n keep ⟨f.n, .e⟩ rfl
    obtain ⟨p1, p2, p3, p4⟩ := push_all H ids ids ⟨0, 0, H.par, .e⟩
  · refine ⟨by rw [k1, hf.n], fun i => ?_⟩
    rcases k2 i with e | e
    · rw [e]; exact .unk _
    · rw [e]; exact (hf.v i).ren hr
  all_goals
    have getj : ∀ j q, (ids.foldl (fun M id => M.push (keptRow H ids id)) (⟨0, 0, H.par, .e⟩ : TMem)).get j = some q → ∃ id r, ids[j]? = some id ∧ H.get id = some r ∧ q = renR ids r := fun j q hj => by
      rw [p4, if_neg (by simp)] at hj
      simp only [Nat.sub_zero, Option.map_eq_some_iff, Option.bind_eq_some_iff] at hj
      obtain ⟨r, ⟨id, h1, h2⟩, rfl⟩ := hj
      exact ⟨id, r, h1, h2, rfl⟩
    have ρj : ∀ {j id}, ids[j]? = some id → (S.ren H ids).ρ j = S.ρ id := fun {j id} hj => by
      show (ids[j]?).bind S.ρ = _
      rw [hj]; rfl
    have plen : H.par ≤ ids.length := by
      have := congrArg List.length hpar
      simp at this; omega
  · refine ⟨hr.fz, fun j x hx => ?_, fun j v hj => ?_, fun j q hj => ?_, fun j j' q q' y y' hj hj' hy hy' he => ?_, fun j q y hj hb hy => ?_, fun j q y hj _ hy => ?_, by rw [p1, p2]; simp, by rw [p1, p3]; simpa using plen, hr.esz⟩
    · rw [p1]
      have hx : (ids[j]?).bind S.ρ = some x := hx
      cases hi : ids[j]? with
      | none => rw [hi] at hx; cases hx
      | some id => have := get_lt hi; simpa using this
    · rw [p1] at hj
      show (if v = 0 then (ids[j]?).bind _ else none) = none
      rw [List.getElem?_eq_none (by simpa using hj)]
      split <;> rfl
    · obtain ⟨id, r, h1, h2, rfl⟩ := getj j q hj
      have hrow := hr.row id r h2
      cases r with
      | dead => trivial
      | cells cs =>
        obtain ⟨i, c, s, b, a1, a2, a3⟩ := hrow
        exact ⟨i, c, s, b, by rw [ρj h1]; exact a1, a2, a3.ren hr⟩
      | list t e l ver ex ro =>
        obtain ⟨a1, ⟨a2, g, a3, a4⟩, a5⟩ := hrow
        have hΓ : (S.ren H ids).Γ j 0 = some ⟨e, l⟩ := by
          show (if 0 = 0 then (ids[j]?).bind _ else none) = _
          rw [if_pos rfl, h1]
          simp only [Option.bind_some, h2]
        refine ⟨hΓ, ⟨fun v hv => if_neg (by omega), ⟨e, l⟩, hΓ, rfl⟩, ?_⟩
        rcases a5 with ⟨b1, b2, b3⟩ | ⟨i, cap, b, mid, post, q1, q2⟩
        · exact .inl ⟨b1, by rw [ρj h1]; exact b2, b3⟩
        · exact .inr ⟨i, cap, b, mid, post, by rw [ρj h1]; exact q1, q2⟩
    · obtain ⟨id, r, h1, h2, rfl⟩ := getj j q hj
      obtain ⟨id', r', h1', h2', rfl⟩ := getj j' q' hj'
      rw [ρj h1] at hy; rw [ρj h1'] at hy'
      have := hr.inj id id' r r' y y' h2 h2' hy hy' he
      subst this
      exact nodupB_spec hnd j j' id h1 h1'
    · obtain ⟨id, r, h1, h2, rfl⟩ := getj j q hj
      rw [ρj h1] at hy
      rw [renR_ro] at hb
      exact hr.sep id r y h2 hb hy
    · obtain ⟨id, r, h1, h2, rfl⟩ := getj j q hj
      rw [ρj h1] at hy
      exact hr.lk id r y h2 (by omega) hy
  · refine ⟨Nat.le_refl _, rfl, by rw [p2, hlk], p3, fun _ _ h => h, fun i ho _ => ?_, fun i hi => .inl hi, fun _ _ _ => rfl, fun id hid => ?_⟩
    · obtain ⟨j, q, y, hj, hb, hy, rfl⟩ := ho
      obtain ⟨id, r, h1, h2, rfl⟩ := getj j q hj
      rw [ρj h1] at hy
      rw [renR_ro] at hb
      exact ⟨id, r, y, h2, hb, hy, rfl⟩
    · refine ρj ?_
      have : (ids.take H.par)[id]? = some id := by rw [hpar]; simp [hid]
      rw [List.getElem?_take, if_pos hid] at this
      exact this

end
end Go.Tv
