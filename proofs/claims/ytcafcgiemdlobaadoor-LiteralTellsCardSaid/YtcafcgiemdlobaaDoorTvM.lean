/- The layer's memory beside the evaluator's. -/
import Derived.Test.YtcafcgiemdlobaaDoorTvR
namespace Go.Tv
open Go.Ev (Tr pick2 Leave Mem Blk alive pick2_eq alive_some)

def Row.live : Row → Option Row
  | .dead => none
  | r => some r

theorem TMem.get_eq (H : TMem) (i : Nat) : H.get i = if i < H.next then (H.t.get i).bind Row.live else none := by
  unfold TMem.get
  split
  · rename_i h; rw [h]; simp [Row.live]
  · rename_i r h1 h2
    rw [pick2_eq, Ev.ble_succ]
    simp only [decide_eq_true_eq]
    split
    · rw [h2]; cases r <;> first | rfl | exact absurd rfl h1
    · rfl
  · rename_i h; rw [h]; simp

theorem TMem.get_ne {H : TMem} {i : Nat} : H.get i ≠ some .dead := by
  rw [TMem.get_eq]
  split
  · cases H.t.get i with
    | none => intro h; cases h
    | some q => cases q <;> intro h <;> cases h
  · intro h; cases h

theorem TMem.get_lt {H : TMem} {i : Nat} {r : Row} (h : H.get i = some r) : i < H.next := by
  rw [TMem.get_eq] at h
  split at h
  · assumption
  · cases h

theorem TMem.put_spec (H : TMem) (i : Nat) (r : Row) : (H.put i r).next = H.next ∧ (H.put i r).lk = H.lk ∧ (H.put i r).par = H.par ∧ ∀ j, (H.put i r).get j = if j = i then (if i < H.next then r.live else none) else H.get j := by
  obtain ⟨t', ht⟩ := Tr.set_total r H.t i
  have e : H.put i r = ⟨H.next, H.lk, H.par, t'⟩ := by unfold TMem.put; rw [ht]
  rw [e]
  refine ⟨rfl, rfl, rfl, fun j => ?_⟩
  rw [TMem.get_eq, TMem.get_eq]
  simp only [Tr.get_set ht]
  by_cases hj : j = i
  · subst hj; rw [if_pos rfl, if_pos rfl]; rfl
  · rw [if_neg hj, if_neg hj]

theorem TMem.push_spec (H : TMem) (r : Row) : (H.push r).next = H.next + 1 ∧ (H.push r).lk = H.lk ∧ (H.push r).par = H.par ∧ ∀ j, (H.push r).get j = if j = H.next then r.live else H.get j := by
  obtain ⟨t', ht⟩ := Tr.set_total r H.t H.next
  have e : H.push r = ⟨H.next + 1, H.lk, H.par, t'⟩ := by unfold TMem.push; rw [ht]
  rw [e]
  refine ⟨rfl, rfl, rfl, fun j => ?_⟩
  rw [TMem.get_eq, TMem.get_eq]
  simp only [Tr.get_set ht]
  by_cases hj : j = H.next
  · subst hj; rw [if_pos (by omega), if_pos rfl, if_pos rfl]; cases r <;> rfl
  · rw [if_neg hj, if_neg hj]
    by_cases h : j < H.next
    · rw [if_pos h, if_pos (by omega)]
    · rw [if_neg h, if_neg (by omega)]

theorem alive_eq {H : Mem} {i : Nat} {b : Blk} (h : H.get i = some b) (hl : b.live = true) : alive H i = some b := by
  unfold alive; rw [h]; simp [hl]

theorem alive_congr {H H' : Mem} {i : Nat} (h : H'.get i = H.get i) : alive H' i = alive H i := by
  unfold alive; rw [h]

theorem alive_lt {H : Mem} {i : Nat} {b : Blk} (h : alive H i = some b) : i < H.size := Mem.get_lt (alive_some h).1

def Row.roB : Row → Bool
  | .list _ _ _ _ _ ro => ro
  | _ => false

/-- What stands for a row. -/
def RowAt (S : Wo) (HE : Mem) (id : Nat) : Row → Prop
  | .dead => True
  | .cells cs => ∃ i c s b, S.ρ id = some (i, c, s) ∧ alive HE i = some b ∧ LV S cs b.cells
  | .list t e l ver ex ro => S.Γ id ver = some ⟨e, l⟩ ∧ ((∀ v, ver < v → S.Γ id v = none) ∧ ∃ g, S.Γ id 0 = some g ∧ g.2.length = l.length) ∧
      ((l = [] ∧ S.ρ id = none ∧ ex = false) ∨
       ∃ i cap b mid post, S.ρ id = some (i, cap, e.size) ∧ alive HE i = some b ∧ b.elem = t ∧ b.cells = mid ++ post ∧ CRL (CR S.F e) l mid ∧ b.cells.length = cap * e.size ∧ l.length ≤ cap ∧ cap ≤ 1000000 ∧
         (ex = true → b.fix = true ∧ post = [] ∧ l.length = cap) ∧ (ro = true → S.F i = some b.cells))

structure Rel (S : Wo) (H : TMem) (HE : Mem) : Prop where
  fz : ∀ i cs, S.F i = some cs → ∃ b, alive HE i = some b ∧ b.cells = cs
  dom : ∀ id x, S.ρ id = some x → id < H.next
  gam : ∀ id v, H.next ≤ id → S.Γ id v = none
  row : ∀ id r, H.get id = some r → RowAt S HE id r
  inj : ∀ id id' r r' x x', H.get id = some r → H.get id' = some r' → S.ρ id = some x → S.ρ id' = some x' → x.1 = x'.1 → id = id'
  sep : ∀ id r x, H.get id = some r → r.roB = false → S.ρ id = some x → S.F x.1 = none
  lk : ∀ id r x, H.get id = some r → H.lk ≤ id → S.ρ id = some x → HE.lk ≤ x.1
  lsz : H.lk ≤ H.next
  psz : H.par ≤ H.next
  esz : HE.lk ≤ HE.size

theorem Rel.old {S : Wo} {H : TMem} {E : Mem} (h : Rel S H E) {id : Nat} {r : Row} {y : Nat × Nat × Nat} (hg : H.get id = some r) (hy : S.ρ id = some y) : ∃ b, alive E y.1 = some b := by
  have hra := h.row id r hg
  cases r with
  | dead => exact absurd hg TMem.get_ne
  | cells cs => obtain ⟨i, c, s, b, h1, h2, _⟩ := hra; rw [hy] at h1; cases h1; exact ⟨b, h2⟩
  | list t e l ver ex ro =>
    obtain ⟨_, _, h3⟩ := hra
    rcases h3 with ⟨_, h4, _⟩ | ⟨i, cap, b, mid, post, k1, k2, _⟩
    · rw [hy] at h4; cases h4
    · rw [hy] at k1; cases k1; exact ⟨b, k2⟩

def Own (S : Wo) (H : TMem) (i : Nat) : Prop := ∃ id r x, H.get id = some r ∧ r.roB = false ∧ S.ρ id = some x ∧ x.1 = i

/-- What a run leaves alone. -/
structure St (S : Wo) (H : TMem) (HE : Mem) (S' : Wo) (H' : TMem) (HE' : Mem) : Prop where
  sz : HE.size ≤ HE'.size
  lk : HE'.lk = HE.lk
  tlk : H'.lk = H.lk
  tpar : H'.par = H.par
  F : ∀ i x, S.F i = some x → S'.F i = some x
  own : ∀ i, Own S' H' i → i < HE.size → Own S H i
  frz : ∀ i, S'.F i ≠ none → S.F i ≠ none ∨ Own S H i ∨ HE.size ≤ i
  keep : ∀ i, i < HE.size → ¬ Own S H i → HE'.get i = HE.get i
  par : ∀ id, id < H.par → S'.ρ id = S.ρ id
  nx : H.next ≤ H'.next
  live : ∀ id, id < H.next → H'.get id ≠ none → H.get id ≠ none
  rn : ∀ id, id < H.next → S.ρ id = none → S'.ρ id = none

theorem St.refl (S : Wo) (H : TMem) (HE : Mem) : St S H HE S H HE :=
  ⟨Nat.le_refl _, rfl, rfl, rfl, fun _ _ h => h, fun _ h _ => h, fun _ h => .inl h, fun _ _ _ => rfl, fun _ _ => rfl, Nat.le_refl _, fun _ _ h => h, fun _ _ h => h⟩

theorem St.trans {S S1 S2 : Wo} {H H1 H2 : TMem} {E E1 E2 : Mem} (h : St S H E S1 H1 E1) (k : St S1 H1 E1 S2 H2 E2) : St S H E S2 H2 E2 := by
  refine ⟨Nat.le_trans h.sz k.sz, k.lk.trans h.lk, k.tlk.trans h.tlk, k.tpar.trans h.tpar, fun i x hx => k.F i x (h.F i x hx), fun i ho hi => h.own i (k.own i ho (Nat.lt_of_lt_of_le hi h.sz)) hi, fun i hf => ?_, fun i hi ho => ?_, fun id hid => (k.par id (by rw [h.tpar]; exact hid)).trans (h.par id hid), Nat.le_trans h.nx k.nx, fun id hid hl => h.live id hid (k.live id (Nat.lt_of_lt_of_le hid h.nx) hl), fun id hid hl => k.rn id (Nat.lt_of_lt_of_le hid h.nx) (h.rn id hid hl)⟩
  · rcases k.frz i hf with h1 | h1 | h1
    · exact h.frz i h1
    · by_cases hi : i < E.size
      · exact .inr (.inl (h.own i h1 hi))
      · exact .inr (.inr (by omega))
    · exact .inr (.inr (Nat.le_trans h.sz h1))
  · exact (k.keep i (Nat.lt_of_lt_of_le hi h.sz) fun h1 => ho (h.own i h1 hi)).trans (h.keep i hi ho)

theorem Mem.push_total (H : Mem) (b : Blk) : ∃ H', H.push b = some H' := by
  obtain ⟨t', ht⟩ := Tr.set_total b H.t H.size
  exact ⟨_, by unfold Mem.push; rw [ht]⟩

theorem Mem.set_total {H : Mem} {i : Nat} {b : Blk} (hi : i < H.size) (hl : H.lk ≤ i) : ∃ H', H.set i b = some H' := by
  obtain ⟨t', ht⟩ := Tr.set_total b H.t i
  refine ⟨⟨H.size, H.lk, t'⟩, ?_⟩
  unfold Mem.set
  rw [pick2_eq, Ev.ble_succ, if_pos (by simpa using hi), pick2_eq, Ev.ble_dec, if_pos (by simpa using hl), ht]

theorem RowAt.keep {S S' : Wo} {E E' : Mem} {id : Nat} {r : Row} (hle : S.le S') (hρ : S.ρ id = none → S'.ρ id = none) (hΓ : ∀ v, S.Γ id v = none → S'.Γ id v = none) (hk : ∀ x, S.ρ id = some x → alive E' x.1 = alive E x.1) (h : RowAt S E id r) : RowAt S' E' id r := by
  cases r with
  | dead => trivial
  | cells cs =>
    obtain ⟨i, c, s, b, h1, h2, h3⟩ := h
    exact ⟨i, c, s, b, hle.ρ _ _ h1, by rw [hk _ h1]; exact h2, h3.mono hle⟩
  | list t e l ver ex ro =>
    obtain ⟨h1, h2, h3⟩ := h
    obtain ⟨h2, g, hg, hn⟩ := h2
    refine ⟨hle.Γ _ _ _ h1, ⟨fun v hv => hΓ v (h2 v hv), g, hle.Γ _ _ _ hg, hn⟩, ?_⟩
    rcases h3 with ⟨h3, h4, h5⟩ | ⟨i, cap, b, mid, post, k1, k2, k3, k4, k5, k6, k7, k8, k9, k10⟩
    · exact .inl ⟨h3, hρ h4, h5⟩
    · exact .inr ⟨i, cap, b, mid, post, hle.ρ _ _ k1, by rw [hk _ k1]; exact k2, k3, k4, k5.mono fun x c => CR.mono hle.F e x c, k6, k7, k8, k9, fun hr => hle.F _ _ (k10 hr)⟩

/-- Another row. -/
def Wo.new (S : Wo) (id : Nat) (x : Option (Nat × Nat × Nat)) (g : Option (Sigma fun e : Ty => List e.den)) : Wo :=
  ⟨S.F, fun j => if j = id then x else S.ρ j, fun j v => if j = id ∧ v = 0 then g else S.Γ j v⟩

theorem Wo.new_le {S : Wo} {H : TMem} {HE : Mem} (h : Rel S H HE) (x : Option (Nat × Nat × Nat)) (g : Option (Sigma fun e : Ty => List e.den)) : S.le (S.new H.next x g) := by
  refine ⟨fun _ _ h => h, fun i y hy => ?_, fun i v y hy => ?_⟩
  · have := h.dom i y hy
    show (if i = H.next then x else S.ρ i) = _
    rw [if_neg (by omega)]; exact hy
  · show (if i = H.next ∧ v = 0 then g else S.Γ i v) = _
    by_cases hi : i = H.next
    · rw [h.gam i v (by omega)] at hy; cases hy
    · rw [if_neg (by omega)]; exact hy

/-- A row more on both sides, or on ours alone (x: what stands for it). -/
theorem Rel.add {S : Wo} {H : TMem} {E E' : Mem} (h : Rel S H E) {r : Row} {x : Option (Nat × Nat × Nat)} {g : Option (Sigma fun e : Ty => List e.den)}
    (hs : E.size ≤ E'.size) (hlk : E'.lk = E.lk) (hk : ∀ i, i < E.size → E'.get i = E.get i) (hr : ∀ r', r.live = some r' → RowAt (S.new H.next x g) E' H.next r')
    (hx : ∀ y, x = some y → E.size ≤ y.1) (hro : r.roB = false) :
    S.le (S.new H.next x g) ∧ Rel (S.new H.next x g) (H.push r) E' ∧ St S H E (S.new H.next x g) (H.push r) E' := by
  have hle := Wo.new_le h x g
  obtain ⟨p1, p2, p3, p4⟩ := TMem.push_spec H r
  have ρne : ∀ id, id ≠ H.next → (S.new H.next x g).ρ id = S.ρ id := fun id hid => if_neg hid
  have ρeq : (S.new H.next x g).ρ H.next = x := if_pos rfl
  have Γne : ∀ id v, id ≠ H.next → (S.new H.next x g).Γ id v = S.Γ id v := fun id v hid => if_neg (by omega)
  have get1 : ∀ id r', (H.push r).get id = some r' → (id = H.next ∧ r.live = some r') ∨ (id ≠ H.next ∧ H.get id = some r') := fun id r' hid => by
    rw [p4] at hid
    by_cases e : id = H.next
    · rw [if_pos e] at hid; exact .inl ⟨e, hid⟩
    · rw [if_neg e] at hid; exact .inr ⟨e, hid⟩
  have ro' : ∀ r', r.live = some r' → r'.roB = false := fun r' h => by
    cases r <;> simp [Row.live] at h <;> subst h <;> first | rfl | exact hro
  have old : ∀ id r' y, H.get id = some r' → S.ρ id = some y → y.1 < E.size := fun id r' y hg hy => (let ⟨_, hb⟩ := h.old hg hy; alive_lt hb)
  refine ⟨hle, ⟨fun i cs hi => ?_, fun id y hy => ?_, fun id v hv => ?_, fun id r' hg => ?_, fun id id' r1 r2 y y' hg hg' hy hy' he => ?_, fun id r' y hg hb hy => ?_, fun id r' y hg hl hy => ?_, by rw [p1, p2]; have := h.lsz; omega, by rw [p1, p3]; have := h.psz; omega, by rw [hlk]; have := h.esz; omega⟩,
    ⟨hs, hlk, p2, p3, fun _ _ h => h, fun i ho hi => ?_, fun i hf => .inl hf, fun i hi _ => hk i hi, fun id hid => ?_, by omega, fun id hid hl => (by rw [p4, if_neg (by omega)] at hl; exact hl), fun id hid hl => by rw [ρne id (by omega)]; exact hl⟩⟩
  · obtain ⟨b, h1, h2⟩ := h.fz i cs hi
    exact ⟨b, by rw [alive_congr (hk i (alive_lt h1))]; exact h1, h2⟩
  · rw [p1]
    by_cases e : id = H.next
    · omega
    · rw [ρne id e] at hy; have := h.dom id y hy; omega
  · rw [p1] at hv
    rw [Γne id v (by omega)]; exact h.gam id v (by omega)
  · rcases get1 id r' hg with ⟨rfl, hr'⟩ | ⟨e, hg'⟩
    · exact hr r' hr'
    · refine (h.row id r' hg').keep hle (fun hn => by rw [ρne id e]; exact hn) (fun v hv => by rw [Γne id v e]; exact hv) fun y hy => alive_congr (hk _ (old id r' y hg' hy))
  · rcases get1 id r1 hg with ⟨rfl, h1⟩ | ⟨e1, h1⟩ <;> rcases get1 id' r2 hg' with ⟨rfl, h2⟩ | ⟨e2, h2⟩
    · rfl
    · rw [ρeq] at hy; rw [ρne id' e2] at hy'
      have a1 := hx y hy; have a2 := old id' r2 y' h2 hy'; omega
    · rw [ρeq] at hy'; rw [ρne id e1] at hy
      have a1 := hx y' hy'; have a2 := old id r1 y h1 hy; omega
    · rw [ρne id e1] at hy; rw [ρne id' e2] at hy'
      exact h.inj id id' r1 r2 y y' h1 h2 hy hy' he
  · rcases get1 id r' hg with ⟨rfl, h1⟩ | ⟨e1, h1⟩
    · rw [ρeq] at hy
      have a1 := hx y hy
      show S.F y.1 = none
      cases hF : S.F y.1 with
      | none => rfl
      | some cs => obtain ⟨b, h3, _⟩ := h.fz _ _ hF; have := alive_lt h3; omega
    · rw [ρne id e1] at hy; exact h.sep id r' y h1 hb hy
  · rw [p2] at hl
    rw [hlk]
    rcases get1 id r' hg with ⟨rfl, h1⟩ | ⟨e1, h1⟩
    · rw [ρeq] at hy; have := hx y hy; have := h.esz; omega
    · rw [ρne id e1] at hy; exact h.lk id r' y h1 hl hy
  · obtain ⟨id, r', y, hg, hb, hy, rfl⟩ := ho
    rcases get1 id r' hg with ⟨rfl, h1⟩ | ⟨e1, h1⟩
    · rw [ρeq] at hy; have := hx y hy; omega
    · rw [ρne id e1] at hy; exact ⟨id, r', y, h1, hb, hy, rfl⟩
  · exact ρne id (by have := h.psz; omega)

/-- One row is turned: its cells, what it is, whether it stays. -/
theorem Rel.mod {S S' : Wo} {H : TMem} {E E' : Mem} {id : Nat} {r r' : Row} (h : Rel S H E) (hg : H.get id = some r) (hro : r.roB = false)
    (hle : S.le S') (hρ : S'.ρ = S.ρ) (hΓ : ∀ j v, j ≠ id → S'.Γ j v = S.Γ j v)
    (hs : E'.size = E.size) (hlk : E'.lk = E.lk) (hE : ∀ j, (∀ y, S.ρ id = some y → j ≠ y.1) → E'.get j = E.get j)
    (hF : ∀ j cs, S'.F j = some cs → S.F j = some cs ∨ ((r' = .dead ∨ r'.roB = true) ∧ (∃ y, S.ρ id = some y ∧ y.1 = j) ∧ ∃ b, alive E' j = some b ∧ b.cells = cs))
    (hr : ∀ q, r'.live = some q → RowAt S' E' id q) :
    Rel S' (H.put id r') E' ∧ St S H E S' (H.put id r') E' := by
  obtain ⟨p1, p2, p3, p4⟩ := TMem.put_spec H id r'
  have hid := TMem.get_lt hg
  have get1 : ∀ j q, (H.put id r').get j = some q → (j = id ∧ r'.live = some q) ∨ (j ≠ id ∧ H.get j = some q) := fun j q hj => by
    rw [p4] at hj
    by_cases e : j = id
    · rw [if_pos e, if_pos hid] at hj; exact .inl ⟨e, hj⟩
    · rw [if_neg e] at hj; exact .inr ⟨e, hj⟩
  have far : ∀ j q y, j ≠ id → H.get j = some q → S.ρ j = some y → ∀ z, S.ρ id = some z → y.1 ≠ z.1 := fun j q y e hj hy z hz he => e (h.inj j id q r y z hj hg hy hz he)
  have farF : ∀ j cs, S.F j = some cs → ∀ z, S.ρ id = some z → j ≠ z.1 := fun j cs hj z hz he => by
    rw [he, h.sep id r z hg hro hz] at hj; cases hj
  have rlive : ∀ q, r'.live = some q → r' = q := fun q hq => by cases r' <;> simp [Row.live] at hq <;> exact hq
  refine ⟨⟨fun i cs hi => ?_, fun j y hy => ?_, fun j v hv => ?_, fun j q hj => ?_, fun j j' q q' y y' hj hj' hy hy' he => ?_, fun j q y hj hb hy => ?_, fun j q y hj hl hy => ?_, by rw [p1, p2]; exact h.lsz, by rw [p1, p3]; exact h.psz, by rw [hlk, hs]; exact h.esz⟩,
    ⟨by omega, hlk, p2, p3, hle.F, fun i ho hi => ?_, fun i hf => ?_, fun i hi ho => ?_, fun j _ => by rw [hρ], by omega, fun j hj hl => (by
      by_cases e : j = id
      · rw [e, hg]; simp
      · rw [p4, if_neg e] at hl; exact hl), fun j _ hl => by rw [hρ]; exact hl⟩⟩
  · rcases hF i cs hi with h1 | ⟨_, _, h1⟩
    · obtain ⟨b, h2, h3⟩ := h.fz i cs h1
      exact ⟨b, by rw [alive_congr (hE i (farF i cs h1))]; exact h2, h3⟩
    · exact h1
  · rw [hρ] at hy; rw [p1]; exact h.dom j y hy
  · rw [p1] at hv
    rw [hΓ j v (by omega)]; exact h.gam j v hv
  · rcases get1 j q hj with ⟨rfl, h1⟩ | ⟨e, h1⟩
    · exact hr q h1
    · exact (h.row j q h1).keep hle (fun hn => by rw [hρ]; exact hn) (fun v hv => by rw [hΓ j v e]; exact hv) fun y hy => alive_congr (hE _ fun z hz => far j q y e h1 hy z hz)
  · have w1 : ∀ j q, (H.put id r').get j = some q → ∃ q', H.get j = some q' := fun j q hj => by
      rcases get1 j q hj with ⟨rfl, _⟩ | ⟨_, h1⟩
      · exact ⟨r, hg⟩
      · exact ⟨q, h1⟩
    obtain ⟨a, ha⟩ := w1 j q hj
    obtain ⟨a', ha'⟩ := w1 j' q' hj'
    rw [hρ] at hy hy'
    exact h.inj j j' a a' y y' ha ha' hy hy' he
  · rw [hρ] at hy
    cases hq : S'.F y.1 with
    | none => rfl
    | some cs =>
      exfalso
      rcases get1 j q hj with ⟨rfl, h1⟩ | ⟨e, h1⟩
      · rcases hF _ _ hq with h2 | ⟨h2, _⟩
        · rw [h.sep j r y hg hro hy] at h2; cases h2
        · rcases h2 with h2 | h2
          · rw [h2] at h1; cases h1
          · rw [rlive q h1, hb] at h2; cases h2
      · rcases hF _ _ hq with h2 | ⟨_, ⟨z, hz, he⟩, _⟩
        · rw [h.sep j q y h1 hb hy] at h2; cases h2
        · exact far j q y e h1 hy z hz he.symm
  · rw [p2] at hl
    rw [hρ] at hy
    rw [hlk]
    rcases get1 j q hj with ⟨rfl, h1⟩ | ⟨e, h1⟩
    · exact h.lk j r y hg hl hy
    · exact h.lk j q y h1 hl hy
  · obtain ⟨j, q, y, hj, hb, hy, rfl⟩ := ho
    rw [hρ] at hy
    rcases get1 j q hj with ⟨rfl, h1⟩ | ⟨e, h1⟩
    · exact ⟨j, r, y, hg, hro, hy, rfl⟩
    · exact ⟨j, q, y, h1, hb, hy, rfl⟩
  · cases hq : S'.F i with
    | none => exact absurd hq hf
    | some cs =>
      rcases hF _ _ hq with h2 | ⟨_, ⟨z, hz, he⟩, _⟩
      · exact .inl (by rw [h2]; simp)
      · exact .inr (.inl ⟨id, r, z, hg, hro, hz, he⟩)
  · exact hE i fun y hy he => ho ⟨id, r, y, hg, hro, hy, he.symm⟩

/-- A memory that reads the same. -/
theorem Rel.same {S : Wo} {H H' : TMem} {E : Mem} (h : Rel S H E) (h1 : H'.next = H.next) (h2 : H'.lk = H.lk) (h3 : H'.par = H.par) (h4 : ∀ j, H'.get j = H.get j) : Rel S H' E ∧ St S H E S H' E := by
  refine ⟨⟨h.fz, fun j y hy => by rw [h1]; exact h.dom j y hy, fun j v hv => h.gam j v (by omega), fun j q hj => h.row j q (by rw [← h4]; exact hj), fun j j' q q' y y' hj hj' => h.inj j j' q q' y y' (by rw [← h4]; exact hj) (by rw [← h4]; exact hj'),
    fun j q y hj => h.sep j q y (by rw [← h4]; exact hj), fun j q y hj hl => h.lk j q y (by rw [← h4]; exact hj) (by omega), by rw [h1, h2]; exact h.lsz, by rw [h1, h3]; exact h.psz, h.esz⟩,
    ⟨Nat.le_refl _, rfl, h2, h3, fun _ _ h => h, fun i ho _ => ?_, fun i hf => .inl hf, fun _ _ _ => rfl, fun _ _ => rfl, by omega, fun j _ hl => (by rw [h4] at hl; exact hl), fun _ _ h => h⟩⟩
  obtain ⟨j, q, y, hj, r⟩ := ho
  exact ⟨j, q, y, by rw [← h4]; exact hj, r⟩

/-- One row goes, another one comes, which may lie where it lay. -/
theorem Rel.move {S : Wo} {H : TMem} {E E' : Mem} {id : Nat} {r0 r : Row} {x : Option (Nat × Nat × Nat)} {g : Option (Sigma fun e : Ty => List e.den)} (h : Rel S H E) (hg : H.get id = some r0) (hro : r0.roB = false)
    (hs : E.size ≤ E'.size) (hlk : E'.lk = E.lk) (hE : ∀ j, j < E.size → (∀ y, S.ρ id = some y → j ≠ y.1) → E'.get j = E.get j)
    (hx : ∀ y, x = some y → E.size ≤ y.1 ∨ ∃ z, S.ρ id = some z ∧ z.1 = y.1 ∧ E.lk ≤ y.1)
    (hr : ∀ r', r.live = some r' → RowAt (S.new H.next x g) E' H.next r') (hrr : r.roB = false) :
    S.le (S.new H.next x g) ∧ Rel (S.new H.next x g) ((H.put id .dead).push r) E' ∧ St S H E (S.new H.next x g) ((H.put id .dead).push r) E' := by
  have hle := Wo.new_le h x g
  obtain ⟨u1, u2, u3, u4⟩ := TMem.put_spec H id .dead
  obtain ⟨p1, p2, p3, p4⟩ := TMem.push_spec (H.put id .dead) r
  rw [u1] at p1; rw [u2] at p2; rw [u3] at p3
  have hid := TMem.get_lt hg
  have ρne : ∀ j, j ≠ H.next → (S.new H.next x g).ρ j = S.ρ j := fun j hj => if_neg hj
  have ρeq : (S.new H.next x g).ρ H.next = x := if_pos rfl
  have Γne : ∀ j v, j ≠ H.next → (S.new H.next x g).Γ j v = S.Γ j v := fun j v hj => if_neg (by omega)
  have get1 : ∀ j q, ((H.put id .dead).push r).get j = some q → (j = H.next ∧ r.live = some q) ∨ (j ≠ H.next ∧ j ≠ id ∧ H.get j = some q) := fun j q hj => by
    rw [p4, u1] at hj
    by_cases e : j = H.next
    · rw [if_pos e] at hj; exact .inl ⟨e, hj⟩
    · rw [if_neg e, u4] at hj
      by_cases e2 : j = id
      · rw [if_pos e2, if_pos hid] at hj; cases hj
      · rw [if_neg e2] at hj; exact .inr ⟨e, e2, hj⟩
  have ro' : ∀ q, r.live = some q → q.roB = false := fun q h => by
    cases r <;> simp [Row.live] at h <;> subst h <;> first | rfl | exact hrr
  have old : ∀ j q y, H.get j = some q → S.ρ j = some y → y.1 < E.size := fun j q y hg hy => (let ⟨_, hb⟩ := h.old hg hy; alive_lt hb)
  have far : ∀ j q y, j ≠ id → H.get j = some q → S.ρ j = some y → ∀ z, S.ρ id = some z → y.1 ≠ z.1 := fun j q y e hj hy z hz he => e (h.inj j id q r0 y z hj hg hy hz he)
  have farF : ∀ j cs, S.F j = some cs → ∀ z, S.ρ id = some z → j ≠ z.1 := fun j cs hj z hz he => by
    rw [he, h.sep id r0 z hg hro hz] at hj; cases hj
  have newfar : ∀ y, x = some y → ∀ j q z, j ≠ id → H.get j = some q → S.ρ j = some z → z.1 ≠ y.1 := fun y hy j q z e hj hz he => by
    rcases hx y hy with h1 | ⟨z', hz', he', _⟩
    · have := old j q z hj hz; omega
    · exact far j q z e hj hz z' hz' (by omega)
  refine ⟨hle, ⟨fun i cs hi => ?_, fun j y hy => ?_, fun j v hv => ?_, fun j q hj => ?_, fun j j' q1 q2 y y' hj hj' hy hy' he => ?_, fun j q y hj hb hy => ?_, fun j q y hj hl hy => ?_, by rw [p1, p2]; have := h.lsz; omega, by rw [p1, p3]; have := h.psz; omega, by rw [hlk]; have := h.esz; omega⟩,
    ⟨hs, hlk, p2, p3, fun _ _ h => h, fun i ho hi => ?_, fun i hf => .inl hf, fun i hi ho => hE i hi fun y hy he => ho ⟨id, r0, y, hg, hro, hy, he.symm⟩, fun j hj => ρne j (by have := h.psz; omega), by omega, fun j hj hl => (by
      rw [p4, u1, if_neg (by omega), u4] at hl
      by_cases e : j = id
      · rw [e, hg]; simp
      · rw [if_neg e] at hl; exact hl), fun j hj hl => by rw [ρne j (by omega)]; exact hl⟩⟩
  · obtain ⟨b, h1, h2⟩ := h.fz i cs hi
    exact ⟨b, by rw [alive_congr (hE i (alive_lt h1) (farF i cs hi))]; exact h1, h2⟩
  · rw [p1]
    by_cases e : j = H.next
    · omega
    · rw [ρne j e] at hy; have := h.dom j y hy; omega
  · rw [p1] at hv
    rw [Γne j v (by omega)]; exact h.gam j v (by omega)
  · rcases get1 j q hj with ⟨rfl, hr'⟩ | ⟨e, e2, hg'⟩
    · exact hr q hr'
    · exact (h.row j q hg').keep hle (fun hn => by rw [ρne j e]; exact hn) (fun v hv => by rw [Γne j v e]; exact hv) fun y hy => alive_congr (hE _ (old j q y hg' hy) fun z hz => far j q y e2 hg' hy z hz)
  · rcases get1 j q1 hj with ⟨rfl, h1⟩ | ⟨e1, d1, h1⟩ <;> rcases get1 j' q2 hj' with ⟨rfl, h2⟩ | ⟨e2, d2, h2⟩
    · rfl
    · rw [ρeq] at hy; rw [ρne j' e2] at hy'
      exact absurd he.symm (newfar y hy j' q2 y' d2 h2 hy')
    · rw [ρeq] at hy'; rw [ρne j e1] at hy
      exact absurd he (newfar y' hy' j q1 y d1 h1 hy)
    · rw [ρne j e1] at hy; rw [ρne j' e2] at hy'
      exact h.inj j j' q1 q2 y y' h1 h2 hy hy' he
  · rcases get1 j q hj with ⟨rfl, h1⟩ | ⟨e1, d1, h1⟩
    · rw [ρeq] at hy
      show S.F y.1 = none
      rcases hx y hy with h3 | ⟨z, hz, he, _⟩
      · cases hF : S.F y.1 with
        | none => rfl
        | some cs => obtain ⟨b, h3, _⟩ := h.fz _ _ hF; have := alive_lt h3; omega
      · rw [← he]; exact h.sep id r0 z hg hro hz
    · rw [ρne j e1] at hy; exact h.sep j q y h1 hb hy
  · rw [p2] at hl
    rw [hlk]
    rcases get1 j q hj with ⟨rfl, h1⟩ | ⟨e1, d1, h1⟩
    · rw [ρeq] at hy
      rcases hx y hy with h3 | ⟨z, hz, he, h4⟩
      · have := h.esz; omega
      · exact h4
    · rw [ρne j e1] at hy; exact h.lk j q y h1 hl hy
  · obtain ⟨j, q, y, hj, hb, hy, rfl⟩ := ho
    rcases get1 j q hj with ⟨rfl, h1⟩ | ⟨e1, d1, h1⟩
    · rw [ρeq] at hy
      rcases hx y hy with h3 | ⟨z, hz, he, _⟩
      · omega
      · exact ⟨id, r0, z, hg, hro, hz, he⟩
    · rw [ρne j e1] at hy; exact ⟨j, q, y, h1, hb, hy, rfl⟩

end Go.Tv
