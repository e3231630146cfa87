/- Regions, notes, loops, code of the layer beside the evaluator's. -/
import Derived.Test.YtcafcgiemdlobaaDoorTvX
namespace Go.Tv
open Go.Ev (Tr pick2 Leave Mem Blk alive pick2_eq alive_some opA Fr)

/-- What a run of code leaves alone. -/
structure StC (S : Wo) (H : TMem) (HE : Mem) (S' : Wo) (H' : TMem) (HE' : Mem) : Prop where
  sz : HE.size ≤ HE'.size
  lk : HE'.lk = HE.lk
  tlk : H'.lk = H.lk
  tpar : H'.par = H.par
  F : ∀ i x, S.F i = some x → S'.F i = some x
  own : ∀ i, Own S' H' i → i < HE.size → Own S H i
  frz : ∀ i, S'.F i ≠ none → S.F i ≠ none ∨ Own S H i ∨ HE.size ≤ i
  keep : ∀ i, i < HE.size → ¬ Own S H i → HE'.get i = HE.get i
  par : ∀ id, id < H.par → S'.ρ id = S.ρ id

theorem St.toC {S S' : Wo} {H H' : TMem} {E E' : Mem} (h : St S H E S' H' E') : StC S H E S' H' E' := ⟨h.sz, h.lk, h.tlk, h.tpar, h.F, h.own, h.frz, h.keep, h.par⟩
theorem StC.refl (S : Wo) (H : TMem) (E : Mem) : StC S H E S H E := (St.refl S H E).toC
theorem StC.trans {S S1 S2 : Wo} {H H1 H2 : TMem} {E E1 E2 : Mem} (h : StC S H E S1 H1 E1) (k : StC S1 H1 E1 S2 H2 E2) : StC S H E S2 H2 E2 := by
  refine ⟨Nat.le_trans h.sz k.sz, k.lk.trans h.lk, k.tlk.trans h.tlk, k.tpar.trans h.tpar, fun i x hx => k.F i x (h.F i x hx), fun i ho hi => h.own i (k.own i ho (Nat.lt_of_lt_of_le hi h.sz)) hi, fun i hf => ?_, fun i hi ho => ?_, fun id hid => (k.par id (by rw [h.tpar]; exact hid)).trans (h.par id hid)⟩
  · rcases k.frz i hf with h1 | h1 | h1
    · exact h.frz i h1
    · by_cases hi : i < E.size
      · exact .inr (.inl (h.own i h1 hi))
      · exact .inr (.inr (by omega))
    · exact .inr (.inr (Nat.le_trans h.sz h1))
  · exact (k.keep i (Nat.lt_of_lt_of_le hi h.sz) fun h1 => ho (h.own i h1 hi)).trans (h.keep i hi ho)

/-- A run, on both sides; nf: rows keep their numbers. -/
def Runs {α : Type} (X : Cfg) (nf : Bool) (run : Nat × Nat → Fr → Mem → Option (α × Fr × Mem)) (a : α) (f : TFr) (H : TMem) (f' : TFr) (H' : TMem) : Prop :=
  ∀ (S : Wo) (E : Mem) (fE : Fr), Rel S H E → GlobOk X S → RelF S f fE →
    ∃ S' fE' E', (∃ N, ∀ n : Nat × Nat, N ≤ n.1 ∧ N ≤ n.2 → run n fE E = some (a, fE', E')) ∧ RelF S' f' fE' ∧ Rel S' H' E' ∧ StC S H E S' H' E' ∧ (nf = true → S.le S' ∧ St S H E S' H' E')

theorem plan_mem {P : Program} {ops : Array Oper} {l : List (Oper × Bool)} (h : Ev.plan P ops = some l) : ∀ q ∈ l, q.1 ∈ ops.toList := by
  unfold Ev.plan Ev.planOf at h
  rw [pick2_eq] at h
  split at h
  · have hpos := Ev.posOk (P := P) (ops := ops)
    have key : ∀ n L l, Ev.planM (Ev.posRev P ops ops.toList 0 []).reverse n L = some l → ∀ q ∈ l, q.1 ∈ ops.toList := by
      intro n
      have mem : ∀ p ∈ (Ev.posRev P ops ops.toList 0 []).reverse, p.o ∈ ops.toList := fun p hp => by
        have := Array.mem_of_getElem? (hpos.each p hp).o; simpa using this
      induction n with
      | zero =>
        intro L l h
        unfold Ev.planM at h
        split at h
        · cases h; simp
        · cases h
      | succ n ih =>
        intro L l h
        unfold Ev.planM at h
        split at h
        · rename_i p hp
          have hm := List.mem_of_find?_eq_some hp
          rw [pick2_eq] at h
          split at h
          · split at h
            · rename_i l' hl'
              cases h
              intro q hq
              rcases List.mem_cons.1 hq with rfl | hq
              · exact mem p hm
              · exact ih _ _ hl' q hq
            · cases h
          · cases h
        · split at h
          · cases h; simp
          · rename_i p hp
            have hm : p ∈ (Ev.posRev P ops ops.toList 0 []).reverse := by
              have : p ∈ [p] := by simp
              rw [← hp] at this
              exact (List.mem_filter.1 this).1
            split at h
            · rename_i l' hl'
              cases h
              intro q hq
              rcases List.mem_cons.1 hq with rfl | hq
              · exact mem p hm
              · exact ih _ _ hl' q hq
            · cases h
          · cases h
    exact key _ _ _ h
  · cases h

section
variable {X : Cfg} {cf : Nat × Nat → Ev.CallF} {β : Type} {r : β}

theorem ops_ok {call : CallT β} (hcall : CallTOk X cf call) {tr : List Tmp} {ops : List Oper} : ∀ (l : List (Oper × Bool)), (∀ q ∈ l, ∀ x ∈ q.1.op.operands, Ev.operandOk X.G x = true) → ∀ {f : TFr} {H : TMem} {k : TFr → TMem → Option β}, opsT X call tr ops l k f H = some r →
    ∃ f' H', k f' H' = some r ∧ StepSim X (fun n fE E => Ev.drawA X.P (cf n) ops l fE E) f H f' H'
  | [], _, f, H, k, h => ⟨f, H, h, fun S E fE hr hg hf => ⟨S, fE, E, ⟨0, fun _ _ => rfl⟩, S.le_refl, hf, hr, St.refl _ _ _⟩⟩
  | q :: l, hok, f, H, k, h => by
    have h : stepLT X call tr ops q.2 q.1 f H (opsT X call tr ops l k) = some r := h
    obtain ⟨f1, H1, h1, h2⟩ := stepL_ok hcall (hok q (by simp)) h
    obtain ⟨f2, H2, h3, h4⟩ := ops_ok hcall l (fun q hq => hok q (by simp [hq])) h1
    refine ⟨f2, H2, h3, fun S E fE hr hg hf => ?_⟩
    obtain ⟨S1, fE1, E1, ⟨N1, a1⟩, a2, a3, a4, a5⟩ := h2 S E fE hr hg hf
    obtain ⟨S2, fE2, E2, ⟨N2, b1⟩, b2, b3, b4, b5⟩ := h4 S1 E1 fE1 a4 (hg.mono a2) a3
    refine ⟨S2, fE2, E2, ⟨max N1 N2, fun n hn => ?_⟩, Wo.le_trans a2 b2, b3, b4, a5.trans b5⟩
    have c1 := a1 n ⟨by omega, by omega⟩
    have c2 := b1 n ⟨by omega, by omega⟩
    simp only at c1 c2 ⊢
    show Option.rec (motive := fun _ => Option (Fr × Mem)) none (fun r => Ev.drawA X.P (cf n) ops l r.1 r.2) (Ev.stepL X.P (cf n) ops q.2 q.1 fE E) = _
    rw [c1]; exact c2

theorem draw_false {P : Program} {call : Ev.CallF} {ops : List Oper} : ∀ (l : List Oper) (f : Fr) (E : Mem), Ev.drawA P call ops (l.map fun o => (o, false)) f E = Ev.opsA P call ops l f E
  | [], f, E => rfl
  | o :: l, f, E => by
    show Option.rec (motive := fun _ => Option (Fr × Mem)) none (fun r => Ev.drawA P call ops (l.map fun o => (o, false)) r.1 r.2) (Ev.stepL P call ops false o f E) = Option.rec (motive := fun _ => Option (Fr × Mem)) none (fun r => Ev.opsA P call ops l r.1 r.2) (Ev.stepA P call ops o f E)
    have : Ev.stepL P call ops false o f E = Ev.stepA P call ops o f E := rfl
    rw [this]
    cases Ev.stepA P call ops o f E with
    | none => rfl
    | some r => exact draw_false l r.1 r.2

theorem region_ok {call : CallT β} (hcall : CallTOk X cf call) {tr : List Tmp} {ops : Array Oper} {draw : Bool} {f : TFr} {H : TMem} {k : TFr → TMem → Option β} (h : regionT X call tr ops draw f H k = some r) :
    ∃ f' H', k f' H' = some r ∧ Runs X true (fun n fE E => Ev.regionA X.P X.G (cf n) ops draw fE E) .normal f H f' H' := by
  unfold regionT at h
  rw [pick2_eq] at h
  split at h
  case isFalse => cases h
  rename_i hok
  have hops : ∀ o ∈ ops.toList, ∀ x ∈ o.op.operands, Ev.operandOk X.G x = true := fun o ho x hx => by
    have := List.all_eq_true.1 hok o ho
    exact List.all_eq_true.1 this x (by simpa using hx)
  have fin : ∀ (l : List (Oper × Bool)), (∀ q ∈ l, q.1 ∈ ops.toList) → opsT X call tr ops.toList l k f H = some r → (∀ n fE E, Ev.regionA X.P X.G (cf n) ops draw fE E = Ev.atEnd (Ev.drawA X.P (cf n) ops.toList l fE E)) →
      ∃ f' H', k f' H' = some r ∧ Runs X true (fun n fE E => Ev.regionA X.P X.G (cf n) ops draw fE E) .normal f H f' H' := by
    intro l hl hr heq
    obtain ⟨f', H', h1, h2⟩ := ops_ok hcall l (fun q hq => hops q.1 (hl q hq)) hr
    refine ⟨f', H', h1, fun S E fE hrel hg hf => ?_⟩
    obtain ⟨S', fE', E', ⟨N, a1⟩, a2, a3, a4, a5⟩ := h2 S E fE hrel hg hf
    refine ⟨S', fE', E', ⟨N, fun n hn => ?_⟩, a3, a4, a5.toC, fun _ => ⟨a2, a5⟩⟩
    have := a1 n hn
    simp only at this ⊢
    rw [heq, this]; rfl
  rw [pick2_eq] at h
  split at h
  · rename_i hd
    obtain ⟨l, hl, h1⟩ := orec_spec h
    refine fin l (plan_mem hl) h1 fun n fE E => ?_
    unfold Ev.regionA
    rw [hok, hd, hl]
  · rename_i hd
    refine fin _ (fun q hq => ?_) h fun n fE E => ?_
    · obtain ⟨o, ho, rfl⟩ := List.mem_map.1 hq; exact ho
    · unfold Ev.regionA
      have hd' : draw = false := by simpa using hd
      rw [hok, hd', draw_false]

end
end Go.Tv
