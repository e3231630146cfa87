/- Steps, regions and code of the layer beside the evaluator's. -/
import Derived.Test.YtcafcgiemdlobaaDoorTvW
namespace Go.Tv
open Go.Ev (Tr pick2 Leave Mem Blk alive pick2_eq alive_some opA Fr)

structure RelF (S : Wo) (f : TFr) (fE : Fr) : Prop where
  n : f.n = fE.n
  v : ∀ i, VR S (f.get i) (fE.get i)

theorem RelF.mono {S S' : Wo} {f : TFr} {fE : Fr} (h : RelF S f fE) (hle : S.le S') : RelF S' f fE := ⟨h.n, fun i => (h.v i).mono hle⟩

theorem TFr.put_get (f : TFr) (d : Tmp) (v : AV) : (f.put (some d) v).n = f.n ∧ ∀ i, (f.put (some d) v).get i = if i = d ∧ d < f.n then v else f.get i := by
  have e : f.put (some d) v = pick2 (Nat.ble (Nat.succ d) f.n) (Option.rec (motive := fun _ => TFr) f (fun t => ⟨f.n, t⟩) (f.t.set d v)) f := rfl
  rw [e, pick2_eq, Ev.ble_succ]
  simp only [decide_eq_true_eq]
  by_cases hd : d < f.n
  · rw [if_pos hd]
    obtain ⟨t', ht⟩ := Tr.set_total v f.t d
    rw [ht]
    refine ⟨rfl, fun i => ?_⟩
    show (Option.rec (motive := fun _ => AV) .unk (fun v => v) (t'.get i)) = _
    rw [Tr.get_set ht]
    by_cases hi : i = d
    · rw [if_pos hi, if_pos ⟨hi, hd⟩]
    · rw [if_neg hi, if_neg (fun h => hi h.1)]; rfl
  · rw [if_neg hd]
    exact ⟨rfl, fun i => by rw [if_neg (fun h => hd h.2)]⟩

theorem Fr.put_total (f : Fr) (dst : Option Tmp) (v : Value) : ∃ f', f.put dst v = some f' := by
  cases dst with
  | none => exact ⟨f, rfl⟩
  | some d =>
    have e : f.put (some d) v = pick2 (Nat.ble (Nat.succ d) f.n) (Option.rec (motive := fun _ => Option Fr) none (fun t => some ⟨f.n, t⟩) (f.t.set d v)) (some f) := rfl
    rw [e, pick2_eq]
    split
    · obtain ⟨t', ht⟩ := Tr.set_total v f.t d
      rw [ht]; exact ⟨_, rfl⟩
    · exact ⟨_, rfl⟩

theorem RelF.put {S : Wo} {f : TFr} {fE fE' : Fr} (h : RelF S f fE) {dst : Option Tmp} {v : AV} {x : Value} (hv : VR S v x) (hp : fE.put dst x = some fE') : RelF S (f.put dst v) fE' := by
  obtain ⟨e1, e2⟩ := Ev.Fr.put_spec hp
  cases dst with
  | none => exact ⟨h.n.trans e1.symm, fun i => by rw [e2, if_neg (by simp)]; exact h.v i⟩
  | some d =>
    obtain ⟨g1, g2⟩ := TFr.put_get f d v
    refine ⟨by rw [g1, e1, h.n], fun i => ?_⟩
    rw [g2, e2]
    by_cases hi : i = d ∧ d < f.n
    · obtain ⟨rfl, hd⟩ := hi
      rw [if_pos ⟨rfl, hd⟩, if_pos ⟨rfl, by rw [← h.n]; exact hd⟩]; exact hv
    · rw [if_neg hi, if_neg (fun hh => hi ⟨by have := hh.1; simp at this; exact this.symm, by have := hh.1; simp at this; subst this; rw [h.n]; exact hh.2⟩)]
      exact h.v i

/-- What is known of a slot may be said. -/
theorem RelF.know {S : Wo} {f : TFr} {fE : Fr} (h : RelF S f fE) {d : Tmp} {v : AV} (hv : VR S v (fE.get d)) : RelF S (f.put (some d) v) fE := by
  obtain ⟨g1, g2⟩ := TFr.put_get f d v
  refine ⟨by rw [g1, h.n], fun i => ?_⟩
  rw [g2]
  by_cases hi : i = d ∧ d < f.n
  · obtain ⟨rfl, _⟩ := hi; rw [if_pos ⟨rfl, by assumption⟩]; exact hv
  · rw [if_neg hi]; exact h.v i

theorem ofV_VR {S : Wo} {v : Value} (h : Ev.addrFree v = true) : VR S (ofV v) v := by
  unfold ofV
  split
  · rename_i cs
    have hc := cells_free h
    have e : Value.agg cs = .agg (cs.toList).toArray := by simp
    rw [e]
    have := LV.map (S := S) (f := ofC) (g := fun v => v) cs.toList fun v hv => ofC_VR (hc v (by simpa [Value.cells] using hv))
    rw [List.map_id''] at this
    · exact .agg _ _ this.1 this.2
    · intro x; rfl
  · exact ofC_VR h

theorem eval_sim {X : Cfg} {S : Wo} {f : TFr} {fE : Fr} (h : RelF S f fE) (hg : GlobOk X S) {x : Operand} (hx : Ev.operandOk X.G x = true) : VR S (f.eval X x) (fE.eval x) := by
  cases x with
  | tmp t => exact h.v t
  | const v => exact ofV_VR hx
  | global g =>
    have hlt : g < X.G := by simpa [Ev.operandOk, Nat.blt_eq] using hx
    show VR S (unkOr (X.gv g)) _
    have hg := hg g hlt
    revert hg
    generalize X.gv g = gs
    intro hg
    cases gs with
    | nil => exact .unk _
    | cons c l =>
      obtain ⟨cs, h1, h2⟩ := hg (by simp)
      have h2 := h2 S fun _ _ h => h
      exact .fpt (c :: l) g [] cs [] (by simpa using h1) h2.1 h2.2
  | func f => exact .fn f [] [] [] [] rfl rfl (fun j x y hx => by simp at hx) (fun j x y hx => by simp at hx)

section
variable {X : Cfg} {cf : Nat × Nat → Ev.CallF} {β : Type} {r : β}

/-- A step, on both sides. -/
def StepSim (X : Cfg) (run : Nat × Nat → Fr → Mem → Option (Fr × Mem)) (f : TFr) (H : TMem) (f' : TFr) (H' : TMem) : Prop :=
  ∀ (S : Wo) (E : Mem) (fE : Fr), Rel S H E → GlobOk X S → RelF S f fE →
    ∃ S' fE' E', (∃ N, ∀ n : Nat × Nat, N ≤ n.1 ∧ N ≤ n.2 → run n fE E = some (fE', E')) ∧ S.le S' ∧ RelF S' f' fE' ∧ Rel S' H' E' ∧ St S H E S' H' E'

theorem step_ok {call : CallT β} (hcall : CallTOk X cf call) {tr : List Tmp} {ops : List Oper} {o : Oper} (hok : ∀ x ∈ o.op.operands, Ev.operandOk X.G x = true) {f : TFr} {H : TMem} {k : TFr → TMem → Option β} (h : stepT X call tr ops o f H k = some r) :
    ∃ f' H', k f' H' = some r ∧ StepSim X (fun n fE E => Ev.stepA X.P (cf n) ops o fE E) f H f' H' := by
  -- the operation is done
  have run : ∀ (f1 : TFr) (k1 : AV → TMem → Option β), opT X call tr (f1.eval X) o H k1 = some r → ∃ v H', k1 v H' = some r ∧ ∀ (S : Wo) (E : Mem) (fE : Fr), Rel S H E → GlobOk X S → RelF S f1 fE → Ev.wantedA o ops fE = true →
      ∃ S' fE' E', (∃ N, ∀ n : Nat × Nat, N ≤ n.1 ∧ N ≤ n.2 → Ev.stepA X.P (cf n) ops o fE E = some (fE', E')) ∧ S.le S' ∧ RelF S' (f1.put o.dst v) fE' ∧ Rel S' H' E' ∧ St S H E S' H' E' := by
    intro f1 k1 h1
    obtain ⟨v, H', e1, e2⟩ := opT_ok hcall h1
    refine ⟨v, H', e1, fun S E fE hr hg hf hw => ?_⟩
    obtain ⟨S', vE, E', ⟨N, k1⟩, k2, k3, k4, k5⟩ := e2 S E fE.eval hr hg fun x hx => eval_sim hf hg (hok x hx)
    obtain ⟨fE', hp⟩ := Fr.put_total fE o.dst vE
    refine ⟨S', fE', E', ⟨N, fun n hn => ?_⟩, k2, (hf.mono k2).put k3 hp, k4, k5⟩
    unfold Ev.stepA
    rw [hw, k1 n hn]
    show Ev.putA fE o.dst (some (vE, E')) = _
    simp only [Ev.putA, hp]
  -- it is not
  have skip : ∀ (f1 : TFr) (S : Wo) (E : Mem) (fE : Fr), Rel S H E → RelF S f1 fE → Ev.wantedA o ops fE = false →
      ∃ S' fE' E', (∃ N, ∀ n : Nat × Nat, N ≤ n.1 ∧ N ≤ n.2 → Ev.stepA X.P (cf n) ops o fE E = some (fE', E')) ∧ S.le S' ∧ RelF S' (f1.put o.dst (.tup [])) fE' ∧ Rel S' H E' ∧ St S H E S' H E' := by
    intro f1 S E fE hr hf hw
    obtain ⟨fE', hp⟩ := Fr.put_total fE o.dst undef
    refine ⟨S, fE', E, ⟨0, fun n _ => ?_⟩, S.le_refl, hf.put (.tup [] [] rfl fun j x y hx => by simp at hx) hp, hr, St.refl _ _ _⟩
    unfold Ev.stepA
    rw [hw]
    show Ev.putA fE o.dst (some (undef, E)) = _
    simp only [Ev.putA, hp]
  unfold stepT at h
  split at h
  · rename_i hgd
    obtain ⟨v, H', h1, h2⟩ := run f _ h
    exact ⟨_, H', h1, fun S E fE hr hg hf => h2 S E fE hr hg hf (by simp [Ev.wantedA, hgd])⟩
  · rename_i j want hgd
    split at h
    · rename_i d hd
      split at h
      · rename_i b hb
        have hslot : ∃ oj, ops[j]? = some oj ∧ oj.dst = some d := by
          unfold slotOf at hd
          split at hd
          · rename_i oj hoj; exact ⟨oj, hoj, hd⟩
          · cases hd
        obtain ⟨oj, hoj, hdj⟩ := hslot
        have hwant : ∀ S fE, RelF S f fE → Ev.wantedA o ops fE = pick2 b want (!want) ∧ fE.get d = .bool b := fun S fE hf => by
          have h1 := hf.v d
          rw [hb] at h1
          have h2 := h1.bool_inv
          refine ⟨?_, h2⟩
          unfold Ev.wantedA Ev.yieldedA
          simp only [hgd, hoj, hdj, h2]
        have known : ∀ S fE, RelF S f fE → RelF S (f.put (some d) (.bool b)) fE := fun S fE hf => hf.know (by rw [(hwant S fE hf).2]; exact .bool b)
        cases b with
        | true =>
          cases want with
          | true =>
            have h : opT X call tr ((f.put (some d) (.bool true)).eval X) o H (fun v H' => k ((f.put (some d) (.bool true)).put o.dst v) H') = some r := h
            obtain ⟨v, H', h1, h2⟩ := run _ _ h
            exact ⟨_, H', h1, fun S E fE hr hg hf => h2 S E fE hr hg (known S fE hf) (hwant S fE hf).1⟩
          | false => exact ⟨_, H, h, fun S E fE hr hg hf => skip _ S E fE hr (known S fE hf) (hwant S fE hf).1⟩
        | false =>
          cases want with
          | true => exact ⟨_, H, h, fun S E fE hr hg hf => skip _ S E fE hr (known S fE hf) (by rw [(hwant S fE hf).1]; rfl)⟩
          | false =>
            have h : opT X call tr ((f.put (some d) (.bool false)).eval X) o H (fun v H' => k ((f.put (some d) (.bool false)).put o.dst v) H') = some r := h
            obtain ⟨v, H', h1, h2⟩ := run _ _ h
            exact ⟨_, H', h1, fun S E fE hr hg hf => h2 S E fE hr hg (known S fE hf) (by rw [(hwant S fE hf).1]; rfl)⟩
      · rename_i l hl
        refine ⟨_, H, h, fun S E fE hr hg hf => skip _ S E fE hr hf ?_⟩
        have hoj : ∃ oj, ops[j]? = some oj ∧ oj.dst = some d := by
          unfold slotOf at hd
          split at hd
          · rename_i oj hoj; exact ⟨oj, hoj, hd⟩
          · cases hd
        obtain ⟨oj, hoj, hdj⟩ := hoj
        have h1 := hf.v d
        rw [hl] at h1
        obtain ⟨m, hm⟩ : ∃ m, fE.get d = .tuple m := by
          generalize fE.get d = x at h1 ⊢
          cases h1; exact ⟨_, rfl⟩
        unfold Ev.wantedA Ev.yieldedA
        simp only [hgd, hoj, hdj, hm]
      · cases h
    · cases h

theorem stepL_ok {call : CallT β} (hcall : CallTOk X cf call) {tr : List Tmp} {ops : List Oper} {o : Oper} (hok : ∀ x ∈ o.op.operands, Ev.operandOk X.G x = true) {lk : Bool} {f : TFr} {H : TMem} {k : TFr → TMem → Option β} (h : stepLT X call tr ops lk o f H k = some r) :
    ∃ f' H', k f' H' = some r ∧ StepSim X (fun n fE E => Ev.stepL X.P (cf n) ops lk o fE E) f H f' H' := by
  unfold stepLT at h
  cases lk with
  | false => exact step_ok hcall hok h
  | true =>
    have h : stepT X call tr ops o f { H with lk := H.next } (fun f' H' => k f' { H' with lk := H.lk }) = some r := h
    obtain ⟨f', H', h1, h2⟩ := step_ok hcall hok h
    refine ⟨f', { H' with lk := H.lk }, h1, fun S E fE hr hg hf => ?_⟩
    have gH : ∀ (M : TMem) n j, ({ M with lk := n } : TMem).get j = M.get j := fun M n j => rfl
    have gE : ∀ (M : Mem) n j, ({ M with lk := n } : Mem).get j = M.get j := fun M n j => rfl
    have aE : ∀ (M : Mem) n j, alive ({ M with lk := n } : Mem) j = alive M j := fun M n j => rfl
    have rowE : ∀ S (M : Mem) n id r, RowAt S ({ M with lk := n } : Mem) id r ↔ RowAt S M id r := fun S M n id r => by cases r <;> exact Iff.rfl
    have hr1 : Rel S { H with lk := H.next } { E with lk := E.size } :=
      ⟨hr.fz, hr.dom, hr.gam, fun id q hq => (rowE _ _ _ _ _).2 (hr.row id q hq), hr.inj, hr.sep, fun id q x hq hl _ => absurd (TMem.get_lt hq) (by have hl' : H.next ≤ id := hl; show ¬ id < H.next; omega), Nat.le_refl _, hr.psz, Nat.le_refl _⟩
    obtain ⟨S', fE', E', ⟨N, k1⟩, k2, k3, k4, k5⟩ := h2 S { E with lk := E.size } fE hr1 hg hf
    refine ⟨S', fE', { E' with lk := E.lk }, ⟨N, fun n hn => ?_⟩, k2, k3, ?_, ?_⟩
    · show (match Ev.stepA X.P (cf n) ops o fE { E with lk := E.size } with | some (f', H') => some (f', { H' with lk := E.lk }) | none => none) = _
      have := k1 n hn
      simp only at this
      rw [this]
    · refine ⟨k4.fz, k4.dom, k4.gam, fun id q hq => (rowE _ _ _ _ _).2 (k4.row id q hq), k4.inj, k4.sep, fun id q x hq hl hx => ?_, ?_, ?_, ?_⟩
      · show E.lk ≤ x.1
        by_cases hid : id < H.next
        · have hlive : H.get id ≠ none := k5.live id hid (by
            have : H'.get id = some q := hq
            rw [this]; simp)
          cases hq0 : H.get id with
          | none => exact absurd hq0 hlive
          | some q0 =>
            cases hx0 : S.ρ id with
            | none =>
              rw [k5.rn id hid hx0] at hx; cases hx
            | some x0 =>
              have e := k2.ρ id x0 hx0
              rw [hx] at e
              have e := Option.some.inj e
              subst e
              exact hr.lk id q0 x hq0 hl hx0
        · have := k4.lk id q x hq (by rw [k5.tlk]; show H.next ≤ id; omega) hx
          have h5 := k5.lk
          have : E.size ≤ x.1 := by rw [h5] at this; exact this
          have := hr.esz; omega
      · show H.lk ≤ H'.next
        have := k5.nx; have := hr.lsz
        have : H.next ≤ H'.next := k5.nx
        omega
      · exact k4.psz
      · show E.lk ≤ E'.size
        have := k5.sz; have := hr.esz
        have : E.size ≤ E'.size := k5.sz
        omega
    · exact ⟨k5.sz, rfl, rfl, k5.tpar, k5.F, k5.own, k5.frz, k5.keep, k5.par, k5.nx, k5.live, k5.rn⟩

end
end Go.Tv
