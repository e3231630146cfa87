/- Code and functions of the layer beside the evaluator's. -/
import Derived.Test.YtcafcgiemdlobaaDoorTvZ
namespace Go.Tv
open Go.Ev (Tr pick2 Leave Mem Blk alive pick2_eq alive_some opA Fr)

def Ann.freeB : Ann → Bool
  | .none => true
  | .node k a b => k.isNone && a.freeB && b.freeB

theorem Ann.free_keep {a : Ann} (h : a.freeB = true) : a.keep = Option.none := by
  cases a with
  | none => rfl
  | node k a b =>
    simp only [Ann.freeB, Bool.and_eq_true] at h
    show k = Option.none
    exact Option.isNone_iff_eq_none.1 h.1.1
theorem Ann.free_l {a : Ann} (h : a.freeB = true) : a.l.freeB = true := by
  cases a with
  | none => rfl
  | node k a b => simp only [Ann.freeB, Bool.and_eq_true] at h; exact h.1.2
theorem Ann.free_r {a : Ann} (h : a.freeB = true) : a.r.freeB = true := by
  cases a with
  | none => rfl
  | node k a b => simp only [Ann.freeB, Bool.and_eq_true] at h; exact h.2

section
variable {X : Cfg} {cf : Nat × Nat → Ev.CallF} {β : Type} {r : β} {nf : Bool}

/-- A change of what is known, on our side alone. -/
def Notes (nf : Bool) (f : TFr) (H : TMem) (f' : TFr) (H' : TMem) : Prop :=
  ∀ (S : Wo) (E : Mem) (fE : Fr), Rel S H E → RelF S f fE → ∃ S', RelF S' f' fE ∧ Rel S' H' E ∧ StC S H E S' H' E ∧ (nf = true → S.le S' ∧ St S H E S' H' E)

theorem at_ok {a : Ann} (hn : nf = true → a.keep = none) {f : TFr} {H : TMem} {k : TFr → TMem → Option β} (h : atT a f H k = some r) : ∃ f' H', k f' H' = some r ∧ Notes nf f H f' H' := by
  unfold atT at h
  split at h
  · exact ⟨f, H, h, fun S E fE hr hf => ⟨S, hf, hr, StC.refl _ _ _, fun _ => ⟨S.le_refl, St.refl _ _ _⟩⟩⟩
  · rename_i l hl
    obtain ⟨f', H', h1, h2⟩ := norm_ok h
    refine ⟨f', H', h1, fun S E fE hr hf => ?_⟩
    obtain ⟨S', a1, a2, a3⟩ := h2 S E fE hr hf
    exact ⟨S', a1, a2, a3, fun hnf => by rw [hn hnf] at hl; cases hl⟩

/-- Notes, then a run. -/
theorem Notes.then {α : Type} {run : Nat × Nat → Fr → Mem → Option (α × Fr × Mem)} {a : α} {f f1 f2 : TFr} {H H1 H2 : TMem} (h : Notes nf f H f1 H1) (k : Runs X nf run a f1 H1 f2 H2) : Runs X nf run a f H f2 H2 := by
  intro S E fE hr hg hf
  obtain ⟨S1, a1, a2, a3, a4⟩ := h S E fE hr hf
  obtain ⟨S2, fE2, E2, b1, b2, b3, b4, b5⟩ := k S1 E fE a2 (hg.mono' a3.F) a1
  exact ⟨S2, fE2, E2, b1, b2, b3, a3.trans b4, fun hnf => ⟨Wo.le_trans (a4 hnf).1 (b5 hnf).1, (a4 hnf).2.trans (b5 hnf).2⟩⟩

/-- A run, then another one. -/
theorem Runs.then {f f1 f2 : TFr} {H H1 H2 : TMem} {run1 run2 run : Nat × Nat → Fr → Mem → Option (Leave × Fr × Mem)} {lv lv' : Leave} (h : Runs X nf run1 lv f H f1 H1) (k : Runs X nf run2 lv' f1 H1 f2 H2)
    (hrun : ∃ N0, ∀ n fE E fE1 E1 fE2 E2, N0 ≤ n.1 → run1 n fE E = some (lv, fE1, E1) → run2 n fE1 E1 = some (lv', fE2, E2) → run n fE E = some (lv', fE2, E2)) : Runs X nf run lv' f H f2 H2 := by
  intro S E fE hr hg hf
  obtain ⟨N0, hrun⟩ := hrun
  obtain ⟨S1, fE1, E1, ⟨N1, a1⟩, a2, a3, a4, a5⟩ := h S E fE hr hg hf
  obtain ⟨S2, fE2, E2, ⟨N2, b1⟩, b2, b3, b4, b5⟩ := k S1 E1 fE1 a3 (hg.mono' a4.F) a2
  refine ⟨S2, fE2, E2, ⟨max N0 (max N1 N2), fun n hn => ?_⟩, b2, b3, a4.trans b4, fun hnf => ⟨Wo.le_trans (a5 hnf).1 (b5 hnf).1, (a5 hnf).2.trans (b5 hnf).2⟩⟩
  exact hrun n fE E fE1 E1 fE2 E2 (by omega) (a1 n ⟨by omega, by omega⟩) (b1 n ⟨by omega, by omega⟩)

theorem Runs.same {f f1 : TFr} {H H1 : TMem} {run1 run : Nat × Nat → Fr → Mem → Option (Leave × Fr × Mem)} {lv lv' : Leave} (h : Runs X nf run1 lv f H f1 H1)
    (hrun : ∃ N0, ∀ n fE E fE1 E1, N0 ≤ n.1 → run1 n fE E = some (lv, fE1, E1) → run n fE E = some (lv', fE1, E1)) : Runs X nf run lv' f H f1 H1 := by
  intro S E fE hr hg hf
  obtain ⟨N0, hrun⟩ := hrun
  obtain ⟨S1, fE1, E1, ⟨N1, a1⟩, a2⟩ := h S E fE hr hg hf
  exact ⟨S1, fE1, E1, ⟨max N0 N1, fun n hn => hrun n fE E fE1 E1 (by omega) (a1 n ⟨by omega, by omega⟩)⟩, a2⟩

theorem Runs.here {run : Nat × Nat → Fr → Mem → Option (Leave × Fr × Mem)} {lv : Leave} {f : TFr} {H : TMem} (h : ∀ n fE E, run n fE E = some (lv, fE, E)) : Runs X nf run lv f H f H :=
  fun S E fE hr hg hf => ⟨S, fE, E, ⟨0, fun n _ => h n fE E⟩, hf, hr, StC.refl _ _ _, fun _ => ⟨S.le_refl, St.refl _ _ _⟩⟩

/-- Code in its place: whatever follows. -/
def CodeTOk (X : Cfg) (nf : Bool) (β : Type) (g : TFr → TMem → KT β → Option β) (run : Nat × Nat → Fr → Mem → Option (Leave × Fr × Mem)) : Prop :=
  ∀ f H k (r : β), g f H k = some r → ∃ lv f' H', k lv f' H' = some r ∧ Runs X nf run lv f H f' H'

def JumpTOk (X : Cfg) (nf : Bool) {β : Type} (J : JumpT β) (JE : Nat × Nat → Ev.JumpF) : Prop :=
  ∀ c rest, CodeTOk X nf β (J c rest) (fun n fE E => JE n c rest fE E)

theorem seqK_spec {y : TFr → TMem → Option β} {k : KT β} {lv : Leave} {f : TFr} {H : TMem} (h : seqK y k lv f H = some r) : (lv = .normal ∧ y f H = some r) ∨ (lv ≠ .normal ∧ k lv f H = some r) := by
  unfold seqK at h
  split at h
  · exact .inl ⟨rfl, h⟩
  · exact .inr ⟨by simp, h⟩
  · exact .inr ⟨by simp, h⟩
  · exact .inr ⟨by simp, h⟩

theorem andThen_normal (fE : Fr) (E : Mem) (k : Fr → Mem → Ev.Out) : Ev.andThen (some (.normal, fE, E)) k = k fE E := rfl
theorem andThen_other {lv : Leave} (h : lv ≠ .normal) (fE : Fr) (E : Mem) (k : Fr → Mem → Ev.Out) : Ev.andThen (some (lv, fE, E)) k = some (lv, fE, E) := by
  cases lv <;> first | rfl | exact absurd rfl h

theorem loop_ok {a : Ann} (hn : nf = true → a.keep = none) {body : TFr → TMem → KT β → Option β} {bodyE : Nat × Nat → Fr → Mem → Option (Leave × Fr × Mem)} (hb : CodeTOk X nf β body bodyE) : ∀ (m d : Nat) (f : TFr) (H : TMem) (k : KT β), loopT a body k m f H = some r →
    ∃ lv f' H', k lv f' H' = some r ∧ Runs X nf (fun n fE E => Ev.loopA (bodyE n) (n.1 - d) fE E) lv f H f' H'
  | 0, d, f, H, k, h => by cases h
  | m + 1, d, f, H, k, h => by
    have h : body f H (seqK (fun f H => atT a f H (loopT a body k m)) k) = some r := h
    obtain ⟨lv, f2, H2, h3, h4⟩ := hb _ _ _ _ h
    have hstep : ∀ (q : Nat) (n : Nat × Nat) fE E, Ev.loopA (bodyE n) (q + 1) fE E = Ev.andThen (bodyE n fE E) (Ev.loopA (bodyE n) q) := fun q n fE E => rfl
    rcases seqK_spec h3 with ⟨rfl, h5⟩ | ⟨hne, h5⟩
    · obtain ⟨f1, H1, h1, h2⟩ := at_ok hn h5
      obtain ⟨lv', f3, H3, h6, h7⟩ := loop_ok hn hb m (d + 1) f1 H1 k h1
      refine ⟨lv', f3, H3, h6, h4.then (h2.then h7) ⟨d + 1, fun n fE E fE1 E1 fE2 E2 hn' e1 e2 => ?_⟩⟩
      have : n.1 - d = (n.1 - (d + 1)) + 1 := by omega
      rw [this, hstep, e1]; exact e2
    · refine ⟨lv, f2, H2, h5, h4.same ⟨d + 1, fun n fE E fE1 E1 hn' e1 => ?_⟩⟩
      have : n.1 - d = (n.1 - (d + 1)) + 1 := by omega
      rw [this, hstep, e1]; exact andThen_other hne _ _ _

theorem block_ok {id : Nat} {g : TFr → TMem → KT β → Option β} {run : Nat × Nat → Fr → Mem → Option (Leave × Fr × Mem)} (hg : CodeTOk X nf β g run) : CodeTOk X nf β (fun f H k => g f H (blockK id k)) (fun n fE E => Ev.leaveBlock id (run n fE E)) := by
  intro f H k r h
  obtain ⟨lv, f', H', h1, h2⟩ := hg _ _ _ _ h
  unfold blockK at h1
  split at h1
  · rename_i id'
    rw [pick2_eq] at h1
    split at h1
    · rename_i hid
      refine ⟨_, f', H', h1, h2.same ⟨0, fun n fE E fE1 E1 _ e1 => ?_⟩⟩
      rw [e1]; simp [Ev.leaveBlock, hid]
    · rename_i hid
      refine ⟨_, f', H', h1, h2.same ⟨0, fun n fE E fE1 E1 _ e1 => ?_⟩⟩
      rw [e1]
      have : Nat.beq id' id = false := by
        cases hb : Nat.beq id' id with
        | true => exact absurd hb hid
        | false => rfl
      simp [Ev.leaveBlock, this]
  · exact ⟨_, f', H', h1, h2.same ⟨0, fun n fE E fE1 E1 _ e1 => by rw [e1]; rfl⟩⟩
  · exact ⟨_, f', H', h1, h2.same ⟨0, fun n fE E fE1 E1 _ e1 => by rw [e1]; rfl⟩⟩
  · exact ⟨_, f', H', h1, h2.same ⟨0, fun n fE E fE1 E1 _ e1 => by rw [e1]; rfl⟩⟩

theorem scope_ok {c : Code} {J : JumpT β} {JE : Nat × Nat → Ev.JumpF} (hJ : JumpTOk X nf J JE) {g : TFr → TMem → KT β → Option β} {run : Nat × Nat → Fr → Mem → Option (Leave × Fr × Mem)} (hg : CodeTOk X nf β g run) : CodeTOk X nf β (fun f H k => g f H (scopeK c J k)) (fun n fE E => Ev.afterScope c (JE n) (run n fE E)) := by
  intro f H k r h
  obtain ⟨lv, f', H', h1, h2⟩ := hg _ _ _ _ h
  unfold scopeK at h1
  split at h1
  · rename_i l
    split at h1
    · rename_i rest hl
      obtain ⟨lv', f2, H2, h3, h4⟩ := hJ c rest _ _ _ _ h1
      refine ⟨lv', f2, H2, h3, h2.then h4 ⟨0, fun n fE E fE1 E1 fE2 E2 _ e1 e2 => ?_⟩⟩
      rw [e1]
      simp only [Ev.afterScope, hl]
      exact e2
    · rename_i hl
      exact ⟨_, f', H', h1, h2.same ⟨0, fun n fE E fE1 E1 _ e1 => by rw [e1]; simp only [Ev.afterScope, hl]⟩⟩
  · exact ⟨_, f', H', h1, h2.same ⟨0, fun n fE E fE1 E1 _ e1 => by rw [e1]; rfl⟩⟩
  · exact ⟨_, f', H', h1, h2.same ⟨0, fun n fE E fE1 E1 _ e1 => by rw [e1]; rfl⟩⟩
  · exact ⟨_, f', H', h1, h2.same ⟨0, fun n fE E fE1 E1 _ e1 => by rw [e1]; rfl⟩⟩

/-- Notes ahead of code. -/
theorem at_code {a : Ann} (hn : nf = true → a.keep = none) {g : TFr → TMem → KT β → Option β} {run : Nat × Nat → Fr → Mem → Option (Leave × Fr × Mem)} (hg : CodeTOk X nf β g run) : CodeTOk X nf β (fun f H k => atT a f H fun f H => g f H k) run := by
  intro f H k r h
  obtain ⟨f1, H1, h1, h2⟩ := at_ok hn h
  obtain ⟨lv, f2, H2, h3, h4⟩ := hg _ _ _ _ h1
  exact ⟨lv, f2, H2, h3, h2.then h4⟩

theorem code_ok {call : CallT β} (hcall : CallTOk X cf call) {tr : List Tmp} {J : JumpT β} {JE : Nat × Nat → Ev.JumpF} (hJ : JumpTOk X nf J JE) (rounds : Nat) (c : Code) : ∀ (a : Ann), (nf = true → a.freeB = true) → CodeTOk X nf β (codeT X call tr J rounds c a) (fun n fE E => Ev.codeA X.P X.G (cf n) (JE n) n.1 c fE E) := by
  induction c with
  | skip => intro a _ f H k r h; exact ⟨_, f, H, h, .here fun _ _ _ => rfl⟩
  | region id ops draw =>
    intro a hn
    refine at_code (g := fun f H k => regionT X call tr ops draw f H fun f H => k .normal f H) (fun h => Ann.free_keep (hn h)) fun f H k r h => ?_
    obtain ⟨f', H', h1, h2⟩ := region_ok hcall h
    refine ⟨_, f', H', h1, fun S E fE hr hg hf => ?_⟩
    obtain ⟨S', fE', E', a1, a2, a3, a4, a5⟩ := h2 S E fE hr hg hf
    exact ⟨S', fE', E', a1, a2, a3, a4, fun _ => a5 rfl⟩
  | seq x y ihx ihy =>
    intro a hn
    refine at_code (g := fun f H k => codeT X call tr J rounds x a.l f H (seqK (fun f H => codeT X call tr J rounds y a.r f H k) k)) (fun h => Ann.free_keep (hn h)) fun f H k r h => ?_
    obtain ⟨lv, f1, H1, h1, h2⟩ := ihx a.l (fun h => Ann.free_l (hn h)) _ _ _ _ h
    have hs : ∀ n fE E, Ev.codeA X.P X.G (cf n) (JE n) n.1 (.seq x y) fE E = Ev.andThen (Ev.codeA X.P X.G (cf n) (JE n) n.1 x fE E) (Ev.codeA X.P X.G (cf n) (JE n) n.1 y) := fun n fE E => rfl
    rcases seqK_spec h1 with ⟨rfl, h3⟩ | ⟨hne, h3⟩
    · obtain ⟨lv', f2, H2, h4, h5⟩ := ihy a.r (fun h => Ann.free_r (hn h)) _ _ _ _ h3
      exact ⟨lv', f2, H2, h4, h2.then h5 ⟨0, fun n fE E fE1 E1 fE2 E2 _ e1 e2 => by rw [hs, e1]; exact e2⟩⟩
    · exact ⟨lv, f1, H1, h3, h2.same ⟨0, fun n fE E fE1 E1 _ e1 => by rw [hs, e1]; exact andThen_other hne _ _ _⟩⟩
  | cond c x y ihx ihy =>
    intro a hn
    refine at_code (g := fun f H k => pick2 (Ev.operandOk X.G c) (match f.eval X c with
      | .bool b => pick2 b (codeT X call tr J rounds x a.l f H k) (codeT X call tr J rounds y a.r f H k)
      | _ => none) none) (fun h => Ann.free_keep (hn h)) fun f H k r h => ?_
    simp only at h
    rw [pick2_eq] at h
    split at h
    case isFalse => cases h
    rename_i hok
    split at h
    · rename_i b hb
      have hs : ∀ n fE E, Ev.codeA X.P X.G (cf n) (JE n) n.1 (.cond c x y) fE E = pick2 (Ev.operandOk X.G c) (Ev.condA (fE.eval c) (Ev.codeA X.P X.G (cf n) (JE n) n.1 x) (Ev.codeA X.P X.G (cf n) (JE n) n.1 y) fE E) none := fun n fE E => rfl
      have both : ∃ lv f' H', k lv f' H' = some r ∧ Runs X nf (fun n fE E => pick2 b (Ev.codeA X.P X.G (cf n) (JE n) n.1 x fE E) (Ev.codeA X.P X.G (cf n) (JE n) n.1 y fE E)) lv f H f' H' := by
        cases b with
        | true => exact ihx a.l (fun h => Ann.free_l (hn h)) _ _ _ _ h
        | false => exact ihy a.r (fun h => Ann.free_r (hn h)) _ _ _ _ h
      obtain ⟨lv, f', H', h1, h2⟩ := both
      refine ⟨lv, f', H', h1, fun S E fE hr hg hf => ?_⟩
      obtain ⟨S', fE', E', ⟨N, a1⟩, a2⟩ := h2 S E fE hr hg hf
      refine ⟨S', fE', E', ⟨N, fun n hn' => ?_⟩, a2⟩
      have hv := eval_sim hf hg hok
      rw [hb] at hv
      have a1 := a1 n hn'
      simp only at a1 ⊢
      rw [hs, hok, hv.bool_inv]
      exact a1
    · cases h
  | block id b ih =>
    intro a hn
    exact at_code (g := fun f H k => codeT X call tr J rounds b a.l f H (blockK id k)) (fun h => Ann.free_keep (hn h)) (block_ok (ih a.l fun h => Ann.free_l (hn h)))
  | loop b ih =>
    intro a hn f H k r h
    obtain ⟨f1, H1, h1, h2⟩ := at_ok (fun h => Ann.free_keep (hn h)) h
    obtain ⟨lv, f', H', h3, h4⟩ := loop_ok (fun h => Ann.free_keep (hn h)) (ih a.l fun h => Ann.free_l (hn h)) rounds 0 f1 H1 k h1
    exact ⟨lv, f', H', h3, h2.then h4⟩
  | rangeFunc f params assign body _ _ => intro a _ f H k r h; cases h
  | exit id => intro a _ f H k r h; exact ⟨_, f, H, h, .here fun _ _ _ => rfl⟩
  | scope b ih =>
    intro a hn
    exact at_code (g := fun f H k => codeT X call tr J rounds b a.l f H (scopeK b J k)) (fun h => Ann.free_keep (hn h)) (scope_ok hJ (ih a.l fun h => Ann.free_l (hn h)))
  | label l => intro a _ f H k r h; exact ⟨_, f, H, h, .here fun _ _ _ => rfl⟩
  | goto l => intro a _ f H k r h; exact ⟨_, f, H, h, .here fun _ _ _ => rfl⟩
  | ret => intro a _ f H k r h; exact ⟨_, f, H, h, .here fun _ _ _ => rfl⟩
  | refuse w => intro a _ f H k r h; cases h

theorem jump_at {ja : Ann} (hn : nf = true → ja.keep = none) {J : JumpT β} {JE : Nat × Nat → Ev.JumpF} (hJ : JumpTOk X nf J JE) : JumpTOk X nf (fun c rest f H k => atT ja f H fun f H => J c rest f H k) JE :=
  fun c rest => at_code (g := J c rest) hn (hJ c rest)

theorem jumpsR_ok {call : CallT β} (hcall : CallTOk X cf call) {tr : List Tmp} {ja : Ann} (hn : nf = true → ja.freeB = true) (rounds : Nat) : ∀ (m d : Nat), JumpTOk X nf (jumpsR X call tr ja rounds m) (fun n => Ev.jumpsA X.P X.G (cf n) n.1 (n.1 - d))
  | 0, d => fun c rest f H k r h => by cases h
  | m + 1, d => fun c rest => by
    have ih := jump_at (fun h => Ann.free_keep (hn h)) (jumpsR_ok (tr := tr) hcall hn rounds m (d + 1))
    have key := scope_ok (c := c) ih (code_ok (tr := tr) hcall ih rounds rest ja.l fun h => Ann.free_l (hn h))
    intro f H k r h
    obtain ⟨lv, f', H', h1, h2⟩ := key f H k r h
    refine ⟨lv, f', H', h1, h2.same ⟨d + 1, fun n fE E fE1 E1 hn' e1 => ?_⟩⟩
    have : n.1 - d = (n.1 - (d + 1)) + 1 := by omega
    show Ev.jumpsA X.P X.G (cf n) n.1 (n.1 - d) c rest fE E = _
    rw [this]; exact e1

theorem jumps_ok {call : CallT β} (hcall : CallTOk X cf call) {tr : List Tmp} {ja : Ann} (hn : nf = true → ja.freeB = true) (rounds : Nat) (m d : Nat) : JumpTOk X nf (jumpsT X call tr ja rounds m) (fun n => Ev.jumpsA X.P X.G (cf n) n.1 (n.1 - d)) :=
  jump_at (fun h => Ann.free_keep (hn h)) (jumpsR_ok hcall hn rounds m d)

theorem result_ok {H : TMem} {f : TFr} {rv : ResultVar} {k : AV → Option β} (h : resultT X H f rv k = some r) : ∃ v, k v = some r ∧ ∀ S E fE, Rel S H E → RelF S f fE → ∃ x, Ev.resultA X.P E fE rv = some x ∧ VR S v x := by
  unfold resultT at h
  split at h
  · rename_i t; exact ⟨_, h, fun S E fE hr hf => ⟨fE.get t, rfl, hf.v t⟩⟩
  · rename_i x t
    obtain ⟨v, h1, h2⟩ := load_val h
    exact ⟨v, h1, fun S E fE hr hf => h2 S E _ hr (hf.v x)⟩

theorem results_ok {H : TMem} {f : TFr} : ∀ {l : List ResultVar} {k : List AV → Option β}, resultsT X H f k l = some r → ∃ vs, k vs = some r ∧ ∀ S E fE, Rel S H E → RelF S f fE → ∃ xs, Ev.resultsA X.P E fE l = some xs ∧ LV S vs xs
  | [], k, h => ⟨[], h, fun S E fE hr hf => ⟨[], rfl, LV.nil⟩⟩
  | rv :: l, k, h => by
    obtain ⟨v, h1, h2⟩ := result_ok h
    obtain ⟨vs, h3, h4⟩ := results_ok h1
    refine ⟨v :: vs, h3, fun S E fE hr hf => ?_⟩
    obtain ⟨x, e1, e2⟩ := h2 S E fE hr hf
    obtain ⟨xs, e3, e4⟩ := h4 S E fE hr hf
    exact ⟨x :: xs, by simp only [Ev.resultsA, e1, e3], LV.cons e2 e4⟩

theorem one_ok {S : Wo} {vs : List AV} {xs : List Value} (h : LV S vs xs) : VR S (oneT vs) (Ev.oneA xs) := by
  match vs, xs, h with
  | [], xs, h => rw [h.nil_inv]; exact .tup [] [] rfl (fun j x y hx => by simp at hx)
  | [v], xs, h =>
    obtain ⟨x, m, rfl, h1, h2⟩ := h.cons_inv
    rw [h2.nil_inv]; exact h1
  | v :: w :: vs, xs, h =>
    obtain ⟨x, m, rfl, h1, h2⟩ := h.cons_inv
    obtain ⟨y, m', rfl, h3, h4⟩ := h2.cons_inv
    exact .tup _ _ h.1 h.2

theorem fill_total : ∀ (l : List Value) (f : Fr) (i : Nat), ∃ f', f.fill i l = some f'
  | [], f, i => ⟨f, rfl⟩
  | v :: l, f, i => by
    obtain ⟨f1, h1⟩ := Fr.put_total f (some i) v
    obtain ⟨f2, h2⟩ := fill_total l f1 (i + 1)
    exact ⟨f2, by simp only [Ev.Fr.fill, h1, h2]⟩

theorem fillF_ok {S : Wo} : ∀ {vs : List AV} {xs : List Value} {f : TFr} {fE fE' : Fr} {i : Nat}, RelF S f fE → LV S vs xs → fE.fill i xs = some fE' → RelF S (f.fill i vs) fE'
  | [], xs, f, fE, fE', i, hf, hl, h => by
    rw [hl.nil_inv] at h; cases h; exact hf
  | v :: vs, xs, f, fE, fE', i, hf, hl, h => by
    obtain ⟨x, m, rfl, h1, h2⟩ := hl.cons_inv
    simp only [Ev.Fr.fill] at h
    split at h
    · rename_i f1 hp
      exact fillF_ok (f := f.put (some i) v) (hf.put h1 hp) h2 h
    · cases h

/-- A function, entered. -/
theorem enter_ok {call : CallT β} (hcall : CallTOk X cf call) {an : FnAnn} (hn : nf = true → an.ann.freeB = true ∧ an.ja.freeB = true) {rounds : Nat} {id : FuncId} {args : List AV} {H : TMem} {k : AV → TMem → Option β} (h : enterT X call an rounds id args H k = some r) :
    ∃ v H', k v H' = some r ∧ ∀ (S : Wo) (E : Mem) (argsE : List Value), Rel S H E → GlobOk X S → LV S args argsE →
      ∃ S' vE E', (∃ N, ∀ n : Nat × Nat, N ≤ n.1 ∧ N ≤ n.2 → Ev.enterA X.P X.G (cf n) n.1 id argsE E = some (vE, E')) ∧ VR S' v vE ∧ Rel S' H' E' ∧ StC S H E S' H' E' ∧ (nf = true → S.le S' ∧ St S H E S' H' E') := by
  unfold enterT at h
  split at h
  case h_2 => cases h
  rename_i fn hfn
  split at h
  case h_2 => cases h
  rename_i c hc
  rw [pick2_eq] at h
  split at h
  case isFalse => cases h
  rename_i hlen
  have hJ := jumps_ok (tr := an.tr) hcall (fun h => (hn h).2) rounds rounds 0
  obtain ⟨lv, f', H', h1, h2⟩ := code_ok (tr := an.tr) hcall hJ rounds c an.ann (fun h => (hn h).1) _ _ _ _ h
  have fin : (lv = .normal ∨ lv = .ret) → resultsT X H' f' (fun vs => k (oneT vs) H') fn.results.toList = some r → ∃ v H', k v H' = some r ∧ ∀ (S : Wo) (E : Mem) (argsE : List Value), Rel S H E → GlobOk X S → LV S args argsE →
      ∃ S' vE E', (∃ N, ∀ n : Nat × Nat, N ≤ n.1 ∧ N ≤ n.2 → Ev.enterA X.P X.G (cf n) n.1 id argsE E = some (vE, E')) ∧ VR S' v vE ∧ Rel S' H' E' ∧ StC S H E S' H' E' ∧ (nf = true → S.le S' ∧ St S H E S' H' E') := fun hlv hres => by
    obtain ⟨vs, h3, h4⟩ := results_ok hres
    refine ⟨oneT vs, H', h3, fun S E argsE hr hg hl => ?_⟩
    obtain ⟨f0, hf0⟩ := fill_total argsE (Fr.mk fn.ntmps (Tr.full (Ev.depthOf fn.ntmps))) 0
    have hrel0 : RelF S (TFr.mk fn.ntmps .e) (Fr.mk fn.ntmps (Tr.full (Ev.depthOf fn.ntmps))) := ⟨rfl, fun i => .unk _⟩
    obtain ⟨S', fE', E', ⟨N, a1⟩, a2, a3, a4, a5⟩ := h2 S E f0 hr hg (fillF_ok hrel0 hl hf0)
    obtain ⟨xs, e1, e2⟩ := h4 S' E' fE' a3 a2
    refine ⟨S', Ev.oneA xs, E', ⟨N, fun n hn' => ?_⟩, one_ok e2, a3, a4, a5⟩
    unfold Ev.enterA
    have a1 := a1 n hn'
    simp only [Nat.sub_zero] at a1
    simp only [hfn, hc, hf0]
    have hlen' : Nat.ble argsE.length fn.ntmps = true := by rw [← hl.1]; exact hlen
    rw [hlen', a1]
    rcases hlv with rfl | rfl
    · show Ev.withMem E' ((Ev.resultsA X.P E' fE' fn.results.toList).map Ev.oneA) = _
      rw [e1]; rfl
    · show Ev.withMem E' ((Ev.resultsA X.P E' fE' fn.results.toList).map Ev.oneA) = _
      rw [e1]; rfl
  unfold returnK at h1
  split at h1
  · exact fin (.inl rfl) h1
  · exact fin (.inr rfl) h1
  · cases h1

/-- The evaluator's calls, by how many rounds and how deep. -/
noncomputable def cfOf (X : Cfg) (kn : Ev.Known) : Nat × Nat → Ev.CallF := fun n => Ev.callA X.P X.G kn n.1 n.2

theorem call_of_enter {kn : Ev.Known} {id : FuncId} (hk : ∀ args, kn id args = none) {argsE : List Value} {E E' : Mem} {vE : Value} (h : ∃ N, ∀ n : Nat × Nat, N ≤ n.1 ∧ N ≤ n.2 → Ev.enterA X.P X.G (cfOf X kn n) n.1 id argsE E = some (vE, E')) : ∃ N, ∀ n : Nat × Nat, N ≤ n.1 ∧ N ≤ n.2 → cfOf X kn n id argsE E = some (vE, E') := by
  obtain ⟨N, h⟩ := h
  refine ⟨N + 1, fun n hn => ?_⟩
  obtain ⟨R, D⟩ := n
  obtain ⟨D', rfl⟩ : ∃ D', D = D' + 1 := ⟨D - 1, by have := hn.2; simp only at this; omega⟩
  have := h (R, D') ⟨by have := hn.1; simp only at this ⊢; omega, by have := hn.2; simp only at this ⊢; omega⟩
  show Ev.callA X.P X.G kn R (D' + 1) id argsE E = _
  rw [Ev.callA_succ, hk]
  exact this

/-- **A CONTRACT OUT OF A RUN** (without notes). -/
theorem csim_of {kn : Ev.Known} {id : FuncId} (hk : ∀ args, kn id args = none) {call : ∀ β, CallT β} (hcall : ∀ β, CallTOk X (cfOf X kn) (call β)) {an : FnAnn} (hn : an.ann.freeB = true ∧ an.ja.freeB = true) {rounds : Nat} {args : List AV} {H H' : TMem} {v : AV}
    (h : enterT X (call (AV × TMem)) an rounds id args H (fun v H => some (v, H)) = some (v, H')) : CSim X (cfOf X kn) id args H v H' := by
  obtain ⟨v', H1, h1, h2⟩ := enter_ok (nf := true) (hcall _) (fun _ => hn) h
  cases h1
  intro S E argsE hr hg hl
  obtain ⟨S', vE, E', a1, a2, a3, a4, a5⟩ := h2 S E argsE hr hg hl
  exact ⟨S', vE, E', call_of_enter hk a1, (a5 rfl).1, a2, a3, (a5 rfl).2⟩

end
end Go.Tv
