/- The evaluator's steps, over slots as the machine has them. -/
import Derived.Test.YtcafcgiemdlobaaDoorEvU
import Derived.Tactics
namespace Go.Ev
open Go.RowKit

section
variable {P : Program} {call : CallF} {ops : Array Oper}

/-- What a call answers is what the machine's call answers. -/
def CallOk (P : Program) (G : Nat) (call : CallF) : Prop :=
  ∀ f args H v H', call f args H = some (v, H') → ∀ (c : Cx), c.P = P → c.G = G → ∀ ρ w args', Emb c ρ H w → LR (VRel ρ) args args' →
    Calls P f args'.toArray w fun e w' => ∃ ρ' v', e = .returned v' ∧ ρ.le ρ' ∧ VRel ρ' v v' ∧ Emb c ρ' H' w'

/-- Rows that are only read stay as they are, and none goes. -/
def Keeps (H H' : Mem) : Prop := H.size ≤ H'.size ∧ H'.lk = H.lk ∧ ∀ i, i < H.lk → i < H.size → H'.get i = H.get i

theorem Keeps.refl (H : Mem) : Keeps H H := ⟨Nat.le_refl _, rfl, fun _ _ _ => rfl⟩
theorem Keeps.trans {a b c : Mem} (h : Keeps a b) (k : Keeps b c) : Keeps a c :=
  ⟨Nat.le_trans h.1 k.1, k.2.1.trans h.2.1, fun i hi hs => (k.2.2 i (by rw [h.2.1]; exact hi) (Nat.lt_of_lt_of_le hs h.1)).trans (h.2.2 i hi hs)⟩
theorem Keeps.push {H H' : Mem} {b : Blk} (h : H.push b = some H') : Keeps H H' := by
  obtain ⟨h1, h2, h3⟩ := Mem.push_spec h
  exact ⟨by omega, h2, fun i _ hs => by rw [h3, if_neg (by omega)]⟩
theorem Keeps.set {H H' : Mem} {i : Nat} {b : Blk} (h : H.set i b = some H') : Keeps H H' := by
  obtain ⟨h1, h2, h3, h4, h5⟩ := Mem.set_spec h
  exact ⟨by omega, h4, fun j hj _ => by rw [h5, if_neg (by omega)]⟩

def CallKeeps (call : CallF) : Prop := ∀ f args H v H', call f args H = some (v, H') → Keeps H H'

theorem writeCells_keeps {H H' : Mem} {i off : Nat} {vs : List Value} (h : writeCells H i off vs = some H') : Keeps H H' := by
  unfold writeCells at h
  split at h
  · cases h; exact .refl _
  · split at h
    · split at h
      · exact .set h
      · cases h
    · cases h

theorem newPtr_keeps {H H' : Mem} {t : TypeId} {cs : List Value} {v : Value} (h : newPtr H t cs = some (v, H')) : Keeps H H' := .push (newPtr_spec h).1
theorem newSlice_keeps {H H' : Mem} {t : TypeId} {cs : List Value} {len cap : Nat} {v : Value} (h : newSlice H t cs len cap = some (v, H')) : Keeps H H' := .push (newSlice_spec h).1
theorem newRoom_keeps {H H' : Mem} {t : TypeId} {cs : List Value} {len cap : Nat} {v : Value} (h : newRoom H t cs len cap = some (v, H')) : Keeps H H' := .push (newRoom_spec h).1
theorem withMem_keeps {H H' : Mem} {x : Option Value} {v : Value} (h : withMem H x = some (v, H')) : Keeps H H' := by
  obtain ⟨_, rfl⟩ := withMem_spec h; exact .refl _

theorem opA_keeps (hk : CallKeeps call) {ev : Operand → Value} {o : Oper} {H H' : Mem} {v : Value} (h : opA P call ev o H = some (v, H')) : Keeps H H' := by
  unfold opA at h
  split at h
  case h_1 => cases h; exact .refl _
  case h_2 => cases h; exact .refl _
  case h_3 => unfold opPick at h; split at h <;> cases h; exact .refl _
  case h_4 => exact withMem_keeps h
  case h_5 =>
    unfold opAlloc at h
    split at h
    · exact newPtr_keeps h
    · cases h
  case h_6 =>
    unfold opBox at h
    split at h
    · exact newPtr_keeps h
    · cases h
  case h_7 => exact withMem_keeps h
  case h_8 =>
    unfold buildSliceA at h
    split at h
    · split at h
      · split at h
        · cases h
        · split at h
          · exact newSlice_keeps h
          · cases h
      · cases h
    · cases h
  case h_9 => exact withMem_keeps h
  case h_10 =>
    unfold opStore at h
    split at h
    · rename_i hu
      cases h
      unfold storeA at hu
      split at hu
      · split at hu
        · exact writeCells_keeps hu
        · cases hu
      · cases hu
    · cases h
  case h_11 => unfold opNilCheck at h; split at h <;> cases h <;> exact .refl _
  case h_12 => exact withMem_keeps h
  case h_13 => exact withMem_keeps h
  case h_14 =>
    unfold opExtract at h
    split at h
    · exact withMem_keeps h
    · cases h
  case h_15 =>
    unfold makeSliceA at h
    split at h
    · split at h
      · split at h
        · exact newRoom_keeps h
        · cases h
      · cases h
    · cases h
  case h_16 => cases h; exact .refl _
  case h_17 =>
    unfold opSlice at h
    rw [pick2_eq] at h
    split at h
    · exact withMem_keeps h
    · exact withMem_keeps h
  case h_18 => exact withMem_keeps h
  case h_19 => exact withMem_keeps h
  case h_20 =>
    unfold opConvert at h
    split at h
    · cases h; exact .refl _
    · unfold convertA at h
      split at h
      · split at h
        · split at h
          · simp only [Option.map_eq_some_iff] at h
            obtain ⟨u, _, heq⟩ := h
            cases heq; exact .refl _
          · cases h
        · cases h; exact .refl _
        · cases h
      · split at h
        · exact newSlice_keeps h
        · cases h
      · split at h
        · rw [pick2_eq] at h
          split at h
          · cases h; exact .refl _
          · cases h
        · cases h
      · split at h
        · rw [pick2_eq] at h
          split at h
          · cases h; exact .refl _
          · cases h
        · cases h
      · split at h
        · rw [pick2_eq] at h
          split at h
          · cases h; exact .refl _
          · cases h
        · cases h
      · cases h
  case h_21 =>
    unfold opCalls at h
    split at h
    · split at h
      · rename_i r hr
        cases h
        unfold opCall at hr
        split at hr
        · split at hr
          · rename_i fn _
            rw [pick2_eq] at hr
            split at hr
            · exact hk _ _ _ _ _ hr
            · cases hr
          · cases hr
        · cases hr
      · unfold opExt at h
        split at h
        · rw [pick2_eq] at h
          split at h
          · cases h; exact .refl _
          · obtain ⟨_, rfl⟩ := withMem_spec h; exact .refl _
        · obtain ⟨_, rfl⟩ := withMem_spec h; exact .refl _
    · unfold opBuiltin at h
      split at h
      · unfold opLen at h
        split at h
        · exact withMem_keeps h
        · cases h
      · unfold opAppend at h
        split at h
        · unfold appendA at h
          split at h
          · split at h
            · split at h
              · split at h
                · cases h
                · split at h
                  · split at h
                    · simp only [Option.map_eq_some_iff] at h
                      obtain ⟨u, hu, heq⟩ := h
                      cases heq; exact writeCells_keeps hu
                    · split at h
                      · cases h; exact .refl _
                      · cases h
                  · split at h
                    · split at h
                      · split at h
                        · rename_i H1 hkill
                          refine Keeps.trans ?_ (newSlice_keeps h)
                          unfold kill at hkill
                          split at hkill
                          · exact .set hkill
                          · cases hkill
                        · cases h
                      · cases h
                    · exact newSlice_keeps h
                    · cases h
              · cases h
            · cases h
          · cases h
        · cases h
      · unfold opCopy at h
        split at h
        · unfold copyA at h
          split at h
          · split at h
            · split at h
              · split at h
                · simp only [Option.map_eq_some_iff] at h
                  obtain ⟨u, hu, heq⟩ := h
                  cases heq; exact writeCells_keeps hu
                · cases h; exact .refl _
                · cases h
              · cases h
            · cases h
          · cases h
        · cases h
      · unfold opCap at h
        split at h
        · exact withMem_keeps h
        · cases h
      · unfold opSliceData at h
        split at h
        · exact withMem_keeps h
        · cases h
      · unfold opUStr at h
        split at h
        · unfold ustrA at h
          split at h
          · cases h; exact .refl _
          · split at h
            · rw [pick2_eq] at h
              split at h
              · split at h
                · rename_i H1 hkill
                  cases h
                  unfold kill at hkill
                  split at hkill
                  · exact .set hkill
                  · cases hkill
                · cases h
              · cases h
            · cases h
          · cases h
        · cases h
      · exact withMem_keeps h
    · cases h
  case h_22 => exact withMem_keeps h

/-! ### Steps over slots as the machine has them -/

noncomputable def stepS (P : Program) (call : CallF) (ops : Array Oper) (o : Oper) (a : Act) (H : Mem) : Option (Act × Mem) :=
  if Region.wanted o (yielded ops a.tmps) then (opA P call a.eval o H).map fun r => (a.put o.dst r.1, r.2) else some (a.put o.dst undef, H)

noncomputable def stepLS (P : Program) (call : CallF) (ops : Array Oper) (lk : Bool) (o : Oper) (a : Act) (H : Mem) : Option (Act × Mem) :=
  if lk then (stepS P call ops o a { H with lk := H.size }).map fun r => (r.1, { r.2 with lk := H.lk }) else stepS P call ops o a H

/-- Slots in a tree, and in a row. -/
structure Rep (f : Fr) (a : Act) : Prop where
  n : f.n = a.tmps.size
  get : ∀ i, f.get i = a.tmps.getD i undef

theorem Fr.get_eq (f : Fr) (i : Nat) : f.get i = if i < f.n then (f.t.get i).getD undef else undef := by
  unfold Fr.get; rw [pick2_eq, ble_succ]
  cases f.t.get i <;> simp

theorem Fr.put_spec {f f' : Fr} {dst : Option Tmp} {v : Value} (h : f.put dst v = some f') : f'.n = f.n ∧ ∀ i, f'.get i = if dst = some i ∧ i < f.n then v else f.get i := by
  cases dst with
  | none =>
    have h' : some f = some f' := h
    cases h'
    exact ⟨rfl, fun i => by simp⟩
  | some d =>
    have h' : pick2 (Nat.ble (Nat.succ d) f.n) (Option.rec (motive := fun _ => Option Fr) none (fun t => some ⟨f.n, t⟩) (f.t.set d v)) (some f) = some f' := h
    rw [pick2_eq, ble_succ] at h'
    split at h'
    · rename_i hd
      simp only [decide_eq_true_eq] at hd
      cases hs : f.t.set d v with
      | none => rw [hs] at h'; cases h'
      | some t =>
        rw [hs] at h'
        have h2 : some (Fr.mk f.n t) = some f' := h'
        cases h2
        refine ⟨rfl, fun i => ?_⟩
        rw [Fr.get_eq, Fr.get_eq]
        simp only [Tr.get_set hs]
        by_cases hi : i = d
        · subst hi; simp [hd]
        · simp [hi, Ne.symm hi]
    · rename_i hd
      simp only [decide_eq_true_eq] at hd
      cases h'
      exact ⟨rfl, fun i => by
        rw [if_neg]
        rintro ⟨h1, h2⟩
        cases h1; exact hd h2⟩

theorem Rep.put {f f' : Fr} {a : Act} (h : Rep f a) {dst : Option Tmp} {v : Value} (hp : f.put dst v = some f') : Rep f' (a.put dst v) := by
  obtain ⟨h1, h2⟩ := Fr.put_spec hp
  cases dst with
  | none => exact ⟨by rw [h1]; exact h.n, fun i => by rw [h2]; simp [h.get, Act.put]⟩
  | some d =>
    refine ⟨by rw [h1, h.n]; simp [Act.put], fun i => ?_⟩
    rw [h2, h.get, h.n]
    simp only [Act.put, Option.some.injEq]
    by_cases hd : d = i
    · subst hd
      by_cases hlt : d < a.tmps.size
      · simp [hlt]
      · simp [hlt]
    · simp [hd]

theorem Rep.eval {f : Fr} {a : Act} (h : Rep f a) : f.eval = a.eval := by
  funext x
  cases x with
  | tmp t => exact h.get t
  | const v => rfl
  | global g => rfl
  | func f => rfl

theorem Rep.wanted {f : Fr} {a : Act} (h : Rep f a) (o : Oper) : wantedA o ops.toList f = Region.wanted o (yielded ops a.tmps) := by
  unfold wantedA Region.wanted
  split
  · rename_i hg; simp [hg]
  · rename_i j want hg
    simp only [hg]
    have : yieldedA ops.toList f j = yielded ops a.tmps j := by
      unfold yieldedA yielded
      simp only [Array.getElem?_toList]
      cases ho : ops[j]? with
      | none => simp
      | some o' =>
        cases hd : o'.dst with
        | none => simp [hd]
        | some d =>
          simp only [Option.bind_some, hd, h.get]
          by_cases hlt : d < a.tmps.size
          · have e1 : a.tmps.getD d undef = a.tmps[d] := by simp [hlt]
            rw [e1, Array.getElem?_eq_getElem hlt]
            generalize a.tmps[d] = q
            cases q <;> rfl
          · simp [hlt, undef]
    rw [this]
    cases yielded ops a.tmps j with
    | none => simp
    | some b => cases b <;> cases want <;> rfl

theorem stepA_rep {f f' : Fr} {a : Act} {o : Oper} {H H' : Mem} (hr : Rep f a) (h : stepA P call ops.toList o f H = some (f', H')) : ∃ a', stepS P call ops o a H = some (a', H') ∧ Rep f' a' := by
  unfold stepA at h
  rw [hr.wanted, hr.eval, pick2_eq] at h
  unfold stepS
  split at h
  · rename_i hw
    unfold putA at h
    split at h
    · rename_i v H1 hop
      split at h
      · rename_i f1 hf
        cases h
        exact ⟨a.put o.dst v, by rw [if_pos hw, hop]; rfl, hr.put hf⟩
      · cases h
    · cases h
  · rename_i hw
    unfold putA at h
    simp only at h
    split at h
    · rename_i f1 hf
      cases h
      exact ⟨a.put o.dst undef, by rw [if_neg hw], hr.put hf⟩
    · cases h

theorem stepL_rep {f f' : Fr} {a : Act} {o : Oper} {lk : Bool} {H H' : Mem} (hr : Rep f a) (h : stepL P call ops.toList lk o f H = some (f', H')) : ∃ a', stepLS P call ops lk o a H = some (a', H') ∧ Rep f' a' := by
  unfold stepL at h
  unfold stepLS
  rw [pick2_eq] at h
  split at h
  · rename_i hl
    split at h
    · rename_i f1 H1 h1
      cases h
      obtain ⟨a', h2, h3⟩ := stepA_rep hr h1
      exact ⟨a', by rw [if_pos hl, h2]; rfl, h3⟩
    · cases h
  · rename_i hl
    obtain ⟨a', h2, h3⟩ := stepA_rep hr h
    exact ⟨a', by rw [if_neg hl]; exact h2, h3⟩

theorem stepS_keeps (hk : CallKeeps call) {o : Oper} {a a' : Act} {H H' : Mem} (h : stepS P call ops o a H = some (a', H')) : Keeps H H' := by
  unfold stepS at h
  split at h
  · simp only [Option.map_eq_some_iff] at h
    obtain ⟨u, hu, heq⟩ := h
    cases heq; exact opA_keeps hk hu
  · cases h; exact .refl _

/-! ### A step in the machine -/

theorem yielded_rel {ρ : Ren} {a ar : Act} (hs : Sim ρ a ar) (j : Nat) : yielded ops ar.tmps j = yielded ops a.tmps j := by
  unfold yielded
  cases hd : (ops[j]?).bind (·.dst) with
  | none => rfl
  | some d =>
    simp only [Option.bind_some]
    by_cases hlt : d < a.tmps.size
    · have hlt' : d < ar.tmps.size := hs.tmps.1 ▸ hlt
      have hr := hs.tmps.2 d _ _ (Array.getElem?_eq_getElem hlt) (Array.getElem?_eq_getElem hlt')
      rw [Array.getElem?_eq_getElem hlt, Array.getElem?_eq_getElem hlt']
      generalize a.tmps[d] = x at hr
      generalize ar.tmps[d] = y at hr
      cases hr <;> rfl
    · rw [Array.getElem?_eq_none (Nat.le_of_not_lt hlt), Array.getElem?_eq_none (Nat.le_of_not_lt (hs.tmps.1 ▸ hlt))]

theorem wanted_rel {ρ : Ren} {a ar : Act} (hs : Sim ρ a ar) (o : Oper) : Region.wanted o (yielded ops ar.tmps) = Region.wanted o (yielded ops a.tmps) := by
  unfold Region.wanted
  split
  · rfl
  · rw [yielded_rel hs]

/-- No function of the program is one that the model answers by itself. -/
def noOwn (P : Program) : Prop := ∀ (id : FuncId) fn, P.funcs[id]? = some fn → ¬ (fn.name = "runtime.NumGoroutine")

theorem call_run (hno : noOwn P) {ρ : Ren} {ev ev' : Operand → Value} {o : Oper} {cl : Call} {g : Operand} (hop : o.op = .call cl) (hg : cl.callee = .value g) (hev : EvR ρ ev ev' o.op) {H H' : Mem} {v : Value}
    (h : opCall P call (ev g) (cl.args.toList.map ev) H = some (v, H')) (w : World) :
    ∃ f args args', LR (VRel ρ) args args' ∧ call f args H = some (v, H') ∧ (execOp ev' o).run P w = .ok (.enter f args'.toArray) w := by
  unfold opCall at h
  split at h
  · rename_i id first captured hf
    split at h
    · rename_i fn hfn
      rw [pick2_eq] at h
      split at h
      · rename_i hb
        have hgr := hev g (by simp [hop, hg, Op.operands, Call.operands])
        rw [hf] at hgr
        generalize hg' : ev' g = g' at hgr
        cases hgr with
        | func _ _ first' _ captured' s1 h1 s2 h2 =>
          have hargs := AR.map (ev := ev) (ev' := ev') cl.args fun y hy => hev y (by simp [hop, hg, Op.operands, Call.operands, hy])
          refine ⟨id, _, first'.toList ++ ((cl.args.map ev').toList ++ captured'.toList), ?_, h, ?_⟩
          · have := (AR.list ⟨s1, h1⟩).append (hargs.list.append (AR.list ⟨s2, h2⟩))
            simpa using this
          · obtain ⟨cb, hb'⟩ := Option.isSome_iff_exists.1 hb
            have hname := hno id fn hfn
            obtain ⟨callee, args, ats⟩ := cl
            simp only at hg
            subst hg
            simp [execOp, hop, resolve, Deferred.ofValue, hg', invoke, callFunc, hfn, hname, hb']
      · cases h
    · cases h
  · cases h

theorem stepS_ok (hno : noOwn P) {G : Nat} (hcall : CallOk P G call) {o : Oper} {a a' ar : Act} {H H' : Mem} (hok : o.op.operands.toList.all (operandOk G) = true) (h : stepS P call ops o a H = some (a', H')) {c : Cx} (hcP : c.P = P) (hcG : c.G = G) {w : World} {ρ : Ren} (hs : Sim ρ a ar) (he : Emb c ρ H w)
    {Q : Exit → Act → World → Prop} {K : Act → World → Prop} (hK : ∀ ρ' ar' w', ρ.le ρ' → Sim ρ' a' ar' → Emb c ρ' H' w' → K ar' w') :
    if Region.wanted o (yielded ops ar.tmps) then o.wp P ar w K Q ∨ (o.asks P ar w ∧ LetsOut Q) else K (ar.put o.dst undef) w := by
  subst hcP
  subst hcG
  have hev : EvR ρ a.eval ar.eval o.op := fun x hx => hs.eval he.glob (List.all_eq_true.1 hok x (by simpa using hx))
  rw [wanted_rel hs]
  unfold stepS at h
  split at h
  · rename_i hw
    rw [if_pos hw]
    simp only [Option.map_eq_some_iff] at h
    obtain ⟨u, hu, heq⟩ := h
    cases heq
    refine .inl ?_
    unfold Oper.wp
    by_cases hcl : ∃ cl g r, o.op = .call cl ∧ cl.callee = .value g ∧ opCall c.P call (a.eval g) (cl.args.toList.map a.eval) H = some r
    · obtain ⟨cl, g, r, hop, hg, hcr⟩ := hcl
      have hur : some r = some u := by
        rw [← hu]; unfold opA; rw [hop]; simp only [opCalls, hg, hcr]
      cases hur
      obtain ⟨f, args, args', hargs, hc, hrun⟩ := call_run hno hop hg hev hcr w
      rw [hrun]
      refine (hcall _ _ _ _ _ hc c rfl rfl ρ w args' he hargs).mono ?_
      rintro e w' ⟨ρ', v', rfl, h1, h2, h3⟩
      exact hK ρ' _ _ h1 ((hs.mono h1).put o.dst h2) h3
    · obtain ⟨ρ', w', v', h1, h2, h3, h4⟩ := opA_ok he hev (fun cl hop f hf => by
        cases hcr : opCall c.P call (a.eval f) (cl.args.toList.map a.eval) H with
        | none => rfl
        | some r => exact absurd ⟨cl, f, r, hop, hf, hcr⟩ hcl) hu
      rcases h4 with h4 | ⟨h4, rfl⟩
      · rw [h4]; exact hK ρ' _ _ h1 ((hs.mono h1).put o.dst h3) h2
      · rw [h4]; exact hK ρ' _ _ h1 ((hs.mono h1).put o.dst h3) h2
  · rename_i hw
    rw [if_neg hw]
    cases h
    exact hK ρ _ _ (Ren.le_refl _) (hs.put o.dst .undef) he

theorem Mem.get_lk (H : Mem) (n : Nat) (i : Nat) : ({ H with lk := n } : Mem).get i = H.get i := rfl

theorem stepLS_ok (hno : noOwn P) {G : Nat} (hcall : CallOk P G call) (_hk : CallKeeps call) {o : Oper} {lk : Bool} {a a' ar : Act} {H H' : Mem} (hok : o.op.operands.toList.all (operandOk G) = true) (h : stepLS P call ops lk o a H = some (a', H')) {c : Cx} (hcP : c.P = P) (hcG : c.G = G) {w : World} {ρ : Ren} (hs : Sim ρ a ar) (he : Emb c ρ H w)
    {Q : Exit → Act → World → Prop} {K : Act → World → Prop} (hK : ∀ ρ' ar' w', ρ.le ρ' → Sim ρ' a' ar' → Emb c ρ' H' w' → K ar' w') :
    if Region.wanted o (yielded ops ar.tmps) then o.wp P ar w K Q ∨ (o.asks P ar w ∧ LetsOut Q) else K (ar.put o.dst undef) w := by
  unfold stepLS at h
  split at h
  · simp only [Option.map_eq_some_iff] at h
    obtain ⟨u, hu, heq⟩ := h
    cases heq
    have he' : Emb c ρ { H with lk := H.size } w := he.less (Nat.le_refl _) he.lsz fun i b' hi _ => hi
    refine stepS_ok hno hcall hok hu hcP hcG hs he' fun ρ' ar' w' h1 h2 h3 => hK ρ' ar' w' h1 h2 ?_
    exact h3.less (Nat.le_refl _) he.lk fun i b' hi _ => hi
  · exact stepS_ok hno hcall hok h hcP hcG hs he hK

end
end Go.Ev
