/- All operations of the layer, steps, regions. Steps, regions and code of the layer beside the evaluator's. Regions, notes, loops, code of the layer beside the evaluator's. Frames and memories made alike; loops, code, functions. Code and functions of the layer beside the evaluator's. Contracts of functions that are handed plain data and hand back plain data. -/
import Derived.Test.YtfggompceldfgaaGreatDoorLye

namespace Go.Tv
open Go.Ev (Tr pick2 Leave Mem Blk alive pick2_eq alive_some semPure pureA opA addrFree withMem orElse)

/-- Package-level variables are as given. -/
def GlobOk (X : Cfg) (S : Wo) : Prop := ∀ g, g < X.G → X.gv g ≠ [] → ∃ cs, S.F g = some cs ∧ ∀ T : Wo, (∀ i x, S.F i = some x → T.F i = some x) → LV T (X.gv g) cs

theorem GlobOk.mono' {X : Cfg} {S S' : Wo} (h : GlobOk X S) (hle : ∀ i x, S.F i = some x → S'.F i = some x) : GlobOk X S' := fun g hg he => let ⟨cs, h1, h2⟩ := h g hg he; ⟨cs, hle _ _ h1, fun T hT => h2 T fun i x hx => hT i x (hle i x hx)⟩
theorem GlobOk.mono {X : Cfg} {S S' : Wo} (h : GlobOk X S) (hle : S.le S') : GlobOk X S' := h.mono' hle.F

/-- A call, on both sides. -/
def CSim (X : Cfg) (cf : Nat × Nat → Ev.CallF) (f : FuncId) (args : List AV) (H : TMem) (v : AV) (H' : TMem) : Prop :=
  ∀ (S : Wo) (E : Mem) (argsE : List Value), Rel S H E → GlobOk X S → LV S args argsE →
    ∃ S' vE E', (∃ N, ∀ n : Nat × Nat, N ≤ n.1 ∧ N ≤ n.2 → cf n f argsE E = some (vE, E')) ∧ S.le S' ∧ VR S' v vE ∧ Rel S' H' E' ∧ St S H E S' H' E'

/-- What is asked of calls. -/
def CallTOk (X : Cfg) (cf : Nat × Nat → Ev.CallF) {β : Type} (call : CallT β) : Prop :=
  ∀ f args H k (r : β), call f args H k = some r → ∃ v H', k v H' = some r ∧ CSim X cf f args H v H'


/-- An operation, where package-level variables are as given. -/
def OpSimG (X : Cfg) (cf : Nat × Nat → Ev.CallF) (o : Oper) (ev : Operand → AV) (H : TMem) (v : AV) (H' : TMem) : Prop :=
  ∀ (S : Wo) (E : Mem) (evE : Operand → Value), Rel S H E → GlobOk X S → (∀ x ∈ o.op.operands, VR S (ev x) (evE x)) →
    ∃ S' vE E', (∃ N, ∀ n : Nat × Nat, N ≤ n.1 ∧ N ≤ n.2 → opA X.P (cf n) evE o E = some (vE, E')) ∧ S.le S' ∧ VR S' v vE ∧ Rel S' H' E' ∧ St S H E S' H' E'

theorem OpSim.glob {X : Cfg} {cf : Nat × Nat → Ev.CallF} {o : Oper} {ev : Operand → AV} {H H' : TMem} {v : AV} (h : OpSim X cf o ev H v H') : OpSimG X cf o ev H v H' := fun S E evE hr _ hev => h S E evE hr hev

section
variable {X : Cfg} {cf : Nat × Nat → Ev.CallF} {o : Oper} {ev : Operand → AV} {H : TMem} {β : Type} {r : β}

theorem same_sim {x : Operand} (h : o.op = .move x ∨ o.op = .assign x) : OpSim X cf o ev H (ev x) H := .quiet fun S E evE hr hev => by
  rcases h with h | h
  · rw [h] at hev
    exact ⟨evE x, fun call => by unfold opA; rw [h], hev x (by simp [Op.operands])⟩
  · rw [h] at hev
    exact ⟨evE x, fun call => by unfold opA; rw [h], hev x (by simp [Op.operands])⟩

theorem pick_sim {c a b : Operand} {t : Bool} (h : o.op = .pick c a b) (hc : ev c = .bool t) : OpSim X cf o ev H (pick2 t (ev a) (ev b)) H := .quiet fun S E evE hr hev => by
  rw [h] at hev
  have h1 := hev c (by simp [Op.operands])
  rw [hc] at h1
  refine ⟨pick2 t (evE a) (evE b), fun call => ?_, ?_⟩
  · unfold opA; rw [h]
    show Ev.opPick (evE c) (evE a) (evE b) E = _
    rw [h1.bool_inv]; rfl
  · cases t
    · exact hev b (by simp [Op.operands])
    · exact hev a (by simp [Op.operands])

theorem nil_sim {x : Operand} {v : AV} (h : o.op = .nilCheck x) (hv : ev x = v) (hk : (∃ id off, v = .ptr id off) ∨ (∃ id n, v = .apt id n) ∨ (∃ cs, v = .fpt cs) ∨ ∃ f a b, v = .fn f a b) : OpSim X cf o ev H v H := .quiet fun S E evE hr hev => by
  rw [h] at hev
  have h1 := hev x (by simp [Op.operands])
  refine ⟨evE x, fun call => ?_, by rw [← hv]; exact h1⟩
  unfold opA; rw [h]
  show Ev.opNilCheck (evE x) E = _
  rw [hv] at h1
  rcases hk with ⟨id, off, rfl⟩ | ⟨id, n, rfl⟩ | ⟨cs, rfl⟩ | ⟨f, a, b, rfl⟩ <;> (generalize evE x = A at h1; cases h1; rfl)

theorem extract_sim {x : Operand} {i : Nat} {vs : List AV} {v : AV} (h : o.op = .extract x i) (hx : ev x = .tup vs) (hv : vs[i]? = some v) : OpSim X cf o ev H v H := .quiet fun S E evE hr hev => by
  rw [h] at hev
  have h1 := hev x (by simp [Op.operands])
  rw [hx] at h1
  generalize hA : evE x = A at h1
  cases h1 with
  | tup _ m hl hm =>
    obtain ⟨y, hy, hvy⟩ := LV.get (S := S) ⟨hl, hm⟩ hv
    refine ⟨y, fun call => ?_, hvy⟩
    unfold opA; rw [h]
    show Ev.opExtract (evE x) i E = _
    rw [hA]
    simp only [Ev.opExtract, hy]
    rfl

theorem makeFunc_sim {f : FuncId} {first captured : Array Operand} (h : o.op = .makeFunc (.func f) first captured) : OpSim X cf o ev H (.fn f (first.toList.map ev) (captured.toList.map ev)) H := .quiet fun S E evE hr hev => by
  rw [h] at hev
  refine ⟨.func (.func f) (first.map evE) (captured.map evE), fun call => by unfold opA; rw [h], ?_⟩
  have e1 : first.map evE = (first.toList.map evE).toArray := by apply Array.toList_inj.1; rw [Array.toList_map]
  have e2 : captured.map evE = (captured.toList.map evE).toArray := by apply Array.toList_inj.1; rw [Array.toList_map]
  rw [e1, e2]
  have l1 := LV.map (S := S) (f := ev) (g := evE) first.toList fun x hx => hev x (by show x ∈ first ++ captured; rw [Array.mem_append]; exact .inl (by simpa using hx))
  have l2 := LV.map (S := S) (f := ev) (g := evE) captured.toList fun x hx => hev x (by show x ∈ first ++ captured; rw [Array.mem_append]; exact .inr (by simpa using hx))
  exact .fn f _ _ _ _ l1.1 l2.1 l1.2 l2.2

theorem max_sim {c : Call} {x y : Operand} {a b : Int} {ka kb : IntKind} (hop : o.op = .call c) (hc : c.callee = .builtin .max) (h0 : c.args = #[x, y]) (hx : ev x = .int ka a) (hy : ev y = .int kb b) :
    OpSim X cf o ev H (.int ka (pick2 (Ev.ltI a b) b a)) H := .quiet fun S E evE hr hev => by
  rw [hop] at hev
  have hx' := hev x (by simp [Op.operands, Call.operands, hc, h0])
  have hy' := hev y (by simp [Op.operands, Call.operands, hc, h0])
  rw [hx] at hx'
  rw [hy] at hy'
  generalize hA : evE x = A at hx'
  generalize hB : evE y = B at hy'
  cases hx'
  cases hy'
  refine ⟨.int ka (pick2 (Ev.ltI a b) b a), fun call => ?_, .int _ _⟩
  unfold opA; rw [hop]
  show Ev.opCalls X.P call evE o c E = _
  unfold Ev.opCalls
  rw [hc]
  show withMem E (pureA X.P evE o) = _
  have hp : pureA X.P evE o = some (.int ka (pick2 (Ev.ltI a b) b a)) := by
    refine pure_val (fun cs b => by rw [hop]; simp) ?_ ?_ rfl
    · unfold Ev.operandsFree
      rw [hop]
      simp [Op.operands, Call.operands, hc, h0, hA, hB, addrFree]
    · rw [pick2_eq, Ev.ltI_spec]
      simp [execOp, hop, resolve, invoke, builtin, hc, h0, hA, hB, Builtin.max_, Builtin.max2]
      rfl
  rw [hp]; rfl
theorem cap_sim {c : Call} {x : Operand} {t te : TypeId} {id off len cap : Nat} {t' : TypeId} {e : Ty} {l : List e.den} {ver : Nat} {ro : Bool} (hop : o.op = .call c) (hc : c.callee = .builtin .cap) (h0 : c.args[0]? = some x) (h1 : c.argTypes[0]? = some t) (hu : X.P.underlying t = some (.slice te)) (hx : ev x = .osl id off len cap) (hg : H.get id = some (.list t' e l ver true ro)) :
    OpSim X cf o ev H (.int .i64 cap) H := .quiet fun S E evE hr hev => by
  rw [hop] at hev
  have hx' := hev x (by
    have := Array.mem_of_getElem? h0
    simp only [Op.operands, Call.operands, hc]
    simpa using this)
  rw [hx] at hx'
  obtain ⟨g1, ⟨g0, g, g2, g2'⟩, g3⟩ := hr.row id _ hg
  generalize hA : evE x = A at hx'
  cases hx' with
  | osl _ _ _ _ i0 c0 s0 hρ g' hg' hcc hll =>
    rcases g3 with ⟨_, g5, _⟩ | ⟨i', cap', b, mid, post, q1, q2, q3, q4, q5, q6, q7, q8, q9, q10⟩
    · rw [hρ] at g5; cases g5
    · rw [hρ] at q1; cases q1
      refine ⟨goInt cap, fun call => ?_, .int _ _⟩
      unfold opA; rw [hop]
      show Ev.opCalls X.P call evE o c E = _
      unfold Ev.opCalls
      rw [hc]
      show Ev.opCap X.P evE c.args c.argTypes E = _
      unfold Ev.opCap
      rw [h0, h1]
      show withMem E (Ev.capA X.P E t (evE x)) = _
      rw [hA]
      simp only [Ev.capA, hu, q2, (q9 rfl).1]
      rfl

theorem cap_own_sim {c : Call} {x : Operand} {t te : TypeId} {id n : Nat} {t' : TypeId} {e : Ty} {l : List e.den} {ver : Nat} {ro : Bool} (hop : o.op = .call c) (hc : c.callee = .builtin .cap) (h0 : c.args[0]? = some x) (h1 : c.argTypes[0]? = some t) (hu : X.P.underlying t = some (.slice te)) (hx : ev x = .own id n) (hg : H.get id = some (.list t' e l ver true ro)) :
    OpSim X cf o ev H (.int .i64 n) H := .quiet fun S E evE hr hev => by
  rw [hop] at hev
  have hx' := hev x (by
    have := Array.mem_of_getElem? h0
    simp only [Op.operands, Call.operands, hc]
    simpa using this)
  rw [hx] at hx'
  obtain ⟨g1, ⟨g0, g, g2, g2'⟩, g3⟩ := hr.row id _ hg
  generalize hA : evE x = A at hx'
  cases hx' with
  | own _ _ i0 c0 s0 hρ g' hg' hn =>
    rcases g3 with ⟨_, g5, _⟩ | ⟨i', cap', b, mid, post, q1, q2, q3, q4, q5, q6, q7, q8, q9, q10⟩
    · rw [hρ] at g5; cases g5
    · rw [hρ] at q1; cases q1
      rw [g2] at hg'; cases hg'
      have hcn : c0 = n := by have := (q9 rfl).2.2; omega
      subst hcn
      refine ⟨goInt c0, fun call => ?_, .int _ _⟩
      unfold opA; rw [hop]
      show Ev.opCalls X.P call evE o c E = _
      unfold Ev.opCalls
      rw [hc]
      show Ev.opCap X.P evE c.args c.argTypes E = _
      unfold Ev.opCap
      rw [h0, h1]
      show withMem E (Ev.capA X.P E t (evE x)) = _
      rw [hA]
      simp only [Ev.capA, hu, q2, (q9 rfl).1]
      rfl
  | ownNil _ g' hg' hn =>
    refine ⟨goInt 0, fun call => ?_, .int _ _⟩
    unfold opA; rw [hop]
    show Ev.opCalls X.P call evE o c E = _
    unfold Ev.opCalls
    rw [hc]
    show Ev.opCap X.P evE c.args c.argTypes E = _
    unfold Ev.opCap
    rw [h0, h1]
    show withMem E (Ev.capA X.P E t (evE x)) = _
    rw [hA]
    simp only [Ev.capA, hu]
    rfl

theorem cap_nil_sim {c : Call} {x : Operand} {t te : TypeId} (hop : o.op = .call c) (hc : c.callee = .builtin .cap) (h0 : c.args[0]? = some x) (h1 : c.argTypes[0]? = some t) (hu : X.P.underlying t = some (.slice te)) (hx : ev x = .nils) :
    OpSim X cf o ev H (.int .i64 0) H := .quiet fun S E evE hr hev => by
  rw [hop] at hev
  have hx' := hev x (by
    have := Array.mem_of_getElem? h0
    simp only [Op.operands, Call.operands, hc]
    simpa using this)
  rw [hx] at hx'
  generalize hA : evE x = A at hx'
  cases hx' with
  | nils =>
    refine ⟨goInt 0, fun call => ?_, .int _ _⟩
    unfold opA; rw [hop]
    show Ev.opCalls X.P call evE o c E = _
    unfold Ev.opCalls
    rw [hc]
    show Ev.opCap X.P evE c.args c.argTypes E = _
    unfold Ev.opCap
    rw [h0, h1]
    show withMem E (Ev.capA X.P E t (evE x)) = _
    rw [hA]
    simp only [Ev.capA, hu]
    rfl

theorem call_sim {c : Call} {fo : Operand} {id : FuncId} {a b : List AV} {fn : Func} {cd : Code} {v : AV} {H' : TMem} (hop : o.op = .call c) (hc : c.callee = .value fo) (hf : ev fo = .fn id a b) (hfn : X.P.funcs[id]? = some fn) (hbody : fn.body = some cd) (h : CSim X cf id (a ++ (c.args.toList.map ev ++ b)) H v H') : OpSimG X cf o ev H v H' := by
  intro S E evE hr hg hev
  rw [hop] at hev
  have h1 := hev fo (by simp [Op.operands, Call.operands, hc])
  rw [hf] at h1
  have h2 := LV.map (S := S) (f := ev) (g := evE) c.args.toList fun x hx => hev x (by simp [Op.operands, Call.operands, hc]; exact .inr (by simpa using hx))
  generalize hA : evE fo = A at h1
  cases h1 with
  | fn _ _ _ a' b' ha hb va vb =>
    obtain ⟨S', vE, E', ⟨N, k1⟩, k2, k3, k4, k5⟩ := h S E (a' ++ (c.args.toList.map evE ++ b')) hr hg ((show LV S a a' from ⟨ha, va⟩).append (h2.append ⟨hb, vb⟩))
    refine ⟨S', vE, E', ⟨N, fun n hn => ?_⟩, k2, k3, k4, k5⟩
    unfold opA; rw [hop]
    show Ev.opCalls X.P (cf n) evE o c E = _
    unfold Ev.opCalls
    rw [hc]
    simp only [hA]
    have : Ev.opCall X.P (cf n) (.func (.func id) a'.toArray b'.toArray) (c.args.toList.map evE) E = some (vE, E') := by
      simp only [Ev.opCall, hfn, hbody, Option.isSome_some]
      exact k1 n hn
    rw [this]

theorem hasBody_spec {P : Program} {id : FuncId} (h : hasBody P id = true) : ∃ fn cd, P.funcs[id]? = some fn ∧ fn.body = some cd := by
  unfold hasBody at h
  split at h
  · rename_i fn hfn
    obtain ⟨cd, hcd⟩ := Option.isSome_iff_exists.1 h
    exact ⟨fn, cd, hfn, hcd⟩
  · cases h

theorem toV_spec {S : Wo} {a : AV} {v x : Value} (h : toV a = some v) (hx : VR S a x) : x = v ∧ addrFree v = true := by
  unfold toV at h
  split at h
  · cases h; exact ⟨hx.int_inv, rfl⟩
  · cases h; exact ⟨hx.bool_inv, rfl⟩
  · cases h; exact ⟨hx.str_inv, rfl⟩
  · cases h; cases hx; exact ⟨rfl, rfl⟩
  · cases h
    cases hx with
    | fn _ _ _ a' b' ha hb va vb =>
      have : a' = [] := List.length_eq_zero_iff.1 ha.symm
      subst this
      have : b' = [] := List.length_eq_zero_iff.1 hb.symm
      subst this
      exact ⟨rfl, rfl⟩
  · rw [pick2_eq] at h
    split at h
    · rename_i hf; cases h; cases hx; exact ⟨rfl, hf⟩
    · cases h
  · cases h

theorem ofR_VR {S : Wo} {v : Value} (h : addrFree v = true) : VR S (ofR v) v := by
  unfold ofR
  split
  · rename_i cs
    have hc : ∀ v ∈ cs.toList, addrFree v = true := by
      have h : Ev.addrFreeA cs = true := h
      obtain ⟨l⟩ := cs
      exact freeL_all h
    have e : Value.tuple cs = .tuple (cs.toList).toArray := by simp
    rw [e]
    have := LV.map (S := S) (f := ofC) (g := fun v => v) cs.toList fun v hv => ofC_VR (hc v hv)
    rw [List.map_id''] at this
    · exact .tup _ _ this.1 this.2
    · intro x; rfl
  · rename_i hn
    unfold ofV
    split
    · rename_i cs
      have hc := cells_free h
      have e : Value.agg cs = .agg (cs.toList).toArray := by simp
      rw [e]
      have := LV.map (S := S) (f := ofC) (g := fun v => v) cs.toList fun v hv => ofC_VR (hc v (by simpa [Value.cells] using hv))
      rw [List.map_id''] at this
      · exact .agg _ _ this.1 this.2
      · intro x; rfl
    · exact ofC_VR h

theorem noBody_call {c : Call} {fo : Operand} {id : FuncId} {evE : Operand → Value} {a' b' : List Value} (hop : o.op = .call c) (hc : c.callee = .value fo) (hA : evE fo = .func (.func id) a'.toArray b'.toArray) (hb : hasBody X.P id = false) (call : Ev.CallF) (E : Mem) :
    opA X.P call evE o E = Ev.opExt X.P evE o (evE fo) (c.args.toList.map evE) E := by
  unfold opA; rw [hop]
  show Ev.opCalls X.P call evE o c E = _
  unfold Ev.opCalls
  rw [hc]
  have : Ev.opCall X.P call (evE fo) (c.args.toList.map evE) E = none := by
    rw [hA]
    unfold hasBody at hb
    simp only [Ev.opCall]
    cases hfn : X.P.funcs[id]? with
    | none => rfl
    | some fn =>
      rw [hfn] at hb
      simp only at hb
      simp only [hb]
  simp only [this]

/-- What the model's own entry tells, the evaluator tells. -/
theorem ext_pure (hsel : ∀ cs b, o.op ≠ .select cs b) {k : AV → Option β} (h : extT X ev o k = some r) : ∃ v, k (ofR v) = some r ∧ addrFree v = true ∧ ∀ (S : Wo) (evE : Operand → Value), (∀ x ∈ o.op.operands, VR S (ev x) (evE x)) → pureA X.P evE o = some v := by
  unfold extT at h
  rw [pick2_eq] at h
  split at h
  case isFalse => cases h
  rename_i hall
  split at h
  case h_2 => cases h
  rename_i v hv
  rw [pick2_eq] at h
  split at h
  case isFalse => cases h
  rename_i hfree
  refine ⟨v, h, hfree, fun S evE hev => ?_⟩
  have heq : ∀ x ∈ o.op.operands, evE x = orUndef (toV (ev x)) ∧ addrFree (evE x) = true := fun x hx => by
    have h1 := List.all_eq_true.1 hall x (by simpa using hx)
    obtain ⟨y, hy⟩ := Option.isSome_iff_exists.1 h1
    obtain ⟨e1, e2⟩ := toV_spec hy (hev x hx)
    rw [hy]; exact ⟨e1, by rw [e1]; exact e2⟩
  refine pure_val hsel ?_ ?_ hfree
  · unfold Ev.operandsFree
    exact List.all_eq_true.2 fun x hx => (heq x (by simpa using hx)).2
  · rw [execOp_congr o hsel (fun x hx => (heq x hx).1)]; exact hv

/-- Floats. -/
theorem flt_sim {op : BinOp} {t t' : TypeId} {x y : Operand} (hop : o.op = .binOp op t x y t') (hx : fltV (ev x) = true) {k : AV → Option β} (h : extT X ev o k = some r) : ∃ v, k v = some r ∧ OpSim X cf o ev H v H := by
  obtain ⟨v, h1, hfree, h2⟩ := ext_pure (fun cs b => by rw [hop]; simp) h
  refine ⟨_, h1, .quiet fun S E evE hr hev => ⟨v, fun call => ?_, ofR_VR hfree⟩⟩
  have hp := h2 S evE hev
  have hvx := hev x (by rw [hop]; simp [Op.operands])
  unfold opA
  rw [hop]
  show Ev.opBin X.P evE o op t (evE x) (evE y) E = _
  cases hA : ev x with
  | flt n =>
    rw [hA] at hvx
    generalize evE x = z at hvx
    cases hvx
    unfold Ev.opBin
    rw [hp]
    have e1 : Ev.fastA op (.float .f64 n) (evE y) = none := by cases evE y <;> rfl
    have e2 : Ev.nilA X.P op t (.float .f64 n) (evE y) = none := by
      unfold Ev.nilA
      split <;> first | rfl | (rename_i h1 h2 h3; cases h2) | rfl
    rw [e1, e2]
    rfl
  | _ => rw [hA] at hx; cases hx

theorem toflt_sim {s d : TypeId} {x : Operand} (hop : o.op = .convert s d x) (hd : fltD X.P d = true) {k : AV → Option β} (h : extT X ev o k = some r) : ∃ v, k v = some r ∧ OpSim X cf o ev H v H := by
  obtain ⟨v, h1, hfree, h2⟩ := ext_pure (fun cs b => by rw [hop]; simp) h
  refine ⟨_, h1, .quiet fun S E evE hr hev => ⟨v, fun call => ?_, ofR_VR hfree⟩⟩
  have hp := h2 S evE hev
  unfold opA
  rw [hop]
  show Ev.opConvert X.P evE o s d (evE x) E = _
  unfold Ev.opConvert
  have e1 : Ev.widenA X.P d (evE x) = none := by
    unfold fltD at hd
    unfold Ev.widenA
    split at hd
    · rename_i q hq
      rw [hq]
    · cases hd
  rw [e1, hp]
  cases X.P.underlying s <;> rfl

theorem cplx_sim {c : Call} {b : Builtin} (hop : o.op = .call c) (hc : c.callee = .builtin b) (hb : b = .complex ∨ b = .real ∨ b = .imag) {k : AV → Option β} (h : extT X ev o k = some r) : ∃ v, k v = some r ∧ OpSim X cf o ev H v H := by
  obtain ⟨v, h1, hfree, h2⟩ := ext_pure (fun cs b => by rw [hop]; simp) h
  refine ⟨_, h1, .quiet fun S E evE hr hev => ⟨v, fun call => ?_, ofR_VR hfree⟩⟩
  have hp := h2 S evE hev
  unfold opA
  rw [hop]
  show Ev.opCalls X.P call evE o c E = _
  unfold Ev.opCalls
  rw [hc]
  rcases hb with rfl | rfl | rfl
  all_goals
    show withMem E (pureA X.P evE o) = _
    rw [hp]; rfl

theorem ext_sim {c : Call} {fo : Operand} {id : FuncId} {a b : List AV} (hop : o.op = .call c) (hc : c.callee = .value fo) (hf : ev fo = .fn id a b) (hb : hasBody X.P id = false) (hsame : isSameT X.P id = false) {k : AV → Option β} (h : extT X ev o k = some r) : ∃ v, k v = some r ∧ OpSim X cf o ev H v H := by
  obtain ⟨v, h0, hfree, h2⟩ := ext_pure (fun cs b => by rw [hop]; simp) h
  refine ⟨_, h0, .quiet fun S E evE hr hev => ⟨v, fun call => ?_, ofR_VR hfree⟩⟩
  have hp := h2 S evE hev
  have h1 := hev fo (by rw [hop]; simp [Op.operands, Call.operands, hc])
  rw [hf] at h1
  generalize hA : evE fo = A at h1
  cases h1 with
  | fn _ _ _ a' b' ha hbb va vb =>
    rw [noBody_call hop hc hA hb]
    have hno : Ev.isSame X.P (evE fo) = false := by
      rw [hA]
      unfold Ev.isSame
      split
      · rename_i id' heq'
        cases heq'
        exact hsame
      · rfl
    unfold Ev.opExt
    split
    · rw [hno, hp]; rfl
    · rw [hp]; rfl

theorem same1_sim {c : Call} {fo x : Operand} {id : FuncId} (hop : o.op = .call c) (hc : c.callee = .value fo) (hf : ev fo = .fn id [] []) (hb : hasBody X.P id = false) (hsame : isSameT X.P id = true) (hx : c.args.toList = [x]) : OpSim X cf o ev H (ev x) H := .quiet fun S E evE hr hev => by
  have h1 := hev fo (by rw [hop]; simp [Op.operands, Call.operands, hc])
  have h2 := hev x (by rw [hop]; simp [Op.operands, Call.operands, hc]; exact .inr (by rw [← Array.mem_toList_iff, hx]; simp))
  refine ⟨evE x, fun call => ?_, h2⟩
  rw [hf] at h1
  generalize hA : evE fo = A at h1
  cases h1 with
  | fn _ _ _ a' b' ha hbb va vb =>
    have : a' = [] := List.length_eq_zero_iff.1 ha.symm
    subst this
    have : b' = [] := List.length_eq_zero_iff.1 hbb.symm
    subst this
    rw [noBody_call hop hc hA hb, hx]
    have hyes : Ev.isSame X.P (evE fo) = true := by rw [hA]; exact hsame
    simp only [List.map_cons, List.map_nil, Ev.opExt, hyes]

/-! Maps of texts to numbers. -/

theorem mapD_spec {P : Program} {t : TypeId} (h : mapD P t = true) : ∃ kt e, P.underlying t = some (.map kt e) ∧ P.underlying kt = some .string ∧ Ev.zeroA P e = some (.int .i64 0) := by
  unfold mapD at h
  split at h
  · rename_i kt e hu
    split at h
    · rename_i h1 h2 h3; exact ⟨kt, e, hu, h1, h3⟩
    · cases h
  · cases h

theorem findA_map (s : List UInt8) (n : Int) : ∀ (ks : List (List UInt8 × Int)) (i : Nat),
    (mapHas ks s = true ∧ ∃ j, Ev.findA .string (.string ⟨s.toArray⟩) (mapCells ks) i = some (some (i + j, .int .i64 (mapGet ks s))) ∧ (mapCells ks).set (2 * j + 1) (.int .i64 n) = mapCells (mapSet ks s n)) ∨
    (mapHas ks s = false ∧ Ev.findA .string (.string ⟨s.toArray⟩) (mapCells ks) i = some none ∧ mapGet ks s = 0 ∧ mapCells ks ++ [.string ⟨s.toArray⟩, .int .i64 n] = mapCells (mapSet ks s n))
  | [], i => .inr ⟨rfl, rfl, rfl, rfl⟩
  | (q, m) :: ks, i => by
    have e1 : Ev.sameA .string (.string ⟨s.toArray⟩) (.string ⟨q.toArray⟩) = some (decide (s = q)) := by
      show some (Ev.eqBytes s.toArray.toList q.toArray.toList) = _
      rw [Ev.eqBytes_spec]
    unfold mapHas mapGet mapSet mapCells Ev.findA
    rw [e1]
    by_cases h : s = q
    · subst h
      left
      rw [decide_eq_true rfl]
      refine ⟨rfl, 0, rfl, rfl⟩
    · rw [decide_eq_false h]
      rcases findA_map s n ks (i + 1) with ⟨h1, j, h2, h3⟩ | ⟨h1, h2, h3, h4⟩
      · left
        refine ⟨h1, j + 1, ?_, ?_⟩
        · show Ev.findA .string _ (mapCells ks) (i + 1) = _
          rw [h2, show i + 1 + j = i + (j + 1) by omega]
        · show (Value.string ⟨q.toArray⟩ :: Value.int .i64 m :: mapCells ks).set (2 * (j + 1) + 1) _ = Value.string ⟨q.toArray⟩ :: Value.int .i64 m :: mapCells (mapSet ks s n)
          rw [show 2 * (j + 1) + 1 = (2 * j + 1) + 1 + 1 by omega, List.set_cons_succ, List.set_cons_succ, h3]
      · right
        refine ⟨h1, h2, h3, ?_⟩
        show Value.string ⟨q.toArray⟩ :: Value.int .i64 m :: (mapCells ks ++ _) = Value.string ⟨q.toArray⟩ :: Value.int .i64 m :: mapCells (mapSet ks s n)
        rw [h4]

theorem makeMap_sim {t : TypeId} (hop : o.op = .makeMap t none) (hd : mapD X.P t = true) : OpSim X cf o ev H (.mpt H.next) (H.push (.mp t [])) := by
  intro S E evE hr hev
  obtain ⟨kt, e, hu, _, _⟩ := mapD_spec hd
  obtain ⟨E', hE⟩ := Mem.push_total E ⟨[], t, false, true⟩
  obtain ⟨q1, q2, q3⟩ := Mem.push_spec hE
  obtain ⟨k1, k2, k3⟩ := hr.add (r := .mp t []) (x := some (E.size, 0, 0)) (g := none) (by omega) q2 (fun i hi => by rw [q3, if_neg (by omega)]) (fun r' hr' => by
    cases hr'
    exact ⟨E.size, 0, 0, ⟨[], t, false, true⟩, if_pos rfl, by rw [q3, if_pos rfl], rfl, rfl, rfl⟩) (fun y hy => by cases hy; exact Nat.le_refl _) rfl
  refine ⟨_, .map (some E.size), E', ⟨0, fun _ _ => ?_⟩, k1, .mpt _ E.size 0 0 (if_pos rfl), k2, k3⟩
  unfold opA; rw [hop]
  show Ev.opMakeMap X.P t none E = _
  unfold Ev.opMakeMap
  rw [hu]
  simp only [hE]

theorem look_sim {t : TypeId} {x q : Operand} {ok : Bool} (hop : o.op = .lookup t x q ok) {k : AV → Option β} (h : lookT X H t (ev x) (ev q) ok k = some r) : ∃ v, k v = some r ∧ OpSim X cf o ev H v H := by
  unfold lookT at h
  split at h
  case h_2 => cases h
  rename_i id s hx hq
  split at h
  case h_2 => cases h
  rename_i t' ks hg
  rw [pick2_eq] at h
  split at h
  case isFalse => cases h
  rename_i hc
  rw [Bool.and_eq_true, Nat.beq_eq] at hc
  obtain ⟨hd, rfl⟩ := hc
  obtain ⟨kt, e, hu, hks, hz⟩ := mapD_spec hd
  have main : ∀ (S : Wo) (E : Mem) (evE : Operand → Value), Rel S H E → (∀ x ∈ o.op.operands, VR S (ev x) (evE x)) → ∀ call, opA X.P call evE o E = some (pick2 ok (.tuple #[.int .i64 (mapGet ks s), .bool (mapHas ks s)]) (.int .i64 (mapGet ks s)), E) := by
    intro S E evE hr hev call
    have h1 := hev x (by rw [hop]; simp [Op.operands])
    have h2 := hev q (by rw [hop]; simp [Op.operands])
    rw [hx] at h1; rw [hq] at h2
    have h2 := h2.str_inv
    obtain ⟨i, c, s0, b, r1, r2, r3, r4, r5⟩ := hr.row id _ hg
    generalize hA : evE x = A at h1
    cases h1 with
    | mpt _ i' c' s' hρ =>
      rw [r1] at hρ; cases hρ
      have hm : Ev.mapOf E i = some b := by unfold Ev.mapOf; rw [r2]; simp only [r3, Ev.pick2_true]
      unfold opA; rw [hop]
      show withMem E (Ev.lookA X.P E t' (evE x) (evE q) ok) = _
      have : Ev.lookA X.P E t' (evE x) (evE q) ok = some (pick2 ok (.tuple #[.int .i64 (mapGet ks s), .bool (mapHas ks s)]) (.int .i64 (mapGet ks s))) := by
        unfold Ev.lookA
        rw [hu, hA, h2]
        simp only [hks, hz, Ev.entriesA, hm, r4]
        rcases findA_map s 0 ks 0 with ⟨g1, j, g2, _⟩ | ⟨g1, g2, g3, _⟩
        · rw [g2, g1]; rfl
        · rw [g2, g1, g3]; rfl
      rw [this]; rfl
  cases ok with
  | true => exact ⟨_, h, .quiet fun S E evE hr hev => ⟨_, main S E evE hr hev, .tup _ [.int .i64 (mapGet ks s), .bool (mapHas ks s)] rfl (LV.cons (.int _ _) (LV.cons (.bool _) LV.nil)).2⟩⟩
  | false => exact ⟨_, h, .quiet fun S E evE hr hev => ⟨_, main S E evE hr hev, .int _ _⟩⟩

theorem mapSet_sim {t : TypeId} {m q x : Operand} (hop : o.op = .mapUpdate t m q x) {k : AV → TMem → Option β} (h : mapSetT X H t (ev m) (ev q) (ev x) (fun H' => k .unk H') = some r) : ∃ v H', k v H' = some r ∧ OpSim X cf o ev H v H' := by
  unfold mapSetT at h
  split at h
  case h_2 => cases h
  rename_i id s n hm hq hx
  split at h
  case h_2 => cases h
  rename_i t' ks hg
  rw [pick2_eq] at h
  split at h
  case isFalse => cases h
  rename_i hc
  rw [Bool.and_eq_true, Bool.and_eq_true, Nat.beq_eq] at hc
  obtain ⟨⟨hd, rfl⟩, hmay⟩ := hc
  obtain ⟨kt, e, hu, hks, hz⟩ := mapD_spec hd
  refine ⟨_, _, h, fun S E evE hr hev => ?_⟩
  have h1 := hev m (by rw [hop]; simp [Op.operands])
  have h2 := hev q (by rw [hop]; simp [Op.operands])
  have h3 := hev x (by rw [hop]; simp [Op.operands])
  rw [hm] at h1; rw [hq] at h2; rw [hx] at h3
  have h2 := h2.str_inv
  have h3 := h3.int_inv
  obtain ⟨i, c, s0, b, r1, r2, r3, r4, r5⟩ := hr.row id _ hg
  generalize hA : evE m = A at h1
  cases h1 with
  | mpt _ i' c' s' hρ =>
    rw [r1] at hρ; cases hρ
    have hmo : Ev.mapOf E i = some b := by unfold Ev.mapOf; rw [r2]; simp only [r3, Ev.pick2_true]
    have hmay' : H.lk ≤ id := by simpa [TMem.mayB, Nat.ble_eq] using hmay
    have hlk := hr.lk id _ _ hg hmay' r1
    obtain ⟨E', hE⟩ := Mem.set_total (b := { b with cells := mapCells (mapSet ks s n) }) (Mem.get_lt r2) hlk
    obtain ⟨z1, z2, z3, z4, z5⟩ := Mem.set_spec hE
    obtain ⟨m1, m2⟩ := hr.mod (S' := S) (E' := E') (r' := .mp t' (mapSet ks s n)) hg rfl S.le_refl rfl (fun _ _ _ => rfl) z3 z4 (fun j hj => by rw [z5, if_neg (hj _ r1)]) (fun j cs h => .inl h) (fun q hq => by
      cases hq
      exact ⟨i, c, s0, { b with cells := mapCells (mapSet ks s n) }, r1, by rw [z5, if_pos rfl], r3, rfl, r5⟩)
    refine ⟨S, undef, E', ⟨0, fun _ _ => ?_⟩, S.le_refl, .unk _, m1, m2⟩
    unfold opA; rw [hop]
    show Ev.opMapSet X.P t' (evE m) (evE q) (evE x) E = _
    unfold Ev.opMapSet
    rw [hu, hA, h2, h3]
    simp only [hks, hmo, r4]
    show pick2 (Ev.keyDesc .string && Ev.addrFree (.string ⟨s.toArray⟩)) _ none = _
    rw [show (Ev.keyDesc .string && Ev.addrFree (.string ⟨s.toArray⟩)) = true from rfl, Ev.pick2_true]
    rcases findA_map s n ks 0 with ⟨_, j, g2, g3⟩ | ⟨_, g2, _, g4⟩
    · rw [g2]
      simp only [Nat.zero_add, g3, hE]
    · rw [g2]
      simp only [g4, hE]

/-- **ALL OPERATIONS.** -/
theorem opT_ok {call : CallT β} (hcall : CallTOk X cf call) {tr : List Tmp} {k : AV → TMem → Option β} (h : opT X call tr ev o H k = some r) : ∃ v H', k v H' = some r ∧ OpSimG X cf o ev H v H' := by
  have q1 : ∀ {v : AV}, (∃ v, k v H = some r ∧ OpSim X cf o ev H v H) → ∃ v H', k v H' = some r ∧ OpSimG X cf o ev H v H' := fun ⟨v, h1, h2⟩ => ⟨v, H, h1, h2.glob⟩
  have q2 : (∃ v H', k v H' = some r ∧ OpSim X cf o ev H v H') → ∃ v H', k v H' = some r ∧ OpSimG X cf o ev H v H' := fun ⟨v, H', h1, h2⟩ => ⟨v, H', h1, h2.glob⟩
  unfold opT at h
  split at h
  · rename_i x hop; exact ⟨_, _, h, (same_sim (.inl hop)).glob⟩
  · rename_i x hop; exact ⟨_, _, h, (same_sim (.inr hop)).glob⟩
  · rename_i c a b hop
    split at h
    · rename_i t hc
      refine ⟨pick2 t (ev a) (ev b), H, ?_, (pick_sim hop hc).glob⟩
      cases t <;> exact h
    · cases h
  · rename_i hop
    rw [pick2_eq] at h
    split at h
    · rename_i hx; exact q1 (v := .unk) (flt_sim hop hx h)
    · exact q1 (v := .unk) (binOp_sim hop h)
  · rename_i hop; exact q1 (v := .unk) (un_sim hop h)
  · rename_i t hop
    rw [pick2_eq] at h
    split at h
    · exact q2 (array_sim hop h)
    · split at h
      · rename_i z hz; exact ⟨_, _, h, (alloc_sim hop hz).glob⟩
      · cases h
  · rename_i t x hop
    split at h
    · rename_i n cs hn hc; exact ⟨_, _, h, (box_sim hop hn hc).glob⟩
    · cases h
  · rename_i hop; exact q1 (v := .unk) (build_sim hop h)
  · rename_i hop; exact q2 (buildSlice_sim hop h)
  · rename_i hop; exact q1 (v := .unk) (load_sim hop h)
  · rename_i hop; exact q2 (store_sim hop h)
  · rename_i x hop
    split at h
    · rename_i id off hx; exact ⟨_, _, h, (nil_sim hop hx (.inl ⟨_, _, rfl⟩)).glob⟩
    · rename_i id n hx; exact ⟨_, _, h, (nil_sim hop hx (.inr (.inl ⟨_, _, rfl⟩))).glob⟩
    · rename_i cs hx; exact ⟨_, _, h, (nil_sim hop hx (.inr (.inr (.inl ⟨_, rfl⟩)))).glob⟩
    · rename_i f a b hx; exact ⟨_, _, h, (nil_sim hop hx (.inr (.inr (.inr ⟨_, _, _, rfl⟩)))).glob⟩
    · cases h
  · rename_i hop; exact q1 (v := .unk) (field_sim hop h)
  · rename_i hop; exact q1 (v := .unk) (idx_sim hop h)
  · rename_i x i hop
    split at h
    · rename_i vs hx
      split at h
      · rename_i v hv; exact ⟨_, _, h, (extract_sim hop hx hv).glob⟩
      · cases h
    · cases h
  · rename_i hop; exact q2 (make_sim hop h)
  · rename_i hop; exact ⟨_, _, h, (makeFunc_sim hop).glob⟩
  · rename_i t x lo hi hop
    split at h
    · rename_i d y _
      rw [pick2_eq] at h
      split at h
      · exact q2 (trunc_sim hop h)
      · exact q2 (slice_sim hop h)
    · exact q2 (slice_sim hop h)
  · rename_i t x f hop
    split at h
    · rename_i fs cs hu hx
      split at h
      · rename_i fd hfd; exact q1 (v := .unk) (fieldV_sim hop hu hx hfd h)
      · cases h
    · cases h
  · rename_i hop; exact q1 (v := .unk) (index_sim hop h)
  · rename_i hop
    rw [pick2_eq] at h
    split at h
    · rename_i hd; exact q1 (v := .unk) (toflt_sim hop hd h)
    · exact q2 (conv_sim hop h)
  · rename_i c hop
    split at h
    · rename_i f hc
      split at h
      · rename_i id a b hf
        rw [pick2_eq] at h
        split at h
        · rename_i hb
          obtain ⟨fn, cd, hfn, hcd⟩ := hasBody_spec hb
          obtain ⟨v, H', h1, h2⟩ := hcall _ _ _ _ _ h
          exact ⟨v, H', h1, call_sim hop hc hf hfn hcd h2⟩
        · rename_i hb
          have hb : hasBody X.P id = false := by simpa using hb
          rw [pick2_eq] at h
          split at h
          · rename_i hsame
            split at h
            · rename_i x hx
              exact ⟨_, _, h, (same1_sim hop hc hf hb hsame hx).glob⟩
            · cases h
          · rename_i hsame
            exact q1 (v := .unk) (ext_sim hop hc hf hb (by simpa using hsame) h)
      · cases h
    · rename_i hc
      split at h
      · rename_i x t h0 h1; exact q1 (v := .unk) (len_sim hop hc h0 h1 h)
      · cases h
    · rename_i hc
      split at h
      · rename_i s x st xt h0 h1 h2 h3; exact q2 (append_sim hop hc h0 h1 h2 h3 h)
      · cases h
    · rename_i hc
      split at h
      · rename_i d x dt h0 h1 h2; exact q2 (copy_sim hop hc h0 h1 h2 h)
      · cases h
    · rename_i hc
      split at h
      · rename_i x h0
        obtain ⟨v, h1, h2⟩ := sliceData_sim hop hc h0 h
        exact ⟨v, _, h1, h2.glob⟩
      · cases h
    · rename_i hc
      split at h
      · rename_i p n pt it h0 h1
        exact q2 (ustr_sim hop hc h0 h1 h)
      · cases h
    · rename_i hc
      split at h
      · rename_i x y h0
        split at h
        · rename_i ka a kb b hx hy
          exact ⟨_, _, h, (max_sim hop hc (Array.toList_inj.1 h0) hx hy).glob⟩
        · cases h
      · cases h
    · rename_i hc
      split at h
      · rename_i x t h0 h1
        split at h
        · rename_i te id off len cap hu hx
          split at h
          · rename_i t' e l ver ro hg; exact ⟨_, _, h, (cap_sim hop hc h0 h1 hu hx hg).glob⟩
          · cases h
        · rename_i te id n hu hx
          split at h
          · rename_i t' e l ver ro hg; exact ⟨_, _, h, (cap_own_sim hop hc h0 h1 hu hx hg).glob⟩
          · cases h
        · rename_i te hu hx; exact ⟨_, _, h, (cap_nil_sim hop hc h0 h1 hu hx).glob⟩
        · cases h
      · cases h
    · rename_i hc; exact q1 (v := .unk) (cplx_sim hop hc (.inl rfl) h)
    · rename_i hc; exact q1 (v := .unk) (cplx_sim hop hc (.inr (.inl rfl)) h)
    · rename_i hc; exact q1 (v := .unk) (cplx_sim hop hc (.inr (.inr rfl)) h)
    · cases h
  · rename_i hop
    rw [pick2_eq] at h
    split at h
    · rename_i hd; exact ⟨_, _, h, (makeMap_sim hop hd).glob⟩
    · cases h
  · rename_i hop; exact q1 (v := .unk) (look_sim hop h)
  · rename_i hop; exact q2 (mapSet_sim hop h)
  · cases h

end
end Go.Tv

namespace Go.Tv
open Go.Ev (Tr pick2 Leave Mem Blk alive pick2_eq alive_some opA Fr)

structure RelF (S : Wo) (f : TFr) (fE : Fr) : Prop where
  n : f.n = fE.n
  v : ∀ i, VR S (f.get i) (fE.get i)

theorem RelF.mono {S S' : Wo} {f : TFr} {fE : Fr} (h : RelF S f fE) (hle : S.le S') : RelF S' f fE := ⟨h.n, fun i => (h.v i).mono hle⟩

theorem TFr.put_get (f : TFr) (d : Tmp) (v : AV) : (f.put (some d) v).n = f.n ∧ ∀ i, (f.put (some d) v).get i = if i = d ∧ d < f.n then v else f.get i := by
  have e : f.put (some d) v = pick2 (Nat.ble (Nat.succ d) f.n) (Option.rec (motive := fun _ => TFr) f (fun t => ⟨f.n, t⟩) (f.t.set d v)) f := rfl
  rw [e, pick2_eq, Ev.ble_succ]
  simp only [decide_eq_true_eq]
  by_cases hd : d < f.n
  · rw [if_pos hd]
    obtain ⟨t', ht⟩ := Tr.set_total v f.t d
    rw [ht]
    refine ⟨rfl, fun i => ?_⟩
    show (Option.rec (motive := fun _ => AV) .unk (fun v => v) (t'.get i)) = _
    rw [Tr.get_set ht]
    by_cases hi : i = d
    · rw [if_pos hi, if_pos ⟨hi, hd⟩]
    · rw [if_neg hi, if_neg (fun h => hi h.1)]; rfl
  · rw [if_neg hd]
    exact ⟨rfl, fun i => by rw [if_neg (fun h => hd h.2)]⟩

theorem Fr.put_total (f : Fr) (dst : Option Tmp) (v : Value) : ∃ f', f.put dst v = some f' := by
  cases dst with
  | none => exact ⟨f, rfl⟩
  | some d =>
    have e : f.put (some d) v = pick2 (Nat.ble (Nat.succ d) f.n) (Option.rec (motive := fun _ => Option Fr) none (fun t => some ⟨f.n, t⟩) (f.t.set d v)) (some f) := rfl
    rw [e, pick2_eq]
    split
    · obtain ⟨t', ht⟩ := Tr.set_total v f.t d
      rw [ht]; exact ⟨_, rfl⟩
    · exact ⟨_, rfl⟩

theorem RelF.put {S : Wo} {f : TFr} {fE fE' : Fr} (h : RelF S f fE) {dst : Option Tmp} {v : AV} {x : Value} (hv : VR S v x) (hp : fE.put dst x = some fE') : RelF S (f.put dst v) fE' := by
  obtain ⟨e1, e2⟩ := Ev.Fr.put_spec hp
  cases dst with
  | none => exact ⟨h.n.trans e1.symm, fun i => by rw [e2, if_neg (by simp)]; exact h.v i⟩
  | some d =>
    obtain ⟨g1, g2⟩ := TFr.put_get f d v
    refine ⟨by rw [g1, e1, h.n], fun i => ?_⟩
    rw [g2, e2]
    by_cases hi : i = d ∧ d < f.n
    · obtain ⟨rfl, hd⟩ := hi
      rw [if_pos ⟨rfl, hd⟩, if_pos ⟨rfl, by rw [← h.n]; exact hd⟩]; exact hv
    · rw [if_neg hi, if_neg (fun hh => hi ⟨by have := hh.1; simp at this; exact this.symm, by have := hh.1; simp at this; subst this; rw [h.n]; exact hh.2⟩)]
      exact h.v i

/-- What is known of a slot may be said. -/
theorem RelF.know {S : Wo} {f : TFr} {fE : Fr} (h : RelF S f fE) {d : Tmp} {v : AV} (hv : VR S v (fE.get d)) : RelF S (f.put (some d) v) fE := by
  obtain ⟨g1, g2⟩ := TFr.put_get f d v
  refine ⟨by rw [g1, h.n], fun i => ?_⟩
  rw [g2]
  by_cases hi : i = d ∧ d < f.n
  · obtain ⟨rfl, _⟩ := hi; rw [if_pos ⟨rfl, by assumption⟩]; exact hv
  · rw [if_neg hi]; exact h.v i

theorem ofV_VR {S : Wo} {v : Value} (h : Ev.addrFree v = true) : VR S (ofV v) v := by
  unfold ofV
  split
  · rename_i cs
    have hc := cells_free h
    have e : Value.agg cs = .agg (cs.toList).toArray := by simp
    rw [e]
    have := LV.map (S := S) (f := ofC) (g := fun v => v) cs.toList fun v hv => ofC_VR (hc v (by simpa [Value.cells] using hv))
    rw [List.map_id''] at this
    · exact .agg _ _ this.1 this.2
    · intro x; rfl
  · exact ofC_VR h

theorem eval_sim {X : Cfg} {S : Wo} {f : TFr} {fE : Fr} (h : RelF S f fE) (hg : GlobOk X S) {x : Operand} (hx : Ev.operandOk X.G x = true) : VR S (f.eval X x) (fE.eval x) := by
  cases x with
  | tmp t => exact h.v t
  | const v => exact ofV_VR hx
  | global g =>
    have hlt : g < X.G := by simpa [Ev.operandOk, Nat.blt_eq] using hx
    show VR S (unkOr (X.gv g)) _
    have hg := hg g hlt
    revert hg
    generalize X.gv g = gs
    intro hg
    cases gs with
    | nil => exact .unk _
    | cons c l =>
      obtain ⟨cs, h1, h2⟩ := hg (by simp)
      have h2 := h2 S fun _ _ h => h
      exact .fpt (c :: l) g [] cs [] (by simpa using h1) h2.1 h2.2
  | func f => exact .fn f [] [] [] [] rfl rfl (fun j x y hx => by simp at hx) (fun j x y hx => by simp at hx)

section
variable {X : Cfg} {cf : Nat × Nat → Ev.CallF} {β : Type} {r : β}

/-- A step, on both sides. -/
def StepSim (X : Cfg) (run : Nat × Nat → Fr → Mem → Option (Fr × Mem)) (f : TFr) (H : TMem) (f' : TFr) (H' : TMem) : Prop :=
  ∀ (S : Wo) (E : Mem) (fE : Fr), Rel S H E → GlobOk X S → RelF S f fE →
    ∃ S' fE' E', (∃ N, ∀ n : Nat × Nat, N ≤ n.1 ∧ N ≤ n.2 → run n fE E = some (fE', E')) ∧ S.le S' ∧ RelF S' f' fE' ∧ Rel S' H' E' ∧ St S H E S' H' E'

theorem step_ok {call : CallT β} (hcall : CallTOk X cf call) {tr : List Tmp} {ops : List Oper} {o : Oper} (hok : ∀ x ∈ o.op.operands, Ev.operandOk X.G x = true) {f : TFr} {H : TMem} {k : TFr → TMem → Option β} (h : stepT X call tr ops o f H k = some r) :
    ∃ f' H', k f' H' = some r ∧ StepSim X (fun n fE E => Ev.stepA X.P (cf n) ops o fE E) f H f' H' := by
  -- the operation is done
  have run : ∀ (f1 : TFr) (k1 : AV → TMem → Option β), opT X call tr (f1.eval X) o H k1 = some r → ∃ v H', k1 v H' = some r ∧ ∀ (S : Wo) (E : Mem) (fE : Fr), Rel S H E → GlobOk X S → RelF S f1 fE → Ev.wantedA o ops fE = true →
      ∃ S' fE' E', (∃ N, ∀ n : Nat × Nat, N ≤ n.1 ∧ N ≤ n.2 → Ev.stepA X.P (cf n) ops o fE E = some (fE', E')) ∧ S.le S' ∧ RelF S' (f1.put o.dst v) fE' ∧ Rel S' H' E' ∧ St S H E S' H' E' := by
    intro f1 k1 h1
    obtain ⟨v, H', e1, e2⟩ := opT_ok hcall h1
    refine ⟨v, H', e1, fun S E fE hr hg hf hw => ?_⟩
    obtain ⟨S', vE, E', ⟨N, k1⟩, k2, k3, k4, k5⟩ := e2 S E fE.eval hr hg fun x hx => eval_sim hf hg (hok x hx)
    obtain ⟨fE', hp⟩ := Fr.put_total fE o.dst vE
    refine ⟨S', fE', E', ⟨N, fun n hn => ?_⟩, k2, (hf.mono k2).put k3 hp, k4, k5⟩
    unfold Ev.stepA
    rw [hw, k1 n hn]
    show Ev.putA fE o.dst (some (vE, E')) = _
    simp only [Ev.putA, hp]
  -- it is not
  have skip : ∀ (f1 : TFr) (S : Wo) (E : Mem) (fE : Fr), Rel S H E → RelF S f1 fE → Ev.wantedA o ops fE = false →
      ∃ S' fE' E', (∃ N, ∀ n : Nat × Nat, N ≤ n.1 ∧ N ≤ n.2 → Ev.stepA X.P (cf n) ops o fE E = some (fE', E')) ∧ S.le S' ∧ RelF S' (f1.put o.dst (.tup [])) fE' ∧ Rel S' H E' ∧ St S H E S' H E' := by
    intro f1 S E fE hr hf hw
    obtain ⟨fE', hp⟩ := Fr.put_total fE o.dst undef
    refine ⟨S, fE', E, ⟨0, fun n _ => ?_⟩, S.le_refl, hf.put (.tup [] [] rfl fun j x y hx => by simp at hx) hp, hr, St.refl _ _ _⟩
    unfold Ev.stepA
    rw [hw]
    show Ev.putA fE o.dst (some (undef, E)) = _
    simp only [Ev.putA, hp]
  unfold stepT at h
  split at h
  · rename_i hgd
    obtain ⟨v, H', h1, h2⟩ := run f _ h
    exact ⟨_, H', h1, fun S E fE hr hg hf => h2 S E fE hr hg hf (by simp [Ev.wantedA, hgd])⟩
  · rename_i j want hgd
    split at h
    · rename_i d hd
      split at h
      · rename_i b hb
        have hslot : ∃ oj, ops[j]? = some oj ∧ oj.dst = some d := by
          unfold slotOf at hd
          split at hd
          · rename_i oj hoj; exact ⟨oj, hoj, hd⟩
          · cases hd
        obtain ⟨oj, hoj, hdj⟩ := hslot
        have hwant : ∀ S fE, RelF S f fE → Ev.wantedA o ops fE = pick2 b want (!want) ∧ fE.get d = .bool b := fun S fE hf => by
          have h1 := hf.v d
          rw [hb] at h1
          have h2 := h1.bool_inv
          refine ⟨?_, h2⟩
          unfold Ev.wantedA Ev.yieldedA
          simp only [hgd, hoj, hdj, h2]
        have known : ∀ S fE, RelF S f fE → RelF S (f.put (some d) (.bool b)) fE := fun S fE hf => hf.know (by rw [(hwant S fE hf).2]; exact .bool b)
        cases b with
        | true =>
          cases want with
          | true =>
            have h : opT X call tr ((f.put (some d) (.bool true)).eval X) o H (fun v H' => k ((f.put (some d) (.bool true)).put o.dst v) H') = some r := h
            obtain ⟨v, H', h1, h2⟩ := run _ _ h
            exact ⟨_, H', h1, fun S E fE hr hg hf => h2 S E fE hr hg (known S fE hf) (hwant S fE hf).1⟩
          | false => exact ⟨_, H, h, fun S E fE hr hg hf => skip _ S E fE hr (known S fE hf) (hwant S fE hf).1⟩
        | false =>
          cases want with
          | true => exact ⟨_, H, h, fun S E fE hr hg hf => skip _ S E fE hr (known S fE hf) (by rw [(hwant S fE hf).1]; rfl)⟩
          | false =>
            have h : opT X call tr ((f.put (some d) (.bool false)).eval X) o H (fun v H' => k ((f.put (some d) (.bool false)).put o.dst v) H') = some r := h
            obtain ⟨v, H', h1, h2⟩ := run _ _ h
            exact ⟨_, H', h1, fun S E fE hr hg hf => h2 S E fE hr hg (known S fE hf) (by rw [(hwant S fE hf).1]; rfl)⟩
      · rename_i l hl
        refine ⟨_, H, h, fun S E fE hr hg hf => skip _ S E fE hr hf ?_⟩
        have hoj : ∃ oj, ops[j]? = some oj ∧ oj.dst = some d := by
          unfold slotOf at hd
          split at hd
          · rename_i oj hoj; exact ⟨oj, hoj, hd⟩
          · cases hd
        obtain ⟨oj, hoj, hdj⟩ := hoj
        have h1 := hf.v d
        rw [hl] at h1
        obtain ⟨m, hm⟩ : ∃ m, fE.get d = .tuple m := by
          generalize fE.get d = x at h1 ⊢
          cases h1; exact ⟨_, rfl⟩
        unfold Ev.wantedA Ev.yieldedA
        simp only [hgd, hoj, hdj, hm]
      · cases h
    · cases h

/-! ### Floats that may be none -/
theorem flOf_flV (a : Option Nat) : Ev.flOf (Ev.flV a) = some a := by cases a <;> rfl
theorem cxOf_cxV (a b : Option Nat) : Ev.cxOf (Ev.cxV a b) = some (a, b) := by
  have code : Ev.cxOf (.chan (some (Ev.twoN (Ev.codeN a) (Ev.codeN b) + 2))) = some (a, b) := by
    show some (Ev.uncodeN (Ev.unTwo _ _).1, Ev.uncodeN (Ev.unTwo _ _).2) = _
    rw [Ev.unTwo_self, Ev.codeN_un, Ev.codeN_un]
  cases a with
  | none => exact code
  | some a => cases b with
    | none => exact code
    | some b => rfl
theorem toF_rel {S : Wo} {a : AV} {q : Option Nat} {x : Value} (h : toF a = some q) (hx : VR S a x) : Ev.flOf x = some q := by
  unfold toF at h
  split at h
  · cases h; cases hx; rfl
  · cases h; cases hx with | fl a v h => rw [h]; exact flOf_flV _
  · cases h
theorem toC_rel {S : Wo} {a : AV} {q : Option Nat × Option Nat} {x : Value} (h : toC a = some q) (hx : VR S a x) : Ev.cxOf x = some q := by
  unfold toC at h
  split at h
  · cases h; cases hx; rfl
  · cases h; cases hx with | cx a b v h => rw [h]; exact cxOf_cxV _ _
  · cases h
theorem nanT_sim {S : Wo} {ev : Operand → AV} {evE : Operand → Value} {o : Oper} {v : AV} (h : nanT X ev o = some v) (hev : ∀ x ∈ o.op.operands, VR S (ev x) (evE x)) : ∃ vE, Ev.nanA X.P evE o = some vE ∧ VR S v vE := by
  unfold nanT at h
  rw [pick2_eq] at h
  split at h
  case isFalse => cases h
  unfold Ev.nanA
  split at h
  · rename_i op t x y yt hop
    rw [hop]
    have hx := hev x (by simp [hop, Op.operands])
    have hy := hev y (by simp [hop, Op.operands])
    unfold nanBinT at h
    split at h
    case h_2 => cases h
    rename_i a b ha hb
    simp only
    unfold Ev.nanBin
    rw [toF_rel ha hx, toF_rel hb hy]
    simp only
    split at h
    · cases h; exact ⟨_, rfl, .fl _ _ rfl⟩
    · cases h; exact ⟨_, rfl, .fl _ _ rfl⟩
    · cases h; exact ⟨_, rfl, .fl _ _ rfl⟩
    · cases a <;> cases b <;> first | (cases h; done) | (cases h; exact ⟨_, rfl, .bool true⟩)
    · cases h
  · rename_i cl hop
    obtain ⟨callee, args, ats⟩ := cl
    rw [hop]
    have harg : ∀ x ∈ args, VR S (ev x) (evE x) := fun x hx => hev x (by simp [hop, Op.operands, Call.operands]; exact .inr hx)
    have one : ∀ {v : AV}, args.toList.map ev = [v] → ∃ p, args = #[p] ∧ ev p = v := fun h => by
      obtain ⟨l⟩ := args
      match l, h with
      | [p], h => exact ⟨p, rfl, by simpa using h⟩
    have two : ∀ {v u : AV}, args.toList.map ev = [v, u] → ∃ p q, args = #[p, q] ∧ ev p = v ∧ ev q = u := fun h => by
      obtain ⟨l⟩ := args
      match l, h with
      | [p, q], h => exact ⟨p, q, rfl, by simpa using h⟩
    simp only at h ⊢
    split at h
    · rename_i x y hl
      obtain ⟨p, q, rfl, rfl, rfl⟩ := two hl
      split at h
      · rename_i a b ha hb
        cases h
        refine ⟨Ev.cxV a b, ?_, .cx a b _ rfl⟩
        simp only [List.map_cons, List.map_nil, toF_rel ha (harg p (by simp)), toF_rel hb (harg q (by simp))]
      · cases h
    · rename_i x hl
      obtain ⟨p, rfl, rfl⟩ := one hl
      split at h
      · rename_i q hq
        cases h
        refine ⟨Ev.flV q.1, ?_, .fl _ _ rfl⟩
        simp only [List.map_cons, List.map_nil, toC_rel hq (harg p (by simp))]
      · cases h
    · rename_i x hl
      obtain ⟨p, rfl, rfl⟩ := one hl
      split at h
      · rename_i q hq
        cases h
        refine ⟨Ev.flV q.2, ?_, .fl _ _ rfl⟩
        simp only [List.map_cons, List.map_nil, toC_rel hq (harg p (by simp))]
      · cases h
    · rename_i f x hl
      obtain ⟨p, rfl, hp⟩ := one hl
      split at h
      · rename_i id hf
        rw [pick2_eq] at h
        split at h
        · rename_i hb
          split at h
          · rename_i x
            cases h
            have hx := harg p (by simp)
            rw [hp] at hx
            have hfE := hev f (by simp [hop, Op.operands, Call.operands])
            rw [hf] at hfE
            generalize hq : evE p = x at hx
            generalize hg : evE f = g at hfE
            obtain rfl : x = .chan (some 1) := by cases hx with | fl a v h => exact h
            cases hfE with
            | fn f a b a' b' ha hb' va vb =>
              obtain rfl : a' = [] := List.length_eq_zero_iff.1 (by simpa using ha.symm)
              obtain rfl : b' = [] := List.length_eq_zero_iff.1 (by simpa using hb'.symm)
              refine ⟨.chan none, ?_, .unk _⟩
              have e1 : [p].map evE = [.chan (some 1)] := by simp [hq, Ev.flV]
              show (match Callee.value f, [p].map evE with | _, _ => _) = _
              simp only [e1, hg]
              rw [show (Ev.isBits X.P (.func (.func id) ([] : List Value).toArray ([] : List Value).toArray)) = true from hb]
          · cases h
        · cases h
      · cases h
    · cases h
  · cases h

theorem stepN_of {P : Program} {call : Ev.CallF} {l : List Oper} {o : Oper} {f : Fr} {E : Mem} {r : Fr × Mem} (h : Ev.stepA P call l o f E = some r) : Ev.stepN P call l o f E = some r := by
  unfold Ev.stepN
  rw [h]
theorem stepN_nan {P : Program} {call : Ev.CallF} {l : List Oper} {o : Oper} {f f' : Fr} {E : Mem} {v : Value} (hw : Ev.wantedA o l f = true) (h : Ev.nanA P f.eval o = some v) (hp : f.put o.dst v = some f') : Ev.stepN P call l o f E = some (f', E) := by
  unfold Ev.stepN
  cases hs : Ev.stepA P call l o f E with
  | none =>
    rw [hw, h]
    show Ev.putA f o.dst (some (v, E)) = _
    simp only [Ev.putA, hp]
  | some r =>
    unfold Ev.stepA at hs
    rw [hw] at hs
    have hs : Ev.putA f o.dst (opA P call f.eval o E) = some r := hs
    cases ho : opA P call f.eval o E with
    | none => rw [ho] at hs; cases hs
    | some q =>
      obtain ⟨u, E'⟩ := q
      obtain ⟨rfl, rfl⟩ := Ev.nan_op h ho
      rw [ho] at hs
      simp only [Ev.putA, hp] at hs
      exact hs.symm
theorem stepNT_ok {call : CallT β} (hcall : CallTOk X cf call) {tr : List Tmp} {ops : List Oper} {o : Oper} (hok : ∀ x ∈ o.op.operands, Ev.operandOk X.G x = true) {f : TFr} {H : TMem} {k : TFr → TMem → Option β} (h : stepNT X call tr ops o f H k = some r) :
    ∃ f' H', k f' H' = some r ∧ StepSim X (fun n fE E => Ev.stepN X.P (cf n) ops o fE E) f H f' H' := by
  unfold stepNT at h
  split at h
  · rename_i v hv hgd
    refine ⟨_, H, h, fun S E fE hr hg hf => ?_⟩
    obtain ⟨vE, h1, h2⟩ := nanT_sim hv fun x hx => eval_sim hf hg (hok x hx)
    obtain ⟨fE', hp⟩ := Fr.put_total fE o.dst vE
    exact ⟨S, fE', E, ⟨0, fun n _ => stepN_nan (by simp [Ev.wantedA, hgd]) h1 hp⟩, S.le_refl, hf.put h2 hp, hr, St.refl _ _ _⟩
  · obtain ⟨f', H', h1, h2⟩ := step_ok hcall hok h
    refine ⟨f', H', h1, fun S E fE hr hg hf => ?_⟩
    obtain ⟨S', fE', E', ⟨N, a1⟩, a2⟩ := h2 S E fE hr hg hf
    exact ⟨S', fE', E', ⟨N, fun n hn => stepN_of (a1 n hn)⟩, a2⟩

/-- The rows that are read, here and in the evaluator. -/
def ReadsR (S : Wo) (RT RE : Option (List Nat)) : Prop :=
  match RT with
  | none => True
  | some lT => ∃ lE, RE = some lE ∧ ∀ j ∈ lE, (∃ cs, S.F j = some cs) ∨ ∃ id ∈ lT, ∃ x, S.ρ id = some x ∧ x.1 = j

theorem ReadsR.mono {S S' : Wo} {RT RE : Option (List Nat)} (h : ReadsR S RT RE) (hle : S.le S') : ReadsR S' RT RE := by
  cases RT with
  | none => trivial
  | some lT =>
    obtain ⟨lE, e, h⟩ := h
    refine ⟨lE, e, fun j hj => (h j hj).imp (fun ⟨cs, h1⟩ => ⟨cs, hle.F _ _ h1⟩) fun ⟨id, h1, x, h2, h3⟩ => ⟨id, h1, x, hle.ρ _ _ h2, h3⟩⟩

theorem reads_sim {S : Wo} {RT RE : Option (List Nat)} (h : ReadsR S RT RE) {ev : Operand → AV} {evE : Operand → Value} {o : Oper} (hv : ∀ x ∈ o.op.operands, VR S (ev x) (evE x)) : ReadsR S (readsT ev o RT) (Ev.readsA evE o RE) := by
  unfold readsT
  split
  · rename_i t x hop
    have hx := hv x (by simp [hop, Op.operands])
    unfold Ev.readsA
    rw [hop]
    split
    · rename_i l id off he
      obtain ⟨lE, rfl, h⟩ := h
      rw [he] at hx
      generalize hA : evE x = y at hx
      cases hx with
      | ptr _ _ i c s hρ =>
        refine ⟨i :: lE, by simp only [hA], fun j hj => ?_⟩
        rcases List.mem_cons.1 hj with rfl | hj
        · exact .inr ⟨id, by simp, _, hρ, rfl⟩
        · exact (h j hj).imp_right fun ⟨id', h1, h2⟩ => ⟨id', by simp [h1], h2⟩
    · rename_i l id j0 fo ver cur he
      obtain ⟨lE, rfl, h⟩ := h
      rw [he] at hx
      generalize hA : evE x = y at hx
      cases hx with
      | ept _ _ _ _ _ i c e l2 y2 hρ _ _ _ =>
        refine ⟨i :: lE, by simp only [hA], fun j hj => ?_⟩
        rcases List.mem_cons.1 hj with rfl | hj
        · exact .inr ⟨id, by simp, _, hρ, rfl⟩
        · exact (h j hj).imp_right fun ⟨id', h1, h2⟩ => ⟨id', by simp [h1], h2⟩
    · rename_i l cs he
      obtain ⟨lE, rfl, h⟩ := h
      rw [he] at hx
      generalize hA : evE x = y at hx
      cases hx with
      | fpt _ i pre mid post hF _ _ =>
        refine ⟨i :: lE, by simp only [hA], fun j hj => ?_⟩
        rcases List.mem_cons.1 hj with rfl | hj
        · exact .inl ⟨_, hF⟩
        · exact h j hj
    · trivial
  · rename_i hno
    unfold Ev.readsA
    split
    · rename_i t x hop; exact absurd hop (hno t x)
    · rw [pick2_eq, pick2_eq]
      split
      · trivial
      · exact h

theorem clear_sim {S : Wo} {H : TMem} {E : Mem} (hr : Rel S H E) {RT RE : Option (List Nat)} (h : ReadsR S RT RE) {s : AV} {sE : Value} (hs : VR S s sE) (hc : clearT H RT s = true) : Ev.clearA RE sE = true := by
  have own : ∀ {id : Nat} {l : List Nat} {i cap s0 off n c : Nat} {lE : List Nat}, RE = some lE → (∀ j ∈ lE, (∃ cs, S.F j = some cs) ∨ ∃ id ∈ l, ∃ x, S.ρ id = some x ∧ x.1 = j) → S.ρ id = some (i, cap, s0) →
      ((match H.get id with | some (.list _ _ _ _ _ false) => true | _ => false) && l.all fun j => !Nat.beq j id && (H.get j).isSome) = true → Ev.clearA RE (.slice (some ⟨i, off, none⟩) n c) = true := by
    intro id l i cap s0 off n c lE hE hl hρ hb
    simp only [Bool.and_eq_true] at hb
    obtain ⟨hb1, hb2⟩ := hb
    split at hb1
    case h_2 => cases hb1
    rename_i t e ll ver ex hg
    subst hE
    show (lE.all fun j => !Nat.beq j i) = true
    rw [List.all_eq_true]
    intro j hj
    have hne : j ≠ i := by
      intro e
      subst e
      rcases hl j hj with ⟨cs, hF⟩ | ⟨id', hid, x, hx, hx1⟩
      · have := hr.sep id _ _ hg rfl hρ
        rw [hF] at this; cases this
      · have := List.all_eq_true.1 hb2 id' hid
        simp only [Bool.and_eq_true, Bool.not_eq_true'] at this
        obtain ⟨t1, t2⟩ := this
        obtain ⟨r', hr'⟩ := Option.isSome_iff_exists.1 t2
        have := hr.inj id' id _ _ _ _ hr' hg hx hρ hx1
        subst this
        rw [Nat.beq_refl] at t1; cases t1
    rw [Bool.not_eq_true', ← Bool.not_eq_true, Nat.beq_eq]; exact hne
  unfold clearT at hc
  split at hc
  · cases hs; rfl
  · rename_i id n l
    obtain ⟨lE, e, h⟩ := h
    cases hs with
    | own _ _ i cap s0 hρ g hg hn => exact own e h hρ hc
    | ownNil _ g hg hn => rfl
  · rename_i id off n c l
    obtain ⟨lE, e, h⟩ := h
    cases hs with
    | osl _ _ _ _ i c s0 hρ g hg hc' hl => exact own e h hρ hc
  · cases hc

theorem stepL_ok {call : CallT β} (hcall : CallTOk X cf call) {tr : List Tmp} {ops : List Oper} {o : Oper} (hok : ∀ x ∈ o.op.operands, Ev.operandOk X.G x = true) {R : Option (List Nat)} {lk : Bool} {f : TFr} {H : TMem} {k : TFr → TMem → Option β} (h : stepLT X call tr ops R lk o f H k = some r) :
    ∃ f' H', k f' H' = some r ∧ ∀ (S : Wo) (E : Mem) (fE : Fr) (RE : Option (List Nat)), Rel S H E → GlobOk X S → RelF S f fE → ReadsR S R RE →
      ∃ S' fE' E', (∃ N, ∀ n : Nat × Nat, N ≤ n.1 ∧ N ≤ n.2 → Ev.stepL X.P (cf n) ops RE lk o fE E = some (fE', E')) ∧ S.le S' ∧ RelF S' f' fE' ∧ Rel S' H' E' ∧ St S H E S' H' E' := by
  unfold stepLT at h
  cases lk with
  | false =>
    obtain ⟨f', H', h1, h2⟩ := step_ok hcall hok h
    exact ⟨f', H', h1, fun S E fE RE hr hg hf _ => h2 S E fE hr hg hf⟩
  | true =>
   cases hb : Ev.appBase o.op with
   | some s =>
    have h : (match Ev.appBase o.op with
      | some s => pick2 (clearT H R (f.eval X s)) (stepT X call tr ops o f H k) none
      | none => stepT X call tr ops o f { H with lk := H.next } fun f' H' => k f' { H' with lk := H.lk }) = some r := h
    rw [hb] at h
    simp only [pick2_eq] at h
    split at h
    · rename_i hc
      obtain ⟨f', H', h1, h2⟩ := step_ok hcall hok h
      refine ⟨f', H', h1, fun S E fE RE hr hg hf hR => ?_⟩
      obtain ⟨S', fE', E', ⟨N, k1⟩, k2⟩ := h2 S E fE hr hg hf
      refine ⟨S', fE', E', ⟨N, fun n hn => ?_⟩, k2⟩
      have hcl := clear_sim hr hR (eval_sim hf hg (hok s (Ev.appBase_mem hb))) hc
      show (match Ev.appBase o.op with
        | some s => pick2 (Ev.clearA RE (fE.eval s)) (Ev.stepA X.P (cf n) ops o fE E) none
        | none => pick2 (Ev.storeClear RE fE.eval o) (Ev.stepA X.P (cf n) ops o fE E)
          (match Ev.stepA X.P (cf n) ops o fE { E with lk := E.size } with
            | some (f', H') => some (f', { H' with lk := E.lk })
            | none => none)) = _
      rw [hb]
      simp only [hcl]
      exact k1 n hn
    · cases h
   | none =>
    have h : (match Ev.appBase o.op with
      | some s => pick2 (clearT H R (f.eval X s)) (stepT X call tr ops o f H k) none
      | none => stepT X call tr ops o f { H with lk := H.next } fun f' H' => k f' { H' with lk := H.lk }) = some r := h
    rw [hb] at h
    have h : stepT X call tr ops o f { H with lk := H.next } (fun f' H' => k f' { H' with lk := H.lk }) = some r := h
    obtain ⟨f', H', h1, h2⟩ := step_ok hcall hok h
    refine ⟨f', { H' with lk := H.lk }, h1, fun S E fE RE hr hg hf _ => ?_⟩
    have gH : ∀ (M : TMem) n j, ({ M with lk := n } : TMem).get j = M.get j := fun M n j => rfl
    have gE : ∀ (M : Mem) n j, ({ M with lk := n } : Mem).get j = M.get j := fun M n j => rfl
    have aE : ∀ (M : Mem) n j, alive ({ M with lk := n } : Mem) j = alive M j := fun M n j => rfl
    have rowE : ∀ S (M : Mem) n id r, RowAt S ({ M with lk := n } : Mem) id r ↔ RowAt S M id r := fun S M n id r => by cases r <;> exact Iff.rfl
    have hr1 : Rel S { H with lk := H.next } { E with lk := E.size } :=
      ⟨hr.fz, hr.dom, hr.gam, fun id q hq => (rowE _ _ _ _ _).2 (hr.row id q hq), hr.inj, hr.sep, fun id q x hq hl _ => absurd (TMem.get_lt hq) (by have hl' : H.next ≤ id := hl; show ¬ id < H.next; omega), Nat.le_refl _, hr.psz, Nat.le_refl _⟩
    obtain ⟨S', fE', E', ⟨N, k1⟩, k2, k3, k4, k5⟩ := h2 S { E with lk := E.size } fE hr1 hg hf
    refine ⟨S', fE', { E' with lk := E.lk }, ⟨N, fun n hn => ?_⟩, k2, k3, ?_, ?_⟩
    · show (match Ev.appBase o.op with
        | some s => pick2 (Ev.clearA RE (fE.eval s)) (Ev.stepA X.P (cf n) ops o fE E) none
        | none => pick2 (Ev.storeClear RE fE.eval o) (Ev.stepA X.P (cf n) ops o fE E)
          (match Ev.stepA X.P (cf n) ops o fE { E with lk := E.size } with
            | some (f', H') => some (f', { H' with lk := E.lk })
            | none => none)) = _
      rw [hb]
      have := k1 n hn
      simp only at this ⊢
      cases hsc : Ev.storeClear RE fE.eval o with
      | false => rw [Ev.pick2_false, this]
      | true =>
        unfold Ev.storeClear at hsc
        split at hsc
        · rename_i s hsb
          obtain ⟨w2, w3⟩ := Ev.store_lk hsb this
          subst w3
          rw [Ev.pick2_true, w2]
        · cases hsc
    · refine ⟨k4.fz, k4.dom, k4.gam, fun id q hq => (rowE _ _ _ _ _).2 (k4.row id q hq), k4.inj, k4.sep, fun id q x hq hl hx => ?_, ?_, ?_, ?_⟩
      · show E.lk ≤ x.1
        by_cases hid : id < H.next
        · have hlive : H.get id ≠ none := k5.live id hid (by
            have : H'.get id = some q := hq
            rw [this]; simp)
          cases hq0 : H.get id with
          | none => exact absurd hq0 hlive
          | some q0 =>
            cases hx0 : S.ρ id with
            | none =>
              rw [k5.rn id hid hx0] at hx; cases hx
            | some x0 =>
              have e := k2.ρ id x0 hx0
              rw [hx] at e
              have e := Option.some.inj e
              subst e
              exact hr.lk id q0 x hq0 hl hx0
        · have := k4.lk id q x hq (by rw [k5.tlk]; show H.next ≤ id; omega) hx
          have h5 := k5.lk
          have : E.size ≤ x.1 := by rw [h5] at this; exact this
          have := hr.esz; omega
      · show H.lk ≤ H'.next
        have := k5.nx; have := hr.lsz
        have : H.next ≤ H'.next := k5.nx
        omega
      · exact k4.psz
      · show E.lk ≤ E'.size
        have := k5.sz; have := hr.esz
        have : E.size ≤ E'.size := k5.sz
        omega
    · exact ⟨k5.sz, rfl, rfl, k5.tpar, k5.F, k5.own, k5.frz, k5.keep, k5.par, k5.nx, k5.live, k5.rn⟩

end
end Go.Tv

namespace Go.Tv
open Go.Ev (Tr pick2 Leave Mem Blk alive pick2_eq alive_some opA Fr)

/-- What a run of code leaves alone. -/
structure StC (S : Wo) (H : TMem) (HE : Mem) (S' : Wo) (H' : TMem) (HE' : Mem) : Prop where
  sz : HE.size ≤ HE'.size
  lk : HE'.lk = HE.lk
  tlk : H'.lk = H.lk
  tpar : H'.par = H.par
  F : ∀ i x, S.F i = some x → S'.F i = some x
  own : ∀ i, Own S' H' i → i < HE.size → Own S H i
  frz : ∀ i, S'.F i ≠ none → S.F i ≠ none ∨ Own S H i ∨ HE.size ≤ i
  keep : ∀ i, i < HE.size → ¬ Own S H i → HE'.get i = HE.get i
  par : ∀ id, id < H.par → S'.ρ id = S.ρ id

theorem St.toC {S S' : Wo} {H H' : TMem} {E E' : Mem} (h : St S H E S' H' E') : StC S H E S' H' E' := ⟨h.sz, h.lk, h.tlk, h.tpar, h.F, h.own, h.frz, h.keep, h.par⟩
theorem StC.refl (S : Wo) (H : TMem) (E : Mem) : StC S H E S H E := (St.refl S H E).toC
theorem StC.trans {S S1 S2 : Wo} {H H1 H2 : TMem} {E E1 E2 : Mem} (h : StC S H E S1 H1 E1) (k : StC S1 H1 E1 S2 H2 E2) : StC S H E S2 H2 E2 := by
  refine ⟨Nat.le_trans h.sz k.sz, k.lk.trans h.lk, k.tlk.trans h.tlk, k.tpar.trans h.tpar, fun i x hx => k.F i x (h.F i x hx), fun i ho hi => h.own i (k.own i ho (Nat.lt_of_lt_of_le hi h.sz)) hi, fun i hf => ?_, fun i hi ho => ?_, fun id hid => (k.par id (by rw [h.tpar]; exact hid)).trans (h.par id hid)⟩
  · rcases k.frz i hf with h1 | h1 | h1
    · exact h.frz i h1
    · by_cases hi : i < E.size
      · exact .inr (.inl (h.own i h1 hi))
      · exact .inr (.inr (by omega))
    · exact .inr (.inr (Nat.le_trans h.sz h1))
  · exact (k.keep i (Nat.lt_of_lt_of_le hi h.sz) fun h1 => ho (h.own i h1 hi)).trans (h.keep i hi ho)

/-- A run, on both sides; nf: rows keep their numbers. -/
def Runs {α : Type} (X : Cfg) (nf : Bool) (run : Nat × Nat → Fr → Mem → Option (α × Fr × Mem)) (a : α) (f : TFr) (H : TMem) (f' : TFr) (H' : TMem) : Prop :=
  ∀ (S : Wo) (E : Mem) (fE : Fr), Rel S H E → GlobOk X S → RelF S f fE →
    ∃ S' fE' E', (∃ N, ∀ n : Nat × Nat, N ≤ n.1 ∧ N ≤ n.2 → run n fE E = some (a, fE', E')) ∧ RelF S' f' fE' ∧ Rel S' H' E' ∧ StC S H E S' H' E' ∧ (nf = true → S.le S' ∧ St S H E S' H' E')

theorem plan_mem {P : Program} {ops : Array Oper} {l : List (Oper × Bool)} (h : Ev.plan P ops = some l) : ∀ q ∈ l, q.1 ∈ ops.toList := by
  unfold Ev.plan Ev.planOf at h
  rw [pick2_eq] at h
  split at h
  · have hpos := Ev.posOk (P := P) (ops := ops)
    have key : ∀ n L l, Ev.planM (Ev.posRev P ops ops.toList 0 []).reverse n L = some l → ∀ q ∈ l, q.1 ∈ ops.toList := by
      intro n
      have mem : ∀ p ∈ (Ev.posRev P ops ops.toList 0 []).reverse, p.o ∈ ops.toList := fun p hp => by
        have := Array.mem_of_getElem? (hpos.each p hp).o; simpa using this
      induction n with
      | zero =>
        intro L l h
        unfold Ev.planM at h
        split at h
        · cases h; simp
        · cases h
      | succ n ih =>
        intro L l h
        unfold Ev.planM at h
        split at h
        · rename_i p hp
          have hm := List.mem_of_find?_eq_some hp
          rw [pick2_eq] at h
          split at h
          · split at h
            · rename_i l' hl'
              cases h
              intro q hq
              rcases List.mem_cons.1 hq with rfl | hq
              · exact mem p hm
              · exact ih _ _ hl' q hq
            · cases h
          · cases h
        · split at h
          · cases h; simp
          · rename_i q0 r0 hp
            split at h
            case h_2 => cases h
            rename_i p ms hch
            have hm : p ∈ (Ev.posRev P ops ops.toList 0 []).reverse := by
              have := (Ev.chooseM_spec hch).1
              rw [← hp] at this
              exact (List.mem_filter.1 this).1
            rw [pick2_eq] at h
            split at h
            case isFalse => cases h
            split at h
            · rename_i l' hl'
              cases h
              intro q hq
              rcases List.mem_cons.1 hq with rfl | hq
              · exact mem p hm
              · exact ih _ _ hl' q hq
            · cases h
    exact key _ _ _ h
  · cases h

section
variable {X : Cfg} {cf : Nat × Nat → Ev.CallF} {β : Type} {r : β}

theorem ops_ok {call : CallT β} (hcall : CallTOk X cf call) {tr : List Tmp} {ops : List Oper} : ∀ (l : List (Oper × Bool)), (∀ q ∈ l, ∀ x ∈ q.1.op.operands, Ev.operandOk X.G x = true) → ∀ {R : Option (List Nat)} {f : TFr} {H : TMem} {k : TFr → TMem → Option β}, opsT X call tr ops l k R f H = some r →
    ∃ f' H', k f' H' = some r ∧ ∀ (S : Wo) (E : Mem) (fE : Fr) (RE : Option (List Nat)), Rel S H E → GlobOk X S → RelF S f fE → ReadsR S R RE →
      ∃ S' fE' E', (∃ N, ∀ n : Nat × Nat, N ≤ n.1 ∧ N ≤ n.2 → Ev.drawA X.P (cf n) ops l RE fE E = some (fE', E')) ∧ S.le S' ∧ RelF S' f' fE' ∧ Rel S' H' E' ∧ St S H E S' H' E'
  | [], _, R, f, H, k, h => ⟨f, H, h, fun S E fE RE hr hg hf _ => ⟨S, fE, E, ⟨0, fun _ _ => rfl⟩, S.le_refl, hf, hr, St.refl _ _ _⟩⟩
  | q :: l, hok, R, f, H, k, h => by
    have h : stepLT X call tr ops R q.2 q.1 f H (opsT X call tr ops l k (readsT (f.eval X) q.1 R)) = some r := h
    obtain ⟨f1, H1, h1, h2⟩ := stepL_ok hcall (hok q (by simp)) h
    obtain ⟨f2, H2, h3, h4⟩ := ops_ok hcall l (fun q hq => hok q (by simp [hq])) h1
    refine ⟨f2, H2, h3, fun S E fE RE hr hg hf hR => ?_⟩
    obtain ⟨S1, fE1, E1, ⟨N1, a1⟩, a2, a3, a4, a5⟩ := h2 S E fE RE hr hg hf hR
    obtain ⟨S2, fE2, E2, ⟨N2, b1⟩, b2, b3, b4, b5⟩ := h4 S1 E1 fE1 (Ev.readsA fE.eval q.1 RE) a4 (hg.mono a2) a3 ((reads_sim hR fun x hx => eval_sim hf hg (hok q (by simp) x hx)).mono a2)
    refine ⟨S2, fE2, E2, ⟨max N1 N2, fun n hn => ?_⟩, Wo.le_trans a2 b2, b3, b4, a5.trans b5⟩
    have c1 := a1 n ⟨by omega, by omega⟩
    have c2 := b1 n ⟨by omega, by omega⟩
    show Option.rec (motive := fun _ => Option (Fr × Mem)) none (fun r => Ev.drawA X.P (cf n) ops l (Ev.readsA fE.eval q.1 RE) r.1 r.2) (Ev.stepL X.P (cf n) ops RE q.2 q.1 fE E) = _
    rw [c1]; exact c2

theorem opsP_ok {call : CallT β} (hcall : CallTOk X cf call) {tr : List Tmp} {ops : List Oper} : ∀ (l : List Oper), (∀ o ∈ l, ∀ x ∈ o.op.operands, Ev.operandOk X.G x = true) → ∀ {f : TFr} {H : TMem} {k : TFr → TMem → Option β}, opsP X call tr ops l k f H = some r →
    ∃ f' H', k f' H' = some r ∧ StepSim X (fun n fE E => Ev.opsA X.P (cf n) ops l fE E) f H f' H'
  | [], _, f, H, k, h => ⟨f, H, h, fun S E fE hr hg hf => ⟨S, fE, E, ⟨0, fun _ _ => rfl⟩, S.le_refl, hf, hr, St.refl _ _ _⟩⟩
  | o :: l, hok, f, H, k, h => by
    have h : stepNT X call tr ops o f H (opsP X call tr ops l k) = some r := h
    obtain ⟨f1, H1, h1, h2⟩ := stepNT_ok hcall (hok o (by simp)) h
    obtain ⟨f2, H2, h3, h4⟩ := opsP_ok hcall l (fun q hq => hok q (by simp [hq])) h1
    refine ⟨f2, H2, h3, fun S E fE hr hg hf => ?_⟩
    obtain ⟨S1, fE1, E1, ⟨N1, a1⟩, a2, a3, a4, a5⟩ := h2 S E fE hr hg hf
    obtain ⟨S2, fE2, E2, ⟨N2, b1⟩, b2, b3, b4, b5⟩ := h4 S1 E1 fE1 a4 (hg.mono a2) a3
    refine ⟨S2, fE2, E2, ⟨max N1 N2, fun n hn => ?_⟩, Wo.le_trans a2 b2, b3, b4, a5.trans b5⟩
    have c1 : Ev.stepN X.P (cf n) ops o fE E = some (fE1, E1) := a1 n ⟨by omega, by omega⟩
    have c2 := b1 n ⟨by omega, by omega⟩
    show Option.rec (motive := fun _ => Option (Fr × Mem)) none (fun r => Ev.opsA X.P (cf n) ops l r.1 r.2) (Ev.stepN X.P (cf n) ops o fE E) = _
    rw [c1]; exact c2

theorem region_ok {call : CallT β} (hcall : CallTOk X cf call) {tr : List Tmp} {ops : Array Oper} {draw : Bool} {f : TFr} {H : TMem} {k : TFr → TMem → Option β} (h : regionT X call tr ops draw f H k = some r) :
    ∃ f' H', k f' H' = some r ∧ Runs X true (fun n fE E => Ev.regionA X.P X.G (cf n) ops draw fE E) .normal f H f' H' := by
  unfold regionT at h
  rw [pick2_eq] at h
  split at h
  case isFalse => cases h
  rename_i hok
  have hops : ∀ o ∈ ops.toList, ∀ x ∈ o.op.operands, Ev.operandOk X.G x = true := fun o ho x hx => by
    have := List.all_eq_true.1 hok o ho
    exact List.all_eq_true.1 this x (by simpa using hx)
  have fin : ∀ (l : List (Oper × Bool)), (∀ q ∈ l, q.1 ∈ ops.toList) → opsT X call tr ops.toList l k (some []) f H = some r → (∀ n fE E, Ev.regionA X.P X.G (cf n) ops draw fE E = Ev.atEnd (Ev.drawA X.P (cf n) ops.toList l (some []) fE E)) →
      ∃ f' H', k f' H' = some r ∧ Runs X true (fun n fE E => Ev.regionA X.P X.G (cf n) ops draw fE E) .normal f H f' H' := by
    intro l hl hr heq
    obtain ⟨f', H', h1, h2⟩ := ops_ok hcall l (fun q hq => hops q.1 (hl q hq)) hr
    refine ⟨f', H', h1, fun S E fE hrel hg hf => ?_⟩
    obtain ⟨S', fE', E', ⟨N, a1⟩, a2, a3, a4, a5⟩ := h2 S E fE (some []) hrel hg hf ⟨[], rfl, fun j hj => by cases hj⟩
    refine ⟨S', fE', E', ⟨N, fun n hn => ?_⟩, a3, a4, a5.toC, fun _ => ⟨a2, a5⟩⟩
    have := a1 n hn
    simp only at this ⊢
    rw [heq, this]; rfl
  rw [pick2_eq] at h
  split at h
  · rename_i hd
    obtain ⟨l, hl, h1⟩ := orec_spec h
    refine fin l (plan_mem hl) h1 fun n fE E => ?_
    unfold Ev.regionA
    rw [hok, hd, hl]
  · rename_i hd
    obtain ⟨f', H', h1, h2⟩ := opsP_ok hcall ops.toList hops h
    refine ⟨f', H', h1, fun S E fE hrel hg hf => ?_⟩
    obtain ⟨S', fE', E', ⟨N, a1⟩, a2, a3, a4, a5⟩ := h2 S E fE hrel hg hf
    refine ⟨S', fE', E', ⟨N, fun n hn => ?_⟩, a3, a4, a5.toC, fun _ => ⟨a2, a5⟩⟩
    have := a1 n hn
    have hd' : draw = false := by simpa using hd
    simp only at this ⊢
    unfold Ev.regionA
    rw [hok, hd', this]; rfl

end
end Go.Tv

namespace Go.Tv
open Go.Ev (Tr pick2 Leave Mem Blk alive pick2_eq alive_some opA Fr)

theorem placeOf_spec : ∀ (l : List Nat) (id n i : Nat), placeOf id l n = some i → n ≤ i ∧ l[i - n]? = some id
  | [], id, n, i, h => by cases h
  | x :: l, id, n, i, h => by
    unfold placeOf at h
    rw [pick2_eq] at h
    split at h
    · rename_i hx
      cases h
      have : x = id := by simpa [Nat.beq_eq] using hx
      subst this; simp
    · obtain ⟨h1, h2⟩ := placeOf_spec l id (n + 1) i h
      refine ⟨by omega, ?_⟩
      have : i - n = (i - (n + 1)) + 1 := by omega
      rw [this]; simpa using h2

theorem nodupB_spec : ∀ {l : List Nat}, nodupB l = true → ∀ (i j : Nat) x, l[i]? = some x → l[j]? = some x → i = j
  | [], _, i, j, x, h, _ => by simp at h
  | y :: l, h, i, j, x, hi, hj => by
    simp only [nodupB, Bool.and_eq_true, Bool.not_eq_true'] at h
    have hy : y ∉ l := fun hm => by
      have : l.any (Nat.beq y) = true := List.any_eq_true.2 ⟨y, hm, by simp [Nat.beq_eq]⟩
      rw [this] at h; cases h.1
    cases i with
    | zero =>
      cases j with
      | zero => rfl
      | succ j =>
        simp at hi hj; subst hi
        exact absurd (List.mem_of_getElem? hj) hy
    | succ i =>
      cases j with
      | zero =>
        simp at hi hj; subst hj
        exact absurd (List.mem_of_getElem? hi) hy
      | succ j => rw [nodupB_spec h.2 i j x (by simpa using hi) (by simpa using hj)]

/-- What goes with the rows that are kept. -/
noncomputable def Wo.ren (S : Wo) (H : TMem) (ids : List Nat) : Wo :=
  ⟨S.F, fun j => (ids[j]?).bind S.ρ, fun j v => if v = 0 then (ids[j]?).bind fun id => match H.get id with
    | some (.list _ e l _ _ _) => some ⟨e, l⟩
    | _ => S.Γ id 0 else none⟩

section
variable {S : Wo} {H : TMem} {ids : List Nat}

theorem ren_len {E : Mem} (hr : Rel S H E) {id i : Nat} (hi : ids[i]? = some id) {g : Sigma fun e : Ty => List e.den} (hg : S.Γ id 0 = some g) : ∃ g', (S.ren H ids).Γ i 0 = some g' ∧ g'.2.length = g.2.length := by
  show ∃ g', (if 0 = 0 then (ids[i]?).bind _ else none) = some g' ∧ _
  rw [if_pos rfl, hi]
  simp only [Option.bind_some]
  split
  · rename_i t e l ver ex ro hrow
    obtain ⟨_, ⟨_, g0, h1, h2⟩, _⟩ := hr.row id _ hrow
    rw [hg] at h1; cases h1
    exact ⟨_, rfl, h2.symm⟩
  · exact ⟨g, hg, rfl⟩

theorem VR.ren {E : Mem} (hr : Rel S H E) {v : AV} {x : Value} (h : VR S v x) : VR (S.ren H ids) (renA ids v) x := by
  have lst : ∀ {l : List AV} {m : List Value}, (∀ (j : Nat) a b, l[j]? = some a → m[j]? = some b → VR (S.ren H ids) (renA ids a) b) → (∀ (j : Nat) a b, (renL ids l)[j]? = some a → m[j]? = some b → VR (S.ren H ids) a b) ∧ (renL ids l).length = l.length := by
    intro l
    induction l with
    | nil => intro m h; exact ⟨fun j a b ha => by simp [renL] at ha, rfl⟩
    | cons v l ih =>
      intro m h
      cases m with
      | nil => exact ⟨fun j a b ha hb => by simp at hb, by have := (ih (m := []) (fun j a b _ hb => by simp at hb)).2; simp [renL, this]⟩
      | cons y m =>
        obtain ⟨h1, h2⟩ := ih (m := m) fun j a b ha hb => h (j + 1) a b (by simpa using ha) (by simpa using hb)
        refine ⟨fun j a b ha hb => ?_, by simp [renL, h2]⟩
        cases j with
        | zero => simp [renL] at ha hb; subst ha; subst hb; exact h 0 v y rfl rfl
        | succ j => exact h1 j a b (by simpa [renL] using ha) (by simpa using hb)
  have ρi : ∀ {id i : Nat} {y}, ids[i]? = some id → S.ρ id = some y → (S.ren H ids).ρ i = some y := fun hi hy => by
    show (ids[_]?).bind S.ρ = _
    rw [hi]; exact hy
  have plc : ∀ {id i : Nat}, placeOf id ids 0 = some i → ids[i]? = some id := fun h => by simpa using (placeOf_spec ids _ 0 _ h).2
  induction h with
  | int => unfold renA; exact .int _ _
  | bool => unfold renA; exact .bool _
  | str => unfold renA; exact .str _
  | flt => unfold renA; exact .flt _
  | lst e l v h => unfold renA; exact .lst e l v h
  | nils => unfold renA; exact .nils
  | own id n i cap s h g hg hn =>
    unfold renA
    split
    · rename_i j hj
      obtain ⟨g', h1, h2⟩ := ren_len hr (plc hj) hg
      exact .own j n i cap s (ρi (plc hj) h) g' h1 (by omega)
    · exact .unk _
  | ownNil id g hg hn =>
    unfold renA
    split
    · rename_i j hj
      obtain ⟨g', h1, h2⟩ := ren_len hr (plc hj) hg
      exact .ownNil j g' h1 (by omega)
    · exact .unk _
  | osl id off len cap i c s h g hg hc hl =>
    unfold renA
    split
    · rename_i j hj
      obtain ⟨g', h1, h2⟩ := ren_len hr (plc hj) hg
      exact .osl j off len cap i c s (ρi (plc hj) h) g' h1 (by omega) hl
    · exact .unk _
  | ptr id off i c s h =>
    unfold renA
    split
    · rename_i j hj; exact .ptr j off i c s (ρi (plc hj) h)
    · exact .unk _
  | ept => unfold renA; exact .unk _
  | mpt id i c s h =>
    unfold renA
    split
    · rename_i j hj; exact .mpt j i c s (ρi (plc hj) h)
    · exact .unk _
  | dat => unfold renA; exact .unk _
  | apt id n i c s h g hg hn =>
    unfold renA
    split
    · rename_i j hj
      obtain ⟨g', h1, h2⟩ := ren_len hr (plc hj) hg
      exact .apt j n i c s (ρi (plc hj) h) g' h1 (by omega)
    · exact .unk _
  | fpt cs i pre mid post h hl _ ih =>
    unfold renA
    obtain ⟨l1, l2⟩ := lst ih
    exact .fpt _ i pre mid post h (by omega) l1
  | nilp => unfold renA; exact .nilp
  | fn f a b a' b' ha hb _ _ iha ihb =>
    unfold renA
    obtain ⟨l1, l2⟩ := lst iha
    obtain ⟨m1, m2⟩ := lst ihb
    exact .fn f _ _ a' b' (by omega) (by omega) l1 m1
  | agg l m hl _ ih =>
    unfold renA
    obtain ⟨l1, l2⟩ := lst ih
    exact .agg _ m (by omega) l1
  | tup l m hl _ ih =>
    unfold renA
    obtain ⟨l1, l2⟩ := lst ih
    exact .tup _ m (by omega) l1
  | opq v h => unfold renA; exact .opq v h
  | fl a v h => unfold renA; exact .fl a v h
  | cx a b v h => unfold renA; exact .cx a b v h
  | unk v => unfold renA; exact .unk v

theorem LV.ren {E : Mem} (hr : Rel S H E) : ∀ {l : List AV} {m : List Value}, LV S l m → LV (S.ren H ids) (renL ids l) m
  | [], m, h => by rw [h.nil_inv]; exact LV.nil
  | v :: l, m, h => by
    obtain ⟨x, m', rfl, h1, h2⟩ := h.cons_inv
    exact LV.cons (h1.ren hr) (LV.ren hr h2)

theorem renR_ro (r : Row) : (renR ids r).roB = r.roB := by cases r <;> rfl

/-- The rows that are kept. -/
theorem push_all (H : TMem) (ids : List Nat) : ∀ (l : List Nat) (M : TMem), (l.foldl (fun M id => M.push (keptRow H ids id)) M).next = M.next + l.length ∧
    (l.foldl (fun M id => M.push (keptRow H ids id)) M).lk = M.lk ∧ (l.foldl (fun M id => M.push (keptRow H ids id)) M).par = M.par ∧
    ∀ j, (l.foldl (fun M id => M.push (keptRow H ids id)) M).get j = if j < M.next then M.get j else ((l[j - M.next]?).bind H.get).map (renR ids)
  | [], M => by
    refine ⟨rfl, rfl, rfl, fun j => ?_⟩
    show M.get j = _
    by_cases hj : j < M.next
    · rw [if_pos hj]
    · rw [if_neg hj]; simp
      cases h : M.get j with
      | none => rfl
      | some r => exact absurd (TMem.get_lt h) hj
  | id :: l, M => by
    rw [List.foldl_cons]
    obtain ⟨h1, h2, h3, h4⟩ := push_all H ids l (M.push (keptRow H ids id))
    obtain ⟨p1, p2, p3, p4⟩ := TMem.push_spec M (keptRow H ids id)
    refine ⟨by rw [h1, p1]; simp; omega, by rw [h2, p2], by rw [h3, p3], fun j => ?_⟩
    rw [h4, p1, p4]
    by_cases hj : j < M.next
    · rw [if_pos (by omega), if_neg (by omega), if_pos hj]
    · rw [if_neg hj]
      by_cases hj2 : j = M.next
      · subst hj2
        rw [if_pos (by omega), if_pos rfl]
        simp only [Nat.sub_self, List.getElem?_cons_zero, Option.bind_some]
        unfold keptRow
        cases hg : H.get id with
        | none => rfl
        | some r => cases r <;> first | rfl | exact absurd hg TMem.get_ne
      · rw [if_neg (by omega)]
        have : j - M.next = (j - (M.next + 1)) + 1 := by omega
        rw [this]; rfl

theorem keep_all (ids : List Nat) (f : TFr) (n : Nat) : ∀ (keep : List Tmp) (g : TFr), g.n = n → ((keep.foldl (fun g t => g.put (some t) (renA ids (f.get t))) g).n = n ∧ ∀ i, (keep.foldl (fun g t => g.put (some t) (renA ids (f.get t))) g).get i = g.get i ∨ (keep.foldl (fun g t => g.put (some t) (renA ids (f.get t))) g).get i = renA ids (f.get i))
  | [], g, hg => ⟨hg, fun i => .inl rfl⟩
  | t :: keep, g, hg => by
    rw [List.foldl_cons]
    obtain ⟨e1, e2⟩ := TFr.put_get g t (renA ids (f.get t))
    obtain ⟨h1, h2⟩ := keep_all ids f n keep (g.put (some t) (renA ids (f.get t))) (by rw [e1, hg])
    refine ⟨h1, fun i => ?_⟩
    rcases h2 i with h | h
    · rw [h, e2]
      by_cases hi : i = t ∧ t < g.n
      · rw [if_pos hi, hi.1]; exact .inr rfl
      · rw [if_neg hi]; exact .inl rfl
    · exact .inr h

variable {β : Type} {r : β}

theorem norm_ok {keep : List Tmp} {f : TFr} {k : TFr → TMem → Option β} (h : normT keep f H k = some r) : ∃ f' H', k f' H' = some r ∧ ∀ (S : Wo) (E : Mem) (fE : Fr), Rel S H E → RelF S f fE → ∃ S', RelF S' f' fE ∧ Rel S' H' E ∧ StC S H E S' H' E := by
  unfold normT at h
  simp only at h
  generalize hids : (keep.foldl (fun acc t => refsA acc (f.get t)) (List.range H.par)).foldl (refsIn H) (keep.foldl (fun acc t => refsA acc (f.get t)) (List.range H.par)) = ids at h
  rw [pick2_eq] at h
  split at h
  case isFalse => cases h
  rename_i hc
  simp only [Bool.and_eq_true, Nat.beq_eq] at hc
  obtain ⟨⟨hnd, hpar⟩, hlk⟩ := hc
  have hpar : ids.take H.par = List.range H.par := by simpa using hpar
  refine ⟨_, _, h, fun S E fE hr hf => ⟨S.ren H ids, ?_, ?_, ?_⟩⟩
  all_goals
    obtain ⟨k1, k2⟩ := keep_all ids f f.n keep ⟨f.n, .e⟩ rfl
    obtain ⟨p1, p2, p3, p4⟩ := push_all H ids ids ⟨0, 0, H.par, .e⟩
  · refine ⟨by rw [k1, hf.n], fun i => ?_⟩
    rcases k2 i with e | e
    · rw [e]; exact .unk _
    · rw [e]; exact (hf.v i).ren hr
  all_goals
    have getj : ∀ j q, (ids.foldl (fun M id => M.push (keptRow H ids id)) (⟨0, 0, H.par, .e⟩ : TMem)).get j = some q → ∃ id r, ids[j]? = some id ∧ H.get id = some r ∧ q = renR ids r := fun j q hj => by
      rw [p4, if_neg (by simp)] at hj
      simp only [Nat.sub_zero, Option.map_eq_some_iff, Option.bind_eq_some_iff] at hj
      obtain ⟨r, ⟨id, h1, h2⟩, rfl⟩ := hj
      exact ⟨id, r, h1, h2, rfl⟩
    have ρj : ∀ {j id}, ids[j]? = some id → (S.ren H ids).ρ j = S.ρ id := fun {j id} hj => by
      show (ids[j]?).bind S.ρ = _
      rw [hj]; rfl
    have plen : H.par ≤ ids.length := by
      have := congrArg List.length hpar
      simp at this; omega
  · refine ⟨hr.fz, fun j x hx => ?_, fun j v hj => ?_, fun j q hj => ?_, fun j j' q q' y y' hj hj' hy hy' he => ?_, fun j q y hj hb hy => ?_, fun j q y hj _ hy => ?_, by rw [p1, p2]; simp, by rw [p1, p3]; simpa using plen, hr.esz⟩
    · rw [p1]
      have hx : (ids[j]?).bind S.ρ = some x := hx
      cases hi : ids[j]? with
      | none => rw [hi] at hx; cases hx
      | some id => have := get_lt hi; simpa using this
    · rw [p1] at hj
      show (if v = 0 then (ids[j]?).bind _ else none) = none
      rw [List.getElem?_eq_none (by simpa using hj)]
      split <;> rfl
    · obtain ⟨id, r, h1, h2, rfl⟩ := getj j q hj
      have hrow := hr.row id r h2
      cases r with
      | dead => trivial
      | cells t cs =>
        obtain ⟨i, c, s, b, a1, a2, a3, a4⟩ := hrow
        exact ⟨i, c, s, b, by rw [ρj h1]; exact a1, a2, a3.ren hr, a4⟩
      | mp t ks =>
        obtain ⟨i, c, s, b, a1, a2⟩ := hrow
        exact ⟨i, c, s, b, by rw [ρj h1]; exact a1, a2⟩
      | list t e l ver ex ro =>
        obtain ⟨a1, ⟨a2, g, a3, a4⟩, a5⟩ := hrow
        have hΓ : (S.ren H ids).Γ j 0 = some ⟨e, l⟩ := by
          show (if 0 = 0 then (ids[j]?).bind _ else none) = _
          rw [if_pos rfl, h1]
          simp only [Option.bind_some, h2]
        refine ⟨hΓ, ⟨fun v hv => if_neg (by omega), ⟨e, l⟩, hΓ, rfl⟩, ?_⟩
        rcases a5 with ⟨b1, b2, b3⟩ | ⟨i, cap, b, mid, post, q1, q2⟩
        · exact .inl ⟨b1, by rw [ρj h1]; exact b2, b3⟩
        · exact .inr ⟨i, cap, b, mid, post, by rw [ρj h1]; exact q1, q2⟩
    · obtain ⟨id, r, h1, h2, rfl⟩ := getj j q hj
      obtain ⟨id', r', h1', h2', rfl⟩ := getj j' q' hj'
      rw [ρj h1] at hy; rw [ρj h1'] at hy'
      have := hr.inj id id' r r' y y' h2 h2' hy hy' he
      subst this
      exact nodupB_spec hnd j j' id h1 h1'
    · obtain ⟨id, r, h1, h2, rfl⟩ := getj j q hj
      rw [ρj h1] at hy
      rw [renR_ro] at hb
      exact hr.sep id r y h2 hb hy
    · obtain ⟨id, r, h1, h2, rfl⟩ := getj j q hj
      rw [ρj h1] at hy
      exact hr.lk id r y h2 (by omega) hy
  · refine ⟨Nat.le_refl _, rfl, by rw [p2, hlk], p3, fun _ _ h => h, fun i ho _ => ?_, fun i hi => .inl hi, fun _ _ _ => rfl, fun id hid => ?_⟩
    · obtain ⟨j, q, y, hj, hb, hy, rfl⟩ := ho
      obtain ⟨id, r, h1, h2, rfl⟩ := getj j q hj
      rw [ρj h1] at hy
      rw [renR_ro] at hb
      exact ⟨id, r, y, h2, hb, hy, rfl⟩
    · refine ρj ?_
      have : (ids.take H.par)[id]? = some id := by rw [hpar]; simp [hid]
      rw [List.getElem?_take, if_pos hid] at this
      exact this

end
end Go.Tv

namespace Go.Tv
open Go.Ev (Tr pick2 Leave Mem Blk alive pick2_eq alive_some opA Fr)

def Ann.freeB : Ann → Bool
  | .none => true
  | .node k a b => k.isNone && a.freeB && b.freeB

theorem Ann.free_keep {a : Ann} (h : a.freeB = true) : a.keep = Option.none := by
  cases a with
  | none => rfl
  | node k a b =>
    simp only [Ann.freeB, Bool.and_eq_true] at h
    show k = Option.none
    exact Option.isNone_iff_eq_none.1 h.1.1
theorem Ann.free_l {a : Ann} (h : a.freeB = true) : a.l.freeB = true := by
  cases a with
  | none => rfl
  | node k a b => simp only [Ann.freeB, Bool.and_eq_true] at h; exact h.1.2
theorem Ann.free_r {a : Ann} (h : a.freeB = true) : a.r.freeB = true := by
  cases a with
  | none => rfl
  | node k a b => simp only [Ann.freeB, Bool.and_eq_true] at h; exact h.2

section
variable {X : Cfg} {cf : Nat × Nat → Ev.CallF} {β : Type} {r : β} {nf : Bool}

/-- A change of what is known, on our side alone. -/
def Notes (nf : Bool) (f : TFr) (H : TMem) (f' : TFr) (H' : TMem) : Prop :=
  ∀ (S : Wo) (E : Mem) (fE : Fr), Rel S H E → RelF S f fE → ∃ S', RelF S' f' fE ∧ Rel S' H' E ∧ StC S H E S' H' E ∧ (nf = true → S.le S' ∧ St S H E S' H' E)

theorem at_ok {a : Ann} (hn : nf = true → a.keep = none) {f : TFr} {H : TMem} {k : TFr → TMem → Option β} (h : atT a f H k = some r) : ∃ f' H', k f' H' = some r ∧ Notes nf f H f' H' := by
  unfold atT at h
  split at h
  · exact ⟨f, H, h, fun S E fE hr hf => ⟨S, hf, hr, StC.refl _ _ _, fun _ => ⟨S.le_refl, St.refl _ _ _⟩⟩⟩
  · rename_i l hl
    obtain ⟨f', H', h1, h2⟩ := norm_ok h
    refine ⟨f', H', h1, fun S E fE hr hf => ?_⟩
    obtain ⟨S', a1, a2, a3⟩ := h2 S E fE hr hf
    exact ⟨S', a1, a2, a3, fun hnf => by rw [hn hnf] at hl; cases hl⟩

/-- Notes, then a run. -/
theorem Notes.then {α : Type} {run : Nat × Nat → Fr → Mem → Option (α × Fr × Mem)} {a : α} {f f1 f2 : TFr} {H H1 H2 : TMem} (h : Notes nf f H f1 H1) (k : Runs X nf run a f1 H1 f2 H2) : Runs X nf run a f H f2 H2 := by
  intro S E fE hr hg hf
  obtain ⟨S1, a1, a2, a3, a4⟩ := h S E fE hr hf
  obtain ⟨S2, fE2, E2, b1, b2, b3, b4, b5⟩ := k S1 E fE a2 (hg.mono' a3.F) a1
  exact ⟨S2, fE2, E2, b1, b2, b3, a3.trans b4, fun hnf => ⟨Wo.le_trans (a4 hnf).1 (b5 hnf).1, (a4 hnf).2.trans (b5 hnf).2⟩⟩

/-- A run, then another one. -/
theorem Runs.then {f f1 f2 : TFr} {H H1 H2 : TMem} {run1 run2 run : Nat × Nat → Fr → Mem → Option (Leave × Fr × Mem)} {lv lv' : Leave} (h : Runs X nf run1 lv f H f1 H1) (k : Runs X nf run2 lv' f1 H1 f2 H2)
    (hrun : ∃ N0, ∀ n fE E fE1 E1 fE2 E2, N0 ≤ n.1 → run1 n fE E = some (lv, fE1, E1) → run2 n fE1 E1 = some (lv', fE2, E2) → run n fE E = some (lv', fE2, E2)) : Runs X nf run lv' f H f2 H2 := by
  intro S E fE hr hg hf
  obtain ⟨N0, hrun⟩ := hrun
  obtain ⟨S1, fE1, E1, ⟨N1, a1⟩, a2, a3, a4, a5⟩ := h S E fE hr hg hf
  obtain ⟨S2, fE2, E2, ⟨N2, b1⟩, b2, b3, b4, b5⟩ := k S1 E1 fE1 a3 (hg.mono' a4.F) a2
  refine ⟨S2, fE2, E2, ⟨max N0 (max N1 N2), fun n hn => ?_⟩, b2, b3, a4.trans b4, fun hnf => ⟨Wo.le_trans (a5 hnf).1 (b5 hnf).1, (a5 hnf).2.trans (b5 hnf).2⟩⟩
  exact hrun n fE E fE1 E1 fE2 E2 (by omega) (a1 n ⟨by omega, by omega⟩) (b1 n ⟨by omega, by omega⟩)

theorem Runs.same {f f1 : TFr} {H H1 : TMem} {run1 run : Nat × Nat → Fr → Mem → Option (Leave × Fr × Mem)} {lv lv' : Leave} (h : Runs X nf run1 lv f H f1 H1)
    (hrun : ∃ N0, ∀ n fE E fE1 E1, N0 ≤ n.1 → run1 n fE E = some (lv, fE1, E1) → run n fE E = some (lv', fE1, E1)) : Runs X nf run lv' f H f1 H1 := by
  intro S E fE hr hg hf
  obtain ⟨N0, hrun⟩ := hrun
  obtain ⟨S1, fE1, E1, ⟨N1, a1⟩, a2⟩ := h S E fE hr hg hf
  exact ⟨S1, fE1, E1, ⟨max N0 N1, fun n hn => hrun n fE E fE1 E1 (by omega) (a1 n ⟨by omega, by omega⟩)⟩, a2⟩

theorem Runs.here {run : Nat × Nat → Fr → Mem → Option (Leave × Fr × Mem)} {lv : Leave} {f : TFr} {H : TMem} (h : ∀ n fE E, run n fE E = some (lv, fE, E)) : Runs X nf run lv f H f H :=
  fun S E fE hr hg hf => ⟨S, fE, E, ⟨0, fun n _ => h n fE E⟩, hf, hr, StC.refl _ _ _, fun _ => ⟨S.le_refl, St.refl _ _ _⟩⟩

/-- Code in its place: whatever follows. -/
def CodeTOk (X : Cfg) (nf : Bool) (β : Type) (g : TFr → TMem → KT β → Option β) (run : Nat × Nat → Fr → Mem → Option (Leave × Fr × Mem)) : Prop :=
  ∀ f H k (r : β), g f H k = some r → ∃ lv f' H', k lv f' H' = some r ∧ Runs X nf run lv f H f' H'

def JumpTOk (X : Cfg) (nf : Bool) {β : Type} (J : JumpT β) (JE : Nat × Nat → Ev.JumpF) : Prop :=
  ∀ c rest, CodeTOk X nf β (J c rest) (fun n fE E => JE n c rest fE E)

theorem seqK_spec {y : TFr → TMem → Option β} {k : KT β} {lv : Leave} {f : TFr} {H : TMem} (h : seqK y k lv f H = some r) : (lv = .normal ∧ y f H = some r) ∨ (lv ≠ .normal ∧ k lv f H = some r) := by
  unfold seqK at h
  split at h
  · exact .inl ⟨rfl, h⟩
  · exact .inr ⟨by simp, h⟩
  · exact .inr ⟨by simp, h⟩
  · exact .inr ⟨by simp, h⟩

theorem andThen_normal (fE : Fr) (E : Mem) (k : Fr → Mem → Ev.Out) : Ev.andThen (some (.normal, fE, E)) k = k fE E := rfl
theorem andThen_other {lv : Leave} (h : lv ≠ .normal) (fE : Fr) (E : Mem) (k : Fr → Mem → Ev.Out) : Ev.andThen (some (lv, fE, E)) k = some (lv, fE, E) := by
  cases lv <;> first | rfl | exact absurd rfl h

theorem loop_ok {a : Ann} (hn : nf = true → a.keep = none) {body : TFr → TMem → KT β → Option β} {bodyE : Nat × Nat → Fr → Mem → Option (Leave × Fr × Mem)} (hb : CodeTOk X nf β body bodyE) : ∀ (m d : Nat) (f : TFr) (H : TMem) (k : KT β), loopT a body k m f H = some r →
    ∃ lv f' H', k lv f' H' = some r ∧ Runs X nf (fun n fE E => Ev.loopA (bodyE n) (n.1 - d) fE E) lv f H f' H'
  | 0, d, f, H, k, h => by cases h
  | m + 1, d, f, H, k, h => by
    have h : body f H (seqK (fun f H => atT a f H (loopT a body k m)) k) = some r := h
    obtain ⟨lv, f2, H2, h3, h4⟩ := hb _ _ _ _ h
    have hstep : ∀ (q : Nat) (n : Nat × Nat) fE E, Ev.loopA (bodyE n) (q + 1) fE E = Ev.andThen (bodyE n fE E) (Ev.loopA (bodyE n) q) := fun q n fE E => rfl
    rcases seqK_spec h3 with ⟨rfl, h5⟩ | ⟨hne, h5⟩
    · obtain ⟨f1, H1, h1, h2⟩ := at_ok hn h5
      obtain ⟨lv', f3, H3, h6, h7⟩ := loop_ok hn hb m (d + 1) f1 H1 k h1
      refine ⟨lv', f3, H3, h6, h4.then (h2.then h7) ⟨d + 1, fun n fE E fE1 E1 fE2 E2 hn' e1 e2 => ?_⟩⟩
      have : n.1 - d = (n.1 - (d + 1)) + 1 := by omega
      rw [this, hstep, e1]; exact e2
    · refine ⟨lv, f2, H2, h5, h4.same ⟨d + 1, fun n fE E fE1 E1 hn' e1 => ?_⟩⟩
      have : n.1 - d = (n.1 - (d + 1)) + 1 := by omega
      rw [this, hstep, e1]; exact andThen_other hne _ _ _

theorem block_ok {id : Nat} {g : TFr → TMem → KT β → Option β} {run : Nat × Nat → Fr → Mem → Option (Leave × Fr × Mem)} (hg : CodeTOk X nf β g run) : CodeTOk X nf β (fun f H k => g f H (blockK id k)) (fun n fE E => Ev.leaveBlock id (run n fE E)) := by
  intro f H k r h
  obtain ⟨lv, f', H', h1, h2⟩ := hg _ _ _ _ h
  unfold blockK at h1
  split at h1
  · rename_i id'
    rw [pick2_eq] at h1
    split at h1
    · rename_i hid
      refine ⟨_, f', H', h1, h2.same ⟨0, fun n fE E fE1 E1 _ e1 => ?_⟩⟩
      rw [e1]; simp [Ev.leaveBlock, hid]
    · rename_i hid
      refine ⟨_, f', H', h1, h2.same ⟨0, fun n fE E fE1 E1 _ e1 => ?_⟩⟩
      rw [e1]
      have : Nat.beq id' id = false := by
        cases hb : Nat.beq id' id with
        | true => exact absurd hb hid
        | false => rfl
      simp [Ev.leaveBlock, this]
  · exact ⟨_, f', H', h1, h2.same ⟨0, fun n fE E fE1 E1 _ e1 => by rw [e1]; rfl⟩⟩
  · exact ⟨_, f', H', h1, h2.same ⟨0, fun n fE E fE1 E1 _ e1 => by rw [e1]; rfl⟩⟩
  · exact ⟨_, f', H', h1, h2.same ⟨0, fun n fE E fE1 E1 _ e1 => by rw [e1]; rfl⟩⟩

theorem scope_ok {c : Code} {J : JumpT β} {JE : Nat × Nat → Ev.JumpF} (hJ : JumpTOk X nf J JE) {g : TFr → TMem → KT β → Option β} {run : Nat × Nat → Fr → Mem → Option (Leave × Fr × Mem)} (hg : CodeTOk X nf β g run) : CodeTOk X nf β (fun f H k => g f H (scopeK c J k)) (fun n fE E => Ev.afterScope c (JE n) (run n fE E)) := by
  intro f H k r h
  obtain ⟨lv, f', H', h1, h2⟩ := hg _ _ _ _ h
  unfold scopeK at h1
  split at h1
  · rename_i l
    split at h1
    · rename_i rest hl
      obtain ⟨lv', f2, H2, h3, h4⟩ := hJ c rest _ _ _ _ h1
      refine ⟨lv', f2, H2, h3, h2.then h4 ⟨0, fun n fE E fE1 E1 fE2 E2 _ e1 e2 => ?_⟩⟩
      rw [e1]
      simp only [Ev.afterScope, hl]
      exact e2
    · rename_i hl
      exact ⟨_, f', H', h1, h2.same ⟨0, fun n fE E fE1 E1 _ e1 => by rw [e1]; simp only [Ev.afterScope, hl]⟩⟩
  · exact ⟨_, f', H', h1, h2.same ⟨0, fun n fE E fE1 E1 _ e1 => by rw [e1]; rfl⟩⟩
  · exact ⟨_, f', H', h1, h2.same ⟨0, fun n fE E fE1 E1 _ e1 => by rw [e1]; rfl⟩⟩
  · exact ⟨_, f', H', h1, h2.same ⟨0, fun n fE E fE1 E1 _ e1 => by rw [e1]; rfl⟩⟩

/-- Notes ahead of code. -/
theorem at_code {a : Ann} (hn : nf = true → a.keep = none) {g : TFr → TMem → KT β → Option β} {run : Nat × Nat → Fr → Mem → Option (Leave × Fr × Mem)} (hg : CodeTOk X nf β g run) : CodeTOk X nf β (fun f H k => atT a f H fun f H => g f H k) run := by
  intro f H k r h
  obtain ⟨f1, H1, h1, h2⟩ := at_ok hn h
  obtain ⟨lv, f2, H2, h3, h4⟩ := hg _ _ _ _ h1
  exact ⟨lv, f2, H2, h3, h2.then h4⟩

theorem code_ok {call : CallT β} (hcall : CallTOk X cf call) {tr : List Tmp} {J : JumpT β} {JE : Nat × Nat → Ev.JumpF} (hJ : JumpTOk X nf J JE) (rounds : Nat) (c : Code) : ∀ (a : Ann), (nf = true → a.freeB = true) → CodeTOk X nf β (codeT X call tr J rounds c a) (fun n fE E => Ev.codeA X.P X.G (cf n) (JE n) n.1 c fE E) := by
  induction c with
  | skip => intro a _ f H k r h; exact ⟨_, f, H, h, .here fun _ _ _ => rfl⟩
  | region id ops draw =>
    intro a hn
    refine at_code (g := fun f H k => regionT X call tr ops draw f H fun f H => k .normal f H) (fun h => Ann.free_keep (hn h)) fun f H k r h => ?_
    obtain ⟨f', H', h1, h2⟩ := region_ok hcall h
    refine ⟨_, f', H', h1, fun S E fE hr hg hf => ?_⟩
    obtain ⟨S', fE', E', a1, a2, a3, a4, a5⟩ := h2 S E fE hr hg hf
    exact ⟨S', fE', E', a1, a2, a3, a4, fun _ => a5 rfl⟩
  | seq x y ihx ihy =>
    intro a hn
    refine at_code (g := fun f H k => codeT X call tr J rounds x a.l f H (seqK (fun f H => codeT X call tr J rounds y a.r f H k) k)) (fun h => Ann.free_keep (hn h)) fun f H k r h => ?_
    obtain ⟨lv, f1, H1, h1, h2⟩ := ihx a.l (fun h => Ann.free_l (hn h)) _ _ _ _ h
    have hs : ∀ n fE E, Ev.codeA X.P X.G (cf n) (JE n) n.1 (.seq x y) fE E = Ev.andThen (Ev.codeA X.P X.G (cf n) (JE n) n.1 x fE E) (Ev.codeA X.P X.G (cf n) (JE n) n.1 y) := fun n fE E => rfl
    rcases seqK_spec h1 with ⟨rfl, h3⟩ | ⟨hne, h3⟩
    · obtain ⟨lv', f2, H2, h4, h5⟩ := ihy a.r (fun h => Ann.free_r (hn h)) _ _ _ _ h3
      exact ⟨lv', f2, H2, h4, h2.then h5 ⟨0, fun n fE E fE1 E1 fE2 E2 _ e1 e2 => by rw [hs, e1]; exact e2⟩⟩
    · exact ⟨lv, f1, H1, h3, h2.same ⟨0, fun n fE E fE1 E1 _ e1 => by rw [hs, e1]; exact andThen_other hne _ _ _⟩⟩
  | cond c x y ihx ihy =>
    intro a hn
    refine at_code (g := fun f H k => pick2 (Ev.operandOk X.G c) (match f.eval X c with
      | .bool b => pick2 b (codeT X call tr J rounds x a.l f H k) (codeT X call tr J rounds y a.r f H k)
      | _ => none) none) (fun h => Ann.free_keep (hn h)) fun f H k r h => ?_
    simp only at h
    rw [pick2_eq] at h
    split at h
    case isFalse => cases h
    rename_i hok
    split at h
    · rename_i b hb
      have hs : ∀ n fE E, Ev.codeA X.P X.G (cf n) (JE n) n.1 (.cond c x y) fE E = pick2 (Ev.operandOk X.G c) (Ev.condA (fE.eval c) (Ev.codeA X.P X.G (cf n) (JE n) n.1 x) (Ev.codeA X.P X.G (cf n) (JE n) n.1 y) fE E) none := fun n fE E => rfl
      have both : ∃ lv f' H', k lv f' H' = some r ∧ Runs X nf (fun n fE E => pick2 b (Ev.codeA X.P X.G (cf n) (JE n) n.1 x fE E) (Ev.codeA X.P X.G (cf n) (JE n) n.1 y fE E)) lv f H f' H' := by
        cases b with
        | true => exact ihx a.l (fun h => Ann.free_l (hn h)) _ _ _ _ h
        | false => exact ihy a.r (fun h => Ann.free_r (hn h)) _ _ _ _ h
      obtain ⟨lv, f', H', h1, h2⟩ := both
      refine ⟨lv, f', H', h1, fun S E fE hr hg hf => ?_⟩
      obtain ⟨S', fE', E', ⟨N, a1⟩, a2⟩ := h2 S E fE hr hg hf
      refine ⟨S', fE', E', ⟨N, fun n hn' => ?_⟩, a2⟩
      have hv := eval_sim hf hg hok
      rw [hb] at hv
      have a1 := a1 n hn'
      simp only at a1 ⊢
      rw [hs, hok, hv.bool_inv]
      exact a1
    · cases h
  | block id b ih =>
    intro a hn
    exact at_code (g := fun f H k => codeT X call tr J rounds b a.l f H (blockK id k)) (fun h => Ann.free_keep (hn h)) (block_ok (ih a.l fun h => Ann.free_l (hn h)))
  | loop b ih =>
    intro a hn f H k r h
    obtain ⟨f1, H1, h1, h2⟩ := at_ok (fun h => Ann.free_keep (hn h)) h
    obtain ⟨lv, f', H', h3, h4⟩ := loop_ok (fun h => Ann.free_keep (hn h)) (ih a.l fun h => Ann.free_l (hn h)) rounds 0 f1 H1 k h1
    exact ⟨lv, f', H', h3, h2.then h4⟩
  | rangeFunc f params assign body _ _ => intro a _ f H k r h; cases h
  | exit id => intro a _ f H k r h; exact ⟨_, f, H, h, .here fun _ _ _ => rfl⟩
  | scope b ih =>
    intro a hn
    exact at_code (g := fun f H k => codeT X call tr J rounds b a.l f H (scopeK b J k)) (fun h => Ann.free_keep (hn h)) (scope_ok hJ (ih a.l fun h => Ann.free_l (hn h)))
  | label l => intro a _ f H k r h; exact ⟨_, f, H, h, .here fun _ _ _ => rfl⟩
  | goto l => intro a _ f H k r h; exact ⟨_, f, H, h, .here fun _ _ _ => rfl⟩
  | ret => intro a _ f H k r h; exact ⟨_, f, H, h, .here fun _ _ _ => rfl⟩
  | refuse w => intro a _ f H k r h; cases h

theorem jump_at {ja : Ann} (hn : nf = true → ja.keep = none) {J : JumpT β} {JE : Nat × Nat → Ev.JumpF} (hJ : JumpTOk X nf J JE) : JumpTOk X nf (fun c rest f H k => atT ja f H fun f H => J c rest f H k) JE :=
  fun c rest => at_code (g := J c rest) hn (hJ c rest)

theorem jumpsR_ok {call : CallT β} (hcall : CallTOk X cf call) {tr : List Tmp} {ja : Ann} (hn : nf = true → ja.freeB = true) (rounds : Nat) : ∀ (m d : Nat), JumpTOk X nf (jumpsR X call tr ja rounds m) (fun n => Ev.jumpsA X.P X.G (cf n) n.1 (n.1 - d))
  | 0, d => fun c rest f H k r h => by cases h
  | m + 1, d => fun c rest => by
    have ih := jump_at (fun h => Ann.free_keep (hn h)) (jumpsR_ok (tr := tr) hcall hn rounds m (d + 1))
    have key := scope_ok (c := c) ih (code_ok (tr := tr) hcall ih rounds rest ja.l fun h => Ann.free_l (hn h))
    intro f H k r h
    obtain ⟨lv, f', H', h1, h2⟩ := key f H k r h
    refine ⟨lv, f', H', h1, h2.same ⟨d + 1, fun n fE E fE1 E1 hn' e1 => ?_⟩⟩
    have : n.1 - d = (n.1 - (d + 1)) + 1 := by omega
    show Ev.jumpsA X.P X.G (cf n) n.1 (n.1 - d) c rest fE E = _
    rw [this]; exact e1

theorem jumps_ok {call : CallT β} (hcall : CallTOk X cf call) {tr : List Tmp} {ja : Ann} (hn : nf = true → ja.freeB = true) (rounds : Nat) (m d : Nat) : JumpTOk X nf (jumpsT X call tr ja rounds m) (fun n => Ev.jumpsA X.P X.G (cf n) n.1 (n.1 - d)) :=
  jump_at (fun h => Ann.free_keep (hn h)) (jumpsR_ok hcall hn rounds m d)

theorem result_ok {H : TMem} {f : TFr} {rv : ResultVar} {k : AV → Option β} (h : resultT X H f rv k = some r) : ∃ v, k v = some r ∧ ∀ S E fE, Rel S H E → RelF S f fE → ∃ x, Ev.resultA X.P E fE rv = some x ∧ VR S v x := by
  unfold resultT at h
  split at h
  · rename_i t; exact ⟨_, h, fun S E fE hr hf => ⟨fE.get t, rfl, hf.v t⟩⟩
  · rename_i x t
    obtain ⟨v, h1, h2⟩ := load_val h
    exact ⟨v, h1, fun S E fE hr hf => h2 S E _ hr (hf.v x)⟩

theorem results_ok {H : TMem} {f : TFr} : ∀ {l : List ResultVar} {k : List AV → Option β}, resultsT X H f k l = some r → ∃ vs, k vs = some r ∧ ∀ S E fE, Rel S H E → RelF S f fE → ∃ xs, Ev.resultsA X.P E fE l = some xs ∧ LV S vs xs
  | [], k, h => ⟨[], h, fun S E fE hr hf => ⟨[], rfl, LV.nil⟩⟩
  | rv :: l, k, h => by
    obtain ⟨v, h1, h2⟩ := result_ok h
    obtain ⟨vs, h3, h4⟩ := results_ok h1
    refine ⟨v :: vs, h3, fun S E fE hr hf => ?_⟩
    obtain ⟨x, e1, e2⟩ := h2 S E fE hr hf
    obtain ⟨xs, e3, e4⟩ := h4 S E fE hr hf
    exact ⟨x :: xs, by simp only [Ev.resultsA, e1, e3], LV.cons e2 e4⟩

theorem one_ok {S : Wo} {vs : List AV} {xs : List Value} (h : LV S vs xs) : VR S (oneT vs) (Ev.oneA xs) := by
  match vs, xs, h with
  | [], xs, h => rw [h.nil_inv]; exact .tup [] [] rfl (fun j x y hx => by simp at hx)
  | [v], xs, h =>
    obtain ⟨x, m, rfl, h1, h2⟩ := h.cons_inv
    rw [h2.nil_inv]; exact h1
  | v :: w :: vs, xs, h =>
    obtain ⟨x, m, rfl, h1, h2⟩ := h.cons_inv
    obtain ⟨y, m', rfl, h3, h4⟩ := h2.cons_inv
    exact .tup _ _ h.1 h.2

theorem fill_total : ∀ (l : List Value) (f : Fr) (i : Nat), ∃ f', f.fill i l = some f'
  | [], f, i => ⟨f, rfl⟩
  | v :: l, f, i => by
    obtain ⟨f1, h1⟩ := Fr.put_total f (some i) v
    obtain ⟨f2, h2⟩ := fill_total l f1 (i + 1)
    exact ⟨f2, by simp only [Ev.Fr.fill, h1, h2]⟩

theorem fillF_ok {S : Wo} : ∀ {vs : List AV} {xs : List Value} {f : TFr} {fE fE' : Fr} {i : Nat}, RelF S f fE → LV S vs xs → fE.fill i xs = some fE' → RelF S (f.fill i vs) fE'
  | [], xs, f, fE, fE', i, hf, hl, h => by
    rw [hl.nil_inv] at h; cases h; exact hf
  | v :: vs, xs, f, fE, fE', i, hf, hl, h => by
    obtain ⟨x, m, rfl, h1, h2⟩ := hl.cons_inv
    simp only [Ev.Fr.fill] at h
    split at h
    · rename_i f1 hp
      exact fillF_ok (f := f.put (some i) v) (hf.put h1 hp) h2 h
    · cases h

/-- A function, entered. -/
theorem enter_ok {call : CallT β} (hcall : CallTOk X cf call) {an : FnAnn} (hn : nf = true → an.ann.freeB = true ∧ an.ja.freeB = true) {rounds : Nat} {id : FuncId} {args : List AV} {H : TMem} {k : AV → TMem → Option β} (h : enterT X call an rounds id args H k = some r) :
    ∃ v H', k v H' = some r ∧ ∀ (S : Wo) (E : Mem) (argsE : List Value), Rel S H E → GlobOk X S → LV S args argsE →
      ∃ S' vE E', (∃ N, ∀ n : Nat × Nat, N ≤ n.1 ∧ N ≤ n.2 → Ev.enterA X.P X.G (cf n) n.1 id argsE E = some (vE, E')) ∧ VR S' v vE ∧ Rel S' H' E' ∧ StC S H E S' H' E' ∧ (nf = true → S.le S' ∧ St S H E S' H' E') := by
  unfold enterT at h
  split at h
  case h_2 => cases h
  rename_i fn hfn
  split at h
  case h_2 => cases h
  rename_i c hc
  rw [pick2_eq] at h
  split at h
  case isFalse => cases h
  rename_i hlen
  have hJ := jumps_ok (tr := an.tr) hcall (fun h => (hn h).2) rounds rounds 0
  obtain ⟨lv, f', H', h1, h2⟩ := code_ok (tr := an.tr) hcall hJ rounds c an.ann (fun h => (hn h).1) _ _ _ _ h
  have fin : (lv = .normal ∨ lv = .ret) → resultsT X H' f' (fun vs => k (oneT vs) H') fn.results.toList = some r → ∃ v H', k v H' = some r ∧ ∀ (S : Wo) (E : Mem) (argsE : List Value), Rel S H E → GlobOk X S → LV S args argsE →
      ∃ S' vE E', (∃ N, ∀ n : Nat × Nat, N ≤ n.1 ∧ N ≤ n.2 → Ev.enterA X.P X.G (cf n) n.1 id argsE E = some (vE, E')) ∧ VR S' v vE ∧ Rel S' H' E' ∧ StC S H E S' H' E' ∧ (nf = true → S.le S' ∧ St S H E S' H' E') := fun hlv hres => by
    obtain ⟨vs, h3, h4⟩ := results_ok hres
    refine ⟨oneT vs, H', h3, fun S E argsE hr hg hl => ?_⟩
    obtain ⟨f0, hf0⟩ := fill_total argsE (Fr.mk fn.ntmps (Tr.full (Ev.depthOf fn.ntmps))) 0
    have hrel0 : RelF S (TFr.mk fn.ntmps .e) (Fr.mk fn.ntmps (Tr.full (Ev.depthOf fn.ntmps))) := ⟨rfl, fun i => .unk _⟩
    obtain ⟨S', fE', E', ⟨N, a1⟩, a2, a3, a4, a5⟩ := h2 S E f0 hr hg (fillF_ok hrel0 hl hf0)
    obtain ⟨xs, e1, e2⟩ := h4 S' E' fE' a3 a2
    refine ⟨S', Ev.oneA xs, E', ⟨N, fun n hn' => ?_⟩, one_ok e2, a3, a4, a5⟩
    unfold Ev.enterA
    have a1 := a1 n hn'
    simp only [Nat.sub_zero] at a1
    simp only [hfn, hc, hf0]
    have hlen' : Nat.ble argsE.length fn.ntmps = true := by rw [← hl.1]; exact hlen
    rw [hlen', a1]
    rcases hlv with rfl | rfl
    · show Ev.withMem E' ((Ev.resultsA X.P E' fE' fn.results.toList).map Ev.oneA) = _
      rw [e1]; rfl
    · show Ev.withMem E' ((Ev.resultsA X.P E' fE' fn.results.toList).map Ev.oneA) = _
      rw [e1]; rfl
  unfold returnK at h1
  split at h1
  · exact fin (.inl rfl) h1
  · exact fin (.inr rfl) h1
  · cases h1

/-- The evaluator's calls, by how many rounds and how deep. -/
noncomputable def cfOf (X : Cfg) (kn : Ev.Known) : Nat × Nat → Ev.CallF := fun n => Ev.callA X.P X.G kn n.1 n.2

theorem call_of_enter {kn : Ev.Known} {id : FuncId} (hk : ∀ args, kn id args = none) {argsE : List Value} {E E' : Mem} {vE : Value} (h : ∃ N, ∀ n : Nat × Nat, N ≤ n.1 ∧ N ≤ n.2 → Ev.enterA X.P X.G (cfOf X kn n) n.1 id argsE E = some (vE, E')) : ∃ N, ∀ n : Nat × Nat, N ≤ n.1 ∧ N ≤ n.2 → cfOf X kn n id argsE E = some (vE, E') := by
  obtain ⟨N, h⟩ := h
  refine ⟨N + 1, fun n hn => ?_⟩
  obtain ⟨R, D⟩ := n
  obtain ⟨D', rfl⟩ : ∃ D', D = D' + 1 := ⟨D - 1, by have := hn.2; simp only at this; omega⟩
  have := h (R, D') ⟨by have := hn.1; simp only at this ⊢; omega, by have := hn.2; simp only at this ⊢; omega⟩
  show Ev.callA X.P X.G kn R (D' + 1) id argsE E = _
  rw [Ev.callA_succ, hk]
  show Ev.orEnter (Ev.killsA X.P kn id argsE E) _ = _
  rw [Ev.kills_none (hk _)]
  show Ev.orEnter (Ev.enterA X.P X.G (Ev.callA X.P X.G kn R D') R id argsE E) _ = _
  have e : Ev.enterA X.P X.G (Ev.callA X.P X.G kn R D') R id argsE E = some (vE, E') := this
  rw [e]; rfl

/-- **A CONTRACT OUT OF A RUN** (without notes). -/
theorem csim_of {kn : Ev.Known} {id : FuncId} (hk : ∀ args, kn id args = none) {call : ∀ β, CallT β} (hcall : ∀ β, CallTOk X (cfOf X kn) (call β)) {an : FnAnn} (hn : an.ann.freeB = true ∧ an.ja.freeB = true) {rounds : Nat} {args : List AV} {H H' : TMem} {v : AV}
    (h : enterT X (call (AV × TMem)) an rounds id args H (fun v H => some (v, H)) = some (v, H')) : CSim X (cfOf X kn) id args H v H' := by
  obtain ⟨v', H1, h1, h2⟩ := enter_ok (nf := true) (hcall _) (fun _ => hn) h
  cases h1
  intro S E argsE hr hg hl
  obtain ⟨S', vE, E', a1, a2, a3, a4, a5⟩ := h2 S E argsE hr hg hl
  exact ⟨S', vE, E', call_of_enter hk a1, (a5 rfl).1, a2, a3, (a5 rfl).2⟩

end
end Go.Tv

namespace Go.Tv
open Go.Ev (Tr pick2 Leave Mem Blk alive pick2_eq alive_some opA Fr)

/-- A result: a value that leads to no memory, or a list of its own. -/
inductive PRes where
  | val (v : AV)
  | list (t : TypeId) (e : Ty) (l : List e.den)
  | room (t : TypeId) (e : Ty) (l : List e.den) (len : Nat)

/-- Results in a memory. -/
noncomputable def resOf : List PRes → TMem → List AV × TMem
  | [], H => ([], H)
  | .val v :: rs, H => (v :: (resOf rs H).1, (resOf rs H).2)
  | .list t e l :: rs, H => (.own H.next l.length :: (resOf rs (H.push (.list t e l 0 false false))).1, (resOf rs (H.push (.list t e l 0 false false))).2)
  | .room t e l len :: rs, H => (.osl H.next 0 len l.length :: (resOf rs (H.push (.list t e l 0 true false))).1, (resOf rs (H.push (.list t e l 0 true false))).2)

/-- A value that leads to no memory. -/
def scalB : AV → Bool
  | .int _ _ => true
  | .bool _ => true
  | .str _ => true
  | .flt _ => true
  | .nils => true
  | .nilp => true
  | .agg l => l.all fun v => match v with
    | .int _ _ => true
    | .bool _ => true
    | .str _ => true
    | .flt _ => true
    | .nils => true
    | .nilp => true
    | _ => false
  | _ => false

/-- What a run leaves is just these results. -/
def resAt (H : TMem) : List Nat → List AV → List PRes → Prop
  | _, [], [] => True
  | seen, v :: vs, .val w :: rs => v = w ∧ scalB w = true ∧ resAt H seen vs rs
  | seen, v :: vs, .list t e l :: rs => e.flatB = true ∧ ((∃ id ver ex, v = .own id l.length ∧ H.get id = some (.list t e l ver ex false) ∧ id ∉ seen ∧ resAt H (id :: seen) vs rs) ∨ (v = .nils ∧ l = [] ∧ resAt H seen vs rs))
  | seen, v :: vs, .room t e l len :: rs => e.flatB = true ∧ ∃ id ver, v = .osl id 0 len l.length ∧ H.get id = some (.list t e l ver true false) ∧ id ∉ seen ∧ resAt H (id :: seen) vs rs
  | _, _, _ => False

theorem CR.flatF {F F' : Nat → Option (List Value)} : ∀ (e : Ty), e.flatB = true → ∀ (x : e.den) (cs : List Value), CR F e x cs → CR F' e x cs
  | .int _, _, _, _, h => h
  | .bool, _, _, _, h => h
  | .str, _, _, _, h => h
  | .flt, _, _, _, h => h
  | .unit, _, _, _, h => h
  | .sl _, h, _, _, _ => by cases h
  | .pair a b, h, _, _, ⟨c1, c2, e, h1, h2⟩ => by
    simp only [Ty.flatB, Bool.and_eq_true] at h
    exact ⟨c1, c2, e, CR.flatF a h.1 _ _ h1, CR.flatF b h.2 _ _ h2⟩

theorem scal_VR {S S' : Wo} {v : AV} {x : Value} (h : scalB v = true) (hv : VR S v x) : VR S' v x := by
  cases hv with
  | int => exact .int _ _
  | bool => exact .bool _
  | str => exact .str _
  | flt => exact .flt _
  | nils => exact .nils
  | nilp => exact .nilp
  | agg l m hl hm =>
    refine .agg l m hl fun j a b ha hb => ?_
    have h1 := hm j a b ha hb
    have h2 := List.all_eq_true.1 h a (List.mem_of_getElem? ha)
    cases h1 <;> first | (cases h2; done) | constructor
  | _ => cases h

/-- The evaluator's memory may grow. -/
theorem Rel.grow {S : Wo} {H : TMem} {E E' : Mem} (h : Rel S H E) (hs : E.size ≤ E'.size) (hlk : E'.lk = E.lk) (hk : ∀ i, i < E.size → E'.get i = E.get i) : Rel S H E' := by
  refine ⟨fun i cs hi => ?_, h.dom, h.gam, fun id q hq => ?_, h.inj, h.sep, fun id q x hq hl hx => by rw [hlk]; exact h.lk id q x hq hl hx, h.lsz, h.psz, by rw [hlk]; have := h.esz; omega⟩
  · obtain ⟨b, h1, h2⟩ := h.fz i cs hi
    exact ⟨b, by rw [alive_congr (hk i (alive_lt h1))]; exact h1, h2⟩
  · exact (h.row id q hq).keep S.le_refl (fun h => h) (fun _ h => h) fun x hx => by
      obtain ⟨b, hb⟩ := h.old hq hx
      exact hk _ (Mem.get_lt hb)

/-- A row more on our side: one that is there and nobody's. -/
theorem Rel.addAt {S : Wo} {H : TMem} {E : Mem} (h : Rel S H E) {r : Row} {x : Option (Nat × Nat × Nat)} {g : Option (Sigma fun e : Ty => List e.den)}
    (hr : ∀ r', r.live = some r' → RowAt (S.new H.next x g) E H.next r')
    (hx : ∀ y, x = some y → (∀ id q z, H.get id = some q → S.ρ id = some z → z.1 ≠ y.1) ∧ S.F y.1 = none ∧ E.lk ≤ y.1) :
    S.le (S.new H.next x g) ∧ Rel (S.new H.next x g) (H.push r) E := by
  have hle := Wo.new_le h x g
  obtain ⟨p1, p2, p3, p4⟩ := TMem.push_spec H r
  have ρne : ∀ id, id ≠ H.next → (S.new H.next x g).ρ id = S.ρ id := fun id hid => if_neg hid
  have ρeq : (S.new H.next x g).ρ H.next = x := if_pos rfl
  have Γne : ∀ id v, id ≠ H.next → (S.new H.next x g).Γ id v = S.Γ id v := fun id v hid => if_neg (by omega)
  have get1 : ∀ id r', (H.push r).get id = some r' → (id = H.next ∧ r.live = some r') ∨ (id ≠ H.next ∧ H.get id = some r') := fun id r' hid => by
    rw [p4] at hid
    by_cases e : id = H.next
    · rw [if_pos e] at hid; exact .inl ⟨e, hid⟩
    · rw [if_neg e] at hid; exact .inr ⟨e, hid⟩
  refine ⟨hle, ⟨h.fz, fun id y hy => ?_, fun id v hv => ?_, fun id r' hg => ?_, fun id id' r1 r2 y y' hg hg' hy hy' he => ?_, fun id r' y hg hb hy => ?_, fun id r' y hg hl hy => ?_, by rw [p1, p2]; have := h.lsz; omega, by rw [p1, p3]; have := h.psz; omega, h.esz⟩⟩
  · rw [p1]
    by_cases e : id = H.next
    · omega
    · rw [ρne id e] at hy; have := h.dom id y hy; omega
  · rw [p1] at hv
    rw [Γne id v (by omega)]; exact h.gam id v (by omega)
  · rcases get1 id r' hg with ⟨rfl, hr'⟩ | ⟨e, hg'⟩
    · exact hr r' hr'
    · exact (h.row id r' hg').keep hle (fun hn => by rw [ρne id e]; exact hn) (fun v hv => by rw [Γne id v e]; exact hv) fun y hy => rfl
  · rcases get1 id r1 hg with ⟨rfl, h1⟩ | ⟨e1, h1⟩ <;> rcases get1 id' r2 hg' with ⟨rfl, h2⟩ | ⟨e2, h2⟩
    · rfl
    · rw [ρeq] at hy; rw [ρne id' e2] at hy'
      exact absurd he.symm ((hx y hy).1 id' r2 y' h2 hy')
    · rw [ρeq] at hy'; rw [ρne id e1] at hy
      exact absurd he ((hx y' hy').1 id r1 y h1 hy)
    · rw [ρne id e1] at hy; rw [ρne id' e2] at hy'
      exact h.inj id id' r1 r2 y y' h1 h2 hy hy' he
  · rcases get1 id r' hg with ⟨rfl, h1⟩ | ⟨e1, h1⟩
    · rw [ρeq] at hy; exact (hx y hy).2.1
    · rw [ρne id e1] at hy; exact h.sep id r' y h1 hb hy
  · rw [p2] at hl
    rcases get1 id r' hg with ⟨rfl, h1⟩ | ⟨e1, h1⟩
    · rw [ρeq] at hy; exact (hx y hy).2.2
    · rw [ρne id e1] at hy; exact h.lk id r' y h1 hl hy

def TookOver (S : Wo) (H : TMem) (E E' : Mem) (rs : List PRes) (xs : List Value) : Prop :=
  ∃ S', S.le S' ∧ LV S' (resOf rs H).1 xs ∧ Rel S' (resOf rs H).2 E' ∧ S'.F = S.F ∧ H.next ≤ (resOf rs H).2.next ∧ (resOf rs H).2.lk = H.lk ∧ (resOf rs H).2.par = H.par ∧
      (∀ id, id < H.next → (resOf rs H).2.get id = H.get id ∧ S'.ρ id = S.ρ id) ∧ (∀ id q z, H.next ≤ id → (resOf rs H).2.get id = some q → S'.ρ id = some z → E.size ≤ z.1)

/-- Results are taken over. -/
theorem take_over {S1 : Wo} {H1 : TMem} {E E' : Mem} (hr1 : Rel S1 H1 E') (hnew : ∀ id r y, H1.get id = some r → r.roB = false → S1.ρ id = some y → E.size ≤ y.1) (hlk : E'.lk ≤ E.size) : ∀ {vs : List AV} {rs : List PRes} {seen : List Nat} {xs : List Value} {S : Wo} {H : TMem}, resAt H1 seen vs rs → LV S1 vs xs → Rel S H E' →
    (∀ i, S.F i ≠ none → i < E.size) → (∀ id q z, H.get id = some q → S.ρ id = some z → z.1 < E.size ∨ ∃ id1 y, id1 ∈ seen ∧ S1.ρ id1 = some y ∧ y.1 = z.1 ∧ H1.get id1 ≠ none) →
    TookOver S H E E' rs xs
  | [], [], seen, xs, S, H, _, hl, hr, hF, hown => by
    rw [hl.nil_inv]
    exact ⟨S, S.le_refl, LV.nil, hr, rfl, Nat.le_refl _, rfl, rfl, fun _ _ => ⟨rfl, rfl⟩, fun id q z hid hq _ => absurd (TMem.get_lt hq) (by show ¬ id < H.next; omega)⟩
  | v :: vs, r0 :: rs, seen, xs, S, H, h, hl, hr, hF, hown => by
    obtain ⟨x, xs', rfl, h1, h2⟩ := hl.cons_inv
    have hgam : ∀ v, S.Γ H.next v = none := fun v => hr.gam _ _ (Nat.le_refl _)
    -- how to go on behind a row more
    have go : ∀ (t : TypeId) (e : Ty) (l : List e.den) (ex : Bool) (vv : AV) (seen' : List Nat) (y : Option (Nat × Nat × Nat)), (resOf (r0 :: rs) H = (vv :: (resOf rs (H.push (.list t e l 0 ex false))).1, (resOf rs (H.push (.list t e l 0 ex false))).2)) → resAt H1 seen' vs rs → S.le (S.new H.next y (some ⟨e, l⟩)) → Rel (S.new H.next y (some ⟨e, l⟩)) (H.push (.list t e l 0 ex false)) E' → VR (S.new H.next y (some ⟨e, l⟩)) vv x →
        (∀ z, y = some z → E.size ≤ z.1 ∧ ∃ id1 y1, id1 ∈ seen' ∧ S1.ρ id1 = some y1 ∧ y1.1 = z.1 ∧ H1.get id1 ≠ none) → (∀ id, id ∈ seen → id ∈ seen') → TookOver S H E E' (r0 :: rs) (x :: xs') := fun t e l ex vv seen' y heq hres hle hrel hvr hy hsub => by
      obtain ⟨p1, p2, p3, p4⟩ := TMem.push_spec H (.list t e l 0 ex false)
      have hown' : ∀ id q z, (H.push (.list t e l 0 ex false)).get id = some q → (S.new H.next y (some ⟨e, l⟩)).ρ id = some z → z.1 < E.size ∨ ∃ id1 y, id1 ∈ seen' ∧ S1.ρ id1 = some y ∧ y.1 = z.1 ∧ H1.get id1 ≠ none := fun id q z hq hz => by
        rw [p4] at hq
        by_cases hid : id = H.next
        · subst hid
          have hz : y = some z := by rw [← hz]; exact (if_pos rfl).symm
          exact .inr (hy z hz).2
        · rw [if_neg hid] at hq
          have hz : S.ρ id = some z := by rw [← hz]; exact (if_neg hid).symm
          rcases hown id q z hq hz with h | ⟨id1, y1, k1, k2⟩
          · exact .inl h
          · exact .inr ⟨id1, y1, hsub _ k1, k2⟩
      obtain ⟨S', a1, a2, a3, a4, a5, a6, a7, a8, a9⟩ := take_over hr1 hnew hlk hres h2 hrel hF hown'
      rw [p1] at a5 a8 a9
      rw [p2] at a6; rw [p3] at a7
      unfold TookOver
      rw [heq]
      exact
        ⟨S', Wo.le_trans hle a1, LV.cons (hvr.mono a1) a2, a3, a4, by show H.next ≤ _; exact Nat.le_trans (Nat.le_succ _) a5, a6, a7, fun id hid => by
          obtain ⟨b1, b2⟩ := a8 id (by omega)
          refine ⟨b1.trans (by rw [p4, if_neg (by omega)]), b2.trans (if_neg (by omega))⟩, fun id q z hid hq hz => by
          by_cases hid' : id = H.next
          · subst hid'
            have : S'.ρ H.next = (S.new H.next y (some ⟨e, l⟩)).ρ H.next := (a8 H.next (by omega)).2
            rw [this] at hz
            have hz : y = some z := by rw [← hz]; exact (if_pos rfl).symm
            exact (hy z hz).1
          · exact a9 id q z (by omega) hq hz⟩
    -- a row that is nobody's
    have nobody : ∀ {id : Nat} {q0 : Row} {i0 cap0 s0 : Nat}, H1.get id = some q0 → q0.roB = false → S1.ρ id = some (i0, cap0, s0) → id ∉ seen → E.size ≤ i0 ∧ ((∀ id2 q z, H.get id2 = some q → S.ρ id2 = some z → z.1 ≠ i0) ∧ S.F i0 = none ∧ E'.lk ≤ i0) := fun {id q0 i0 cap0 s0} hg hro hρ hns => by
      have hsz := hnew id _ _ hg hro hρ
      simp only at hsz
      refine ⟨hsz, fun id2 q z hq hz he => ?_, ?_, by omega⟩
      · rcases hown id2 q z hq hz with h3 | ⟨id1, y1, k1, k2, k3, k4⟩
        · omega
        · cases hq1 : H1.get id1 with
          | none => exact absurd hq1 k4
          | some r1 =>
            have := hr1.inj id1 id r1 _ y1 _ hq1 hg k2 hρ (by simp only; omega)
            subst this
            exact hns k1
      · cases hFi : S.F i0 with
        | none => rfl
        | some cs => have := hF i0 (by rw [hFi]; simp); omega
    cases r0 with
    | val w =>
      obtain ⟨rfl, hs, h⟩ := h
      obtain ⟨S', a1, a2, a3⟩ := take_over hr1 hnew hlk h h2 hr hF hown
      exact ⟨S', a1, LV.cons (scal_VR hs h1) a2, a3⟩
    | room t e l len =>
      obtain ⟨hflat, id, ver, rfl, hg, hns, h⟩ := h
      obtain ⟨g1, ⟨g0, g, g2, g2'⟩, g3⟩ := hr1.row id _ hg
      generalize hll : l.length = n at h1
      generalize hlz : (0 : Nat) = zz at h1
      cases h1 with
      | osl _ _ _ _ i0 c0 s0 hρ g' hg' hcc hle0 =>
        subst hlz; subst hll
        rcases g3 with ⟨_, g5, _⟩ | ⟨i', cap, b, mid, post, q1, q2, q3, q4, q5, q6, q7, q8, q9, q10⟩
        · rw [hρ] at g5; cases g5
        · rw [hρ] at q1; cases q1
          obtain ⟨hsz, hno⟩ := nobody hg rfl hρ hns
          obtain ⟨b1, b2⟩ := hr.addAt (r := .list t e l 0 true false) (x := some (i0, c0, e.size)) (g := some ⟨e, l⟩) (fun r' hr' => by
            cases hr'
            exact new_rowAt hgam q2 q3 q4 (q5.mono fun x c => CR.flatF e hflat x c) q6 q7 q8 (fun _ => q9 rfl) (q10.2.imp fun l2 h => h.mono fun x c => CR.flatF e hflat x c)) (fun y hy => by cases hy; exact hno)
          refine go t e l true _ (id :: seen) _ rfl h b1 b2 (.osl _ 0 len l.length i0 c0 e.size (if_pos rfl) ⟨e, l⟩ (if_pos ⟨rfl, rfl⟩) (by simp) hle0) (fun z hz => ?_) (fun id hid => List.mem_cons_of_mem _ hid)
          cases hz
          exact ⟨hsz, id, _, List.mem_cons_self, hρ, rfl, by rw [hg]; simp⟩
    | list t e l =>
      obtain ⟨hflat, h⟩ := h
      rcases h with ⟨id, ver, ex, rfl, hg, hns, h⟩ | ⟨rfl, rfl, h⟩
      · obtain ⟨g1, ⟨g0, g, g2, g2'⟩, g3⟩ := hr1.row id _ hg
        have hCR : ∀ {mid : List Value}, CRL (CR S1.F e) l mid → CRL (CR S.F e) l mid := fun hC => hC.mono fun x c => CR.flatF e hflat x c
        generalize hll : l.length = n at h1
        cases h1 with
        | own _ _ i0 cap0 s0 hρ g' hg' hn' =>
          rcases g3 with ⟨_, g5, _⟩ | ⟨i', cap, b, mid, post, q1, q2, q3, q4, q5, q6, q7, q8, q9, q10⟩
          · rw [hρ] at g5; cases g5
          · rw [hρ] at q1; cases q1
            subst hll
            obtain ⟨hsz, hno⟩ := nobody hg rfl hρ hns
            obtain ⟨b1, b2⟩ := hr.addAt (r := .list t e l 0 false false) (x := some (i0, cap0, e.size)) (g := some ⟨e, l⟩) (fun r' hr' => by
              cases hr'
              exact new_rowAt hgam q2 q3 q4 (hCR q5) q6 q7 q8 (fun h => by cases h) (q10.2.imp fun l2 h => h.mono fun x c => CR.flatF e hflat x c)) (fun y hy => by cases hy; exact hno)
            refine go t e l false _ (id :: seen) _ rfl h b1 b2 (.own _ _ i0 cap0 e.size (if_pos rfl) ⟨e, l⟩ (if_pos ⟨rfl, rfl⟩) rfl) (fun z hz => ?_) (fun id hid => List.mem_cons_of_mem _ hid)
            cases hz
            exact ⟨hsz, id, _, List.mem_cons_self, hρ, rfl, by rw [hg]; simp⟩
        | ownNil _ g' hg' hn' =>
          have hl0 : l = [] := List.length_eq_zero_iff.1 hll
          subst hl0
          obtain ⟨b1, b2⟩ := hr.addAt (r := .list t e [] 0 false false) (x := none) (g := some ⟨e, []⟩) (fun r' hr' => by cases hr'; exact nil_rowAt hgam) (fun y hy => by cases hy)
          exact go t e [] false _ (id :: seen) none rfl h b1 b2 (.ownNil _ ⟨e, []⟩ (if_pos ⟨rfl, rfl⟩) rfl) (fun z hz => by cases hz) (fun id hid => List.mem_cons_of_mem _ hid)
      · cases h1
        obtain ⟨b1, b2⟩ := hr.addAt (r := .list t e [] 0 false false) (x := none) (g := some ⟨e, []⟩) (fun r' hr' => by cases hr'; exact nil_rowAt hgam) (fun y hy => by cases hy)
        exact go t e [] false _ seen none rfl h b1 b2 (.ownNil _ ⟨e, []⟩ (if_pos ⟨rfl, rfl⟩) rfl) (fun z hz => by cases hz) (fun id hid => hid)

/-- How arguments of a call are seen by the function: as they are, or lists by their elements. -/
def scalF : AV → Bool
  | .fl _ => true
  | a => scalB a
theorem scalF_VR {S S' : Wo} {v : AV} {x : Value} (h : scalF v = true) (hv : VR S v x) : VR S' v x := by
  cases v with
  | fl a => cases hv with | fl _ _ h => exact .fl _ _ h
  | _ => exact scal_VR h hv
def ArgAt (H : TMem) (a b : AV) : Prop := (a = b ∧ scalF a = true) ∨ (∃ e l, b = .lst e l ∧ viewL H e a = some l ∧ ∀ s, a ≠ .str s)

section
variable {X : Cfg} {cf : Nat × Nat → Ev.CallF}

/-- A run of a function from no rows of its own. -/
def PureAt (X : Cfg) (cf : Nat × Nat → Ev.CallF) (f : FuncId) (args : List AV) (vs : List AV) (H' : TMem) : Prop :=
  ∀ (S : Wo) (E : Mem) (argsE : List Value), Rel S TMem.empty E → GlobOk X S → LV S args argsE →
    ∃ S' vE E', (∃ N, ∀ n : Nat × Nat, N ≤ n.1 ∧ N ≤ n.2 → cf n f argsE E = some (vE, E')) ∧ (∃ xs, vE = Ev.oneA xs ∧ LV S' vs xs) ∧ Rel S' H' E' ∧ StC S TMem.empty E S' H' E'

theorem empty_get (j : Nat) : TMem.empty.get j = none := by
  rw [TMem.get_eq]; simp [TMem.empty]

theorem rel_empty (F : Nat → Option (List Value)) (E : Mem) (hF : ∀ i cs, F i = some cs → ∃ b, alive E i = some b ∧ b.cells = cs) (he : E.lk ≤ E.size) : Rel ⟨F, fun _ => none, fun _ _ => none⟩ TMem.empty E :=
  ⟨hF, fun _ _ h => (by cases h), fun _ _ _ => rfl, fun id r h => (by rw [empty_get] at h; cases h), fun id id' r r' x x' h => (by rw [empty_get] at h; cases h), fun id r x h => (by rw [empty_get] at h; cases h), fun id r x h => (by rw [empty_get] at h; cases h), Nat.le_refl _, Nat.le_refl _, he⟩

/-- All rows that are there, made to stay for a while. -/
noncomputable def allF (E : Mem) : Nat → Option (List Value) := fun i => (alive E i).map (·.cells)

theorem arg_ok {S : Wo} {H : TMem} {E : Mem} (hr : Rel S H E) {a b : AV} {x : Value} (h : ArgAt H a b) (hx : VR S a x) : VR ⟨allF E, fun _ => none, fun _ _ => none⟩ b x := by
  have hle : ∀ i cs, S.F i = some cs → allF E i = some cs := fun i cs hi => by
    obtain ⟨bk, h1, h2⟩ := hr.fz i cs hi
    show (alive E i).map (·.cells) = _
    rw [h1]; simp [h2]
  rcases h with ⟨rfl, hs⟩ | ⟨e, l, rfl, hv, hns⟩
  · exact scalF_VR hs hx
  · refine .lst e l x ?_
    have hCR : ∀ {l : List e.den} {mid : List Value}, CRL (CR S.F e) l mid → CRL (CR (allF E) e) l mid := fun hC => hC.mono fun x c => CR.mono hle e x c
    have row : ∀ (i : Nat) (bk : Blk), alive E i = some bk → allF E i = some bk.cells := fun i bk hb => by show (alive E i).map (·.cells) = _; rw [hb]; rfl
    unfold viewL at hv
    split at hv
    · rename_i e' l'
      obtain ⟨he, hc⟩ := castL_spec hv
      subst he
      have hc : l' = l := hc
      subst hc
      cases hx with
      | lst _ _ _ hS => exact hS.mono hle
    · cases hv; cases hx; exact .inl ⟨rfl, rfl⟩
    · rename_i id n
      split at hv
      · rename_i t' e' l' ver ex ro hg
        obtain ⟨he, hc⟩ := castL_spec hv
        subst he
        have hc : l' = l := hc
        subst hc
        obtain ⟨S', k1, k2, k3, k4⟩ := freeze_row hr hg
        obtain ⟨rfl, hv⟩ := k4 n x hx
        rcases hv with ⟨rfl, rfl⟩ | ⟨i, mid, post, cap, rfl, hF, hC, hcap⟩
        · exact .inl ⟨rfl, rfl⟩
        · obtain ⟨bk, b1, b2⟩ := k2.fz i _ hF
          refine .inr ⟨i, [], mid, post, cap, rfl, by show allF E i = _; rw [row i bk b1, b2]; rfl, ?_, hcap⟩
          exact hC.mono fun x c => CR.mono (fun i cs hi => by
            obtain ⟨bk, h1, h2⟩ := k2.fz i cs hi
            show allF E i = _
            rw [row i bk h1, h2]) e' x c
      · cases hv
    · rename_i id off len cap1
      split at hv
      · rename_i t' e' l' ver ex ro hg
        split at hv
        · rename_i l2 hcl
          cases hv
          obtain ⟨he, hc⟩ := castL_spec hcl
          subst he
          have hc : l' = l2 := hc
          subst hc
          obtain ⟨g1, ⟨_, g, g2, g2'⟩, g3⟩ := hr.row id _ hg
          cases hx with
          | osl _ _ _ _ i0 c0 s0 hρ g' hg' hcc hll =>
            rw [g2] at hg'; cases hg'
            rcases g3 with ⟨_, g5, _⟩ | ⟨i', cap, b, mid, post, q1, q2, q3, q4, q5, q6, q7, q8, q9, q10⟩
            · rw [hρ] at g5; cases g5
            · rw [hρ] at q1; cases q1
              have hlen : ((l'.drop off).take len).length = len := by simp; omega
              have := SR.cut (cap := cap1 + off) (a := (off : Int)) (b := ((off + len : Nat) : Int)) (pre := []) (post := post) (F := allF E) (i := i0) (fun x c => CR.length e' x c) (by rw [row i0 b q2, q4]; rfl) (hCR q5) (by omega) (by omega) (by omega) (by omega)
              have e1 : cutL l' (off : Int) ((off + len : Nat) : Int) = (l'.drop off).take len := by
                simp only [cutL, Int.toNat_natCast]; congr 1; omega
              rw [e1] at this
              simp only [Int.toNat_natCast, List.length_nil, Nat.zero_add, Nat.add_sub_cancel_left, Nat.add_sub_cancel] at this
              exact this
        · cases hv
      · cases hv
    · rename_i s; exact absurd rfl (hns s)
    · cases hv

/-- **A CONTRACT, WHEREVER IT IS CALLED.** -/
theorem PureAt.csim {f : FuncId} {args args2 vs : List AV} {H1 : TMem} {rs : List PRes} (h : PureAt X cf f args vs H1) (hres : resAt H1 [] vs rs) {H : TMem} (hargs : args2.length = args.length) (hat : ∀ (j : Nat) a b, args2[j]? = some a → args[j]? = some b → ArgAt H a b) :
    CSim X cf f args2 H (oneT (resOf rs H).1) (resOf rs H).2 := by
  intro S E argsE hr hg hl
  have hle : ∀ i cs, S.F i = some cs → allF E i = some cs := fun i cs hi => by
    obtain ⟨bk, h1, h2⟩ := hr.fz i cs hi
    show (alive E i).map (·.cells) = _
    rw [h1]; simp [h2]
  have hr0 : Rel ⟨allF E, fun _ => none, fun _ _ => none⟩ TMem.empty E := rel_empty _ E (fun i cs hi => by
    have hi : (alive E i).map (·.cells) = some cs := hi
    simp only [Option.map_eq_some_iff] at hi
    obtain ⟨b, h1, h2⟩ := hi; exact ⟨b, h1, h2⟩) hr.esz
  have hl0 : LV ⟨allF E, fun _ => none, fun _ _ => none⟩ args argsE := ⟨by rw [← hargs]; exact hl.1, fun j b x hb hx => by
    have hlt := get_lt hb
    have h2 : j < args2.length := by omega
    exact arg_ok hr (hat j args2[j] b (List.getElem?_eq_getElem h2) hb) (hl.2 j _ x (List.getElem?_eq_getElem h2) hx)⟩
  obtain ⟨S1, vE, E', a1, ⟨xs, rfl, a2⟩, a3, a4⟩ := h _ E argsE hr0 (hg.mono' hle) hl0
  have noOwn : ∀ i, ¬ Own ⟨allF E, fun _ => none, fun _ _ => none⟩ TMem.empty i := fun i ⟨id, r, x, h1, _⟩ => by rw [empty_get] at h1; cases h1
  have hkeep : ∀ i, i < E.size → E'.get i = E.get i := fun i hi => a4.keep i hi (noOwn i)
  have hrE := hr.grow a4.sz a4.lk hkeep
  obtain ⟨S', b1, b2, b3, b4, b5, b6, b7, b8, b9⟩ := take_over (E := E) a3 (fun id r y h1 h2 h3 => by
    by_cases hy : y.1 < E.size
    · exact absurd (a4.own y.1 ⟨id, r, y, h1, h2, h3, rfl⟩ hy) (noOwn _)
    · omega) (by rw [a4.lk]; exact hr.esz) hres a2 hrE (fun i hi => by
    cases hF : S.F i with
    | none => exact absurd hF hi
    | some cs => obtain ⟨b, h1, _⟩ := hr.fz i cs hF; exact alive_lt h1) (fun id q z hq hz => .inl (by obtain ⟨b, hb⟩ := hr.old hq hz; exact Mem.get_lt hb))
  refine ⟨S', Ev.oneA xs, E', a1, b1, one_ok b2, b3, ⟨a4.sz, a4.lk, b6, b7, b1.F, fun i ho hi => ?_, fun i hi => .inl (by rw [b4] at hi; exact hi), fun i hi _ => hkeep i hi, fun id hid => (b8 id (Nat.lt_of_lt_of_le hid hr.psz)).2, b5, fun id hid hl => by rw [(b8 id hid).1] at hl; exact hl, fun id hid hn => by rw [(b8 id hid).2]; exact hn⟩⟩
  obtain ⟨id, q, y, h1, h2, h3, rfl⟩ := ho
  by_cases hid : id < H.next
  · rw [(b8 id hid).1] at h1
    rw [(b8 id hid).2] at h3
    exact ⟨id, q, y, h1, h2, h3, rfl⟩
  · have := b9 id q y (by omega) h1 h3
    omega

/-- A run out of a walk. -/
theorem pure_of {kn : Ev.Known} {id : FuncId} (hk : ∀ args, kn id args = none) {call : ∀ β, CallT β} (hcall : ∀ β, CallTOk X (cfOf X kn) (call β)) {an : FnAnn} {rounds : Nat} {args vs : List AV} {H' : TMem}
    (h : enterT X (call (AV × TMem)) an rounds id args TMem.empty (fun v H => some (v, H)) = some (oneT vs, H')) : ∀ (S : Wo) (E : Mem) (argsE : List Value), Rel S TMem.empty E → GlobOk X S → LV S args argsE →
    ∃ S' vE E', (∃ N, ∀ n : Nat × Nat, N ≤ n.1 ∧ N ≤ n.2 → cfOf X kn n id argsE E = some (vE, E')) ∧ VR S' (oneT vs) vE ∧ Rel S' H' E' ∧ StC S TMem.empty E S' H' E' := by
  obtain ⟨v', H1, h1, h2⟩ := enter_ok (nf := false) (hcall _) (fun h => by cases h) h
  cases h1
  intro S E argsE hr hg hl
  obtain ⟨S', vE, E', a1, a2, a3, a4, _⟩ := h2 S E argsE hr hg hl
  exact ⟨S', vE, E', call_of_enter hk a1, a2, a3, a4⟩

end
end Go.Tv
