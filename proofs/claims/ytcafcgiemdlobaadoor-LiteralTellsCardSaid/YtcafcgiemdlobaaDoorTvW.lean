/- All operations of the layer, steps, regions. -/
import Derived.Test.YtcafcgiemdlobaaDoorTvV
namespace Go.Tv
open Go.Ev (Tr pick2 Leave Mem Blk alive pick2_eq alive_some semPure pureA opA addrFree withMem orElse)

/-- Package-level variables are as given. -/
def GlobOk (X : Cfg) (S : Wo) : Prop := ∀ g, g < X.G → X.gv g ≠ [] → ∃ cs, S.F g = some cs ∧ ∀ T : Wo, (∀ i x, S.F i = some x → T.F i = some x) → LV T (X.gv g) cs

theorem GlobOk.mono' {X : Cfg} {S S' : Wo} (h : GlobOk X S) (hle : ∀ i x, S.F i = some x → S'.F i = some x) : GlobOk X S' := fun g hg he => let ⟨cs, h1, h2⟩ := h g hg he; ⟨cs, hle _ _ h1, fun T hT => h2 T fun i x hx => hT i x (hle i x hx)⟩
theorem GlobOk.mono {X : Cfg} {S S' : Wo} (h : GlobOk X S) (hle : S.le S') : GlobOk X S' := h.mono' hle.F

/-- A call, on both sides. -/
def CSim (X : Cfg) (cf : Nat × Nat → Ev.CallF) (f : FuncId) (args : List AV) (H : TMem) (v : AV) (H' : TMem) : Prop :=
  ∀ (S : Wo) (E : Mem) (argsE : List Value), Rel S H E → GlobOk X S → LV S args argsE →
    ∃ S' vE E', (∃ N, ∀ n : Nat × Nat, N ≤ n.1 ∧ N ≤ n.2 → cf n f argsE E = some (vE, E')) ∧ S.le S' ∧ VR S' v vE ∧ Rel S' H' E' ∧ St S H E S' H' E'

/-- What is asked of calls. -/
def CallTOk (X : Cfg) (cf : Nat × Nat → Ev.CallF) {β : Type} (call : CallT β) : Prop :=
  ∀ f args H k (r : β), call f args H k = some r → ∃ v H', k v H' = some r ∧ CSim X cf f args H v H'


/-- An operation, where package-level variables are as given. -/
def OpSimG (X : Cfg) (cf : Nat × Nat → Ev.CallF) (o : Oper) (ev : Operand → AV) (H : TMem) (v : AV) (H' : TMem) : Prop :=
  ∀ (S : Wo) (E : Mem) (evE : Operand → Value), Rel S H E → GlobOk X S → (∀ x ∈ o.op.operands, VR S (ev x) (evE x)) →
    ∃ S' vE E', (∃ N, ∀ n : Nat × Nat, N ≤ n.1 ∧ N ≤ n.2 → opA X.P (cf n) evE o E = some (vE, E')) ∧ S.le S' ∧ VR S' v vE ∧ Rel S' H' E' ∧ St S H E S' H' E'

theorem OpSim.glob {X : Cfg} {cf : Nat × Nat → Ev.CallF} {o : Oper} {ev : Operand → AV} {H H' : TMem} {v : AV} (h : OpSim X cf o ev H v H') : OpSimG X cf o ev H v H' := fun S E evE hr _ hev => h S E evE hr hev

section
variable {X : Cfg} {cf : Nat × Nat → Ev.CallF} {o : Oper} {ev : Operand → AV} {H : TMem} {β : Type} {r : β}

theorem same_sim {x : Operand} (h : o.op = .move x ∨ o.op = .assign x) : OpSim X cf o ev H (ev x) H := .quiet fun S E evE hr hev => by
  rcases h with h | h
  · rw [h] at hev
    exact ⟨evE x, fun call => by unfold opA; rw [h], hev x (by simp [Op.operands])⟩
  · rw [h] at hev
    exact ⟨evE x, fun call => by unfold opA; rw [h], hev x (by simp [Op.operands])⟩

theorem pick_sim {c a b : Operand} {t : Bool} (h : o.op = .pick c a b) (hc : ev c = .bool t) : OpSim X cf o ev H (pick2 t (ev a) (ev b)) H := .quiet fun S E evE hr hev => by
  rw [h] at hev
  have h1 := hev c (by simp [Op.operands])
  rw [hc] at h1
  refine ⟨pick2 t (evE a) (evE b), fun call => ?_, ?_⟩
  · unfold opA; rw [h]
    show Ev.opPick (evE c) (evE a) (evE b) E = _
    rw [h1.bool_inv]; rfl
  · cases t
    · exact hev b (by simp [Op.operands])
    · exact hev a (by simp [Op.operands])

theorem nil_sim {x : Operand} {v : AV} (h : o.op = .nilCheck x) (hv : ev x = v) (hk : (∃ id off, v = .ptr id off) ∨ (∃ id n, v = .apt id n) ∨ (∃ cs, v = .fpt cs) ∨ ∃ f a b, v = .fn f a b) : OpSim X cf o ev H v H := .quiet fun S E evE hr hev => by
  rw [h] at hev
  have h1 := hev x (by simp [Op.operands])
  refine ⟨evE x, fun call => ?_, by rw [← hv]; exact h1⟩
  unfold opA; rw [h]
  show Ev.opNilCheck (evE x) E = _
  rw [hv] at h1
  rcases hk with ⟨id, off, rfl⟩ | ⟨id, n, rfl⟩ | ⟨cs, rfl⟩ | ⟨f, a, b, rfl⟩ <;> (generalize evE x = A at h1; cases h1; rfl)

theorem extract_sim {x : Operand} {i : Nat} {vs : List AV} {v : AV} (h : o.op = .extract x i) (hx : ev x = .tup vs) (hv : vs[i]? = some v) : OpSim X cf o ev H v H := .quiet fun S E evE hr hev => by
  rw [h] at hev
  have h1 := hev x (by simp [Op.operands])
  rw [hx] at h1
  generalize hA : evE x = A at h1
  cases h1 with
  | tup _ m hl hm =>
    obtain ⟨y, hy, hvy⟩ := LV.get (S := S) ⟨hl, hm⟩ hv
    refine ⟨y, fun call => ?_, hvy⟩
    unfold opA; rw [h]
    show Ev.opExtract (evE x) i E = _
    rw [hA]
    simp only [Ev.opExtract, hy]
    rfl

theorem makeFunc_sim {f : FuncId} {first captured : Array Operand} (h : o.op = .makeFunc (.func f) first captured) : OpSim X cf o ev H (.fn f (first.toList.map ev) (captured.toList.map ev)) H := .quiet fun S E evE hr hev => by
  rw [h] at hev
  refine ⟨.func (.func f) (first.map evE) (captured.map evE), fun call => by unfold opA; rw [h], ?_⟩
  have e1 : first.map evE = (first.toList.map evE).toArray := by apply Array.toList_inj.1; rw [Array.toList_map]
  have e2 : captured.map evE = (captured.toList.map evE).toArray := by apply Array.toList_inj.1; rw [Array.toList_map]
  rw [e1, e2]
  have l1 := LV.map (S := S) (f := ev) (g := evE) first.toList fun x hx => hev x (by show x ∈ first ++ captured; rw [Array.mem_append]; exact .inl (by simpa using hx))
  have l2 := LV.map (S := S) (f := ev) (g := evE) captured.toList fun x hx => hev x (by show x ∈ first ++ captured; rw [Array.mem_append]; exact .inr (by simpa using hx))
  exact .fn f _ _ _ _ l1.1 l2.1 l1.2 l2.2

theorem cap_sim {c : Call} {x : Operand} {t te : TypeId} {id off len cap : Nat} {t' : TypeId} {e : Ty} {l : List e.den} {ver : Nat} {ro : Bool} (hop : o.op = .call c) (hc : c.callee = .builtin .cap) (h0 : c.args[0]? = some x) (h1 : c.argTypes[0]? = some t) (hu : X.P.underlying t = some (.slice te)) (hx : ev x = .osl id off len cap) (hg : H.get id = some (.list t' e l ver true ro)) :
    OpSim X cf o ev H (.int .i64 cap) H := .quiet fun S E evE hr hev => by
  rw [hop] at hev
  have hx' := hev x (by
    have := Array.mem_of_getElem? h0
    simp only [Op.operands, Call.operands, hc]
    simpa using this)
  rw [hx] at hx'
  obtain ⟨g1, ⟨g0, g, g2, g2'⟩, g3⟩ := hr.row id _ hg
  generalize hA : evE x = A at hx'
  cases hx' with
  | osl _ _ _ _ i0 c0 s0 hρ g' hg' hcc hll =>
    rcases g3 with ⟨_, g5, _⟩ | ⟨i', cap', b, mid, post, q1, q2, q3, q4, q5, q6, q7, q8, q9, q10⟩
    · rw [hρ] at g5; cases g5
    · rw [hρ] at q1; cases q1
      refine ⟨goInt cap, fun call => ?_, .int _ _⟩
      unfold opA; rw [hop]
      show Ev.opCalls X.P call evE o c E = _
      unfold Ev.opCalls
      rw [hc]
      show Ev.opCap X.P evE c.args c.argTypes E = _
      unfold Ev.opCap
      rw [h0, h1]
      show withMem E (Ev.capA X.P E t (evE x)) = _
      rw [hA]
      simp only [Ev.capA, hu, q2, (q9 rfl).1]
      rfl

theorem call_sim {c : Call} {fo : Operand} {id : FuncId} {a b : List AV} {fn : Func} {cd : Code} {v : AV} {H' : TMem} (hop : o.op = .call c) (hc : c.callee = .value fo) (hf : ev fo = .fn id a b) (hfn : X.P.funcs[id]? = some fn) (hbody : fn.body = some cd) (h : CSim X cf id (a ++ (c.args.toList.map ev ++ b)) H v H') : OpSimG X cf o ev H v H' := by
  intro S E evE hr hg hev
  rw [hop] at hev
  have h1 := hev fo (by simp [Op.operands, Call.operands, hc])
  rw [hf] at h1
  have h2 := LV.map (S := S) (f := ev) (g := evE) c.args.toList fun x hx => hev x (by simp [Op.operands, Call.operands, hc]; exact .inr (by simpa using hx))
  generalize hA : evE fo = A at h1
  cases h1 with
  | fn _ _ _ a' b' ha hb va vb =>
    obtain ⟨S', vE, E', ⟨N, k1⟩, k2, k3, k4, k5⟩ := h S E (a' ++ (c.args.toList.map evE ++ b')) hr hg ((show LV S a a' from ⟨ha, va⟩).append (h2.append ⟨hb, vb⟩))
    refine ⟨S', vE, E', ⟨N, fun n hn => ?_⟩, k2, k3, k4, k5⟩
    unfold opA; rw [hop]
    show Ev.opCalls X.P (cf n) evE o c E = _
    unfold Ev.opCalls
    rw [hc]
    simp only [hA]
    have : Ev.opCall X.P (cf n) (.func (.func id) a'.toArray b'.toArray) (c.args.toList.map evE) E = some (vE, E') := by
      simp only [Ev.opCall, hfn, hbody, Option.isSome_some]
      exact k1 n hn
    rw [this]

theorem hasBody_spec {P : Program} {id : FuncId} (h : hasBody P id = true) : ∃ fn cd, P.funcs[id]? = some fn ∧ fn.body = some cd := by
  unfold hasBody at h
  split at h
  · rename_i fn hfn
    obtain ⟨cd, hcd⟩ := Option.isSome_iff_exists.1 h
    exact ⟨fn, cd, hfn, hcd⟩
  · cases h

theorem toV_spec {S : Wo} {a : AV} {v x : Value} (h : toV a = some v) (hx : VR S a x) : x = v ∧ addrFree v = true := by
  unfold toV at h
  split at h
  · cases h; exact ⟨hx.int_inv, rfl⟩
  · cases h; exact ⟨hx.bool_inv, rfl⟩
  · cases h; exact ⟨hx.str_inv, rfl⟩
  · cases h; cases hx; exact ⟨rfl, rfl⟩
  · cases h
    cases hx with
    | fn _ _ _ a' b' ha hb va vb =>
      have : a' = [] := List.length_eq_zero_iff.1 ha.symm
      subst this
      have : b' = [] := List.length_eq_zero_iff.1 hb.symm
      subst this
      exact ⟨rfl, rfl⟩
  · cases h

theorem ofR_VR {S : Wo} {v : Value} (h : addrFree v = true) : VR S (ofR v) v := by
  unfold ofR
  split
  · rename_i cs
    have hc : ∀ v ∈ cs.toList, addrFree v = true := by
      have h : Ev.addrFreeA cs = true := h
      obtain ⟨l⟩ := cs
      exact freeL_all h
    have e : Value.tuple cs = .tuple (cs.toList).toArray := by simp
    rw [e]
    have := LV.map (S := S) (f := ofC) (g := fun v => v) cs.toList fun v hv => ofC_VR (hc v hv)
    rw [List.map_id''] at this
    · exact .tup _ _ this.1 this.2
    · intro x; rfl
  · rename_i hn
    unfold ofV
    split
    · rename_i cs
      have hc := cells_free h
      have e : Value.agg cs = .agg (cs.toList).toArray := by simp
      rw [e]
      have := LV.map (S := S) (f := ofC) (g := fun v => v) cs.toList fun v hv => ofC_VR (hc v (by simpa [Value.cells] using hv))
      rw [List.map_id''] at this
      · exact .agg _ _ this.1 this.2
      · intro x; rfl
    · exact ofC_VR h

theorem noBody_call {c : Call} {fo : Operand} {id : FuncId} {evE : Operand → Value} {a' b' : List Value} (hop : o.op = .call c) (hc : c.callee = .value fo) (hA : evE fo = .func (.func id) a'.toArray b'.toArray) (hb : hasBody X.P id = false) (call : Ev.CallF) (E : Mem) :
    opA X.P call evE o E = Ev.opExt X.P evE o (evE fo) (c.args.toList.map evE) E := by
  unfold opA; rw [hop]
  show Ev.opCalls X.P call evE o c E = _
  unfold Ev.opCalls
  rw [hc]
  have : Ev.opCall X.P call (evE fo) (c.args.toList.map evE) E = none := by
    rw [hA]
    unfold hasBody at hb
    simp only [Ev.opCall]
    cases hfn : X.P.funcs[id]? with
    | none => rfl
    | some fn =>
      rw [hfn] at hb
      simp only at hb
      simp only [hb]
  simp only [this]

theorem ext_sim {c : Call} {fo : Operand} {id : FuncId} {a b : List AV} (hop : o.op = .call c) (hc : c.callee = .value fo) (hf : ev fo = .fn id a b) (hb : hasBody X.P id = false) (hsame : isSameT X.P id = false) {k : AV → Option β} (h : extT X ev o k = some r) : ∃ v, k v = some r ∧ OpSim X cf o ev H v H := by
  unfold extT at h
  rw [pick2_eq] at h
  split at h
  case isFalse => cases h
  rename_i hall
  split at h
  case h_2 => cases h
  rename_i v hv
  rw [pick2_eq] at h
  split at h
  case isFalse => cases h
  rename_i hfree
  refine ⟨_, h, .quiet fun S E evE hr hev => ⟨v, fun call => ?_, ofR_VR hfree⟩⟩
  have heq : ∀ x ∈ o.op.operands, evE x = orUndef (toV (ev x)) ∧ addrFree (evE x) = true := fun x hx => by
    have h1 := List.all_eq_true.1 hall x (by simpa using hx)
    obtain ⟨y, hy⟩ := Option.isSome_iff_exists.1 h1
    obtain ⟨e1, e2⟩ := toV_spec hy (hev x hx)
    rw [hy]; exact ⟨e1, by rw [e1]; exact e2⟩
  have hsel : ∀ cs b, o.op ≠ .select cs b := fun cs b => by rw [hop]; simp
  have hp : pureA X.P evE o = some v := by
    refine pure_val hsel ?_ ?_ hfree
    · unfold Ev.operandsFree
      exact List.all_eq_true.2 fun x hx => (heq x (by simpa using hx)).2
    · rw [execOp_congr o hsel (fun x hx => (heq x hx).1)]; exact hv
  have h1 := hev fo (by rw [hop]; simp [Op.operands, Call.operands, hc])
  rw [hf] at h1
  generalize hA : evE fo = A at h1
  cases h1 with
  | fn _ _ _ a' b' ha hbb va vb =>
    rw [noBody_call hop hc hA hb]
    have hno : Ev.isSame X.P (evE fo) = false := by
      rw [hA]
      unfold Ev.isSame
      split
      · rename_i id' heq'
        cases heq'
        exact hsame
      · rfl
    unfold Ev.opExt
    split
    · rw [hno, hp]; rfl
    · rw [hp]; rfl

theorem same1_sim {c : Call} {fo x : Operand} {id : FuncId} (hop : o.op = .call c) (hc : c.callee = .value fo) (hf : ev fo = .fn id [] []) (hb : hasBody X.P id = false) (hsame : isSameT X.P id = true) (hx : c.args.toList = [x]) : OpSim X cf o ev H (ev x) H := .quiet fun S E evE hr hev => by
  have h1 := hev fo (by rw [hop]; simp [Op.operands, Call.operands, hc])
  have h2 := hev x (by rw [hop]; simp [Op.operands, Call.operands, hc]; exact .inr (by rw [← Array.mem_toList_iff, hx]; simp))
  refine ⟨evE x, fun call => ?_, h2⟩
  rw [hf] at h1
  generalize hA : evE fo = A at h1
  cases h1 with
  | fn _ _ _ a' b' ha hbb va vb =>
    have : a' = [] := List.length_eq_zero_iff.1 ha.symm
    subst this
    have : b' = [] := List.length_eq_zero_iff.1 hbb.symm
    subst this
    rw [noBody_call hop hc hA hb, hx]
    have hyes : Ev.isSame X.P (evE fo) = true := by rw [hA]; exact hsame
    simp only [List.map_cons, List.map_nil, Ev.opExt, hyes]

/-- **ALL OPERATIONS.** -/
theorem opT_ok {call : CallT β} (hcall : CallTOk X cf call) {tr : List Tmp} {k : AV → TMem → Option β} (h : opT X call tr ev o H k = some r) : ∃ v H', k v H' = some r ∧ OpSimG X cf o ev H v H' := by
  have q1 : ∀ {v : AV}, (∃ v, k v H = some r ∧ OpSim X cf o ev H v H) → ∃ v H', k v H' = some r ∧ OpSimG X cf o ev H v H' := fun ⟨v, h1, h2⟩ => ⟨v, H, h1, h2.glob⟩
  have q2 : (∃ v H', k v H' = some r ∧ OpSim X cf o ev H v H') → ∃ v H', k v H' = some r ∧ OpSimG X cf o ev H v H' := fun ⟨v, H', h1, h2⟩ => ⟨v, H', h1, h2.glob⟩
  unfold opT at h
  split at h
  · rename_i x hop; exact ⟨_, _, h, (same_sim (.inl hop)).glob⟩
  · rename_i x hop; exact ⟨_, _, h, (same_sim (.inr hop)).glob⟩
  · rename_i c a b hop
    split at h
    · rename_i t hc
      refine ⟨pick2 t (ev a) (ev b), H, ?_, (pick_sim hop hc).glob⟩
      cases t <;> exact h
    · cases h
  · rename_i hop; exact q1 (v := .unk) (binOp_sim hop h)
  · rename_i hop; exact q1 (v := .unk) (un_sim hop h)
  · rename_i t hop
    rw [pick2_eq] at h
    split at h
    · exact q2 (array_sim hop h)
    · split at h
      · rename_i z hz; exact ⟨_, _, h, (alloc_sim hop hz).glob⟩
      · cases h
  · rename_i t x hop
    split at h
    · rename_i n cs hn hc; exact ⟨_, _, h, (box_sim hop hn hc).glob⟩
    · cases h
  · rename_i hop; exact q1 (v := .unk) (build_sim hop h)
  · rename_i hop; exact q2 (buildSlice_sim hop h)
  · rename_i hop; exact q1 (v := .unk) (load_sim hop h)
  · rename_i hop; exact q2 (store_sim hop h)
  · rename_i x hop
    split at h
    · rename_i id off hx; exact ⟨_, _, h, (nil_sim hop hx (.inl ⟨_, _, rfl⟩)).glob⟩
    · rename_i id n hx; exact ⟨_, _, h, (nil_sim hop hx (.inr (.inl ⟨_, _, rfl⟩))).glob⟩
    · rename_i cs hx; exact ⟨_, _, h, (nil_sim hop hx (.inr (.inr (.inl ⟨_, rfl⟩)))).glob⟩
    · rename_i f a b hx; exact ⟨_, _, h, (nil_sim hop hx (.inr (.inr (.inr ⟨_, _, _, rfl⟩)))).glob⟩
    · cases h
  · rename_i hop; exact q1 (v := .unk) (field_sim hop h)
  · rename_i hop; exact q1 (v := .unk) (idx_sim hop h)
  · rename_i x i hop
    split at h
    · rename_i vs hx
      split at h
      · rename_i v hv; exact ⟨_, _, h, (extract_sim hop hx hv).glob⟩
      · cases h
    · cases h
  · rename_i hop; exact q2 (make_sim hop h)
  · rename_i hop; exact ⟨_, _, h, (makeFunc_sim hop).glob⟩
  · rename_i t x lo hi hop
    split at h
    · rename_i d y _
      rw [pick2_eq] at h
      split at h
      · exact q2 (trunc_sim hop h)
      · exact q2 (slice_sim hop h)
    · exact q2 (slice_sim hop h)
  · rename_i t x f hop
    split at h
    · rename_i fs cs hu hx
      split at h
      · rename_i fd hfd; exact q1 (v := .unk) (fieldV_sim hop hu hx hfd h)
      · cases h
    · cases h
  · rename_i hop; exact q1 (v := .unk) (index_sim hop h)
  · rename_i hop; exact q2 (conv_sim hop h)
  · rename_i c hop
    split at h
    · rename_i f hc
      split at h
      · rename_i id a b hf
        rw [pick2_eq] at h
        split at h
        · rename_i hb
          obtain ⟨fn, cd, hfn, hcd⟩ := hasBody_spec hb
          obtain ⟨v, H', h1, h2⟩ := hcall _ _ _ _ _ h
          exact ⟨v, H', h1, call_sim hop hc hf hfn hcd h2⟩
        · rename_i hb
          have hb : hasBody X.P id = false := by simpa using hb
          rw [pick2_eq] at h
          split at h
          · rename_i hsame
            split at h
            · rename_i x hx
              exact ⟨_, _, h, (same1_sim hop hc hf hb hsame hx).glob⟩
            · cases h
          · rename_i hsame
            exact q1 (v := .unk) (ext_sim hop hc hf hb (by simpa using hsame) h)
      · cases h
    · rename_i hc
      split at h
      · rename_i x t h0 h1; exact q1 (v := .unk) (len_sim hop hc h0 h1 h)
      · cases h
    · rename_i hc
      split at h
      · rename_i s x st xt h0 h1 h2 h3; exact q2 (append_sim hop hc h0 h1 h2 h3 h)
      · cases h
    · rename_i hc
      split at h
      · rename_i d x dt h0 h1 h2; exact q2 (copy_sim hop hc h0 h1 h2 h)
      · cases h
    · rename_i hc
      split at h
      · rename_i x t h0 h1
        split at h
        · rename_i te id off len cap hu hx
          split at h
          · rename_i t' e l ver ro hg; exact ⟨_, _, h, (cap_sim hop hc h0 h1 hu hx hg).glob⟩
          · cases h
        · cases h
      · cases h
    · cases h
  · cases h

end
end Go.Tv
