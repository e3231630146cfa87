/- Regions whose order is drawn. -/
import Derived.Test.YtcafcgiemdlobaaDoorEvV
namespace Go.Ev
open Go.RowKit

section
variable {P : Program} {call : CallF} {ops : Array Oper}

/-- All loads that are listed come ahead of i. -/
inductive Reach (ops : Array Oper) : Nat → Nat → Prop where
  | one {i : Nat} {o : Oper} {e : Edge} (ho : ops[i]? = some o) (he : e ∈ o.after) (hb : Region.binds .any e = true) : Reach ops i e.on
  | more {i : Nat} {o : Oper} {e : Edge} {j : Nat} (ho : ops[i]? = some o) (he : e ∈ o.after) (hb : Region.binds .any e = true) (h : Reach ops e.on j) : Reach ops i j

def LoadsAhead (ops : Array Oper) (listed : Array Bool) (i : Nat) : Prop := ∀ (j : Nat) (oj : Oper), ops[j]? = some oj → isLoad oj.op = true → listed.getD j true = true → Reach ops i j

/-- Whatever order is picked from here on. -/
def AnyA (P : Program) (call : CallF) (ops : Array Oper) (Fin : Act → Mem → Prop) : Nat → Array Bool → Act → Mem → Prop
  | 0, listed, a, H => Region.ready .any ops listed = [] ∧ Fin a H
  | n + 1, listed, a, H => (Region.ready .any ops listed = [] → Fin a H) ∧ ∀ i ∈ Region.ready .any ops listed, ∃ o lk a' H', ops[i]? = some o ∧ stepLS P call ops lk o a H = some (a', H') ∧
      (lk = false → quiet P o.op = true ∨ LoadsAhead ops listed i) ∧ AnyA P call ops Fin n (listed.setIfInBounds i true) a' H'

theorem stepLS_keeps (hk : CallKeeps call) {o : Oper} {lk : Bool} {a a' : Act} {H H' : Mem} (h : stepLS P call ops lk o a H = some (a', H')) : H.size ≤ H'.size ∧ H'.lk = H.lk ∧ ∀ i, i < H.lk → i < H.size → H'.get i = H.get i := by
  unfold stepLS at h
  split at h
  · simp only [Option.map_eq_some_iff] at h
    obtain ⟨u, hu, heq⟩ := h
    cases heq
    obtain ⟨h1, _, h3⟩ := stepS_keeps hk hu
    exact ⟨h1, rfl, fun i _ hs => h3 i hs hs⟩
  · exact stepS_keeps hk h

theorem anyA_ok (hno : noOwn P) {G : Nat} (hok : okOps G ops.toList = true) (hcall : CallOk P G call) (hk : CallKeeps call) {c : Cx} (hcP : c.P = P) (hcG : c.G = G) {Fin : Act → Mem → Prop} {Q : Exit → Act → World → Prop} : ∀ (n : Nat) (listed : Array Bool) {a ar : Act} {H : Mem} {ρ : Ren} {w : World},
    AnyA P call ops Fin n listed a H → Sim ρ a ar → Emb c ρ H w → (∀ a' H' ρ' ar' w', Fin a' H' → ρ.le ρ' → Sim ρ' a' ar' → Emb c ρ' H' w' → Q .normal ar' w') → wpAny P .any ops Q n listed ar w
  | 0, listed, a, ar, H, ρ, w, h, hs, he, hQ => ⟨h.1, hQ _ _ ρ ar w h.2 (Ren.le_refl _) hs he⟩
  | n + 1, listed, a, ar, H, ρ, w, h, hs, he, hQ => by
    refine ⟨fun h0 => hQ _ _ ρ ar w (h.1 h0) (Ren.le_refl _) hs he, fun i hi => ?_⟩
    obtain ⟨o, lk, a', H', ho, hst, _, hany⟩ := h.2 i hi
    have hoo : o.op.operands.toList.all (operandOk G) = true := List.all_eq_true.1 hok o (by have := Array.mem_of_getElem? ho; simpa using this)
    unfold wpOp
    simp only [ho]
    exact stepLS_ok hno hcall hk hoo hst hcP hcG hs he fun ρ' ar' w' h1 h2 h3 => anyA_ok hno hok hcall hk hcP hcG n _ hany h2 h3 fun a'' H'' ρ'' ar'' w'' k0 k1 k2 k3 => hQ a'' H'' ρ'' ar'' w'' k0 (Ren.le_trans h1 k1) k2 k3

/-! ### Operations that look elsewhere -/

theorem eval_put_of {o oi : Oper} (a : Act) (v : Value) (h : ∀ d, oi.dst = some d → d ∉ o.looksAt ops) : ∀ x ∈ o.op.operands, (a.put oi.dst v).eval x = a.eval x := fun x hx => Act.eval_put fun d hd hxd => h d hd (by
    subst hxd
    exact List.mem_append_left _ (List.mem_filterMap.2 ⟨.tmp d, by simpa using hx, rfl⟩))

theorem pureA_congr {o : Oper} {ev ev' : Operand → Value} (hv : ∀ x ∈ o.op.operands, ev x = ev' x) (hsel : ∀ cs b, o.op ≠ .select cs b) : pureA P ev o = pureA P ev' o := by
  have hc : execOp ev o = execOp ev' o := execOp_congr o hsel hv
  have ho : operandsFree ev o.op = operandsFree ev' o.op := by
    unfold operandsFree
    rw [Bool.eq_iff_iff, List.all_eq_true, List.all_eq_true]
    constructor
    · intro hh x hx; rw [← hv x (by simpa using hx)]; exact hh x hx
    · intro hh x hx; rw [hv x (by simpa using hx)]; exact hh x hx
  unfold pureA
  rw [hc, ho]

theorem partsA_congr {ev ev' : Operand → Value} {ps : Array (Nat × Operand)} (h : ∀ q ∈ ps, ev q.2 = ev' q.2) : partsA ev ps = partsA ev' ps := by
  unfold partsA
  apply List.map_congr_left
  intro q hq
  rw [h q (by simpa using hq)]

theorem opA_congr {o : Oper} {ev ev' : Operand → Value} (H : Mem) (hv : ∀ x ∈ o.op.operands, ev x = ev' x) (hsel : ∀ cs b, o.op ≠ .select cs b) : opA P call ev o H = opA P call ev' o H := by
  have hp := pureA_congr (P := P) hv hsel
  unfold opA
  split
  case h_1 hop => rw [hv _ (by simp [hop, Op.operands])]
  case h_2 hop => rw [hv _ (by simp [hop, Op.operands])]
  case h_3 c x y hop => rw [hv c (by simp [hop, Op.operands]), hv x (by simp [hop, Op.operands]), hv y (by simp [hop, Op.operands])]
  case h_4 op t x y yt hop => unfold opBin; rw [hp, hv x (by simp [hop, Op.operands]), hv y (by simp [hop, Op.operands])]
  case h_5 hop => rfl
  case h_6 t x hop => rw [hv x (by simp [hop, Op.operands])]
  case h_7 t ps hop => rw [partsA_congr fun q hq => hv q.2 (by simp [hop, Op.operands]; exact ⟨q.1, by simpa using hq⟩)]
  case h_8 t len ps hop => rw [partsA_congr fun q hq => hv q.2 (by simp [hop, Op.operands]; exact ⟨q.1, by simpa using hq⟩)]
  case h_9 t x hop => rw [hv x (by simp [hop, Op.operands])]
  case h_10 t x y hop => rw [hv x (by simp [hop, Op.operands]), hv y (by simp [hop, Op.operands])]
  case h_11 x hop => rw [hv x (by simp [hop, Op.operands])]
  case h_12 s x f hop => rw [hv x (by simp [hop, Op.operands])]
  case h_13 t x ix hop => rw [hv x (by simp [hop, Op.operands]), hv ix (by simp [hop, Op.operands])]
  case h_14 x k hop => rw [hv x (by simp [hop, Op.operands])]
  case h_15 t l c hop => rw [hv l (by simp [hop, Op.operands]), hv c (by simp [hop, Op.operands])]
  case h_16 fn first captured hop =>
    rw [Array.map_congr_left (xs := first) fun x hx => hv x (by simp [hop, Op.operands, hx]), Array.map_congr_left (xs := captured) fun x hx => hv x (by simp [hop, Op.operands, hx])]
  case h_17 t x lo hi hop =>
    have e1 : lo.map ev = lo.map ev' := by cases lo with | none => rfl | some y => simp only [Option.map_some]; rw [hv y (by simp [hop, Op.operands])]
    have e2 : hi.map ev = hi.map ev' := by cases hi with | none => rfl | some y => simp only [Option.map_some]; rw [hv y (by simp [hop, Op.operands])]
    unfold opSlice
    rw [hp, e1, e2, hv x (by simp [hop, Op.operands])]
  case h_18 t x f hop => rw [hv x (by simp [hop, Op.operands])]
  case h_19 t x ix hop => unfold opIndex; rw [hp, hv x (by simp [hop, Op.operands]), hv ix (by simp [hop, Op.operands])]
  case h_20 s d x hop => unfold opConvert; rw [hp, hv x (by simp [hop, Op.operands])]
  case h_21 cl hop =>
    have harg : ∀ x ∈ cl.args, ev x = ev' x := fun x hx => hv x (by simp [hop, Op.operands, Call.operands, hx])
    unfold opCalls
    split
    · rename_i f hf
      unfold opExt
      rw [hp, hv f (by simp [hop, hf, Op.operands, Call.operands]), List.map_congr_left (l := cl.args.toList) (f := ev) (g := ev') fun x hx => harg x (by simpa using hx)]
    · unfold opBuiltin
      split
      · unfold opLen
        split
        · rename_i x t hx _; rw [harg x (Array.mem_of_getElem? hx), hp]
        · rfl
      · unfold opAppend
        split
        · rename_i s x st xt hs0 hx0 _ _
          rw [harg s (Array.mem_of_getElem? hs0), harg x (Array.mem_of_getElem? hx0)]
        · rfl
      · unfold opCopy
        split
        · rename_i d x dt hd0 hx0 _
          rw [harg d (Array.mem_of_getElem? hd0), harg x (Array.mem_of_getElem? hx0)]
        · rfl
      · unfold opCap
        split
        · rename_i x t hx _; rw [harg x (Array.mem_of_getElem? hx)]
        · rfl
      · unfold opSliceData
        split
        · rename_i x hx; rw [harg x (Array.mem_toList_iff.1 (by rw [hx]; simp))]
        · rfl
      · unfold opUStr
        split
        · rename_i p n pt _ hx _
          rw [harg p (Array.mem_toList_iff.1 (by rw [hx]; simp)), harg n (Array.mem_toList_iff.1 (by rw [hx]; simp))]
        · rfl
      · rw [hp]
    · rfl
  case h_22 => rw [hp]

theorem stepS_put {o oi : Oper} (a : Act) (v : Value) (H : Mem) (h1 : ∀ d, oi.dst = some d → d ∉ o.looksAt ops) (h2 : ∀ d, oi.dst = some d → o.dst ≠ some d) (hsel : ∀ cs b, o.op ≠ .select cs b) :
    stepS P call ops o (a.put oi.dst v) H = (stepS P call ops o a H).map fun r => (r.1.put oi.dst v, r.2) := by
  unfold stepS
  rw [wanted_put o a oi.dst v h1, opA_congr (P := P) (call := call) H (eval_put_of a v h1) hsel]
  split
  · cases opA P call a.eval o H with
    | none => rfl
    | some r => simp [Act.put_comm a v r.1 h2]
  · simp [Act.put_comm a v undef h2]

theorem stepLS_put {o oi : Oper} {lk : Bool} (a : Act) (v : Value) (H : Mem) (h1 : ∀ d, oi.dst = some d → d ∉ o.looksAt ops) (h2 : ∀ d, oi.dst = some d → o.dst ≠ some d) (hsel : ∀ cs b, o.op ≠ .select cs b) :
    stepLS P call ops lk o (a.put oi.dst v) H = (stepLS P call ops lk o a H).map fun r => (r.1.put oi.dst v, r.2) := by
  unfold stepLS
  rw [stepS_put a v _ h1 h2 hsel, stepS_put a v _ h1 h2 hsel]
  split
  · cases stepS P call ops o a { H with lk := H.size } with
    | none => rfl
    | some r => rfl
  · rfl

/-- A step leaves the slots as they were, but for its own. -/
theorem stepS_shape {o : Oper} {a a' : Act} {H H' : Mem} (h : stepS P call ops o a H = some (a', H')) : ∃ u, a' = a.put o.dst u := by
  unfold stepS at h
  split at h
  · simp only [Option.map_eq_some_iff] at h
    obtain ⟨r, _, heq⟩ := h
    cases heq; exact ⟨_, rfl⟩
  · cases h; exact ⟨_, rfl⟩

theorem stepLS_shape {o : Oper} {lk : Bool} {a a' : Act} {H H' : Mem} (h : stepLS P call ops lk o a H = some (a', H')) : ∃ u, a' = a.put o.dst u := by
  unfold stepLS at h
  split at h
  · simp only [Option.map_eq_some_iff] at h
    obtain ⟨r, hr, heq⟩ := h
    cases heq; exact stepS_shape hr
  · exact stepS_shape h

/-! ### Quiet operations -/

/-- All rows of the one are in the other. -/
def Ext (H H2 : Mem) : Prop := ∀ (i : Nat) (b : Blk), H.get i = some b → H2.get i = some b

theorem withMem_free {H H' : Mem} {x : Option Value} {v : Value} (h : withMem H x = some (v, H')) : H' = H ∧ ∀ H2, withMem H2 x = some (v, H2) := by
  obtain ⟨rfl, rfl⟩ := withMem_spec h; exact ⟨rfl, fun _ => rfl⟩

theorem opLen_free {ev : Operand → Value} {o : Oper} {args : Array Operand} {ats : Array TypeId} {H H' : Mem} {v : Value} (h : opLen P ev o args ats H = some (v, H')) : H' = H ∧ ∀ H2, opLen P ev o args ats H2 = some (v, H2) := by
  unfold opLen at h ⊢
  generalize args[0]? = x at h ⊢
  generalize ats[0]? = y at h ⊢
  cases x <;> cases y <;> first | (cases h; done) | exact withMem_free h

theorem quiet_op {ev : Operand → Value} {o : Oper} {H H' : Mem} {v : Value} (hq : quiet P o.op = true) (h : opA P call ev o H = some (v, H')) :
    H' = H ∧ (isLoad o.op = false → ∀ H2, opA P call ev o H2 = some (v, H2)) ∧ (∀ H2, Ext H H2 → opA P call ev o H2 = some (v, H2)) := by
  have all : ∀ {f : Mem → Option (Value × Mem)}, (H' = H ∧ ∀ H2, f H2 = some (v, H2)) → H' = H ∧ (isLoad o.op = false → ∀ H2, f H2 = some (v, H2)) ∧ (∀ H2, Ext H H2 → f H2 = some (v, H2)) := fun hh => ⟨hh.1, fun _ => hh.2, fun H2 _ => hh.2 H2⟩
  unfold opA at h ⊢
  split at h
  case h_1 hop => cases h; simp only [hop] at all ⊢; refine ⟨?_, ?_, ?_⟩ <;> intros <;> trivial
  case h_2 hop => cases h; simp only [hop] at all ⊢; refine ⟨?_, ?_, ?_⟩ <;> intros <;> trivial
  case h_3 hop =>
    simp only [hop] at all ⊢
    unfold opPick at h ⊢
    split at h
    · rename_i t ht; cases h; simp only; refine ⟨?_, ?_, ?_⟩ <;> intros <;> trivial
    · cases h
  case h_4 hop => simp only [hop] at all ⊢; exact all (withMem_free h)
  case h_5 hop => simp [hop, quiet] at hq
  case h_6 hop => simp [hop, quiet] at hq
  case h_7 hop => simp only [hop] at all ⊢; exact all (withMem_free h)
  case h_8 hop => simp [hop, quiet] at hq
  case h_9 t x hop =>
    obtain ⟨hu, rfl⟩ := withMem_spec h
    simp only [hop]
    refine ⟨trivial, fun hl => by simp [isLoad] at hl, fun H2 hx => ?_⟩
    have hal : ∀ i b, alive H' i = some b → alive H2 i = some b := by
      intro i b hb
      obtain ⟨h1, h2⟩ := alive_some hb
      unfold alive
      rw [hx i b h1]
      simp [h2]
    have : loadA P H2 t (ev x) = some v := by
      unfold loadA at hu ⊢
      split at hu
      · split at hu
        · rename_i n _ _
          simp only [Option.map_eq_some_iff] at hu ⊢
          obtain ⟨l, hl, rfl⟩ := hu
          refine ⟨l, ?_, rfl⟩
          unfold readCells at hl ⊢
          split at hl
          · rename_i b hb
            rw [hal _ _ hb]; exact hl
          · cases hl
        · split at hu
          · rename_i b hb
            rw [hal _ _ hb]; exact hu
          · cases hu
        · cases hu
      · cases hu
    rw [this]; rfl
  case h_10 hop => simp [hop, quiet] at hq
  case h_11 hop =>
    simp only [hop] at all ⊢
    unfold opNilCheck at h ⊢
    split at h
    · rename_i q hx; cases h; simp only; refine ⟨?_, ?_, ?_⟩ <;> intros <;> trivial
    · rename_i q1 q2 q3 hx; cases h; simp only; refine ⟨?_, ?_, ?_⟩ <;> intros <;> trivial
    · cases h
  case h_12 hop => simp only [hop] at all ⊢; exact all (withMem_free h)
  case h_13 hop => simp only [hop] at all ⊢; exact all (withMem_free h)
  case h_14 x k hop =>
    simp only [hop] at all ⊢
    unfold opExtract at h ⊢
    generalize ev x = q at h ⊢
    cases q <;> first | (cases h; done) | exact all (withMem_free h)
  case h_15 hop => simp [hop, quiet] at hq
  case h_16 hop => cases h; simp only [hop] at all ⊢; refine ⟨?_, ?_, ?_⟩ <;> intros <;> trivial
  case h_17 hop =>
    simp only [hop] at all hq ⊢
    simp only [quiet, Bool.not_eq_true'] at hq
    unfold opSlice at h ⊢
    rw [hq] at h ⊢
    exact all (withMem_free h)
  case h_18 hop => simp only [hop] at all ⊢; exact all (withMem_free h)
  case h_19 hop => simp only [hop] at all ⊢; exact all (withMem_free h)
  case h_20 s d x hop =>
    simp only [hop] at all hq ⊢
    simp only [quiet, Bool.and_eq_true, Bool.not_eq_true'] at hq
    unfold opConvert at h ⊢
    split at h
    · rename_i u hu; cases h; simp only; refine ⟨?_, ?_, ?_⟩ <;> intros <;> trivial
    · exfalso
      unfold convertA at h
      split at h
      · have hq1 := hq.1.1; clear h all hq; simp_all [isSliceT]
      · have hq2 := hq.1.2; clear h all hq; simp_all [isSliceT]
      · have hq1 := hq.1.1; clear h all hq; simp_all [isSliceT]
      · have hq3 := hq.2; clear h all hq; simp_all [isPtrT]
      · have hq3 := hq.2; clear h all hq; simp_all [isPtrT]
      · cases h
  case h_21 cl hop =>
    obtain ⟨callee, args, ats⟩ := cl
    simp only [hop] at all hq ⊢
    unfold opCalls at h ⊢
    cases callee with
    | value f => simp [quiet] at hq
    | invoke r m => cases h
    | builtin b =>
      simp only at h ⊢
      unfold opBuiltin at h ⊢
      cases b
      case append => simp [quiet] at hq
      case copy => simp [quiet] at hq
      case len =>
        exact all (opLen_free h)
      case cap =>
        simp only at h ⊢
        unfold opCap at h ⊢
        split at h
        · rename_i x t hx0 ht0
          obtain ⟨hu, rfl⟩ := withMem_spec h
          refine ⟨rfl, fun hl => by simp [isLoad] at hl, fun H2 hx => ?_⟩
          have : capA P H2 t (ev x) = some v := by
            unfold capA at hu ⊢
            split at hu
            · split at hu
              · rename_i b hb
                have hal : ∀ i b, alive H' i = some b → alive H2 i = some b := by
                  intro i b hb
                  obtain ⟨h1, h2⟩ := alive_some hb
                  unfold alive
                  rw [hx i b h1]
                  simp [h2]
                rw [hal _ _ hb]; exact hu
              · cases hu
            · exact hu
            · cases hu
          rw [this]; rfl
        · cases h
      all_goals first | (simp [quiet] at hq; done) | (simp only at h ⊢; exact all (withMem_free h))
  case h_22 => exact all (withMem_free h)

/-- What a quiet operation yields in a state. -/
def QY (P : Program) (call : CallF) (ops : Array Oper) (o : Oper) (v : Value) (a : Act) (H : Mem) : Prop :=
  (Region.wanted o (yielded ops a.tmps) = true ∧ opA P call a.eval o H = some (v, H)) ∨ (Region.wanted o (yielded ops a.tmps) = false ∧ v = undef)

theorem QY.step {o : Oper} {v : Value} {a : Act} {H : Mem} (h : QY P call ops o v a H) : stepS P call ops o a H = some (a.put o.dst v, H) := by
  unfold stepS
  rcases h with ⟨h1, h3⟩ | ⟨h1, rfl⟩
  · simp only [h1, if_true, h3]; rfl
  · simp [h1]

theorem QY.of_step {o : Oper} {a a' : Act} {H H' : Mem} (hq : quiet P o.op = true) (h : stepS P call ops o a H = some (a', H')) : H' = H ∧ ∃ v, a' = a.put o.dst v ∧ QY P call ops o v a H := by
  unfold stepS at h
  split at h
  · rename_i hw
    simp only [Option.map_eq_some_iff] at h
    obtain ⟨⟨r1, r2⟩, hr, heq⟩ := h
    cases heq
    obtain ⟨h1, _, _⟩ := quiet_op hq hr
    rw [h1] at hr ⊢
    exact ⟨rfl, _, rfl, .inl ⟨hw, hr⟩⟩
  · rename_i hw
    cases h
    exact ⟨rfl, _, rfl, .inr ⟨by simpa using hw, rfl⟩⟩

theorem QY.move {o oj : Oper} {v u : Value} {a : Act} {H : Mem} (h : QY P call ops o v a H) (hap : ∀ d, oj.dst = some d → d ∉ o.looksAt ops) (hsel : ∀ cs b, o.op ≠ .select cs b) : QY P call ops o v (a.put oj.dst u) H := by
  unfold QY at *
  rw [wanted_put o a oj.dst u hap, opA_congr (P := P) (call := call) H (eval_put_of a u hap) hsel]
  exact h

theorem QY.mem {o : Oper} {v : Value} {a : Act} {H H' : Mem} (hq : quiet P o.op = true) (h : QY P call ops o v a H) (hm : isLoad o.op = false ∨ Ext H H') : QY P call ops o v a H' := by
  rcases h with ⟨h1, h3⟩ | h
  · obtain ⟨_, k2, k3⟩ := quiet_op hq h3
    rcases hm with hm | hm
    · exact .inl ⟨h1, k2 hm H'⟩
    · exact .inl ⟨h1, k3 H' hm⟩
  · exact .inr h

/-- Whatever is listed, all that it comes after is listed. -/
def Closed (ops : Array Oper) (listed : Array Bool) : Prop :=
  ∀ k o, ops[k]? = some o → listed.getD k false = true → ∀ e ∈ o.after, Region.binds .any e = true → listed.getD e.on false = true

theorem Closed.add {listed : Array Bool} (h : Closed ops listed) {i : Nat} (hi : i ∈ Region.ready .any ops listed) : Closed ops (listed.setIfInBounds i true) := by
  intro k o ho hk e he hb
  apply getD_set_true
  by_cases hik : i = k
  · subst hik
    obtain ⟨_, o', ho', hall⟩ := mem_ready.1 hi
    rw [ho] at ho'; cases ho'
    exact hall e he hb
  · rw [getD_set_ne false hik] at hk
    exact h k o ho hk e he hb

theorem reach_listed {listed : Array Bool} (hc : Closed ops listed) {i j : Nat} (h : Reach ops i j) (hi : listed.getD i false = true) : listed.getD j false = true := by
  induction h with
  | one ho he hb => exact hc _ _ ho hi _ he hb
  | more ho he hb _ ih => exact ih (hc _ _ ho hi _ he hb)

theorem reach_ready {listed : Array Bool} (hc : Closed ops listed) {i j : Nat} (hi : i ∈ Region.ready .any ops listed) (hj : j ∈ Region.ready .any ops listed) : ¬ Reach ops j i := by
  intro h
  obtain ⟨hi0, _⟩ := mem_ready.1 hi
  have hcon : listed.getD i false = true → False := by
    intro h1
    by_cases hlt : i < listed.size
    · simp [Array.getD, hlt] at h1 hi0; rw [h1] at hi0; cases hi0
    · simp [Array.getD, hlt] at h1
  obtain ⟨_, o, ho, hall⟩ := mem_ready.1 hj
  cases h with
  | one ho' he hb => rw [ho] at ho'; cases ho'; exact hcon (hall _ he hb)
  | more ho' he hb h2 => rw [ho] at ho'; cases ho'; exact hcon (reach_listed hc h2 (hall _ he hb))

theorem anyA_first (hk : CallKeeps call) {Fin : Act → Mem → Prop} (hsel : ∀ (j : Nat) (o : Oper) cs b, ops[j]? = some o → o.op ≠ .select cs b) {i : Nat} {oi : Oper} {v : Value} (hi : ops[i]? = some oi) (hq : quiet P oi.op = true) :
    ∀ (n : Nat) (listed : Array Bool) (a : Act) (H : Mem),
      (∀ (j : Nat) (oj : Oper), ops[j]? = some oj → j ≠ i → listed.getD j true = false → (∀ e ∈ oj.after, Region.binds .any e = true → e.on ≠ i) → oi.apart ops oj = true) →
      Closed ops listed → i ∈ Region.ready .any ops listed → QY P call ops oi v a H → AnyA P call ops Fin n (listed.setIfInBounds i true) (a.put oi.dst v) H → AnyA P call ops Fin (n + 1) listed a H := by
  intro n
  induction n with
  | zero =>
    intro listed a H _ _ hr hy hA
    refine ⟨fun h => (by rw [h] at hr; cases hr), fun j hj => ?_⟩
    by_cases hji : j = i
    · subst hji; exact ⟨oi, false, _, _, hi, by unfold stepLS; exact hy.step, fun _ => .inl hq, hA⟩
    · have := ready_mono hj hji
      rw [hA.1] at this
      cases this
  | succ n ih =>
    intro listed a H hfree hcl hr hy hA
    refine ⟨fun h => (by rw [h] at hr; cases hr), fun j hj => ?_⟩
    by_cases hji : j = i
    · subst hji; exact ⟨oi, false, _, _, hi, by unfold stepLS; exact hy.step, fun _ => .inl hq, hA⟩
    · obtain ⟨oj, lk, a', H', hoj, hst, hlk, hA'⟩ := hA.2 j (ready_mono hj hji)
      obtain ⟨hjun, oj', hoj', hall⟩ := mem_ready.1 hj
      rw [hoj] at hoj'; cases hoj'
      have hnot : ∀ e ∈ oj.after, Region.binds .any e = true → e.on ≠ i := fun e he hb heq => by
        have h1 := hall e he hb
        have h0 := (mem_ready.1 hr).1
        rw [heq] at h1
        rcases Nat.lt_or_ge i listed.size with h' | h'
        · simp [h'] at h0 h1; rw [h0] at h1; cases h1
        · simp [Array.getElem?_eq_none h'] at h1
      obtain ⟨p1, p2, p3⟩ := Oper.apart_spec (hfree j oj hoj hji hjun hnot)
      rw [stepLS_put a v H p1 p2 (fun cs b => hsel j oj cs b hoj)] at hst
      simp only [Option.map_eq_some_iff] at hst
      obtain ⟨⟨aj, Hj⟩, hstj, heq⟩ := hst
      simp only [Prod.mk.injEq] at heq
      obtain ⟨rfl, rfl⟩ := heq
      refine ⟨oj, lk, aj, Hj, hoj, hstj, fun h0 => (hlk h0).imp id fun hh k ok hko hld hlist => hh k ok hko hld (by
        by_cases hik : i = k
        · subst hik; by_cases hll : i < listed.size <;> simp [Array.getD, hll]
        · rw [getD_set_ne true hik]; exact hlist), ?_⟩
      have hfree' : ∀ (k : Nat) (ok : Oper), ops[k]? = some ok → k ≠ i → (listed.setIfInBounds j true).getD k true = false →
          (∀ e ∈ ok.after, Region.binds .any e = true → e.on ≠ i) → oi.apart ops ok = true := fun k ok hk' hki hun hno => by
        refine hfree k ok hk' hki ?_ hno
        by_cases hjk : j = k
        · subst hjk; exact hjun
        · rw [getD_set_ne true hjk] at hun; exact hun
      obtain ⟨u, rfl⟩ := stepLS_shape hstj
      have hmem : isLoad oi.op = false ∨ Ext H Hj := by
        by_cases hld : isLoad oi.op = true
        · refine .inr ?_
          cases lk with
          | true =>
            unfold stepLS at hstj
            simp only [if_true, Option.map_eq_some_iff] at hstj
            obtain ⟨r, hr, heq⟩ := hstj
            simp only [Prod.mk.injEq] at heq
            obtain ⟨_, _, h3⟩ := stepS_keeps hk hr
            intro k b hb
            rw [← heq.2]
            show r.2.get k = some b
            have hlt := Mem.get_lt hb
            rw [h3 k hlt hlt]; exact hb
          | false =>
            rcases hlk rfl with h1 | h1
            · unfold stepLS at hstj
              simp only [Bool.false_eq_true, if_false] at hstj
              rw [(QY.of_step h1 hstj).1]
              exact fun _ _ hb => hb
            · exfalso
              have hb := h1 i oi hi hld (by
                by_cases hll : i < listed.size
                · simp [Array.getD, hll]
                · simp [Array.getD, hll])
              exact reach_ready hcl hr hj hb
        · exact .inl (by simpa using hld)
      refine ih (listed.setIfInBounds j true) _ Hj hfree' (hcl.add hj) (ready_mono hr (Ne.symm hji)) ((hy.move p3 (fun cs b => hsel i oi cs b hi)).mem hq hmem) ?_
      rw [Array.setIfInBounds_comm _ _ hji]
      exact hA'

end
end Go.Ev
