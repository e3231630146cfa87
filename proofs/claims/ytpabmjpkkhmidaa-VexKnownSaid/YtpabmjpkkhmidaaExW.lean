/- Regions whose order is drawn, bodies, calls: the evaluator's answer is the machine's. -/
import Derived.Test.YtpabmjpkkhmidaaExV
namespace Go.Ex
open Go.RowKit

section
variable {P : Program} {call : CallF} {ops : Array Oper}

/-- Whatever order is picked from here on. -/
def AnyA (P : Program) (call : CallF) (ops : Array Oper) (Fin : Act → Mem → Prop) : Nat → Array Bool → Act → Mem → Prop
  | 0, listed, a, H => Region.ready .any ops listed = [] ∧ Fin a H
  | n + 1, listed, a, H => (Region.ready .any ops listed = [] → Fin a H) ∧ ∀ i ∈ Region.ready .any ops listed, ∃ o lk a' H', ops[i]? = some o ∧ stepL P call ops lk o a H = some (a', H') ∧
      (lk = false → quiet P o.op = true ∨ loadsAhead ops listed i = true) ∧ AnyA P call ops Fin n (listed.setIfInBounds i true) a' H'

theorem anyA_ok (hcall : CallOk P call) (hk : CallKeeps call) {B : Nat} {w0 : World} {Fin : Act → Mem → Prop} {Q : Exit → Act → World → Prop} : ∀ (n : Nat) (listed : Array Bool) {a ar : Act} {H : Mem} {ρ : Ren} {w : World},
    AnyA P call ops Fin n listed a H → Sim ρ a ar → Emb P B w0 ρ H w → (∀ a' H' ρ' ar' w', Fin a' H' → ρ.le ρ' → Sim ρ' a' ar' → Emb P B w0 ρ' H' w' → Q .normal ar' w') → wpAny P .any ops Q n listed ar w
  | 0, listed, a, ar, H, ρ, w, h, hs, he, hQ => ⟨h.1, hQ _ _ ρ ar w h.2 (Ren.le_refl _) hs he⟩
  | n + 1, listed, a, ar, H, ρ, w, h, hs, he, hQ => by
    refine ⟨fun h0 => hQ _ _ ρ ar w (h.1 h0) (Ren.le_refl _) hs he, fun i hi => ?_⟩
    obtain ⟨o, lk, a', H', ho, hst, _, hany⟩ := h.2 i hi
    unfold wpOp
    simp only [ho]
    exact stepL_ok hcall hk hst hs he fun ρ' ar' w' h1 h2 h3 => anyA_ok hcall hk n _ hany h2 h3 fun a'' H'' ρ'' ar'' w'' k0 k1 k2 k3 => hQ a'' H'' ρ'' ar'' w'' k0 (Ren.le_trans h1 k1) k2 k3

/-! ### Quiet operations -/

theorem pureA_put {o oi : Oper} (a : Act) (v : Value) (h : ∀ d, oi.dst = some d → d ∉ o.looksAt ops) (hsel : ∀ cs b, o.op ≠ .select cs b) : pureA P (a.put oi.dst v).eval o = pureA P a.eval o := by
  have hc := execOp_put (ops := ops) o hsel a oi.dst v h
  have hv : ∀ x ∈ o.op.operands, (a.put oi.dst v).eval x = a.eval x := fun x hx => Act.eval_put fun d hd hxd => h d hd (by
    subst hxd
    exact List.mem_append_left _ (List.mem_filterMap.2 ⟨.tmp d, by simpa using hx, rfl⟩))
  have ho : operandsFree (a.put oi.dst v).eval o.op = operandsFree a.eval o.op := by
    unfold operandsFree
    rw [Bool.eq_iff_iff, List.all_eq_true, List.all_eq_true]
    constructor
    · intro hh x hx; rw [← hv x (by simpa using hx)]; exact hh x hx
    · intro hh x hx; rw [hv x (by simpa using hx)]; exact hh x hx
  unfold pureA
  rw [hc, ho]

theorem eval_put_of {o oi : Oper} (a : Act) (v : Value) (h : ∀ d, oi.dst = some d → d ∉ o.looksAt ops) : ∀ x ∈ o.op.operands, (a.put oi.dst v).eval x = a.eval x := fun x hx => Act.eval_put fun d hd hxd => h d hd (by
    subst hxd
    exact List.mem_append_left _ (List.mem_filterMap.2 ⟨.tmp d, by simpa using hx, rfl⟩))

theorem partsA_congr {ev ev' : Operand → Value} {ps : Array (Nat × Operand)} (h : ∀ q ∈ ps, ev q.2 = ev' q.2) : partsA ev ps = partsA ev' ps := by
  unfold partsA
  apply List.map_congr_left
  intro q hq
  rw [h q (by simpa using hq)]

theorem opA_put {o oi : Oper} (a : Act) (v : Value) (H : Mem) (h : ∀ d, oi.dst = some d → d ∉ o.looksAt ops) (hsel : ∀ cs b, o.op ≠ .select cs b) : opA P (a.put oi.dst v).eval o H = opA P a.eval o H := by
  have hp := pureA_put (P := P) a v h hsel
  have hv := eval_put_of a v h
  generalize (a.put oi.dst v).eval = ev at hp hv
  unfold opA
  rw [hp]
  split
  case h_1 hop => rw [hv _ (by simp [hop, Op.operands])]
  case h_2 hop => rw [hv _ (by simp [hop, Op.operands])]
  case h_3 c x y hop => rw [hv c (by simp [hop, Op.operands]), hv x (by simp [hop, Op.operands]), hv y (by simp [hop, Op.operands])]
  case h_4 hop => rfl
  case h_5 t x hop => rw [hv x (by simp [hop, Op.operands])]
  case h_6 t ps hop => rw [partsA_congr fun q hq => hv q.2 (by simp [hop, Op.operands]; exact ⟨q.1, by simpa using hq⟩)]
  case h_7 t len ps hop => rw [partsA_congr fun q hq => hv q.2 (by simp [hop, Op.operands]; exact ⟨q.1, by simpa using hq⟩)]
  case h_8 t x hop => rw [hv x (by simp [hop, Op.operands])]
  case h_9 t x y hop => rw [hv x (by simp [hop, Op.operands]), hv y (by simp [hop, Op.operands])]
  case h_10 x hop => rw [hv x (by simp [hop, Op.operands])]
  case h_11 s x f hop => rw [hv x (by simp [hop, Op.operands])]
  case h_12 t x ix hop => rw [hv x (by simp [hop, Op.operands]), hv ix (by simp [hop, Op.operands])]
  case h_13 x k hop => rw [hv x (by simp [hop, Op.operands])]
  case h_14 t l c hop => rw [hv l (by simp [hop, Op.operands]), hv c (by simp [hop, Op.operands])]
  case h_15 fn first captured hop =>
    rw [Array.map_congr_left (xs := first) fun x hx => hv x (by simp [hop, Op.operands, hx]), Array.map_congr_left (xs := captured) fun x hx => hv x (by simp [hop, Op.operands, hx])]
  case h_16 t x lo hi hop =>
    have e1 : lo.map ev = lo.map a.eval := by cases lo with | none => rfl | some y => simp only [Option.map_some]; rw [hv y (by simp [hop, Op.operands])]
    have e2 : hi.map ev = hi.map a.eval := by cases hi with | none => rfl | some y => simp only [Option.map_some]; rw [hv y (by simp [hop, Op.operands])]
    rw [e1, e2, hv x (by simp [hop, Op.operands])]
  case h_17 t x f hop => rw [hv x (by simp [hop, Op.operands])]
  case h_18 t x ix hop => rw [hv x (by simp [hop, Op.operands]), hv ix (by simp [hop, Op.operands])]
  case h_19 s d x hop => rw [hv x (by simp [hop, Op.operands])]
  case h_20 args ats hop =>
    split
    · rename_i x t hx ht
      rw [hv x (by simp [hop, Op.operands, Call.operands]; exact Array.mem_of_getElem? hx)]
    · rfl
  case h_21 args ats hop =>
    split
    · rename_i s x st xt hs0 hx0 _ _
      rw [hv s (by simp [hop, Op.operands, Call.operands]; exact Array.mem_of_getElem? hs0), hv x (by simp [hop, Op.operands, Call.operands]; exact Array.mem_of_getElem? hx0)]
    · rfl
  case h_22 args ats hop =>
    split
    · rename_i d x dt hd0 hx0 _
      rw [hv d (by simp [hop, Op.operands, Call.operands]; exact Array.mem_of_getElem? hd0), hv x (by simp [hop, Op.operands, Call.operands]; exact Array.mem_of_getElem? hx0)]
    · rfl
  case h_23 => rfl

theorem calleeA_put {o oi : Oper} (a : Act) (v : Value) (h : ∀ d, oi.dst = some d → d ∉ o.looksAt ops) : calleeA P (a.put oi.dst v).eval o = calleeA P a.eval o := by
  have hv := eval_put_of a v h
  generalize (a.put oi.dst v).eval = ev at hv
  unfold calleeA
  split
  · rename_i f args ats hop
    rw [hv f (by simp [hop, Op.operands, Call.operands]), Array.map_congr_left (xs := args) fun x hx => hv x (by simp [hop, Op.operands, Call.operands, hx])]
  · rfl

theorem stepA_put {o oi : Oper} (a : Act) (v : Value) (H : Mem) (h1 : ∀ d, oi.dst = some d → d ∉ o.looksAt ops) (h2 : ∀ d, oi.dst = some d → o.dst ≠ some d) (hsel : ∀ cs b, o.op ≠ .select cs b) :
    stepA P call ops o (a.put oi.dst v) H = (stepA P call ops o a H).map fun r => (r.1.put oi.dst v, r.2) := by
  unfold stepA
  rw [wanted_put o a oi.dst v h1, calleeA_put a v h1, opA_put a v H h1 hsel]
  split
  · split
    · split
      · rename_i f args hc
        cases call f args H with
        | none => rfl
        | some r => simp [Act.put_comm a v r.1 h2]
      · cases opA P a.eval o H with
        | none => rfl
        | some r => simp [Act.put_comm a v r.1 h2]
    · rfl
  · simp [Act.put_comm a v undef h2]

theorem stepL_put {o oi : Oper} {lk : Bool} (a : Act) (v : Value) (H : Mem) (h1 : ∀ d, oi.dst = some d → d ∉ o.looksAt ops) (h2 : ∀ d, oi.dst = some d → o.dst ≠ some d) (hsel : ∀ cs b, o.op ≠ .select cs b) :
    stepL P call ops lk o (a.put oi.dst v) H = (stepL P call ops lk o a H).map fun r => (r.1.put oi.dst v, r.2) := by
  unfold stepL
  rw [stepA_put a v _ h1 h2 hsel, stepA_put a v _ h1 h2 hsel]
  split
  · cases stepA P call ops o a (locked H) with
    | none => rfl
    | some r => rfl
  · rfl

/-- A step leaves the slots as they were, but for its own. -/
theorem stepA_shape {o : Oper} {a a' : Act} {H H' : Mem} (h : stepA P call ops o a H = some (a', H')) : ∃ u, a' = a.put o.dst u := by
  unfold stepA at h
  split at h
  · split at h
    · split at h
      · simp only [Option.map_eq_some_iff] at h
        obtain ⟨r, _, heq⟩ := h
        cases heq; exact ⟨_, rfl⟩
      · simp only [Option.map_eq_some_iff] at h
        obtain ⟨r, _, heq⟩ := h
        cases heq; exact ⟨_, rfl⟩
    · cases h
  · cases h; exact ⟨_, rfl⟩

theorem stepL_shape {o : Oper} {lk : Bool} {a a' : Act} {H H' : Mem} (h : stepL P call ops lk o a H = some (a', H')) : ∃ u, a' = a.put o.dst u := by
  unfold stepL at h
  split at h
  · simp only [Option.map_eq_some_iff] at h
    obtain ⟨r, hr, heq⟩ := h
    cases heq; exact stepA_shape hr
  · exact stepA_shape h

theorem quiet_op {ev : Operand → Value} {o : Oper} {H H' : Mem} {v : Value} (hq : quiet P o.op = true) (h : opA P ev o H = some (v, H')) :
    H' = H ∧ (isLoad o.op = false → ∀ H2, opA P ev o H2 = some (v, H2)) ∧ (∀ N, opA P ev o (H ++ N) = some (v, H ++ N)) := by
  have free : ∀ {x : Option Value} {v : Value} {H' : Mem}, x.map (fun v => (v, H)) = some (v, H') → H' = H ∧ ∀ H2 : Mem, x.map (fun v => (v, H2)) = some (v, H2) := by
    intro x v H' h
    simp only [Option.map_eq_some_iff] at h
    obtain ⟨u, hu, heq⟩ := h
    cases heq
    exact ⟨rfl, fun H2 => by rw [hu]; rfl⟩
  unfold opA at h ⊢
  split at h
  case h_1 hop => cases h; simp only [hop]; refine ⟨?_, ?_, ?_⟩ <;> intros <;> trivial
  case h_2 hop => cases h; simp only [hop]; refine ⟨?_, ?_, ?_⟩ <;> intros <;> trivial
  case h_3 hop =>
    split at h
    · rename_i t ht; cases h; simp only [hop]; refine ⟨?_, ?_, ?_⟩ <;> intros <;> trivial
    · cases h
  case h_4 hop => simp [hop, quiet] at hq
  case h_5 hop => simp [hop, quiet] at hq
  case h_6 hop =>
    obtain ⟨h1, h2⟩ := free h
    simp only [hop]; exact ⟨h1, fun _ H2 => h2 H2, fun N => h2 _⟩
  case h_7 hop => simp [hop, quiet] at hq
  case h_8 t x hop =>
    simp only [Option.map_eq_some_iff] at h
    obtain ⟨u, hu, heq⟩ := h
    cases heq
    simp only [hop]
    refine ⟨by trivial, fun hl => by simp [isLoad] at hl, fun N => ?_⟩
    have hal : ∀ i b, alive H i = some b → alive (H ++ N) i = some b := by
      intro i b hb
      obtain ⟨h1, h2⟩ := alive_some hb
      unfold alive
      rw [List.getElem?_append, if_pos (List.getElem?_eq_some_iff.1 h1).1, h1]
      simp [h2]
    have : loadA P (H ++ N) t (ev x) = some v := by
      unfold loadA at hu ⊢
      split at hu
      · split at hu
        · rename_i n _ _
          simp only [Option.map_eq_some_iff] at hu ⊢
          obtain ⟨l, hl, rfl⟩ := hu
          refine ⟨l, ?_, rfl⟩
          unfold readCells at hl ⊢
          split at hl
          · rename_i b hb
            rw [hal _ _ hb]; exact hl
          · cases hl
        · split at hu
          · rename_i b hb
            rw [hal _ _ hb]; exact hu
          · cases hu
        · cases hu
      · cases hu
    rw [this]; rfl
  case h_9 hop => simp [hop, quiet] at hq
  case h_10 hop =>
    split at h
    · rename_i q hx; cases h; simp only [hop]; refine ⟨?_, ?_, ?_⟩ <;> intros <;> trivial
    · rename_i q1 q2 q3 hx; cases h; simp only [hop]; refine ⟨?_, ?_, ?_⟩ <;> intros <;> trivial
    · cases h
  case h_11 hop =>
    obtain ⟨h1, h2⟩ := free h
    simp only [hop]; exact ⟨h1, fun _ H2 => h2 H2, fun N => h2 _⟩
  case h_12 hop =>
    obtain ⟨h1, h2⟩ := free h
    simp only [hop]; exact ⟨h1, fun _ H2 => h2 H2, fun N => h2 _⟩
  case h_13 hop =>
    split at h
    · rename_i vs hx
      obtain ⟨h1, h2⟩ := free h
      simp only [hop]; exact ⟨h1, fun _ H2 => h2 H2, fun N => h2 _⟩
    · cases h
  case h_14 hop => simp [hop, quiet] at hq
  case h_15 hop => cases h; simp only [hop]; refine ⟨?_, ?_, ?_⟩ <;> intros <;> trivial
  case h_16 hop =>
    split at h
    · rename_i u hu; cases h; simp only [hop]; refine ⟨?_, ?_, ?_⟩ <;> intros <;> trivial
    · rename_i hu
      obtain ⟨h1, h2⟩ := free h
      simp only [hop]; exact ⟨h1, fun _ H2 => h2 H2, fun N => h2 _⟩
  case h_17 hop =>
    obtain ⟨h1, h2⟩ := free h
    simp only [hop]; exact ⟨h1, fun _ H2 => h2 H2, fun N => h2 _⟩
  case h_18 hop =>
    split at h
    · rename_i u hu; cases h; simp only [hop]; refine ⟨?_, ?_, ?_⟩ <;> intros <;> trivial
    · rename_i hu
      obtain ⟨h1, h2⟩ := free h
      simp only [hop]; exact ⟨h1, fun _ H2 => h2 H2, fun N => h2 _⟩
  case h_19 s d x hop =>
    simp only [hop, quiet, Bool.and_eq_true, Bool.not_eq_true'] at hq
    split at h
    · rename_i u hu; cases h; simp only [hop]; refine ⟨?_, ?_, ?_⟩ <;> intros <;> trivial
    · exfalso
      unfold convertA at h
      split at h
      · have hq1 := hq.1; clear h free hq; simp_all [isSliceT]
      · have hq2 := hq.2; clear h free hq; simp_all [isSliceT]
      · cases h
  case h_20 args ats hop =>
    split at h
    · rename_i x t hx ht
      split at h
      · rename_i e q n c hu hq'
        cases h
        simp only [hop]; refine ⟨?_, ?_, ?_⟩ <;> intros <;> trivial
      · rename_i hno
        obtain ⟨h1, h2⟩ := free h
        simp only [hop]
        exact ⟨h1, fun _ H2 => h2 H2, fun N => h2 _⟩
    · cases h
  case h_21 hop => simp [hop, quiet] at hq
  case h_22 hop => simp [hop, quiet] at hq
  case h_23 =>
    obtain ⟨h1, h2⟩ := free h
    refine ⟨h1, fun _ H2 => ?_, fun N => ?_⟩
    · exact h2 H2
    · exact h2 _

end
end Go.Ex
