/- The layer's operations on numbers and texts beside the evaluator's. -/
import Derived.Test.YtcafcgiemdlobaaDoorTvM
import Derived.Laws.StructEq
namespace Go.Tv
open Go.Ev (Tr pick2 Leave Mem Blk alive pick2_eq alive_some semPure pureA opA addrFree withMem orElse)

section
variable {P : Program}

theorem semPure_bind {α β : Type} (f : α → Sem β) : ∀ (s : Sem α), semPure P (s >>= f) = (semPure P s).bind fun a => semPure P (f a)
  | .pure a => rfl
  | .load _ _ _ => rfl
  | .store _ _ _ _ => rfl
  | .new _ _ => rfl
  | .shape _ _ => rfl
  | .freeze _ _ _ => rfl
  | .frozen _ _ => rfl
  | .getObj _ _ => rfl
  | .setObj _ _ _ => rfl
  | .choose _ _ => rfl
  | .sys _ _ => rfl
  | .program k => semPure_bind f (k P)
  | .mark _ k => semPure_bind f k
  | .halt _ => rfl

theorem semPure_pure {α : Type} (a : α) : semPure P (pure a : Sem α) = some a := rfl

theorem semPure_underlying {t : TypeId} {d : TypeDesc} (h : P.underlying t = some d) : semPure P (underlying t) = some d := by
  have : underlying t = Sem.program fun p => match p.underlying t with | some d => Sem.pure d | none => stuck "no such type" := rfl
  first
    | (rw [this]; show semPure P (match P.underlying t with | some d => Sem.pure d | none => stuck "no such type") = _; rw [h]; rfl)

/-- What the evaluator says of an operation that only reckons. -/
theorem bin_pure {call : Ev.CallF} {o : Oper} {ev : Operand → Value} {E : Mem} {op : BinOp} {t yt : TypeId} {p q : Operand} {v : Value} (hop : o.op = .binOp op t p q yt)
    (hfx : addrFree (ev p) = true) (hfy : addrFree (ev q) = true) (hv : addrFree v = true)
    (hn : ∀ u, Ev.nilA P op t (ev p) (ev q) = some u → u = v) (h : semPure P (do eqGuard op t p q (ev p) (ev q); binOp op t (ev p) (ev q) : Sem Value) = some v) :
    opA P call ev o E = some (v, E) := by
  unfold opA
  rw [hop]
  show Ev.opBin P ev o op t (ev p) (ev q) E = _
  unfold Ev.opBin
  have hp : pureA P ev o = some v := by
    unfold pureA
    rw [hop]
    have hf : Ev.operandsFree ev (.binOp op t p q yt) = true := by
      simp [Ev.operandsFree, Op.operands, hfx, hfy]
    simp only [hf, if_true]
    have : semPure P (execOp ev o) = some (.value v) := by
      unfold execOp
      rw [hop]
      show semPure P ((do eqGuard op t p q (ev p) (ev q); binOp op t (ev p) (ev q) : Sem Value) >>= fun x => pure (Next.value x)) = _
      rw [semPure_bind, h]
      rfl
    rw [this]
    simp [hv]
  cases hfa : Ev.fastA op (ev p) (ev q) with
  | some u =>
    have hr := (Ev.fast_run (P := P) hfa t p q default).1
    have hr2 := Ev.semPure_run (P := P) _ h default
    rw [hr] at hr2
    cases hr2
    rfl
  | none =>
    cases hna : Ev.nilA P op t (ev p) (ev q) with
    | some u => rw [hn u hna]; rfl
    | none => show withMem E (pureA P ev o) = _; rw [hp]; rfl

def intV (op : BinOp) (k k' : IntKind) (a b : Int) : Option Value :=
  match op with
  | .shl => if b < 0 then none else some (.int k (k.wrap (a * 2 ^ (min b.toNat k.bits))))
  | .shr => if b < 0 then none else some (.int k (a.fdiv (2 ^ (min b.toNat k.bits))))
  | op => if k = k' then (match op with
    | .add => some (.int k (k.wrap (a + b)))
    | .sub => some (.int k (k.wrap (a - b)))
    | .mul => some (.int k (k.wrap (a * b)))
    | .quo => if b = 0 then none else some (.int k (k.wrap (a.tdiv b)))
    | .rem => if b = 0 then none else some (.int k (a.tmod b))
    | .and => some (.int k (k.wrap (BitVec.ofInt k.bits a &&& BitVec.ofInt k.bits b).toNat))
    | .or => some (.int k (k.wrap (BitVec.ofInt k.bits a ||| BitVec.ofInt k.bits b).toNat))
    | .xor => some (.int k (k.wrap (BitVec.ofInt k.bits a ^^^ BitVec.ofInt k.bits b).toNat))
    | .andNot => some (.int k (k.wrap (BitVec.ofInt k.bits a &&& ~~~(BitVec.ofInt k.bits b)).toNat))
    | .eql => some (.bool (decide (a = b)))
    | .neq => some (.bool (!decide (a = b)))
    | .lss => some (.bool (decide (a < b)))
    | .leq => some (.bool (decide (a ≤ b)))
    | .gtr => some (.bool (decide (b < a)))
    | .geq => some (.bool (decide (b ≤ a)))
    | _ => none) else none

theorem intT_spec {β : Type} {op : BinOp} {k k' : IntKind} {a b : Int} {c : AV → Option β} {r : β} (h : intT op k k' a b c = some r) : ∃ v vE, c v = some r ∧ intV op k k' a b = some vE ∧ addrFree vE = true ∧ ∀ S, VR S v vE := by
  unfold intT at h
  unfold intV
  have n1 : ∀ a b : Int, (!decide (b < a)) = decide (a ≤ b) := fun a b => by rw [Bool.eq_iff_iff]; simp
  have n2 : ∀ a b : Int, (a == b) = decide (a = b) := fun a b => rfl
  cases op <;> simp only [pick2_eq, Ev.ltI_spec, Ev.eqI_spec, n1, n2, decide_eq_true_eq] at h ⊢
  all_goals first
    | (split at h
       · cases h
       · rename_i hb; exact ⟨_, _, h, by rw [if_neg hb], rfl, fun S => .int _ _⟩)
    | (split at h
       · rename_i hk
         rw [if_pos hk]
         first
           | exact ⟨_, _, h, rfl, rfl, fun S => .int _ _⟩
           | exact ⟨_, _, h, rfl, rfl, fun S => .bool _⟩
           | (split at h
              · cases h
              · rename_i hb; exact ⟨_, _, h, by rw [if_neg hb], rfl, fun S => .int _ _⟩)
           | cases h
       · cases h)

theorem guard_int (op : BinOp) (t : TypeId) (p q : Operand) (k k' : IntKind) (a b : Int) : semPure P (eqGuard op t p q (.int k a) (.int k' b)) = some () := by
  unfold eqGuard; cases op <;> rfl

theorem intV_sem {op : BinOp} {k k' : IntKind} {a b : Int} {v : Value} (h : intV op k k' a b = some v) (t : TypeId) (p q : Operand) :
    semPure P (do eqGuard op t p q (.int k a) (.int k' b); binOp op t (.int k a) (.int k' b) : Sem Value) = some v := by
  rw [semPure_bind, guard_int]
  show semPure P (binOp op t (.int k a) (.int k' b)) = some v
  unfold intV at h
  cases op <;> simp only at h
  all_goals first
    | (split at h
       · cases h
       · rename_i hb; cases h; simp only [binOp, Op.shift]; rw [if_neg hb]; rfl)
    | (split at h
       · rename_i hk
         subst hk
         first
           | (cases h; simp only [binOp, Op.intArith, ne_eq, not_true, if_false]; rfl)
           | (split at h
              · cases h
              · rename_i hb; cases h; simp only [binOp, Op.intDiv, ne_eq, not_true, if_false]; rw [if_neg hb]; rfl)
           | (cases h; simp only [binOp, Op.intBits, ne_eq, not_true, if_false]; rfl)
           | (cases h; simp only [binOp, Op.intCmp, ne_eq, not_true, if_false]; first | rfl | (show some (Value.bool (!(a == b))) = _; rfl))
           | cases h
       · cases h)

theorem toList_mk (s : List UInt8) : (⟨s.toArray⟩ : ByteArray).toList = s := by rw [ByteArray.toList_eq]

def strV (op : BinOp) (a b : List UInt8) : Option Value :=
  match op with
  | .add => if a.length + b.length ≤ 9223372036854775807 then some (.string ⟨(a ++ b).toArray⟩) else none
  | .eql => some (.bool (decide (a = b)))
  | .neq => some (.bool (!decide (a = b)))
  | .lss => some (.bool (Op.bytesLess a b))
  | .leq => some (.bool (Op.bytesLess a b || decide (a = b)))
  | .gtr => some (.bool (!(Op.bytesLess a b || decide (a = b))))
  | .geq => some (.bool (!Op.bytesLess a b))
  | _ => none

theorem strT_spec {β : Type} {op : BinOp} {a b : List UInt8} {c : AV → Option β} {r : β} (h : strT op a b c = some r) : ∃ v vE, c v = some r ∧ strV op a b = some vE ∧ addrFree vE = true ∧ ∀ S, VR S v vE := by
  unfold strT at h
  unfold strV
  cases op <;> simp only [pick2_eq, Ev.ble_dec, decide_eq_true_eq] at h ⊢
  all_goals first
    | (split at h
       · rename_i hk; rw [if_pos hk]; exact ⟨_, _, h, rfl, rfl, fun S => .str _⟩
       · cases h)
    | exact ⟨_, _, h, rfl, rfl, fun S => .bool _⟩
    | cases h

theorem guard_str (op : BinOp) (t : TypeId) (p q : Operand) (a b : ByteArray) : semPure P (eqGuard op t p q (.string a) (.string b)) = some () := by
  unfold eqGuard; cases op <;> rfl

theorem beqL (a b : List UInt8) : (a == b) = decide (a = b) := by
  rw [Bool.eq_iff_iff]; simp

theorem strV_sem {op : BinOp} {a b : List UInt8} {v : Value} (h : strV op a b = some v) (t : TypeId) (p q : Operand) :
    semPure P (do eqGuard op t p q (.string ⟨a.toArray⟩) (.string ⟨b.toArray⟩); binOp op t (.string ⟨a.toArray⟩) (.string ⟨b.toArray⟩) : Sem Value) = some v := by
  rw [semPure_bind, guard_str]
  show semPure P (binOp op t (.string ⟨a.toArray⟩) (.string ⟨b.toArray⟩)) = some v
  have hb : binOp op t (.string ⟨a.toArray⟩) (.string ⟨b.toArray⟩) = Op.stringOp op ⟨a.toArray⟩ ⟨b.toArray⟩ := by cases op <;> rfl
  rw [hb]
  unfold Op.stringOp
  simp only [toList_mk, beqL]
  unfold strV at h
  cases op <;> simp only at h ⊢
  case add =>
    split at h
    · rename_i hk
      cases h
      have h1 : ¬ (((ByteArray.size ⟨a.toArray⟩ + ByteArray.size ⟨b.toArray⟩ : Nat) : Int) > IntKind.i64.max) := by
        have e1 : ByteArray.size ⟨a.toArray⟩ = a.length := by simp [ByteArray.size]
        have e2 : ByteArray.size ⟨b.toArray⟩ = b.length := by simp [ByteArray.size]
        have e3 : IntKind.i64.max = 9223372036854775807 := by decide
        rw [e1, e2, e3]; omega
      rw [if_neg h1]
      show some (Value.string _) = some (Value.string _)
      congr 2
    · cases h
  all_goals first | (cases h; rfl) | cases h

theorem guard_bool (op : BinOp) (t : TypeId) (p q : Operand) (a b : Bool) : semPure P (eqGuard op t p q (.bool a) (.bool b)) = some () := by
  unfold eqGuard; cases op <;> rfl

theorem equal_bool {t : TypeId} (hu : P.underlying t = some .bool) (d : Nat) (a b : Bool) : semPure P (Op.equalIn (d + 1) t (.bool a) (.bool b)) = some (a == b) := by
  unfold Op.equalIn
  rw [semPure_bind, semPure_underlying hu]
  rfl

theorem equal_int {t : TypeId} {k0 : IntKind} (hu : P.underlying t = some (.int k0)) (d : Nat) (k : IntKind) (a b : Int) : semPure P (Op.equalIn (d + 1) t (.int k a) (.int k b)) = some (decide (a = b)) := by
  unfold Op.equalIn
  rw [semPure_bind, semPure_underlying hu]
  show semPure P (if k = k then pure (a == b) else stuck "==: kinds differ") = _
  rw [if_pos rfl]; rfl

theorem equal_str {t : TypeId} (hu : P.underlying t = some .string) (d : Nat) (a b : List UInt8) : semPure P (Op.equalIn (d + 1) t (.string ⟨a.toArray⟩) (.string ⟨b.toArray⟩)) = some (decide (a = b)) := by
  unfold Op.equalIn
  rw [semPure_bind, semPure_underlying hu]
  show some ((⟨a.toArray⟩ : ByteArray) == ⟨b.toArray⟩) = _
  rw [beq_toListBytes, toList_mk, toList_mk, beqL]

theorem semPure_ite {α : Type} (c : Prop) [Decidable c] (x y : Sem α) : semPure P (if c then x else y) = if c then semPure P x else semPure P y := by split <;> rfl

theorem semPure_program {α : Type} (k : Program → Sem α) : semPure P (program >>= k) = semPure P (k P) := rfl

theorem equal_struct {d : Nat} {t : TypeId} {fs : Array Field} {xs ys : Array Value} (ht : P.underlying t = some (.struct fs)) (hp : P.stoodInHeld t = false) :
    semPure P (Op.equalIn (d + 1) t (.agg xs) (.agg ys)) = semPure P (Op.eqFields d xs ys fs.toList) := by
  simp only [Op.equalIn]
  rw [semPure_bind, semPure_underlying ht]
  simp only [Option.bind_some]
  rw [semPure_program]
  simp only [hp, Bool.false_eq_true, if_false]
  rw [← Array.forIn_toList]
  generalize fs.toList = l
  induction l with
  | nil => simp only [List.forIn_nil, Op.eqFields]; rfl
  | cons f l ih =>
    simp only [List.forIn_cons, Op.eqFields]
    split
    · simp only [semPure_bind] at ih ⊢
      cases semPure P (part f.type xs f.offset) with
      | none => rfl
      | some a =>
        simp only [Option.bind_some]
        cases semPure P (part f.type ys f.offset) with
        | none => rfl
        | some b =>
          simp only [Option.bind_some]
          cases semPure P (Op.equalIn d f.type a b) with
          | none => rfl
          | some r =>
            simp only [Option.bind_some]
            cases r
            · rfl
            · simp only [Bool.not_true, Bool.false_eq_true, if_false, semPure_pure, Option.bind_some]
              exact ih
    · simp only [semPure_bind, semPure_pure, Option.bind_some] at ih ⊢
      exact ih

end
end Go.Tv
