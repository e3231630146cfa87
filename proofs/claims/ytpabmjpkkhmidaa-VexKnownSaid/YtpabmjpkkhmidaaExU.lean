/- The evaluator's operations together; regions, bodies and calls. -/
import Derived.Test.YtpabmjpkkhmidaaExS
namespace Go.Ex
open Go.RowKit

section
variable {P : Program} {B : Nat} {w0 w : World} {ρ : Ren} {H : Mem}

/-- What the machine does at an operation is what the evaluator says. -/
def OpOk (P : Program) (B : Nat) (w0 : World) (ρ : Ren) (o : Oper) (ev : Operand → Value) (w : World) (v : Value) (H' : Mem) : Prop :=
  ∃ ρ' w' v', ρ.le ρ' ∧ Emb P B w0 ρ' H' w' ∧ VRel ρ' v v' ∧ ((execOp ev o).run P w = .ok (.value v') w' ∨ ((execOp ev o).run P w = .ok .skip w' ∧ v' = undef))

theorem PR.parts {a ar : Act} (hs : Sim ρ a ar) : ∀ (l : List (Nat × Operand)), (∀ q ∈ l, operandOk q.2 = true) → PR (VRel ρ) (l.map fun q => (q.1, a.eval q.2)) (l.map fun q => (q.1, ar.eval q.2))
  | [], _ => trivial
  | q :: l, h => ⟨rfl, hs.eval (h q (by simp)), PR.parts hs l fun x hx => h x (by simp [hx])⟩

theorem or_map {a ar : Act} (hs : Sim ρ a ar) (x : Option Operand) (h : ∀ y, x = some y → operandOk y = true) : OR (VRel ρ) (x.map a.eval) (x.map ar.eval) := by
  cases x with
  | none => exact .none
  | some y => exact .some (hs.eval (h y rfl))

theorem AR.map {a ar : Act} (hs : Sim ρ a ar) (xs : Array Operand) (h : ∀ y ∈ xs, operandOk y = true) : AR (VRel ρ) (xs.map a.eval) (xs.map ar.eval) :=
  ⟨by simp, fun i x y hx hy => by
    simp only [Array.getElem?_map, Option.map_eq_some_iff] at hx hy
    obtain ⟨q, h1, rfl⟩ := hx
    obtain ⟨q', h2, rfl⟩ := hy
    rw [h1] at h2; cases h2
    exact hs.eval (h q (Array.mem_of_getElem? h1))⟩

set_option maxHeartbeats 1000000 in
theorem opA_ok (he : Emb P B w0 ρ H w) {a ar : Act} (hs : Sim ρ a ar) {o : Oper} (hok : o.op.operands.toList.all operandOk = true) {v : Value} {H' : Mem} (h : opA P a.eval o H = some (v, H')) :
    OpOk P B w0 ρ o ar.eval w v H' := by
  have hok' : ∀ x ∈ o.op.operands, operandOk x = true := fun x hx => List.all_eq_true.1 hok x (by simpa using hx)
  have hev : ∀ x ∈ o.op.operands, VRel ρ (a.eval x) (ar.eval x) := fun x hx => hs.eval (hok' x hx)
  have hpure : ∀ {v : Value} {H' : Mem}, (pureA P a.eval o).map (fun v => (v, H)) = some (v, H') → OpOk P B w0 ρ o ar.eval w v H' := by
    intro v H' h
    simp only [Option.map_eq_some_iff] at h
    obtain ⟨u, hu, heq⟩ := h
    cases heq
    obtain ⟨h1, h2⟩ := pure_ok (P := P) hev hu w
    exact ⟨ρ, w, _, Ren.le_refl _, he, h2, .inl h1⟩
  unfold opA at h
  split at h
  · rename_i x hop
    cases h
    refine ⟨ρ, w, _, Ren.le_refl _, he, hev x (by simp [hop, Op.operands]), .inl ?_⟩
    simp [execOp, hop]
  · rename_i x hop
    cases h
    refine ⟨ρ, w, _, Ren.le_refl _, he, hev x (by simp [hop, Op.operands]), .inl ?_⟩
    simp [execOp, hop]
  · rename_i c x y hop
    split at h
    · rename_i t hc
      cases h
      have hcc := hev c (by simp [hop, Op.operands])
      rw [hc] at hcc
      generalize hq : ar.eval c = q at hcc
      cases hcc
      refine ⟨ρ, w, if t then ar.eval x else ar.eval y, Ren.le_refl _, he, ?_, .inl ?_⟩
      · cases t
        · exact hev y (by simp [hop, Op.operands])
        · exact hev x (by simp [hop, Op.operands])
      · simp [execOp, hop, hq, asBool]
    · cases h
  · rename_i t hop
    simp only [Option.map_eq_some_iff] at h
    obtain ⟨z, hz, heq⟩ := h
    cases heq
    obtain ⟨ρ', w', v', h1, h2, h3, h4⟩ := alloc_ok he hz
    exact ⟨ρ', w', v', h1, h2, h3, .inl (by simp [execOp, hop, h4])⟩
  · rename_i t x hop
    split at h
    · cases h
    · rename_i hsz
      cases h
      obtain ⟨s, hsz'⟩ : ∃ s, sizeA P t = some s := by
        cases hq : sizeA P t with
        | none => simp [hq] at hsz
        | some s => exact ⟨s, rfl⟩
      obtain ⟨ρ', w', v', h1, h2, h3, h4⟩ := box_ok he hsz' (hev x (by simp [hop, Op.operands]))
      exact ⟨ρ', w', v', h1, h2, h3, .inl (by simp [execOp, hop, h4])⟩
  · rename_i t ps hop
    simp only [Option.map_eq_some_iff] at h
    obtain ⟨u, hu, heq⟩ := h
    cases heq
    have hp := PR.parts hs ps.toList fun q hq => hok' q.2 (by simp [hop, Op.operands]; exact ⟨q.1, by simpa using hq⟩)
    obtain ⟨v', h1, h2⟩ := build_ok hp hu w
    refine ⟨ρ, w, v', Ren.le_refl _, he, h2, .inl ?_⟩
    have e1 : (ps.map fun q => (q.1, ar.eval q.2)) = (ps.toList.map fun q => (q.1, ar.eval q.2)).toArray := by apply Array.ext'; simp
    simp only [execOp, hop]
    simp only [Sem.run_bind]
    have : (Instr.build t (ps.map fun (i, x) => (i, ar.eval x))).run P w = .ok v' w := by
      rw [← h1, ← e1]
    rw [this]; rfl
  · rename_i t len ps hop
    have hp := PR.parts hs ps.toList fun q hq => hok' q.2 (by simp [hop, Op.operands]; exact ⟨q.1, by simpa using hq⟩)
    obtain ⟨ρ', w', v', h1, h2, h3, h4⟩ := buildSlice_ok he hp h
    refine ⟨ρ', w', v', h1, h2, h3, .inl ?_⟩
    have e1 : (ps.map fun q => (q.1, ar.eval q.2)) = (ps.toList.map fun q => (q.1, ar.eval q.2)).toArray := by apply Array.ext'; simp
    simp only [execOp, hop]
    simp only [Sem.run_bind]
    have : (Instr.buildSlice t len (ps.map fun (i, x) => (i, ar.eval x))).run P w = .ok v' w' := by
      rw [← h4, ← e1]
    rw [this]; rfl
  · rename_i t x hop
    simp only [Option.map_eq_some_iff] at h
    obtain ⟨u, hu, heq⟩ := h
    cases heq
    obtain ⟨v', h1, h2⟩ := load_ok he (hev x (by simp [hop, Op.operands])) hu
    exact ⟨ρ, w, v', Ren.le_refl _, he, h2, .inl (by simp [execOp, hop, h1])⟩
  · rename_i t x y hop
    simp only [Option.map_eq_some_iff] at h
    obtain ⟨u, hu, heq⟩ := h
    cases heq
    obtain ⟨w', h1, h2⟩ := store_ok he (hev x (by simp [hop, Op.operands])) (hev y (by simp [hop, Op.operands])) hu
    exact ⟨ρ, w', undef, Ren.le_refl _, h2, .undef, .inr ⟨by simp [execOp, hop, h1], rfl⟩⟩
  · rename_i x hop
    have hx := hev x (by simp [hop, Op.operands])
    split at h
    · rename_i q hq
      cases h
      rw [hq] at hx
      generalize hq' : ar.eval x = q' at hx
      cases hx with
      | ptr i off r y hr => exact ⟨ρ, w, _, Ren.le_refl _, he, .ptr _ _ _ _ hr, .inl (by simp [execOp, hop, hq'])⟩
    · rename_i f p1 p2 hq
      cases h
      rw [hq] at hx
      generalize hq' : ar.eval x = q' at hx
      cases hx with
      | func _ _ a' _ b' sa ha sb hb => exact ⟨ρ, w, _, Ren.le_refl _, he, .func _ _ a' _ b' sa ha sb hb, .inl (by simp [execOp, hop, hq'])⟩
    · cases h
  · rename_i s x f hop
    simp only [Option.map_eq_some_iff] at h
    obtain ⟨u, hu, heq⟩ := h
    cases heq
    obtain ⟨v', h1, h2⟩ := fieldAddr_ok (P := P) (hev x (by simp [hop, Op.operands])) hu w
    exact ⟨ρ, w, v', Ren.le_refl _, he, h2, .inl (by simp [execOp, hop, h1])⟩
  · rename_i t x ix hop
    simp only [Option.map_eq_some_iff] at h
    obtain ⟨u, hu, heq⟩ := h
    cases heq
    obtain ⟨v', h1, h2⟩ := idx_ok (P := P) (hev x (by simp [hop, Op.operands])) (hev ix (by simp [hop, Op.operands])) hu w
    exact ⟨ρ, w, v', Ren.le_refl _, he, h2, .inl (by simp [execOp, hop, h1])⟩
  · rename_i x k hop
    have hx := hev x (by simp [hop, Op.operands])
    split at h
    · rename_i vs hq
      simp only [Option.map_eq_some_iff] at h
      obtain ⟨u, hu, heq⟩ := h
      cases heq
      rw [hq] at hx
      generalize hq' : ar.eval x = q' at hx
      cases hx with
      | tuple _ vs' sa ha =>
        have hlt : k < vs.size := (Array.getElem?_eq_some_iff.1 hu).1
        have hlt' : k < vs'.size := sa ▸ hlt
        exact ⟨ρ, w, vs'[k], Ren.le_refl _, he, ha k _ _ hu (by simp [hlt']), .inl (by simp [execOp, hop, hq', Instr.extract, hlt'])⟩
    · cases h
  · rename_i t l c hop
    obtain ⟨ρ', w', v', h1, h2, h3, h4⟩ := makeSlice_ok he (hev l (by simp [hop, Op.operands])) (hev c (by simp [hop, Op.operands])) h
    exact ⟨ρ', w', v', h1, h2, h3, .inl (by simp [execOp, hop, h4])⟩
  · rename_i fn first captured hop
    cases h
    have h1 := AR.map hs first fun y hy => hok' y (by simp [hop, Op.operands, hy])
    have h2 := AR.map hs captured fun y hy => hok' y (by simp [hop, Op.operands, hy])
    exact ⟨ρ, w, _, Ren.le_refl _, he, .func fn _ _ _ _ h1.1 h1.2 h2.1 h2.2, .inl (by simp [execOp, hop, Instr.makeFunc])⟩
  · rename_i t x lo hi hop
    split at h
    · rename_i u hu
      exact hpure (by rw [hu]; exact h)
    · simp only [Option.map_eq_some_iff] at h
      obtain ⟨u, hu, heq⟩ := h
      cases heq
      have hlo := or_map hs lo fun y hy => hok' y (by simp [hop, Op.operands, hy])
      have hhi := or_map hs hi fun y hy => hok' y (by simp [hop, Op.operands, hy])
      obtain ⟨v', h1, h2⟩ := slice_ok (P := P) (hev x (by simp [hop, Op.operands])) hlo hhi hu w
      exact ⟨ρ, w, v', Ren.le_refl _, he, h2, .inl (by simp [execOp, hop, h1])⟩
  · rename_i t x f hop
    simp only [Option.map_eq_some_iff] at h
    obtain ⟨u, hu, heq⟩ := h
    cases heq
    obtain ⟨v', h1, h2⟩ := fieldV_ok (P := P) (hev x (by simp [hop, Op.operands])) hu w
    exact ⟨ρ, w, v', Ren.le_refl _, he, h2, .inl (by simp [execOp, hop, h1])⟩
  · rename_i t x ix hop
    split at h
    · rename_i u hu
      exact hpure (by rw [hu]; exact h)
    · simp only [Option.map_eq_some_iff] at h
      obtain ⟨u, hu, heq⟩ := h
      cases heq
      obtain ⟨v', h1, h2⟩ := indexV_ok (P := P) (hev x (by simp [hop, Op.operands])) (hev ix (by simp [hop, Op.operands])) hu w
      exact ⟨ρ, w, v', Ren.le_refl _, he, h2, .inl (by simp [execOp, hop, h1])⟩
  · rename_i s d x hop
    split at h
    · rename_i u hu
      exact hpure (by rw [hu]; exact h)
    · obtain ⟨ρ', w', v', h1, h2, h3, h4⟩ := convert_ok he (hev x (by simp [hop, Op.operands])) h
      exact ⟨ρ', w', v', h1, h2, h3, .inl (by simp [execOp, hop, h4])⟩
  · rename_i args argTypes hop
    split at h
    · rename_i x t hx0 ht0
      split at h
      · rename_i e q n c hu hq
        cases h
        have hx := hev x (by simp [hop, Op.operands, Call.operands]; exact Array.mem_of_getElem? hx0)
        rw [hq] at hx
        have hlen : ∃ q' c', ar.eval x = .slice q' n c' := by
          generalize ar.eval x = z at hx
          cases hx <;> exact ⟨_, _, rfl⟩
        obtain ⟨q', c', hq'⟩ := hlen
        refine ⟨ρ, w, _, Ren.le_refl _, he, .int _ _, .inl ?_⟩
        simp [execOp, hop, resolve, invoke, builtin, Builtin.len_, ht0, hx0, run_underlying hu, hq', goInt]
      · exact hpure h
    · cases h
  · rename_i args argTypes hop
    split at h
    · rename_i s x st xt hs0 hx0 hst hxt
      have h1 := hev s (by simp [hop, Op.operands, Call.operands]; exact Array.mem_of_getElem? hs0)
      have h2 := hev x (by simp [hop, Op.operands, Call.operands]; exact Array.mem_of_getElem? hx0)
      obtain ⟨ρ', w', v', k1, k2, k3, k4⟩ := append_ok (ty := o.type) (as := args.map ar.eval) he hst hxt (by simp [hs0]) (by simp [hx0]) h1 h2 h
      exact ⟨ρ', w', v', k1, k2, k3, .inl (by simp [execOp, hop, resolve, invoke, builtin, k4])⟩
    · cases h
  · rename_i args argTypes hop
    split at h
    · rename_i d x dt hd0 hx0 hdt
      have h1 := hev d (by simp [hop, Op.operands, Call.operands]; exact Array.mem_of_getElem? hd0)
      have h2 := hev x (by simp [hop, Op.operands, Call.operands]; exact Array.mem_of_getElem? hx0)
      obtain ⟨w', v', k2, k3, k4⟩ := copy_ok (ty := o.type) (as := args.map ar.eval) he hdt (by simp [hd0]) (by simp [hx0]) h1 h2 h
      exact ⟨ρ, w', v', Ren.le_refl _, k2, k3, .inl (by simp [execOp, hop, resolve, invoke, builtin, k4])⟩
    · cases h
  · exact hpure h

end
end Go.Ex
