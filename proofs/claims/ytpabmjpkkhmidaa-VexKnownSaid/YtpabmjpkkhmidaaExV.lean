/- The evaluator's steps; regions whose order is drawn; bodies; calls. -/
import Derived.Test.YtpabmjpkkhmidaaExU
import Derived.Tactics
namespace Go.Ex
open Go.RowKit

section
variable {P : Program} {call : CallF} {ops : Array Oper}

/-- What a call answers is what the machine's call answers. -/
def CallOk (P : Program) (call : CallF) : Prop :=
  ∀ f args H v H', call f args H = some (v, H') → ∀ B w0 ρ w args', Emb P B w0 ρ H w → AR (VRel ρ) args args' →
    Calls P f args' w fun e w' => ∃ ρ' v', e = .returned v' ∧ ρ.le ρ' ∧ VRel ρ' v v' ∧ Emb P B w0 ρ' H' w'

/-- Rows that are locked stay as they are, and none goes. -/
def Keeps (H H' : Mem) : Prop := H.length ≤ H'.length ∧ ∀ (i : Nat) (b : Blk), H[i]? = some b → b.lock = true → H'[i]? = some b

theorem Keeps.refl (H : Mem) : Keeps H H := ⟨Nat.le_refl _, fun _ _ h _ => h⟩
theorem Keeps.trans {a b c : Mem} (h : Keeps a b) (k : Keeps b c) : Keeps a c := ⟨Nat.le_trans h.1 k.1, fun i x hx hl => k.2 i x (h.2 i x hx hl) hl⟩
theorem Keeps.append (H N : Mem) : Keeps H (H ++ N) := ⟨by simp, fun i b h _ => by
  rw [List.getElem?_append, if_pos (List.getElem?_eq_some_iff.1 h).1]; exact h⟩
theorem Keeps.set {H : Mem} {i : Nat} {b b' : Blk} (hi : H[i]? = some b) (hl : b.lock = false) : Keeps H (H.set i b') := ⟨by simp, fun j x hx hlk => by
  rw [List.getElem?_set]
  by_cases hij : i = j
  · subst hij; rw [hi] at hx; cases hx; rw [hl] at hlk; cases hlk
  · rw [if_neg hij]; exact hx⟩

def CallKeeps (call : CallF) : Prop := ∀ f args H v H', call f args H = some (v, H') → Keeps H H'

theorem writeCells_keeps {H H' : Mem} {i off : Nat} {vs : List Value} (h : writeCells H i off vs = some H') : Keeps H H' := by
  unfold writeCells at h
  split at h
  · cases h; exact .refl _
  · split at h
    · rename_i b hb
      split at h
      · rename_i hc
        cases h
        simp only [Bool.and_eq_true, Bool.not_eq_true'] at hc
        exact .set (alive_some hb).1 hc.2
      · cases h
    · cases h

theorem opA_keeps {ev : Operand → Value} {o : Oper} {H H' : Mem} {v : Value} (h : opA P ev o H = some (v, H')) : Keeps H H' := by
  have hpure : ∀ {v : Value} {H' : Mem} {x : Option Value}, x.map (fun v => (v, H)) = some (v, H') → Keeps H H' := by
    intro v H' x h
    simp only [Option.map_eq_some_iff] at h
    obtain ⟨u, _, heq⟩ := h
    cases heq; exact .refl _
  unfold opA at h
  split at h
  case h_1 => cases h; exact .refl _
  case h_2 => cases h; exact .refl _
  case h_3 => split at h <;> cases h; exact .refl _
  case h_4 =>
    simp only [Option.map_eq_some_iff] at h
    obtain ⟨z, _, heq⟩ := h
    cases heq; exact .append _ _
  case h_5 =>
    split at h
    · cases h
    · cases h; exact .append _ _
  case h_6 => exact hpure h
  case h_7 =>
    unfold buildSliceA at h
    split at h
    · split at h
      · split at h
        · cases h
        · split at h
          · cases h; exact .append _ _
          · cases h
      · cases h
    · cases h
  case h_8 => exact hpure h
  case h_9 =>
    simp only [Option.map_eq_some_iff] at h
    obtain ⟨u, hu, heq⟩ := h
    cases heq
    unfold storeA at hu
    split at hu
    · split at hu
      · exact writeCells_keeps hu
      · cases hu
    · cases hu
  case h_10 => split at h <;> cases h <;> exact .refl _
  case h_11 => exact hpure h
  case h_12 => exact hpure h
  case h_13 =>
    split at h
    · exact hpure h
    · cases h
  case h_14 =>
    unfold makeSliceA at h
    split at h
    · split at h
      · split at h
        · cases h; exact .append _ _
        · cases h
      · cases h
    · cases h
  case h_15 => cases h; exact .refl _
  case h_16 =>
    split at h
    · cases h; exact .refl _
    · exact hpure h
  case h_17 => exact hpure h
  case h_18 =>
    split at h
    · cases h; exact .refl _
    · exact hpure h
  case h_19 =>
    split at h
    · cases h; exact .refl _
    · unfold convertA at h
      split at h
      · split at h
        · split at h
          · simp only [Option.map_eq_some_iff] at h
            obtain ⟨u, _, heq⟩ := h
            cases heq; exact .refl _
          · cases h
        · cases h; exact .refl _
        · cases h
      · split at h
        · cases h; exact .append _ _
        · cases h
      · cases h
  case h_20 =>
    split at h
    · split at h
      · cases h; exact .refl _
      · exact hpure h
    · cases h
  case h_21 =>
    split at h
    · unfold appendA at h
      split at h
      · split at h
        · split at h
          · split at h
            · cases h
            · split at h
              · split at h
                · simp only [Option.map_eq_some_iff] at h
                  obtain ⟨u, hu, heq⟩ := h
                  cases heq; exact writeCells_keeps hu
                · split at h
                  · cases h; exact .refl _
                  · cases h
              · split at h
                · split at h
                  · rename_i hcond
                    obtain ⟨_, _, hany⟩ := hcond
                    cases h
                    obtain ⟨bk, hbk, hlenk⟩ := (Option.any_eq_true _ _).1 hany
                    simp only [Bool.and_eq_true, Bool.not_eq_true'] at hlenk
                    refine Keeps.trans ?_ (.append _ _)
                    unfold kill
                    rw [(alive_some hbk).1]
                    exact .set (alive_some hbk).1 hlenk.1.2
                  · cases h
                · cases h; exact .append _ _
                · cases h
          · cases h
        · cases h
      · cases h
    · cases h
  case h_22 =>
    split at h
    · unfold copyA at h
      split at h
      · split at h
        · split at h
          · split at h
            · simp only [Option.map_eq_some_iff] at h
              obtain ⟨u, hu, heq⟩ := h
              cases heq; exact writeCells_keeps hu
            · cases h; exact .refl _
            · cases h
          · cases h
        · cases h
      · cases h
    · cases h
  case h_23 => exact hpure h

theorem stepA_keeps (hk : CallKeeps call) {o : Oper} {a a' : Act} {H H' : Mem} (h : stepA P call ops o a H = some (a', H')) : Keeps H H' := by
  unfold stepA at h
  split at h
  · split at h
    · split at h
      · simp only [Option.map_eq_some_iff] at h
        obtain ⟨u, hu, heq⟩ := h
        cases heq; exact hk _ _ _ _ _ hu
      · simp only [Option.map_eq_some_iff] at h
        obtain ⟨u, hu, heq⟩ := h
        cases heq; exact opA_keeps hu
    · cases h
  · cases h; exact .refl _

theorem stepL_keeps (hk : CallKeeps call) {o : Oper} {lk : Bool} {a a' : Act} {H H' : Mem} (h : stepL P call ops lk o a H = some (a', H')) : Keeps H H' := by
  unfold stepL at h
  split at h
  · simp only [Option.map_eq_some_iff] at h
    obtain ⟨u, hu, heq⟩ := h
    cases heq; exact .append _ _
  · exact stepA_keeps hk h

/-! ### A step -/

theorem yielded_rel {ρ : Ren} {a ar : Act} (hs : Sim ρ a ar) (j : Nat) : yielded ops ar.tmps j = yielded ops a.tmps j := by
  unfold yielded
  cases hd : (ops[j]?).bind (·.dst) with
  | none => rfl
  | some d =>
    simp only [Option.bind_some]
    by_cases hlt : d < a.tmps.size
    · have hlt' : d < ar.tmps.size := hs.tmps.1 ▸ hlt
      have hr := hs.tmps.2 d _ _ (Array.getElem?_eq_getElem hlt) (Array.getElem?_eq_getElem hlt')
      rw [Array.getElem?_eq_getElem hlt, Array.getElem?_eq_getElem hlt']
      generalize a.tmps[d] = x at hr
      generalize ar.tmps[d] = y at hr
      cases hr <;> rfl
    · rw [Array.getElem?_eq_none (Nat.le_of_not_lt hlt), Array.getElem?_eq_none (Nat.le_of_not_lt (hs.tmps.1 ▸ hlt))]

theorem wanted_rel {ρ : Ren} {a ar : Act} (hs : Sim ρ a ar) (o : Oper) : Region.wanted o (yielded ops ar.tmps) = Region.wanted o (yielded ops a.tmps) := by
  unfold Region.wanted
  split
  · rfl
  · rw [yielded_rel hs]

theorem callee_run {ρ : Ren} {a ar : Act} (hs : Sim ρ a ar) {o : Oper} (hok : o.op.operands.toList.all operandOk = true) {f : FuncId} {args : Array Value} (h : calleeA P a.eval o = some (f, args)) (w : World) :
    ∃ args', AR (VRel ρ) args args' ∧ (execOp ar.eval o).run P w = .ok (.enter f args') w := by
  have hok' : ∀ x ∈ o.op.operands, operandOk x = true := fun x hx => List.all_eq_true.1 hok x (by simpa using hx)
  unfold calleeA at h
  split at h
  · rename_i g as ats hop
    split at h
    · rename_i id first captured hg
      split at h
      · rename_i fn hfn
        split at h
        · rename_i hc
          cases h
          simp only [Bool.and_eq_true, Bool.not_eq_true'] at hc
          have hgr := hs.eval (hok' g (by simp [hop, Op.operands, Call.operands]))
          rw [hg] at hgr
          generalize hg' : ar.eval g = g' at hgr
          cases hgr with
          | func _ _ first' _ captured' s1 h1 s2 h2 =>
            have hargs := AR.map hs as fun y hy => hok' y (by simp [hop, Op.operands, Call.operands, hy])
            refine ⟨first' ++ as.map ar.eval ++ captured', ?_, ?_⟩
            · refine LR.of_array ?_
              simp only [Array.toList_append]
              exact ((AR.list ⟨s1, h1⟩).append hargs.list).append (AR.list ⟨s2, h2⟩)
            · obtain ⟨c, hb⟩ := Option.isSome_iff_exists.1 hc.1
              have hname : ¬ (fn.name = "runtime.NumGoroutine") := by simpa using hc.2
              simp [execOp, hop, resolve, Deferred.ofValue, hg', invoke, callFunc, hfn, hname, hb]
        · cases h
      · cases h
    · cases h
  · cases h

theorem stepA_ok (hcall : CallOk P call) {o : Oper} {a a' ar : Act} {H H' : Mem} (h : stepA P call ops o a H = some (a', H')) {B : Nat} {w0 w : World} {ρ : Ren} (hs : Sim ρ a ar) (he : Emb P B w0 ρ H w)
    {Q : Exit → Act → World → Prop} {K : Act → World → Prop} (hK : ∀ ρ' ar' w', ρ.le ρ' → Sim ρ' a' ar' → Emb P B w0 ρ' H' w' → K ar' w') :
    if Region.wanted o (yielded ops ar.tmps) then o.wp P ar w K Q ∨ (o.asks P ar w ∧ LetsOut Q) else K (ar.put o.dst undef) w := by
  rw [wanted_rel hs]
  unfold stepA at h
  split at h
  · rename_i hw
    rw [if_pos hw]
    split at h
    · rename_i hok
      refine .inl ?_
      unfold Oper.wp
      split at h
      · rename_i f args hc
        simp only [Option.map_eq_some_iff] at h
        obtain ⟨u, hu, heq⟩ := h
        cases heq
        obtain ⟨args', hargs, hrun⟩ := callee_run hs hok hc w
        rw [hrun]
        refine (hcall _ _ _ _ _ hu B w0 ρ w args' he hargs).mono ?_
        rintro e w' ⟨ρ', v', rfl, h1, h2, h3⟩
        exact hK ρ' _ _ h1 ((hs.mono h1).put o.dst h2) h3
      · simp only [Option.map_eq_some_iff] at h
        obtain ⟨u, hu, heq⟩ := h
        cases heq
        obtain ⟨ρ', w', v', h1, h2, h3, h4⟩ := opA_ok he hs hok hu
        rcases h4 with h4 | ⟨h4, rfl⟩
        · rw [h4]; exact hK ρ' _ _ h1 ((hs.mono h1).put o.dst h3) h2
        · rw [h4]; exact hK ρ' _ _ h1 ((hs.mono h1).put o.dst h3) h2
    · cases h
  · rename_i hw
    rw [if_neg hw]
    cases h
    exact hK ρ _ _ (Ren.le_refl _) (hs.put o.dst .undef) he

theorem locked_get {H : Mem} {i : Nat} : (locked H)[i]? = (H[i]?).map fun b => { b with lock := true } := by simp [locked]

theorem stepL_ok (hcall : CallOk P call) (hk : CallKeeps call) {o : Oper} {lk : Bool} {a a' ar : Act} {H H' : Mem} (h : stepL P call ops lk o a H = some (a', H')) {B : Nat} {w0 w : World} {ρ : Ren} (hs : Sim ρ a ar) (he : Emb P B w0 ρ H w)
    {Q : Exit → Act → World → Prop} {K : Act → World → Prop} (hK : ∀ ρ' ar' w', ρ.le ρ' → Sim ρ' a' ar' → Emb P B w0 ρ' H' w' → K ar' w') :
    if Region.wanted o (yielded ops ar.tmps) then o.wp P ar w K Q ∨ (o.asks P ar w ∧ LetsOut Q) else K (ar.put o.dst undef) w := by
  unfold stepL at h
  split at h
  · simp only [Option.map_eq_some_iff] at h
    obtain ⟨u, hu, heq⟩ := h
    cases heq
    have hkp := stepA_keeps hk hu
    have hlen : (locked H).length = H.length := by simp [locked]
    have he' : Emb P B w0 ρ (locked H) w := he.less (by rw [hlen]; exact Nat.le_refl _) fun i b' hi hl => by
      rw [locked_get] at hi
      simp only [Option.map_eq_some_iff] at hi
      obtain ⟨b, h1, rfl⟩ := hi
      exact ⟨b, h1, hl, rfl, rfl⟩
    refine stepA_ok hcall hu hs he' fun ρ' ar' w' h1 h2 h3 => hK ρ' ar' w' h1 h2 ?_
    refine h3.less (by simp; have := hkp.1; rw [hlen] at this; omega) fun i b' hi hl => ?_
    rw [List.getElem?_append] at hi
    split at hi
    · rename_i hlt
      refine ⟨{ b' with lock := true }, hkp.2 i _ (by rw [locked_get, hi]; rfl) rfl, hl, rfl, rfl⟩
    · rename_i hlt
      rw [List.getElem?_drop] at hi
      rw [show H.length + (i - H.length) = i by omega] at hi
      exact ⟨b', hi, hl, rfl, rfl⟩
  · exact stepA_ok hcall h hs he hK

theorem opsA_ok (hcall : CallOk P call) {B : Nat} {w0 : World} {Q : Exit → Act → World → Prop} : ∀ (l : List Oper) {a a' ar : Act} {H H' : Mem} {ρ : Ren} {w : World}, opsA P call ops l a H = some (a', H') → Sim ρ a ar → Emb P B w0 ρ H w →
    (∀ ρ' ar' w', ρ.le ρ' → Sim ρ' a' ar' → Emb P B w0 ρ' H' w' → Q .normal ar' w') → wpList P ops Q l ar w
  | [], a, a', ar, H, H', ρ, w, h, hs, he, hK => by
    simp only [opsA, Option.some.injEq] at h
    cases h
    exact hK ρ ar w (Ren.le_refl _) hs he
  | o :: l, a, a', ar, H, H', ρ, w, h, hs, he, hK => by
    simp only [opsA] at h
    split at h
    · rename_i r hr
      exact stepA_ok (Q := Q) hcall hr hs he fun ρ' ar' w' h1 h2 h3 => opsA_ok hcall l h h2 h3 fun ρ'' ar'' w'' k1 k2 k3 => hK ρ'' ar'' w'' (Ren.le_trans h1 k1) k2 k3
    · cases h

end
end Go.Ex
