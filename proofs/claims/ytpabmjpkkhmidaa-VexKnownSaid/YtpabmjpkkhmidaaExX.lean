/- The evaluator's answer is the machine's. -/
import Derived.Test.YtpabmjpkkhmidaaExW
namespace Go.Ex
open Go.RowKit

section
variable {P : Program} {call : CallF} {ops : Array Oper}

theorem quiet_callee {ev : Operand → Value} {o : Oper} (hq : quiet P o.op = true) : calleeA P ev o = none := by
  unfold calleeA
  split
  · rename_i hop; simp [hop, quiet] at hq
  · rfl

/-- What a quiet operation yields in a state. -/
def QY (P : Program) (ops : Array Oper) (o : Oper) (v : Value) (a : Act) (H : Mem) : Prop :=
  (Region.wanted o (yielded ops a.tmps) = true ∧ o.op.operands.toList.all operandOk = true ∧ opA P a.eval o H = some (v, H)) ∨ (Region.wanted o (yielded ops a.tmps) = false ∧ v = undef)

theorem QY.step {o : Oper} {v : Value} {a : Act} {H : Mem} (hq : quiet P o.op = true) (h : QY P ops o v a H) : stepA P call ops o a H = some (a.put o.dst v, H) := by
  unfold stepA
  rcases h with ⟨h1, h2, h3⟩ | ⟨h1, rfl⟩
  · simp only [h1, if_true, h2, quiet_callee hq, h3]; rfl
  · simp [h1]

theorem QY.of_step {o : Oper} {a a' : Act} {H H' : Mem} (hq : quiet P o.op = true) (h : stepA P call ops o a H = some (a', H')) : H' = H ∧ ∃ v, a' = a.put o.dst v ∧ QY P ops o v a H := by
  unfold stepA at h
  split at h
  · rename_i hw
    split at h
    · rename_i hok
      rw [quiet_callee hq] at h
      simp only [Option.map_eq_some_iff] at h
      obtain ⟨⟨r1, r2⟩, hr, heq⟩ := h
      cases heq
      obtain ⟨h1, _, _⟩ := quiet_op hq hr
      rw [h1] at hr ⊢
      exact ⟨rfl, _, rfl, .inl ⟨hw, hok, hr⟩⟩
    · cases h
  · rename_i hw
    cases h
    exact ⟨rfl, _, rfl, .inr ⟨by simpa using hw, rfl⟩⟩

theorem QY.move {o oj : Oper} {v u : Value} {a : Act} {H : Mem} (h : QY P ops o v a H) (hap : ∀ d, oj.dst = some d → d ∉ o.looksAt ops) (hsel : ∀ cs b, o.op ≠ .select cs b) : QY P ops o v (a.put oj.dst u) H := by
  unfold QY at *
  rw [wanted_put o a oj.dst u hap, opA_put a u H hap hsel]
  exact h

theorem QY.mem {o : Oper} {v : Value} {a : Act} {H H' : Mem} (hq : quiet P o.op = true) (h : QY P ops o v a H) (hm : isLoad o.op = false ∨ ∃ N, H' = H ++ N) : QY P ops o v a H' := by
  rcases h with ⟨h1, h2, h3⟩ | h
  · obtain ⟨_, k2, k3⟩ := quiet_op hq h3
    rcases hm with hm | ⟨N, rfl⟩
    · exact .inl ⟨h1, h2, k2 hm H'⟩
    · exact .inl ⟨h1, h2, k3 N⟩
  · exact .inr h

/-- Whatever is listed, all that it comes after is listed. -/
def Closed (ops : Array Oper) (listed : Array Bool) : Prop :=
  ∀ k o, ops[k]? = some o → listed.getD k false = true → ∀ e ∈ o.after, Region.binds .any e = true → listed.getD e.on false = true

theorem Closed.add {listed : Array Bool} (h : Closed ops listed) {i : Nat} (hi : i ∈ Region.ready .any ops listed) : Closed ops (listed.setIfInBounds i true) := by
  intro k o ho hk e he hb
  apply getD_set_true
  by_cases hik : i = k
  · subst hik
    obtain ⟨_, o', ho', hall⟩ := mem_ready.1 hi
    rw [ho] at ho'; cases ho'
    exact hall e he hb
  · rw [getD_set_ne false hik] at hk
    exact h k o ho hk e he hb

theorem behind_listed {listed : Array Bool} (hc : Closed ops listed) {j : Nat} : ∀ (n i : Nat), behind ops j n i = true → listed.getD i false = true → listed.getD j false = true
  | 0, _, h, _ => by simp [behind] at h
  | n + 1, i, h, hi => by
    unfold behind at h
    split at h
    · rename_i o ho
      obtain ⟨e, he, hb⟩ := List.any_eq_true.1 h
      simp only [Bool.and_eq_true, Bool.or_eq_true, beq_iff_eq] at hb
      have hl := hc i o ho hi e (by simpa using he) hb.1
      rcases hb.2 with h1 | h1
      · rw [← h1]; exact hl
      · exact behind_listed hc n e.on h1 hl
    · cases h

theorem behind_ready {listed : Array Bool} (hc : Closed ops listed) {i j : Nat} (hi : i ∈ Region.ready .any ops listed) (hj : j ∈ Region.ready .any ops listed) (n : Nat) : behind ops i n j = false := by
  rw [← Bool.not_eq_true]
  intro h
  obtain ⟨hi0, _⟩ := mem_ready.1 hi
  have hcon : listed.getD i false = true → False := by
    intro h1
    by_cases hlt : i < listed.size
    · simp [Array.getD, hlt] at h1 hi0; rw [h1] at hi0; cases hi0
    · simp [Array.getD, hlt] at h1
  cases n with
  | zero => simp [behind] at h
  | succ n =>
    obtain ⟨_, o, ho, hall⟩ := mem_ready.1 hj
    unfold behind at h
    simp only [ho] at h
    obtain ⟨e, he, hb⟩ := List.any_eq_true.1 h
    simp only [Bool.and_eq_true, Bool.or_eq_true, beq_iff_eq] at hb
    have hl := hall e (by simpa using he) hb.1
    rcases hb.2 with h1 | h1
    · rw [h1] at hl; exact hcon hl
    · exact hcon (behind_listed hc n e.on h1 hl)

theorem loadsAhead_spec {listed : Array Bool} {i : Nat} (h : loadsAhead ops listed i = true) {j : Nat} {oj : Oper} (hj : ops[j]? = some oj) (hl : isLoad oj.op = true) (hlist : listed.getD j true = true) : behind ops j ops.size i = true := by
  unfold loadsAhead at h
  have hlt : j < ops.size := (Array.getElem?_eq_some_iff.1 hj).1
  have := List.all_eq_true.1 h j (List.mem_range.2 hlt)
  simp only [hj, hl, hlist] at this
  simpa using this

theorem loadsAhead_less {listed : Array Bool} {i k : Nat} (h : loadsAhead ops (listed.setIfInBounds k true) i = true) : loadsAhead ops listed i = true := by
  unfold loadsAhead at h ⊢
  refine List.all_eq_true.2 fun j hj => ?_
  have := List.all_eq_true.1 h j hj
  split
  · rename_i oj hoj
    simp only [hoj] at this
    simp only [Bool.or_eq_true, Bool.not_eq_true'] at this ⊢
    rcases this with (h1 | h1) | h1
    · exact .inl (.inl h1)
    · refine .inl (.inr ?_)
      by_cases hkj : k = j
      · subst hkj
        by_cases hlt : k < listed.size
        · simp [Array.getD, hlt] at h1
        · simp [Array.getD, hlt] at h1
      · rwa [getD_set_ne true hkj] at h1
    · exact .inr h1
  · rfl

theorem anyA_first (_hk : CallKeeps call) {Fin : Act → Mem → Prop} (hsel : ∀ (j : Nat) (o : Oper) cs b, ops[j]? = some o → o.op ≠ .select cs b) {i : Nat} {oi : Oper} {v : Value} (hi : ops[i]? = some oi) (hq : quiet P oi.op = true) :
    ∀ (n : Nat) (listed : Array Bool) (a : Act) (H : Mem),
      (∀ (j : Nat) (oj : Oper), ops[j]? = some oj → j ≠ i → listed.getD j true = false → (∀ e ∈ oj.after, Region.binds .any e = true → e.on ≠ i) → oi.apart ops oj = true) →
      Closed ops listed → i ∈ Region.ready .any ops listed → QY P ops oi v a H → AnyA P call ops Fin n (listed.setIfInBounds i true) (a.put oi.dst v) H → AnyA P call ops Fin (n + 1) listed a H := by
  intro n
  induction n with
  | zero =>
    intro listed a H _ _ hr hy hA
    refine ⟨fun h => (by rw [h] at hr; cases hr), fun j hj => ?_⟩
    by_cases hji : j = i
    · subst hji; exact ⟨oi, false, _, _, hi, by unfold stepL; exact hy.step hq, fun _ => .inl hq, hA⟩
    · have := ready_mono hj hji
      rw [hA.1] at this
      cases this
  | succ n ih =>
    intro listed a H hfree hcl hr hy hA
    refine ⟨fun h => (by rw [h] at hr; cases hr), fun j hj => ?_⟩
    by_cases hji : j = i
    · subst hji; exact ⟨oi, false, _, _, hi, by unfold stepL; exact hy.step hq, fun _ => .inl hq, hA⟩
    · obtain ⟨oj, lk, a', H', hoj, hst, hlk, hA'⟩ := hA.2 j (ready_mono hj hji)
      obtain ⟨hjun, oj', hoj', hall⟩ := mem_ready.1 hj
      rw [hoj] at hoj'; cases hoj'
      have hnot : ∀ e ∈ oj.after, Region.binds .any e = true → e.on ≠ i := fun e he hb heq => by
        have h1 := hall e he hb
        have h0 := (mem_ready.1 hr).1
        rw [heq] at h1
        rcases Nat.lt_or_ge i listed.size with h' | h'
        · simp [h'] at h0 h1; rw [h0] at h1; cases h1
        · simp [Array.getElem?_eq_none h'] at h1
      obtain ⟨p1, p2, p3⟩ := Oper.apart_spec (hfree j oj hoj hji hjun hnot)
      rw [stepL_put a v H p1 p2 (fun cs b => hsel j oj cs b hoj)] at hst
      simp only [Option.map_eq_some_iff] at hst
      obtain ⟨⟨aj, Hj⟩, hstj, heq⟩ := hst
      simp only [Prod.mk.injEq] at heq
      obtain ⟨rfl, rfl⟩ := heq
      refine ⟨oj, lk, aj, Hj, hoj, hstj, fun h0 => (hlk h0).imp id loadsAhead_less, ?_⟩
      have hfree' : ∀ (k : Nat) (ok : Oper), ops[k]? = some ok → k ≠ i → (listed.setIfInBounds j true).getD k true = false →
          (∀ e ∈ ok.after, Region.binds .any e = true → e.on ≠ i) → oi.apart ops ok = true := fun k ok hk' hki hun hno => by
        refine hfree k ok hk' hki ?_ hno
        by_cases hjk : j = k
        · subst hjk; exact hjun
        · rw [getD_set_ne true hjk] at hun; exact hun
      obtain ⟨u, rfl⟩ := stepL_shape hstj
      have hmem : isLoad oi.op = false ∨ ∃ N, Hj = H ++ N := by
        by_cases hld : isLoad oi.op = true
        · refine .inr ?_
          cases lk with
          | true =>
            unfold stepL at hstj
            simp only [if_true, Option.map_eq_some_iff] at hstj
            obtain ⟨r, _, heq⟩ := hstj
            simp only [Prod.mk.injEq] at heq
            exact ⟨_, heq.2.symm⟩
          | false =>
            rcases hlk rfl with h1 | h1
            · unfold stepL at hstj
              simp only [Bool.false_eq_true, if_false] at hstj
              exact ⟨[], by simp [(QY.of_step h1 hstj).1]⟩
            · exfalso
              have hb := loadsAhead_spec h1 hi hld (by
                have hlt : i < ops.size := (Array.getElem?_eq_some_iff.1 hi).1
                by_cases hll : i < listed.size
                · simp [Array.getD, hll]
                · simp [Array.getD, hll])
              rw [behind_ready hcl hr hj] at hb
              cases hb
        · exact .inl (by simpa using hld)
      refine ih (listed.setIfInBounds j true) _ Hj hfree' (hcl.add hj) (ready_mono hr (Ne.symm hji)) ((hy.move p3 (fun cs b => hsel i oi cs b hi)).mem hq hmem) ?_
      rw [Array.setIfInBounds_comm _ _ hji]
      exact hA'

theorem freeA_spec {listed : Array Bool} {i : Nat} {oi : Oper} (h : freeA ops listed i oi = true) : ∀ (j : Nat) (oj : Oper), ops[j]? = some oj → j ≠ i → listed.getD j true = false → (∀ e ∈ oj.after, Region.binds .any e = true → e.on ≠ i) → oi.apart ops oj = true := by
  intro j oj hj hji hun hno
  unfold freeA at h
  have hlt : j < ops.size := (Array.getElem?_eq_some_iff.1 hj).1
  have := List.all_eq_true.1 h j (List.mem_range.2 hlt)
  simp only [hj, hun, Bool.or_eq_true, beq_iff_eq, Bool.or_false] at this
  rcases this with (h1 | h1) | h1
  · exact absurd h1 hji
  · obtain ⟨e, he, hb⟩ := List.any_eq_true.1 h1
    simp only [Bool.and_eq_true, beq_iff_eq] at hb
    exact absurd hb.2 (hno e (by simpa using he) hb.1)
  · exact h1

theorem drawA_any (hk : CallKeeps call) (hsel : ∀ (j : Nat) (o : Oper) cs b, ops[j]? = some o → o.op ≠ .select cs b) {af : Act} {Hf : Mem} : ∀ (n : Nat) (listed : Array Bool) (a : Act) (H : Mem), Closed ops listed →
    drawA P call ops n listed a H = some (af, Hf) → AnyA P call ops (fun x y => x = af ∧ y = Hf) n listed a H := by
  intro n
  induction n with
  | zero =>
    intro listed a H _ h
    unfold drawA at h
    split at h
    · rename_i he
      cases h
      exact ⟨by simpa using he, rfl, rfl⟩
    · cases h
  | succ n ih =>
    intro listed a H hcl h
    unfold drawA at h
    split at h
    · rename_i i hf
      have hir := List.mem_of_find?_eq_some hf
      have hqi := List.find?_some hf
      split at h
      · rename_i o ho
        simp only [ho, Option.map_some, Option.getD_some] at hqi
        split at h
        · rename_i hfree
          split at h
          · rename_i r hr
            obtain ⟨r1, r2⟩ := r
            obtain ⟨rfl, v, rfl, hy⟩ := QY.of_step hqi hr
            exact anyA_first hk hsel ho hqi n listed a r2 (freeA_spec hfree) hcl hir hy (ih _ _ _ (hcl.add hir) h)
          · cases h
        · cases h
      · cases h
    · split at h
      · rename_i i hrd
        split at h
        · rename_i o ho
          split at h
          · rename_i r hr
            refine ⟨fun h0 => (by rw [hrd] at h0; cases h0), fun j hj => ?_⟩
            have hji : j = i := by rw [hrd] at hj; simpa using hj
            subst hji
            refine ⟨o, _, r.1, r.2, ho, hr, fun h0 => .inr (by simpa using h0), ih _ _ _ (hcl.add hj) h⟩
          · cases h
        · cases h
      · rename_i hrd
        cases h
        exact ⟨fun _ => ⟨rfl, rfl⟩, fun j hj => by rw [hrd] at hj; cases hj⟩
      · cases h

/-! ### Bodies -/

def Leave.exit' : Leave → Exit
  | .normal => .normal
  | .exit id => .exit id
  | .ret => .ret

/-- A piece of code, in the evaluator and in the machine. -/
def CodeOk (P : Program) (f : Act → Mem → Option (Leave × Act × Mem)) (c : Code) : Prop :=
  ∀ a H lv a' H', f a H = some (lv, a', H') → ∀ B w0 ρ ar w, Sim ρ a ar → Emb P B w0 ρ H w → ∀ Q : Exit → Act → World → Prop,
    (∀ ρ' ar' w', ρ.le ρ' → Sim ρ' a' ar' → Emb P B w0 ρ' H' w' → Q lv.exit' ar' w') → c.wp P Q ar w

theorem noSelectA_spec (h : noSelectA ops = true) : ∀ (j : Nat) (o : Oper) cs b, ops[j]? = some o → o.op ≠ .select cs b := by
  intro j o cs b hj he
  have hm : o ∈ ops.toList := by
    have := Array.mem_of_getElem? hj; simpa using this
  have := List.all_eq_true.1 h o hm
  simp [he] at this

theorem loopA_ok {body : Act → Mem → Option (Leave × Act × Mem)} {c : Code} (hb : CodeOk P body c) : ∀ (n : Nat) a H lv a' H', loopA body n a H = some (lv, a', H') → ∀ B w0 ρ ar w, Sim ρ a ar → Emb P B w0 ρ H w → ∀ Q : Exit → Act → World → Prop,
    (∀ ρ' ar' w', ρ.le ρ' → Sim ρ' a' ar' → Emb P B w0 ρ' H' w' → Q lv.exit' ar' w') → Code.rounds P c Q n ar w
  | 0, _, _, _, _, _, h, _, _, _, _, _, _, _, _, _ => by simp [loopA] at h
  | n + 1, a, H, lv, a', H', h, B, w0, ρ, ar, w, hs, he, Q, hQ => by
    unfold loopA at h
    rw [rounds_succ]
    split at h
    · rename_i a1 H1 h1
      refine hb a H .normal a1 H1 h1 B w0 ρ ar w hs he _ fun ρ' ar' w' k1 k2 k3 => ?_
      exact loopA_ok hb n a1 H1 lv a' H' h B w0 ρ' ar' w' k2 k3 Q fun ρ'' ar'' w'' m1 m2 m3 => hQ ρ'' ar'' w'' (Ren.le_trans k1 m1) m2 m3
    · rename_i hne
      refine hb a H lv a' H' h B w0 ρ ar w hs he _ fun ρ' ar' w' k1 k2 k3 => ?_
      have := hQ ρ' ar' w' k1 k2 k3
      cases lv with
      | normal => exact absurd h (hne a' H')
      | exit id => exact this
      | ret => exact this

theorem codeA_ok (hcall : CallOk P call) (hk : CallKeeps call) (hm : P.follows .mixedOrders = true) (rounds : Nat) : ∀ c : Code, CodeOk P (codeA P call rounds c) c
  | .skip => by
    intro a H lv a' H' h B w0 ρ ar w hs he Q hQ
    simp only [codeA, Option.some.injEq] at h
    cases h
    exact wp_skip (hQ ρ ar w (Ren.le_refl _) hs he)
  | .region id ops false => by
    intro a H lv a' H' h B w0 ρ ar w hs he Q hQ
    simp only [codeA, Option.map_eq_some_iff] at h
    obtain ⟨r, hr, heq⟩ := h
    cases heq
    exact wp_region_list (opsA_ok hcall ops.toList hr hs he hQ)
  | .region id ops true => by
    intro a H lv a' H' h B w0 ρ ar w hs he Q hQ
    simp only [codeA] at h
    split at h
    · rename_i hns
      simp only [Option.map_eq_some_iff] at h
      obtain ⟨r, hr, heq⟩ := h
      cases heq
      have hcl : Closed ops (Array.replicate ops.size false) := by
        intro k o _ hk'
        by_cases hlt : k < ops.size
        · simp [Array.getD, hlt] at hk'
        · simp [Array.getD, hlt] at hk'
      refine wp_region_any hm (anyA_ok hcall hk _ _ (drawA_any hk (noSelectA_spec hns) _ _ a H hcl hr) hs he.drew ?_)
      rintro a'' H'' ρ' ar' w' ⟨rfl, rfl⟩ h1 h2 h3
      exact hQ ρ' ar' w' h1 h2 h3
    · cases h
  | .seq x y => by
    intro a H lv a' H' h B w0 ρ ar w hs he Q hQ
    simp only [codeA] at h
    refine wp_seq ?_
    split at h
    · rename_i a1 H1 h1
      refine codeA_ok hcall hk hm rounds x a H .normal a1 H1 h1 B w0 ρ ar w hs he _ fun ρ' ar' w' k1 k2 k3 => ?_
      exact codeA_ok hcall hk hm rounds y a1 H1 lv a' H' h B w0 ρ' ar' w' k2 k3 Q fun ρ'' ar'' w'' m1 m2 m3 => hQ ρ'' ar'' w'' (Ren.le_trans k1 m1) m2 m3
    · rename_i hne
      refine codeA_ok hcall hk hm rounds x a H lv a' H' h B w0 ρ ar w hs he _ fun ρ' ar' w' k1 k2 k3 => ?_
      have := hQ ρ' ar' w' k1 k2 k3
      cases lv with
      | normal => exact absurd h (hne a' H')
      | exit id => exact this
      | ret => exact this
  | .cond c x y => by
    intro a H lv a' H' h B w0 ρ ar w hs he Q hQ
    simp only [codeA] at h
    have hc : operandOk c = true → VRel ρ (a.eval c) (ar.eval c) := fun h => hs.eval h
    split at h
    · split at h
      · rename_i hok _ hb
        have hr := hc hok
        rw [hb] at hr
        generalize hq : ar.eval c = q at hr
        cases hr
        exact wp_cond_true hq (codeA_ok hcall hk hm rounds x a H lv a' H' h B w0 ρ ar w hs he Q hQ)
      · rename_i hok _ hb
        have hr := hc hok
        rw [hb] at hr
        generalize hq : ar.eval c = q at hr
        cases hr
        exact wp_cond_false hq (codeA_ok hcall hk hm rounds y a H lv a' H' h B w0 ρ ar w hs he Q hQ)
      · cases h
    · cases h
  | .block id c => by
    intro a H lv a' H' h B w0 ρ ar w hs he Q hQ
    simp only [codeA] at h
    refine wp_block ?_
    split at h
    · rename_i id' a1 H1 h1
      refine codeA_ok hcall hk hm rounds c a H (.exit id') a1 H1 h1 B w0 ρ ar w hs he _ fun ρ' ar' w' k1 k2 k3 => ?_
      show (if id' = id then Q .normal ar' w' else Q (.exit id') ar' w')
      split at h
      · rename_i hid
        cases h
        rw [if_pos hid]; exact hQ ρ' ar' w' k1 k2 k3
      · rename_i hid
        cases h
        rw [if_neg hid]; exact hQ ρ' ar' w' k1 k2 k3
    · rename_i hne
      refine codeA_ok hcall hk hm rounds c a H lv a' H' h B w0 ρ ar w hs he _ fun ρ' ar' w' k1 k2 k3 => ?_
      have := hQ ρ' ar' w' k1 k2 k3
      cases lv with
      | normal => exact this
      | exit id => exact absurd h (hne id a' H')
      | ret => exact this
  | .loop c => by
    intro a H lv a' H' h B w0 ρ ar w hs he Q hQ
    simp only [codeA] at h
    exact wp_loop_rounds rounds (loopA_ok (codeA_ok hcall hk hm rounds c) rounds a H lv a' H' h B w0 ρ ar w hs he Q hQ)
  | .exit id => by
    intro a H lv a' H' h B w0 ρ ar w hs he Q hQ
    simp only [codeA, Option.some.injEq] at h
    cases h
    exact wp_exit (hQ ρ ar w (Ren.le_refl _) hs he)
  | .ret => by
    intro a H lv a' H' h B w0 ρ ar w hs he Q hQ
    simp only [codeA, Option.some.injEq] at h
    cases h
    exact wp_ret (hQ ρ ar w (Ren.le_refl _) hs he)
  | .rangeFunc .. => by intro a H lv a' H' h; simp [codeA] at h
  | .scope _ => by intro a H lv a' H' h; simp [codeA] at h
  | .label _ => by intro a H lv a' H' h; simp [codeA] at h
  | .goto _ => by intro a H lv a' H' h; simp [codeA] at h
  | .refuse _ => by intro a H lv a' H' h; simp [codeA] at h

/-! ### What is locked stays -/

theorem opsA_keeps (hk : CallKeeps call) : ∀ (l : List Oper) {a a' : Act} {H H' : Mem}, opsA P call ops l a H = some (a', H') → Keeps H H'
  | [], a, a', H, H', h => by simp only [opsA, Option.some.injEq] at h; cases h; exact .refl _
  | o :: l, a, a', H, H', h => by
    simp only [opsA] at h
    split at h
    · rename_i r hr
      exact (stepA_keeps hk (a' := r.1) (H' := r.2) hr).trans (opsA_keeps hk l h)
    · cases h

theorem drawA_keeps (hk : CallKeeps call) : ∀ (n : Nat) (listed : Array Bool) {a a' : Act} {H H' : Mem}, drawA P call ops n listed a H = some (a', H') → Keeps H H'
  | 0, listed, a, a', H, H', h => by
    unfold drawA at h
    split at h
    · cases h; exact .refl _
    · cases h
  | n + 1, listed, a, a', H, H', h => by
    unfold drawA at h
    split at h
    · split at h
      · split at h
        · split at h
          · rename_i r hr
            exact (stepA_keeps hk (a' := r.1) (H' := r.2) hr).trans (drawA_keeps hk n _ h)
          · cases h
        · cases h
      · cases h
    · split at h
      · split at h
        · split at h
          · rename_i r hr
            exact (stepL_keeps hk (a' := r.1) (H' := r.2) hr).trans (drawA_keeps hk n _ h)
          · cases h
        · cases h
      · cases h; exact .refl _
      · cases h

theorem loopA_keeps {body : Act → Mem → Option (Leave × Act × Mem)} (hb : ∀ a H lv a' H', body a H = some (lv, a', H') → Keeps H H') : ∀ (n : Nat) a H lv a' H', loopA body n a H = some (lv, a', H') → Keeps H H'
  | 0, _, _, _, _, _, h => by simp [loopA] at h
  | n + 1, a, H, lv, a', H', h => by
    unfold loopA at h
    split at h
    · rename_i a1 H1 h1
      exact (hb _ _ _ _ _ h1).trans (loopA_keeps hb n _ _ _ _ _ h)
    · exact hb _ _ _ _ _ h

theorem codeA_keeps (hk : CallKeeps call) (rounds : Nat) : ∀ (c : Code) a H lv a' H', codeA P call rounds c a H = some (lv, a', H') → Keeps H H'
  | .skip, a, H, lv, a', H', h => by simp only [codeA, Option.some.injEq] at h; cases h; exact .refl _
  | .region id ops false, a, H, lv, a', H', h => by
    simp only [codeA, Option.map_eq_some_iff] at h
    obtain ⟨r, hr, heq⟩ := h
    cases heq
    exact opsA_keeps hk (a' := r.1) (H' := r.2) ops.toList hr
  | .region id ops true, a, H, lv, a', H', h => by
    simp only [codeA] at h
    split at h
    · simp only [Option.map_eq_some_iff] at h
      obtain ⟨r, hr, heq⟩ := h
      cases heq
      exact drawA_keeps hk (a' := r.1) (H' := r.2) _ _ hr
    · cases h
  | .seq x y, a, H, lv, a', H', h => by
    simp only [codeA] at h
    split at h
    · rename_i a1 H1 h1
      exact (codeA_keeps hk rounds x _ _ _ _ _ h1).trans (codeA_keeps hk rounds y _ _ _ _ _ h)
    · exact codeA_keeps hk rounds x _ _ _ _ _ h
  | .cond c x y, a, H, lv, a', H', h => by
    simp only [codeA] at h
    split at h
    · split at h
      · exact codeA_keeps hk rounds x _ _ _ _ _ h
      · exact codeA_keeps hk rounds y _ _ _ _ _ h
      · cases h
    · cases h
  | .block id c, a, H, lv, a', H', h => by
    simp only [codeA] at h
    split at h
    · rename_i id' a1 H1 h1
      have := codeA_keeps hk rounds c _ _ _ _ _ h1
      split at h <;> (cases h; exact this)
    · exact codeA_keeps hk rounds c _ _ _ _ _ h
  | .loop c, a, H, lv, a', H', h => by
    simp only [codeA] at h
    exact loopA_keeps (codeA_keeps hk rounds c) _ _ _ _ _ _ h
  | .exit id, a, H, lv, a', H', h => by simp only [codeA, Option.some.injEq] at h; cases h; exact .refl _
  | .ret, a, H, lv, a', H', h => by simp only [codeA, Option.some.injEq] at h; cases h; exact .refl _
  | .rangeFunc .., a, H, lv, a', H', h => by simp [codeA] at h
  | .scope _, a, H, lv, a', H', h => by simp [codeA] at h
  | .label _, a, H, lv, a', H', h => by simp [codeA] at h
  | .goto _, a, H, lv, a', H', h => by simp [codeA] at h
  | .refuse _, a, H, lv, a', H', h => by simp [codeA] at h

theorem callA_keeps (K : Known) (rounds : Nat) : ∀ n, CallKeeps (callA P K rounds n)
  | 0 => by intro f args H v H' h; simp [callA] at h
  | n + 1 => by
    intro f args H v H' h
    unfold callA at h
    split at h
    · split at h
      · cases h; exact .refl _
      · cases h
    · split at h
      · split at h
        · split at h
          · rename_i a1 H1 h1
            simp only [Option.map_eq_some_iff] at h
            obtain ⟨l, _, heq⟩ := h
            cases heq
            exact codeA_keeps (callA_keeps K rounds n) rounds _ _ _ _ _ _ h1
          · rename_i a1 H1 h1
            simp only [Option.map_eq_some_iff] at h
            obtain ⟨l, _, heq⟩ := h
            cases heq
            exact codeA_keeps (callA_keeps K rounds n) rounds _ _ _ _ _ _ h1
          · cases h
        · cases h
      · cases h

/-! ### Results and calls -/

def resOf (tmps : Array Value) : ResultVar → Sem Value
  | .tmp t => pure (tmps.getD t undef)
  | .cell x t => do loadVar t (← asAddr (tmps.getD x undef))

theorem result_ok {B : Nat} {w0 w : World} {ρ : Ren} {H : Mem} (he : Emb P B w0 ρ H w) {a ar : Act} (hs : Sim ρ a ar) {r : ResultVar} {v : Value} (h : resultA P H a r = some v) :
    ∃ v', VRel ρ v v' ∧ (resOf ar.tmps r).run P w = .ok v' w := by
  cases r with
  | tmp t =>
    simp only [resultA, Option.some.injEq] at h
    subst h
    exact ⟨_, hs.tmps.getD t .undef, rfl⟩
  | cell x t =>
    simp only [resultA] at h
    have hx := hs.tmps.getD x .undef
    obtain ⟨v', h1, h2⟩ := load_ok he hx h
    refine ⟨v', h2, ?_⟩
    unfold loadA at h
    split at h
    · rename_i i off heq
      rw [heq] at hx
      simp only [resOf]
      generalize ar.tmps.getD x undef = q at hx h1 ⊢
      cases hx with
      | ptr _ _ r y hr =>
        simp only [Instr.loadAt, Instr.sureAddr, Sem.run_bind, Sem.run_pure, Result.andThen_ok] at h1
        simp only [asAddr, Sem.run_bind, Sem.run_pure, Result.andThen_ok]
        exact h1
    · cases h

theorem results_list {B : Nat} {w0 w : World} {ρ : Ren} {H : Mem} (he : Emb P B w0 ρ H w) {a ar : Act} (hs : Sim ρ a ar) : ∀ (rs : List ResultVar) {l : List Value}, resultsA P H a rs = some l →
    ∃ l', LR (VRel ρ) l l' ∧ (rs.mapM (resOf ar.tmps)).run P w = .ok l' w
  | [], l, h => by
    simp only [resultsA, Option.some.injEq] at h
    subst h
    exact ⟨[], .nil, by simp⟩
  | r :: rs, l, h => by
    simp only [resultsA] at h
    split at h
    · rename_i v vs hv hvs
      cases h
      obtain ⟨v', h1, h2⟩ := result_ok he hs hv
      obtain ⟨l', h3, h4⟩ := results_list he hs rs hvs
      refine ⟨v' :: l', LR.cons h1 h3, ?_⟩
      rw [List.mapM_cons]
      simp only [Sem.run_bind, Sem.run_pure]
      rw [h2]; simp only [Result.andThen_ok]; rw [h4]; rfl
    · cases h

theorem results_ok {B : Nat} {w0 w : World} {ρ : Ren} {H : Mem} (he : Emb P B w0 ρ H w) {a ar : Act} (hs : Sim ρ a ar) {fn : Func} {l : List Value} (h : resultsA P H a fn.results.toList = some l) :
    ∃ v', VRel ρ (oneA l) v' ∧ (results fn ar.tmps).run P w = .ok v' w := by
  obtain ⟨l', h1, h2⟩ := results_list he hs _ h
  have hrun : (results fn ar.tmps).run P w = .ok (if hh : l'.toArray.size = 1 then l'.toArray[0] else .tuple l'.toArray) w := by
    have e : results fn ar.tmps = (do let vs ← fn.results.mapM (resOf ar.tmps); pure (if h : vs.size = 1 then vs[0] else .tuple vs)) := rfl
    rw [e, Array.mapM_eq_mapM_toList]
    simp only [Sem.run_bind, Sem.run_map]
    rw [h2]; rfl
  refine ⟨_, ?_, hrun⟩
  match l, h1 with
  | [], h1 => rw [h1.unnil]; exact .tuple _ _ rfl (fun i x y hx => by simp at hx)
  | [v], h1 =>
    obtain ⟨v', t', rfl, hv, ht⟩ := h1.uncons
    rw [ht.unnil]
    exact hv
  | v :: u :: t, h1 =>
    obtain ⟨v', t', rfl, hv, ht⟩ := h1.uncons
    obtain ⟨u', t'', rfl, hu, ht'⟩ := ht.uncons
    have : ¬ ((v' :: u' :: t'').toArray.size = 1) := by simp
    rw [dif_neg this]
    have hA := h1.array
    exact .tuple _ _ hA.1 hA.2

/-- Contracts that are known already. -/
def KnownOk (P : Program) (K : Known) : Prop := ∀ f args v, K f args = some v → ∀ w, Calls P f args w fun e w' => e = .returned v ∧ Below w.heap.size w w'

theorem noKnown_ok : KnownOk P noKnown := fun _ _ _ h => by simp [noKnown] at h

theorem callA_ok (hm : P.follows .mixedOrders = true) {K : Known} (hK : KnownOk P K) (rounds : Nat) : ∀ n, CallOk P (callA P K rounds n)
  | 0 => by intro f args H v H' h; simp [callA] at h
  | n + 1 => by
    intro f args H v H' h B w0 ρ w args' he hargs
    unfold callA at h
    split at h
    · rename_i u hu
      split at hu
      · rename_i hfree
        split at h
        · rename_i hf
          cases h
          rw [hargs.eq_of_free hfree]
          refine (hK f args _ hu w).mono ?_
          rintro e w' ⟨rfl, hb⟩
          exact ⟨ρ, _, rfl, Ren.le_refl _, refl_of_free _ hf, he.grow hb⟩
        · cases h
      · cases hu
    · split at h
      · rename_i fn hfn
        split at h
        · rename_i c hc
          have hsim : Sim ρ { tmps := args ++ Array.replicate (fn.ntmps - args.size) undef, defers := [] } { tmps := args' ++ Array.replicate (fn.ntmps - args'.size) undef, defers := [] } := by
            refine ⟨LR.of_array ?_, rfl, rfl⟩
            rw [← hargs.1]
            simp only [Array.toList_append]
            exact hargs.list.append ⟨rfl, fun i x y hx hy => by
              rw [hx] at hy; cases hy
              have : x = undef := by
                have := List.mem_of_getElem? hx; simp at this; exact this.2
              subst this; exact .undef⟩
          have hbody := codeA_ok (callA_ok hm hK rounds n) (callA_keeps K rounds n) hm rounds c
          refine calls_of_wp hfn hc ?_
          split at h
          · rename_i a1 H1 h1
            simp only [Option.map_eq_some_iff] at h
            obtain ⟨l, hl, heq⟩ := h
            cases heq
            refine hbody _ _ _ _ _ h1 B w0 ρ _ w hsim he _ fun ρ' ar' w' k1 k2 k3 => ?_
            obtain ⟨v', p1, p2⟩ := results_ok k3 k2 hl
            exact ⟨k2.dr, v', p2, ρ', v', rfl, k1, p1, k3⟩
          · rename_i a1 H1 h1
            simp only [Option.map_eq_some_iff] at h
            obtain ⟨l, hl, heq⟩ := h
            cases heq
            refine hbody _ _ _ _ _ h1 B w0 ρ _ w hsim he _ fun ρ' ar' w' k1 k2 k3 => ?_
            obtain ⟨v', p1, p2⟩ := results_ok k3 k2 hl
            exact ⟨k2.dr, v', p2, ρ', v', rfl, k1, p1, k3⟩
          · cases h
        · cases h
      · cases h

/-- **WHAT THE EVALUATOR ANSWERS THE CALL ANSWERS, in whatever world, and turns nothing that was there.** -/
theorem answer_ok (hm : P.follows .mixedOrders = true) {K : Known} (hK : KnownOk P K) {rounds depth : Nat} {f : FuncId} {args : Array Value} {v : Value} (h : answer P K rounds depth f args = some v) (w : World) :
    Calls P f args w fun e w' => e = .returned v ∧ Below w.heap.size w w' := by
  unfold answer at h
  split at h
  · rename_i u H' hc
    split at h
    · rename_i hf
      cases h
      simp only [Bool.and_eq_true] at hf
      have he : Emb P w.heap.size w (fun _ => none) [] w := ⟨Below.refl _ _, Nat.le_refl _, fun i x h => (by cases h), fun i b h => (by simp at h), fun i j bi bj r x y h => (by simp at h)⟩
      refine (callA_ok hm hK rounds depth f args [] v H' hc w.heap.size w (fun _ => none) w args he (AR.refl_of_free hf.2)).mono ?_
      rintro e w' ⟨ρ', v', rfl, h1, h2, h3⟩
      exact ⟨by rw [eq_of_free h2 hf.1], h3.below⟩
    · cases h
  · cases h

end
end Go.Ex
