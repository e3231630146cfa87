/- Bodies and calls: the evaluator's answer is the machine's. -/
import Derived.Test.YtcafcgiemdlobaaDoorEvX
import Derived.Scope
namespace Go.Ev
open Go.RowKit

section
variable {P : Program} {call : CallF} {ops : Array Oper}

/-- Slots of the evaluator's, and the machine's. -/
def SimF (ρ : Ren) (f : Fr) (ar : Act) : Prop := ∃ a, Rep f a ∧ Sim ρ a ar

theorem opsA_ok (hno : noOwn P) {G : Nat} (hcall : CallOk P G call) {c : Cx} (hcP : c.P = P) (hcG : c.G = G) {Q : Exit → Act → World → Prop} : ∀ (l : List Oper) {f f' : Fr} {ar : Act} {H H' : Mem} {ρ : Ren} {w : World}, (∀ o ∈ l, o.op.operands.toList.all (operandOk G) = true) → opsA P call ops.toList l f H = some (f', H') → SimF ρ f ar → Emb c ρ H w →
    (∀ ρ' ar' w', ρ.le ρ' → SimF ρ' f' ar' → Emb c ρ' H' w' → Q .normal ar' w') → wpList P ops Q l ar w
  | [], f, f', ar, H, H', ρ, w, _, h, hs, he, hK => by
    have h' : some (f, H) = some (f', H') := h
    cases h'
    exact hK ρ ar w (Ren.le_refl _) hs he
  | o :: l, f, f', ar, H, H', ρ, w, hok, h, ⟨a, hr, hs⟩, he, hK => by
    rw [opsA_cons] at h
    split at h
    · rename_i f1 H1 h1
      obtain ⟨a1, h2, h3⟩ := stepA_rep hr h1
      exact stepS_ok (Q := Q) hno hcall (hok o (by simp)) h2 hcP hcG hs he fun ρ' ar' w' k1 k2 k3 => opsA_ok hno hcall hcP hcG l (fun x hx => hok x (by simp [hx])) h ⟨a1, h3, k2⟩ k3 fun ρ'' ar'' w'' m1 m2 m3 => hK ρ'' ar'' w'' (Ren.le_trans k1 m1) m2 m3
    · cases h

theorem opsA_keeps (hk : CallKeeps call) : ∀ (l : List Oper) {f f' : Fr} {H H' : Mem}, opsA P call ops.toList l f H = some (f', H') → Keeps H H'
  | [], f, f', H, H', h => by
    have h' : some (f, H) = some (f', H') := h
    cases h'; exact .refl _
  | o :: l, f, f', H, H', h => by
    rw [opsA_cons] at h
    split at h
    · rename_i f1 H1 h1
      refine Keeps.trans ?_ (opsA_keeps hk l h)
      unfold stepA at h1
      rw [pick2_eq] at h1
      split at h1
      · unfold putA at h1
        split at h1
        · rename_i v H2 hop
          split at h1
          · cases h1; exact opA_keeps hk hop
          · cases h1
        · cases h1
      · unfold putA at h1
        simp only at h1
        split at h1
        · cases h1; exact .refl _
        · cases h1
    · cases h

theorem stepL_keeps (hk : CallKeeps call) {o : Oper} {lk : Bool} {f f' : Fr} {H H' : Mem} (h : stepL P call ops.toList lk o f H = some (f', H')) : Keeps H H' := by
  have hst : ∀ {H H' : Mem} {f' : Fr}, stepA P call ops.toList o f H = some (f', H') → Keeps H H' := by
    intro H H' f' h1
    unfold stepA at h1
    rw [pick2_eq] at h1
    split at h1
    · unfold putA at h1
      split at h1
      · rename_i v H2 hop
        split at h1
        · cases h1; exact opA_keeps hk hop
        · cases h1
      · cases h1
    · unfold putA at h1
      simp only at h1
      split at h1
      · cases h1; exact .refl _
      · cases h1
  unfold stepL at h
  rw [pick2_eq] at h
  split at h
  · split at h
    · rename_i f1 H1 h1
      cases h
      obtain ⟨q1, _, q3⟩ := hst h1
      exact ⟨q1, rfl, fun i _ hs => q3 i hs hs⟩
    · cases h
  · exact hst h

theorem drawA_keeps (hk : CallKeeps call) : ∀ (l : List (Oper × Bool)) {f f' : Fr} {H H' : Mem}, drawA P call ops.toList l f H = some (f', H') → Keeps H H'
  | [], f, f', H, H', h => by
    have h' : some (f, H) = some (f', H') := h
    cases h'; exact .refl _
  | (o, lk) :: l, f, f', H, H', h => by
    rw [drawA_cons] at h
    split at h
    · rename_i f1 H1 h1
      exact (stepL_keeps hk h1).trans (drawA_keeps hk l h)
    · cases h

def Leave.exit' : Leave → Exit
  | .normal => .normal
  | .exit id => .exit id
  | .ret => .ret
  | .goto l => .goto l

/-- A piece of code, in the evaluator and in the machine. -/
def CodeOk (P : Program) (G : Nat) (g : Fr → Mem → Out) (cd : Code) : Prop :=
  ∀ f H lv f' H', g f H = some (lv, f', H') → Keeps H H' ∧ ∀ (c : Cx), c.P = P → c.G = G → ∀ ρ ar w, SimF ρ f ar → Emb c ρ H w → ∀ Q : Exit → Act → World → Prop,
    (∀ ρ' ar' w', ρ.le ρ' → SimF ρ' f' ar' → Emb c ρ' H' w' → Q lv.exit' ar' w') → cd.wp P Q ar w

theorem noSelectA_spec (h : noSelectA ops.toList = true) : ∀ (j : Nat) (o : Oper) cs b, ops[j]? = some o → o.op ≠ .select cs b := by
  intro j o cs b hj he
  have hm : o ∈ ops.toList := by
    have := Array.mem_of_getElem? hj; simpa using this
  have := List.all_eq_true.1 h o hm
  simp [he] at this

theorem atEnd_spec {r : Option (Fr × Mem)} {lv : Leave} {f : Fr} {H : Mem} (h : atEnd r = some (lv, f, H)) : lv = .normal ∧ r = some (f, H) := by
  cases r with
  | none => cases h
  | some q =>
    have h' : some (Leave.normal, q.1, q.2) = some (lv, f, H) := h
    cases h'; exact ⟨rfl, rfl⟩

theorem region_ok (hno : noOwn P) {G : Nat} (hcall : CallOk P G call) (hk : CallKeeps call) (hm : P.follows .mixedOrders = true) (id : Nat) (draw : Bool) : CodeOk P G (regionA P G call ops draw) (.region id ops draw) := by
  intro f H lv f' H' h
  unfold regionA at h
  rw [pick2_eq] at h
  split at h
  case isFalse => cases h
  rename_i hok
  rw [pick2_eq] at h
  split at h
  · rename_i hd
    subst hd
    cases hpl : plan P ops with
    | none => rw [hpl] at h; cases h
    | some l =>
      rw [hpl] at h
      obtain ⟨rfl, hdr⟩ := atEnd_spec (r := drawA P call ops.toList l f H) h
      unfold plan planOf at hpl
      rw [pick2_eq] at hpl
      split at hpl
      case isFalse => cases hpl
      rename_i hns
      refine ⟨drawA_keeps hk l hdr, fun c hcP hcG ρ ar w hs he Q hQ => ?_⟩
      obtain ⟨a, hr, hsim⟩ := hs
      obtain ⟨a', hds, hr'⟩ := drawA_rep l hr hdr
      have hcl : Closed ops (Array.replicate ops.size false) := by
        intro k o _ hk'
        by_cases hlt : k < ops.size
        · simp [Array.getD, hlt] at hk'
        · simp [Array.getD, hlt] at hk'
      have hany := planM_any hk (noSelectA_spec hns) posOk _ _ _ _ hpl Lis.zero hcl a H hds
      rw [Array.length_toList] at hany
      refine wp_region_any hm (anyA_ok hno hok hcall hk hcP hcG _ _ hany hsim he.drew ?_)
      rintro a'' H'' ρ' ar' w' ⟨rfl, rfl⟩ h1 h2 h3
      exact hQ ρ' ar' w' h1 ⟨_, hr', h2⟩ h3
  · rename_i hd
    have hd' : draw = false := by simpa using hd
    subst hd'
    obtain ⟨rfl, hop⟩ := atEnd_spec h
    exact ⟨opsA_keeps hk _ hop, fun c hcP hcG ρ ar w hs he Q hQ => wp_region_list (opsA_ok hno hcall hcP hcG ops.toList (fun o ho => List.all_eq_true.1 hok o ho) hop hs he hQ)⟩

theorem andThen_ok {G : Nat} {g k : Fr → Mem → Out} {x y : Code} (hx : CodeOk P G g x) (hy : CodeOk P G k y) : CodeOk P G (fun f H => andThen (g f H) k) (.seq x y) := by
  intro f H lv f' H' h0
  have h : andThen (g f H) k = some (lv, f', H') := h0
  clear h0
  unfold andThen at h
  split at h
  · rename_i f1 H1 h1
    obtain ⟨k1, w1⟩ := hx _ _ _ _ _ h1
    obtain ⟨k2, w2⟩ := hy _ _ _ _ _ h
    refine ⟨k1.trans k2, fun c hcP hcG ρ ar w hs he Q hQ => wp_seq (w1 c hcP hcG ρ ar w hs he _ fun ρ' ar' w' m1 m2 m3 => ?_)⟩
    exact w2 c hcP hcG ρ' ar' w' m2 m3 Q fun ρ'' ar'' w'' n1 n2 n3 => hQ ρ'' ar'' w'' (Ren.le_trans m1 n1) n2 n3
  · rename_i id f1 H1 h1
    cases h
    obtain ⟨k1, w1⟩ := hx _ _ _ _ _ h1
    exact ⟨k1, fun c hcP hcG ρ ar w hs he Q hQ => wp_seq (w1 c hcP hcG ρ ar w hs he _ fun ρ' ar' w' m1 m2 m3 => hQ ρ' ar' w' m1 m2 m3)⟩
  · rename_i f1 H1 h1
    cases h
    obtain ⟨k1, w1⟩ := hx _ _ _ _ _ h1
    exact ⟨k1, fun c hcP hcG ρ ar w hs he Q hQ => wp_seq (w1 c hcP hcG ρ ar w hs he _ fun ρ' ar' w' m1 m2 m3 => hQ ρ' ar' w' m1 m2 m3)⟩
  · rename_i l f1 H1 h1
    cases h
    obtain ⟨k1, w1⟩ := hx _ _ _ _ _ h1
    exact ⟨k1, fun c hcP hcG ρ ar w hs he Q hQ => wp_seq (w1 c hcP hcG ρ ar w hs he _ fun ρ' ar' w' m1 m2 m3 => hQ ρ' ar' w' m1 m2 m3)⟩
  · cases h

theorem loop_ok {G : Nat} {g : Fr → Mem → Out} {cd : Code} (hb : CodeOk P G g cd) : ∀ (n : Nat) f H lv f' H', loopA g n f H = some (lv, f', H') → Keeps H H' ∧ ∀ (c : Cx), c.P = P → c.G = G → ∀ ρ ar w, SimF ρ f ar → Emb c ρ H w → ∀ Q : Exit → Act → World → Prop,
    (∀ ρ' ar' w', ρ.le ρ' → SimF ρ' f' ar' → Emb c ρ' H' w' → Q lv.exit' ar' w') → Code.rounds P cd Q n ar w
  | 0, f, H, lv, f', H', h => by cases h
  | n + 1, f, H, lv, f', H', h => by
    have h0 : andThen (g f H) (loopA g n) = some (lv, f', H') := h
    unfold andThen at h0
    split at h0
    · rename_i f1 H1 h1
      obtain ⟨k1, w1⟩ := hb _ _ _ _ _ h1
      obtain ⟨k2, w2⟩ := loop_ok hb n _ _ _ _ _ h0
      refine ⟨k1.trans k2, fun c hcP hcG ρ ar w hs he Q hQ => ?_⟩
      rw [rounds_succ]
      refine w1 c hcP hcG ρ ar w hs he _ fun ρ' ar' w' m1 m2 m3 => ?_
      exact w2 c hcP hcG ρ' ar' w' m2 m3 Q fun ρ'' ar'' w'' n1 n2 n3 => hQ ρ'' ar'' w'' (Ren.le_trans m1 n1) n2 n3
    · rename_i id f1 H1 h1
      cases h0
      obtain ⟨k1, w1⟩ := hb _ _ _ _ _ h1
      refine ⟨k1, fun c hcP hcG ρ ar w hs he Q hQ => ?_⟩
      rw [rounds_succ]
      exact w1 c hcP hcG ρ ar w hs he _ fun ρ' ar' w' m1 m2 m3 => hQ ρ' ar' w' m1 m2 m3
    · rename_i f1 H1 h1
      cases h0
      obtain ⟨k1, w1⟩ := hb _ _ _ _ _ h1
      refine ⟨k1, fun c hcP hcG ρ ar w hs he Q hQ => ?_⟩
      rw [rounds_succ]
      exact w1 c hcP hcG ρ ar w hs he _ fun ρ' ar' w' m1 m2 m3 => hQ ρ' ar' w' m1 m2 m3
    · rename_i l f1 H1 h1
      cases h0
      obtain ⟨k1, w1⟩ := hb _ _ _ _ _ h1
      refine ⟨k1, fun c hcP hcG ρ ar w hs he Q hQ => ?_⟩
      rw [rounds_succ]
      exact w1 c hcP hcG ρ ar w hs he _ fun ρ' ar' w' m1 m2 m3 => hQ ρ' ar' w' m1 m2 m3
    · cases h0

/-! ### Jumps inside a scope -/

/-- As Q; by a jump to a label of the scope: on from there. -/
def within (c : Code) (J : Code → Act → World → Prop) (Q : Exit → Act → World → Prop) : Exit → Act → World → Prop
  | .goto l, a, w => match findLabel c l with
    | some rest => J rest a w
    | none => Q (.goto l) a w
  | e, a, w => Q e a w

def jumps (P : Program) (c : Code) (Q : Exit → Act → World → Prop) : Nat → Code → Act → World → Prop
  | 0, _, _, _ => False
  | n + 1, d, a, w => d.wp P (within c (jumps P c Q n) Q) a w

theorem wp_scope_within {c : Code} {Q : Exit → Act → World → Prop} {a : Act} {w : World} (n : Nat) (h : jumps P c Q n c a w) : (Code.scope c).wp P Q a w := by
  intro b k cs
  have key : ∀ n d a w, jumps P c Q n d a w → ∃ e a' w', Q e a' w' ∧ Arrives P (lone (b.at a (.code d :: .inScope c :: k)) cs w) b k cs e a' w' := by
    intro n
    induction n with
    | zero => intro d a w h; exact h.elim
    | succ n ih =>
      intro d a w h
      obtain ⟨e, a₁, w₁, hq, harr⟩ := h b (.inScope c :: k) cs
      cases e with
      | normal => exact ⟨.normal, a₁, w₁, hq, Steps.trans harr (.one step_inScope)⟩
      | exit id => exact ⟨.exit id, a₁, w₁, hq, fun k' hk => harr k' (by simp [exitTo, hk])⟩
      | goto l =>
        cases hf : findLabel c l with
        | some rest =>
          simp only [within, hf] at hq
          obtain ⟨e₂, a₂, w₂, hq₂, harr₂⟩ := ih rest a₁ w₁ hq
          exact ⟨e₂, a₂, w₂, hq₂, .of_steps (harr _ (by simp [gotoIn, hf])) harr₂⟩
        | none =>
          simp only [within, hf] at hq
          exact ⟨.goto l, a₁, w₁, hq, fun k' hk => harr k' (by simp [gotoIn, hf, hk])⟩
      | ret => exact ⟨_, a₁, w₁, hq, harr⟩
      | panic ch => exact ⟨_, a₁, w₁, hq, harr⟩
      | outgrown => exact ⟨_, a₁, w₁, hq, harr⟩
  obtain ⟨e, a', w', hq, harr⟩ := key n c a w h
  exact ⟨e, a', w', hq, .of_steps (.one step_scope) harr⟩

def JumpOk (P : Program) (G n : Nat) (J : JumpF) : Prop :=
  ∀ s rest f H lv f' H', J s rest f H = some (lv, f', H') → Keeps H H' ∧ ∀ (c : Cx), c.P = P → c.G = G → ∀ ρ ar w, SimF ρ f ar → Emb c ρ H w → ∀ Q : Exit → Act → World → Prop,
    (∀ ρ' ar' w', ρ.le ρ' → SimF ρ' f' ar' → Emb c ρ' H' w' → Q lv.exit' ar' w') → jumps P s Q n rest ar w

theorem afterScope_ok {G n : Nat} {J : JumpF} (hJ : JumpOk P G n J) {g : Fr → Mem → Out} {d : Code} (hd : CodeOk P G g d) (s : Code) (f : Fr) (H : Mem) (lv : Leave) (f' : Fr) (H' : Mem) (h : afterScope s J (g f H) = some (lv, f', H')) :
    Keeps H H' ∧ ∀ (c : Cx), c.P = P → c.G = G → ∀ ρ ar w, SimF ρ f ar → Emb c ρ H w → ∀ Q : Exit → Act → World → Prop,
    (∀ ρ' ar' w', ρ.le ρ' → SimF ρ' f' ar' → Emb c ρ' H' w' → Q lv.exit' ar' w') → jumps P s Q (n + 1) d ar w := by
  unfold afterScope at h
  split at h
  · rename_i l f1 H1 h1
    obtain ⟨k1, w1⟩ := hd _ _ _ _ _ h1
    split at h
    · rename_i rest hf
      obtain ⟨k2, w2⟩ := hJ _ _ _ _ _ _ _ h
      refine ⟨k1.trans k2, fun c hcP hcG ρ ar w hs he Q hQ => w1 c hcP hcG ρ ar w hs he _ fun ρ' ar' w' m1 m2 m3 => ?_⟩
      show within s (jumps P s Q n) Q (.goto l) ar' w'
      simp only [within, hf]
      exact w2 c hcP hcG ρ' ar' w' m2 m3 Q fun ρ'' ar'' w'' n1 n2 n3 => hQ ρ'' ar'' w'' (Ren.le_trans m1 n1) n2 n3
    · rename_i hf
      cases h
      refine ⟨k1, fun c hcP hcG ρ ar w hs he Q hQ => w1 c hcP hcG ρ ar w hs he _ fun ρ' ar' w' m1 m2 m3 => ?_⟩
      show within s (jumps P s Q n) Q (.goto l) ar' w'
      simp only [within, hf]
      exact hQ ρ' ar' w' m1 m2 m3
  · rename_i f1 H1 h1
    cases h
    obtain ⟨k1, w1⟩ := hd _ _ _ _ _ h1
    exact ⟨k1, fun c hcP hcG ρ ar w hs he Q hQ => w1 c hcP hcG ρ ar w hs he _ fun ρ' ar' w' m1 m2 m3 => hQ ρ' ar' w' m1 m2 m3⟩
  · rename_i id f1 H1 h1
    cases h
    obtain ⟨k1, w1⟩ := hd _ _ _ _ _ h1
    exact ⟨k1, fun c hcP hcG ρ ar w hs he Q hQ => w1 c hcP hcG ρ ar w hs he _ fun ρ' ar' w' m1 m2 m3 => hQ ρ' ar' w' m1 m2 m3⟩
  · rename_i f1 H1 h1
    cases h
    obtain ⟨k1, w1⟩ := hd _ _ _ _ _ h1
    exact ⟨k1, fun c hcP hcG ρ ar w hs he Q hQ => w1 c hcP hcG ρ ar w hs he _ fun ρ' ar' w' m1 m2 m3 => hQ ρ' ar' w' m1 m2 m3⟩
  · cases h

theorem codeA_ok (hno : noOwn P) {G : Nat} (hcall : CallOk P G call) (hk : CallKeeps call) (hm : P.follows .mixedOrders = true) {n : Nat} {J : JumpF} (hJ : JumpOk P G n J) (rounds : Nat) (cd : Code) : CodeOk P G (codeA P G call J rounds cd) cd := by
  induction cd with
  | skip =>
    intro f H lv f' H' h
    have h' : some (Leave.normal, f, H) = some (lv, f', H') := h
    cases h'
    exact ⟨.refl _, fun c _ _ ρ ar w hs he Q hQ => wp_skip (hQ ρ ar w (Ren.le_refl _) hs he)⟩
  | region id ops draw => exact region_ok hno hcall hk hm id draw
  | seq x y ihx ihy => exact andThen_ok ihx ihy
  | cond cc x y ihx ihy =>
    intro f H lv f' H' h
    have h0 : pick2 (operandOk G cc) (condA (f.eval cc) (codeA P G call J rounds x) (codeA P G call J rounds y) f H) none = some (lv, f', H') := h
    rw [pick2_eq] at h0
    split at h0
    case isFalse => cases h0
    rename_i hok
    unfold condA at h0
    split at h0
    · rename_i b hb
      have val : ∀ {c : Cx} {ρ : Ren} {ar : Act} {w : World}, c.G = G → SimF ρ f ar → Emb c ρ H w → ar.eval cc = .bool b := by
        intro c ρ ar w hcG hs he
        obtain ⟨a, hr, hsim⟩ := hs
        have hv := hsim.eval he.glob (x := cc) (by rw [hcG]; exact hok)
        rw [← hr.eval, hb] at hv
        generalize ar.eval cc = q at hv
        cases hv; rfl
      cases b with
      | true =>
        obtain ⟨k1, w1⟩ := ihx _ _ _ _ _ h0
        exact ⟨k1, fun c hcP hcG ρ ar w hs he Q hQ => wp_cond_true (val hcG hs he) (w1 c hcP hcG ρ ar w hs he Q hQ)⟩
      | false =>
        obtain ⟨k1, w1⟩ := ihy _ _ _ _ _ h0
        exact ⟨k1, fun c hcP hcG ρ ar w hs he Q hQ => wp_cond_false (val hcG hs he) (w1 c hcP hcG ρ ar w hs he Q hQ)⟩
    · cases h0
  | block id b ih =>
    intro f H lv f' H' h
    have h0 : leaveBlock id (codeA P G call J rounds b f H) = some (lv, f', H') := h
    unfold leaveBlock at h0
    split at h0
    · rename_i id' f1 H1 h1
      obtain ⟨k1, w1⟩ := ih _ _ _ _ _ h1
      rw [pick2_eq] at h0
      split at h0
      · rename_i hid
        cases h0
        refine ⟨k1, fun c hcP hcG ρ ar w hs he Q hQ => wp_block (w1 c hcP hcG ρ ar w hs he _ fun ρ' ar' w' m1 m2 m3 => ?_)⟩
        show (if id' = id then Q .normal ar' w' else Q (.exit id') ar' w')
        rw [if_pos (by rw [Nat.beq_eq] at hid; exact hid)]; exact hQ ρ' ar' w' m1 m2 m3
      · rename_i hid
        cases h0
        refine ⟨k1, fun c hcP hcG ρ ar w hs he Q hQ => wp_block (w1 c hcP hcG ρ ar w hs he _ fun ρ' ar' w' m1 m2 m3 => ?_)⟩
        show (if id' = id then Q .normal ar' w' else Q (.exit id') ar' w')
        rw [if_neg (by rw [Nat.beq_eq] at hid; exact hid)]; exact hQ ρ' ar' w' m1 m2 m3
    · rename_i f1 H1 h1
      cases h0
      obtain ⟨k1, w1⟩ := ih _ _ _ _ _ h1
      exact ⟨k1, fun c hcP hcG ρ ar w hs he Q hQ => wp_block (w1 c hcP hcG ρ ar w hs he _ fun ρ' ar' w' m1 m2 m3 => hQ ρ' ar' w' m1 m2 m3)⟩
    · rename_i f1 H1 h1
      cases h0
      obtain ⟨k1, w1⟩ := ih _ _ _ _ _ h1
      exact ⟨k1, fun c hcP hcG ρ ar w hs he Q hQ => wp_block (w1 c hcP hcG ρ ar w hs he _ fun ρ' ar' w' m1 m2 m3 => hQ ρ' ar' w' m1 m2 m3)⟩
    · rename_i l f1 H1 h1
      cases h0
      obtain ⟨k1, w1⟩ := ih _ _ _ _ _ h1
      exact ⟨k1, fun c hcP hcG ρ ar w hs he Q hQ => wp_block (w1 c hcP hcG ρ ar w hs he _ fun ρ' ar' w' m1 m2 m3 => hQ ρ' ar' w' m1 m2 m3)⟩
    · cases h0
  | loop b ih =>
    intro f H lv f' H' h
    obtain ⟨k1, w1⟩ := loop_ok ih rounds f H lv f' H' h
    exact ⟨k1, fun c hcP hcG ρ ar w hs he Q hQ => wp_loop_rounds rounds (w1 c hcP hcG ρ ar w hs he Q hQ)⟩
  | exit id =>
    intro f H lv f' H' h
    have h' : some (Leave.exit id, f, H) = some (lv, f', H') := h
    cases h'
    exact ⟨.refl _, fun c _ _ ρ ar w hs he Q hQ => wp_exit (hQ ρ ar w (Ren.le_refl _) hs he)⟩
  | ret =>
    intro f H lv f' H' h
    have h' : some (Leave.ret, f, H) = some (lv, f', H') := h
    cases h'
    exact ⟨.refl _, fun c _ _ ρ ar w hs he Q hQ => wp_ret (hQ ρ ar w (Ren.le_refl _) hs he)⟩
  | rangeFunc => intro f H lv f' H' h; cases h
  | scope b ih =>
    intro f H lv f' H' h
    have h0 : afterScope b J (codeA P G call J rounds b f H) = some (lv, f', H') := h
    obtain ⟨k1, w1⟩ := afterScope_ok hJ ih b f H lv f' H' h0
    exact ⟨k1, fun c hcP hcG ρ ar w hs he Q hQ => wp_scope_within (n + 1) (w1 c hcP hcG ρ ar w hs he Q hQ)⟩
  | label l =>
    intro f H lv f' H' h
    have h' : some (Leave.normal, f, H) = some (lv, f', H') := h
    cases h'
    exact ⟨.refl _, fun c _ _ ρ ar w hs he Q hQ => wp_label (hQ ρ ar w (Ren.le_refl _) hs he)⟩
  | goto l =>
    intro f H lv f' H' h
    have h' : some (Leave.goto l, f, H) = some (lv, f', H') := h
    cases h'
    exact ⟨.refl _, fun c _ _ ρ ar w hs he Q hQ => wp_goto (hQ ρ ar w (Ren.le_refl _) hs he)⟩
  | refuse => intro f H lv f' H' h; cases h

theorem jumpsA_ok (hno : noOwn P) {G : Nat} (hcall : CallOk P G call) (hk : CallKeeps call) (hm : P.follows .mixedOrders = true) (rounds : Nat) : ∀ n, JumpOk P G n (jumpsA P G call rounds n)
  | 0 => fun _ _ _ _ _ _ _ h => by cases h
  | n + 1 => fun s rest f H lv f' H' h => by
    have h0 : afterScope s (jumpsA P G call rounds n) (codeA P G call (jumpsA P G call rounds n) rounds rest f H) = some (lv, f', H') := h
    exact afterScope_ok (jumpsA_ok hno hcall hk hm rounds n) (codeA_ok hno hcall hk hm (jumpsA_ok hno hcall hk hm rounds n) rounds rest) s f H lv f' H' h0

/-! ### Results and calls -/

def resOf (tmps : Array Value) : ResultVar → Sem Value
  | .tmp t => pure (tmps.getD t undef)
  | .cell x t => do loadVar t (← asAddr (tmps.getD x undef))

theorem result_ok {c : Cx} {w : World} {ρ : Ren} {H : Mem} (he : Emb c ρ H w) {f : Fr} {a ar : Act} (hr : Rep f a) (hs : Sim ρ a ar) {r : ResultVar} {v : Value} (h : resultA c.P H f r = some v) :
    ∃ v', VRel ρ v v' ∧ (resOf ar.tmps r).run c.P w = .ok v' w := by
  cases r with
  | tmp t =>
    simp only [resultA, Option.some.injEq] at h
    subst h
    rw [hr.get]
    exact ⟨_, hs.tmps.getD t .undef, rfl⟩
  | cell x t =>
    simp only [resultA] at h
    rw [hr.get] at h
    have hx := hs.tmps.getD x .undef
    obtain ⟨v', h1, h2⟩ := load_ok he hx h
    refine ⟨v', h2, ?_⟩
    unfold loadA at h
    split at h
    · rename_i i off heq
      rw [heq] at hx
      simp only [resOf]
      generalize ar.tmps.getD x undef = q at hx h1 ⊢
      cases hx with
      | ptr _ _ r y hr =>
        simp only [Instr.loadAt, Instr.sureAddr, Sem.run_bind, Sem.run_pure, Result.andThen_ok] at h1
        simp only [asAddr, Sem.run_bind, Sem.run_pure, Result.andThen_ok]
        exact h1
    · cases h

theorem results_list {c : Cx} {w : World} {ρ : Ren} {H : Mem} (he : Emb c ρ H w) {f : Fr} {a ar : Act} (hr : Rep f a) (hs : Sim ρ a ar) : ∀ (rs : List ResultVar) {l : List Value}, resultsA c.P H f rs = some l →
    ∃ l', LR (VRel ρ) l l' ∧ (rs.mapM (resOf ar.tmps)).run c.P w = .ok l' w
  | [], l, h => by
    simp only [resultsA, Option.some.injEq] at h
    subst h
    exact ⟨[], .nil, by simp⟩
  | r :: rs, l, h => by
    simp only [resultsA] at h
    split at h
    · rename_i v vs hv hvs
      cases h
      obtain ⟨v', h1, h2⟩ := result_ok he hr hs hv
      obtain ⟨l', h3, h4⟩ := results_list he hr hs rs hvs
      refine ⟨v' :: l', LR.cons h1 h3, ?_⟩
      rw [List.mapM_cons]
      simp only [Sem.run_bind, Sem.run_pure]
      rw [h2]; simp only [Result.andThen_ok]; rw [h4]; rfl
    · cases h

theorem results_ok {c : Cx} {w : World} {ρ : Ren} {H : Mem} (he : Emb c ρ H w) {f : Fr} {ar : Act} (hs : SimF ρ f ar) {fn : Func} {l : List Value} (h : resultsA c.P H f fn.results.toList = some l) :
    ∃ v', VRel ρ (oneA l) v' ∧ (results fn ar.tmps).run c.P w = .ok v' w := by
  obtain ⟨a, hr, hsim⟩ := hs
  obtain ⟨l', h1, h2⟩ := results_list he hr hsim _ h
  have hrun : (results fn ar.tmps).run c.P w = .ok (if hh : l'.toArray.size = 1 then l'.toArray[0] else .tuple l'.toArray) w := by
    have e : results fn ar.tmps = (do let vs ← fn.results.mapM (resOf ar.tmps); pure (if h : vs.size = 1 then vs[0] else .tuple vs)) := rfl
    rw [e, Array.mapM_eq_mapM_toList]
    simp only [Sem.run_bind, Sem.run_map]
    rw [h2]; rfl
  refine ⟨_, ?_, hrun⟩
  match l, h1 with
  | [], h1 => rw [h1.unnil]; exact .tuple _ _ rfl (fun i x y hx => by simp at hx)
  | [v], h1 =>
    obtain ⟨v', t', rfl, hv, ht⟩ := h1.uncons
    rw [ht.unnil]
    exact hv
  | v :: u :: t, h1 =>
    obtain ⟨v', t', rfl, hv, ht⟩ := h1.uncons
    obtain ⟨u', t'', rfl, hu, ht'⟩ := ht.uncons
    have : ¬ ((v' :: u' :: t'').toArray.size = 1) := by simp
    rw [dif_neg this]
    have hA := h1.array
    exact .tuple _ _ hA.1 hA.2

theorem fill_spec : ∀ (l : List Value) {f f' : Fr} {i : Nat}, f.fill i l = some f' → f'.n = f.n ∧ ∀ j, f'.get j = if i ≤ j ∧ j < i + l.length ∧ j < f.n then (l[j - i]?).getD undef else f.get j
  | [], f, f', i, h => by
    simp only [Fr.fill, Option.some.injEq] at h
    subst h
    exact ⟨rfl, fun j => by rw [if_neg]; simp; omega⟩
  | v :: l, f, f', i, h => by
    simp only [Fr.fill] at h
    split at h
    · rename_i f1 h1
      obtain ⟨e1, e2⟩ := Fr.put_spec h1
      obtain ⟨e3, e4⟩ := fill_spec l h
      refine ⟨by rw [e3, e1], fun j => ?_⟩
      rw [e4, e2, e1]
      simp only [Option.some.injEq, List.length_cons]
      by_cases hj : i + 1 ≤ j ∧ j < i + 1 + l.length ∧ j < f.n
      · rw [if_pos hj, if_pos (by omega)]
        have : j - i = (j - (i + 1)) + 1 := by omega
        rw [this]; simp
      · rw [if_neg hj]
        by_cases hij : i = j ∧ j < f.n
        · obtain ⟨rfl, hlt⟩ := hij
          rw [if_pos ⟨rfl, hlt⟩, if_pos (by omega)]; simp
        · rw [if_neg hij, if_neg (by omega)]
    · cases h

theorem full_get {α : Type} : ∀ (d j : Nat), (Tr.full d : Tr α).get j = none
  | 0, _ => rfl
  | d + 1, j => by
    show (Tr.n (Tr.full d) none (Tr.full d)).get j = none
    rw [Tr.get_n, full_get d, full_get d]; simp

/-- Contracts that are known already. -/
def KnownOk (P : Program) (K : Known) : Prop := ∀ f args v, K f args = some v → ∀ w, Calls P f args.toArray w fun e w' => e = .returned v ∧ Below w.heap.size w w'

theorem noKnown_ok : KnownOk P noKnown := fun _ _ _ h => by simp [noKnown] at h

theorem LR.eq_of_free {ρ : Ren} {l l' : List Value} (h : LR (VRel ρ) l l') (hf : addrFreeL l = true) : l' = l := by
  apply List.ext_getElem?
  intro i
  by_cases hi : i < l.length
  · have hi' : i < l'.length := h.1 ▸ hi
    have hr := h.2 i _ _ (List.getElem?_eq_getElem hi) (List.getElem?_eq_getElem hi')
    rw [List.getElem?_eq_getElem hi, List.getElem?_eq_getElem hi', Ev.eq_of_free hr (freeL_get hf (List.getElem?_eq_getElem hi))]
  · rw [List.getElem?_eq_none (Nat.le_of_not_lt hi), List.getElem?_eq_none (Nat.le_of_not_lt (h.1 ▸ hi))]

theorem return_spec {fn : Func} {r : Out} {v : Value} {H' : Mem} (h : returnA P fn r = some (v, H')) : ∃ lv f l, r = some (lv, f, H') ∧ (lv = .normal ∨ lv = .ret) ∧ resultsA P H' f fn.results.toList = some l ∧ v = oneA l := by
  unfold returnA at h
  split at h
  · rename_i f H1
    obtain ⟨h1, rfl⟩ := withMem_spec h
    simp only [Option.map_eq_some_iff] at h1
    obtain ⟨l, hl, rfl⟩ := h1
    exact ⟨_, _, _, rfl, .inl rfl, hl, rfl⟩
  · rename_i f H1
    obtain ⟨h1, rfl⟩ := withMem_spec h
    simp only [Option.map_eq_some_iff] at h1
    obtain ⟨l, hl, rfl⟩ := h1
    exact ⟨_, _, _, rfl, .inr rfl, hl, rfl⟩
  · cases h

/-- A function's body, entered. -/
theorem enter_ok (hno : noOwn P) {G : Nat} (hcall : CallOk P G call) (hk : CallKeeps call) (hm : P.follows .mixedOrders = true) (rounds : Nat) {id : FuncId} {args : List Value} {H H' : Mem} {v : Value} (h : enterA P G call rounds id args H = some (v, H')) :
    Keeps H H' ∧ ∀ (c : Cx), c.P = P → c.G = G → ∀ ρ w args', Emb c ρ H w → LR (VRel ρ) args args' →
      Calls P id args'.toArray w fun e w' => ∃ ρ' v', e = .returned v' ∧ ρ.le ρ' ∧ VRel ρ' v v' ∧ Emb c ρ' H' w' := by
  unfold enterA at h
  split at h
  case h_2 => cases h
  rename_i fn hfn
  split at h
  case h_2 => cases h
  rename_i cd hcd
  split at h
  case h_2 => cases h
  rename_i f0 hf0
  rw [pick2_eq] at h
  split at h
  case isFalse => cases h
  rename_i hlen
  have hlen' : args.length ≤ fn.ntmps := by simpa [Nat.ble_eq] using hlen
  obtain ⟨lv, f1, l, hr, hlv, hl, rfl⟩ := return_spec h
  obtain ⟨k1, w1⟩ := codeA_ok hno hcall hk hm (jumpsA_ok hno hcall hk hm rounds rounds) rounds cd _ _ _ _ _ hr
  refine ⟨k1, fun c hcP hcG ρ w args' he hargs => calls_of_wp hfn hcd ?_⟩
  subst hcP
  have hsim : SimF ρ f0 { tmps := args'.toArray ++ Array.replicate (fn.ntmps - args'.toArray.size) undef, defers := [] } := by
    refine ⟨{ tmps := args.toArray ++ Array.replicate (fn.ntmps - args.toArray.size) undef, defers := [] }, ?_, ?_⟩
    · obtain ⟨e1, e2⟩ := fill_spec args hf0
      refine ⟨by rw [e1]; simp; omega, fun i => ?_⟩
      rw [e2]
      by_cases hi : i < args.length
      · rw [if_pos (by simp; omega)]
        have : i < (args.toArray ++ Array.replicate (fn.ntmps - args.toArray.size) undef).size := by simp; omega
        simp only [Array.getD_eq_getD_getElem?]
        rw [Array.getElem?_append, if_pos (by simpa using hi)]
        simp
      · have e3 : (args.toArray ++ Array.replicate (fn.ntmps - args.toArray.size) undef).getD i undef = undef := by
          simp only [Array.getD_eq_getD_getElem?]
          rw [Array.getElem?_append, if_neg (by simpa using hi), Array.getElem?_replicate]
          split <;> rfl
        rw [if_neg (by omega), Fr.get_eq, full_get, e3]
        split <;> rfl
    · refine ⟨LR.of_array ?_, rfl⟩
      have : args'.toArray.size = args.toArray.size := by simp [hargs.1]
      rw [this]
      simp only [Array.toList_append]
      exact hargs.append ⟨rfl, fun i x y hx hy => by
        rw [hx] at hy; cases hy
        have : x = undef := by
          have := List.mem_of_getElem? hx; simp at this; exact this.2
        subst this; exact .undef⟩
  refine w1 c rfl hcG ρ _ w hsim he _ fun ρ' ar' w' m1 m2 m3 => ?_
  obtain ⟨v', p1, p2⟩ := results_ok m3 m2 hl
  have hd : ar'.defers = [] := by obtain ⟨a, _, hs⟩ := m2; exact hs.dr
  rcases hlv with rfl | rfl
  · exact ⟨hd, v', p2, ρ', v', rfl, m1, p1, m3⟩
  · exact ⟨hd, v', p2, ρ', v', rfl, m1, p1, m3⟩

theorem callA_zero (K : Known) (G rounds : Nat) (id : FuncId) (args : List Value) (H : Mem) : callA P G K rounds 0 id args H = none := rfl

theorem callA_succ (K : Known) (G rounds n : Nat) (id : FuncId) (args : List Value) (H : Mem) : callA P G K rounds (n + 1) id args H = match K id args with | some v => if addrFreeL args && addrFree v then some (v, H) else none | none => enterA P G (callA P G K rounds n) rounds id args H := by
  show Option.rec (motive := fun _ => Option (Value × Mem)) (enterA P G (callA P G K rounds n) rounds id args H) (fun v => pick2 (addrFreeL args && addrFree v) (some (v, H)) none) (K id args) = _
  cases K id args with
  | none => rfl
  | some v => exact pick2_eq _ _ _

theorem callA_both (hno : noOwn P) (hm : P.follows .mixedOrders = true) {K : Known} (hK : KnownOk P K) (G rounds : Nat) : ∀ n, CallOk P G (callA P G K rounds n) ∧ CallKeeps (callA P G K rounds n)
  | 0 => ⟨fun f args H v H' h => (by rw [callA_zero] at h; cases h), fun f args H v H' h => (by rw [callA_zero] at h; cases h)⟩
  | n + 1 => by
    obtain ⟨ih1, ih2⟩ := callA_both hno hm hK G rounds n
    refine ⟨fun f args H v H' h c hcP hcG ρ w args' he hargs => ?_, fun f args H v H' h => ?_⟩
    · rw [callA_succ] at h
      split at h
      · rename_i u hu
        split at h
        · rename_i hf
          cases h
          simp only [Bool.and_eq_true] at hf
          rw [hargs.eq_of_free hf.1]
          refine (hK f args _ hu w).mono ?_
          rintro e w' ⟨rfl, hb⟩
          exact ⟨ρ, _, rfl, Ren.le_refl _, refl_of_free _ hf.2, he.grow hb⟩
        · cases h
      · exact (enter_ok hno ih1 ih2 hm rounds h).2 c hcP hcG ρ w args' he hargs
    · rw [callA_succ] at h
      split at h
      · split at h
        · cases h; exact .refl _
        · cases h
      · exact (enter_ok hno ih1 ih2 hm rounds h).1

/-- What the evaluator answers from a given memory the machine's call answers. -/
theorem call_ok (hno : noOwn P) (hm : P.follows .mixedOrders = true) {K : Known} (hK : KnownOk P K) {G rounds n : Nat} {f : FuncId} {args : List Value} {H H' : Mem} {v : Value} (h : callA P G K rounds n f args H = some (v, H'))
    {c : Cx} (hcP : c.P = P) (hcG : c.G = G) {ρ : Ren} {w : World} {args' : List Value} (he : Emb c ρ H w) (hargs : LR (VRel ρ) args args') :
    Calls P f args'.toArray w fun e w' => ∃ ρ' v', e = .returned v' ∧ ρ.le ρ' ∧ VRel ρ' v v' ∧ Emb c ρ' H' w' :=
  (callA_both hno hm hK G rounds n).1 f args H v H' h c hcP hcG ρ w args' he hargs

theorem Emb.empty (w : World) : Emb ⟨P, w.heap.size, 0, 0, w⟩ (fun _ => none) Mem.empty w :=
  ⟨Below.refl _ _, Nat.le_refl _, fun i x h => (by cases h), Nat.le_refl _, Nat.le_refl _, fun g hg => absurd hg (Nat.not_lt_zero _), fun i b h => absurd (Mem.get_lt h) (Nat.not_lt_zero _), fun i j bi bj r x y h => absurd (Mem.get_lt h) (Nat.not_lt_zero _)⟩

/-- **WHAT THE EVALUATOR ANSWERS THE CALL ANSWERS, in whatever world, and turns nothing that was there.** -/
theorem answer_ok (hno : noOwn P) (hm : P.follows .mixedOrders = true) {K : Known} (hK : KnownOk P K) {rounds depth : Nat} {f : FuncId} {args : List Value} {v : Value} (h : answer P K rounds depth f args = some v) (w : World) :
    Calls P f args.toArray w fun e w' => e = .returned v ∧ Below w.heap.size w w' := by
  unfold answer at h
  split at h
  · rename_i u H' hc
    rw [pick2_eq] at h
    split at h
    · rename_i hf
      cases h
      simp only [Bool.and_eq_true] at hf
      refine (call_ok hno hm hK hc (c := ⟨P, w.heap.size, 0, 0, w⟩) rfl rfl (Emb.empty w) (args' := args) ⟨rfl, refl_of_freeL args hf.2⟩).mono ?_
      rintro e w' ⟨ρ', v', rfl, h1, h2, h3⟩
      exact ⟨by rw [Ev.eq_of_free h2 hf.1], h3.below⟩
    · cases h
  · cases h

theorem ofRows_spec : ∀ (l : List Blk) {H H' : Mem}, H.ofRows l = some H' → H'.size = H.size + l.length ∧ H'.lk = H'.size ∧ ∀ i, H'.get i = if i < H.size then H.get i else l[i - H.size]?
  | [], H, H', h => by
    simp only [Mem.ofRows, Option.some.injEq] at h
    subst h
    refine ⟨rfl, rfl, fun i => ?_⟩
    show H.get i = _
    split
    · rfl
    · rename_i hi
      cases hg : H.get i with
      | none => simp
      | some b => exact absurd (Mem.get_lt hg) hi
  | b :: l, H, H', h => by
    simp only [Mem.ofRows] at h
    split at h
    · rename_i H1 hp
      obtain ⟨q1, q2, q3⟩ := Mem.push_spec hp
      obtain ⟨r1, r2, r3⟩ := ofRows_spec l h
      refine ⟨by rw [r1, q1]; simp; omega, r2, fun i => ?_⟩
      rw [r3, q1, q3]
      by_cases h1 : i < H.size
      · rw [if_pos (by omega), if_pos h1, if_neg (by omega)]
      · by_cases h2 : i = H.size
        · subst h2; rw [if_pos (by omega), if_neg h1, if_pos rfl]; simp
        · rw [if_neg (by omega), if_neg h1]
          have : i - H.size = (i - (H.size + 1)) + 1 := by omega
          rw [this]; simp
    · cases h

/-- Given rows in a world. -/
def RowsAt (rows : List Blk) (w : World) : Prop := rows.length ≤ w.heap.size ∧ ∀ (i : Nat) b, rows[i]? = some b → b.live = true → ∃ fr, w.heap[i]? = some (.cells b.cells.toArray b.elem fr) ∧ unfrozen b.cells.toArray fr

theorem Emb.rows {rows : List Blk} {H : Mem} (hH : Mem.ofRows Mem.empty rows = some H) {w : World} (hw : RowsAt rows w) (hfree : ∀ b ∈ rows, addrFreeL b.cells = true) :
    Emb ⟨P, w.heap.size, rows.length, rows.length, w⟩ (fun i => if i < rows.length then some (i, 0) else none) H w := by
  obtain ⟨e1, e2, e3⟩ := ofRows_spec rows hH
  have es : H.size = rows.length := by rw [e1]; simp [Mem.empty]
  have eg : ∀ i, H.get i = rows[i]? := fun i => by rw [e3, if_neg (by simp [Mem.empty])]; simp [Mem.empty]
  refine ⟨Below.refl _ _, Nat.le_refl _, fun i x h => ?_, ?_, ?_, fun g hg => if_pos hg, fun i b hi hl => ?_, fun i j bi bj r x y hi _ hj _ hr hr' => ?_⟩
  · rw [es]
    split at h
    · assumption
    · cases h
  · rw [e2, es]; exact Nat.le_refl _
  · rw [es]; exact Nat.le_refl _
  · rw [eg] at hi
    have hlt : i < rows.length := (List.getElem?_eq_some_iff.1 hi).1
    obtain ⟨fr, h1, h2⟩ := hw.2 i b hi hl
    refine ⟨i, 0, b.cells.toArray, fr, 0, if_pos hlt, .inl hlt, h1, .inr h2, ⟨.inl hlt, fun _ => rfl⟩, by simp, by simp, fun j v hv _ => ⟨v, by simpa using hv, ?_⟩⟩
    exact refl_of_free _ (freeL_get (hfree b (List.mem_of_getElem? hi)) hv)
  · split at hr
    · split at hr'
      · cases hr; cases hr'; rfl
      · cases hr'
    · cases hr

/-- **THE SAME WHERE PACKAGE-LEVEL VARIABLES ARE GIVEN.** -/
theorem answerG_ok (hno : noOwn P) (hm : P.follows .mixedOrders = true) {K : Known} (hK : KnownOk P K) {rows : List Blk} {rounds depth : Nat} {f : FuncId} {args : List Value} {v : Value} (h : answerG P K rows rounds depth f args = some v) (w : World) (hw : RowsAt rows w) :
    Calls P f args.toArray w fun e w' => e = .returned v ∧ Below w.heap.size w w' := by
  unfold answerG at h
  split at h
  · rename_i H hH
    split at h
    · rename_i u H' hc
      rw [pick2_eq] at h
      split at h
      · rename_i hf
        cases h
        simp only [Bool.and_eq_true, List.all_eq_true] at hf
        refine (call_ok hno hm hK hc (c := ⟨P, w.heap.size, rows.length, rows.length, w⟩) rfl rfl (Emb.rows hH hw hf.2) (args' := args) ⟨rfl, refl_of_freeL args hf.1.2⟩).mono ?_
        rintro e w' ⟨ρ', v', rfl, h1, h2, h3⟩
        exact ⟨by rw [Ev.eq_of_free h2 hf.1.1], h3.below⟩
      · cases h
    · cases h
  · cases h

/-- 'noOwn', by a look at all names. -/
theorem noOwn_of (h : (P.funcs.toList.all fun fn => !(fn.name == "runtime.NumGoroutine")) = true) : noOwn P := by
  intro id fn hfn hname
  have hm : fn ∈ P.funcs.toList := by have := Array.mem_of_getElem? hfn; simpa using this
  have := List.all_eq_true.1 h fn hm
  simp [hname] at this

end
end Go.Ev
