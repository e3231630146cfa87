/- Plans for regions whose order is drawn. -/
import Derived.Test.YtcafcgiemdlobaaDoorEvW
namespace Go.Ev
open Go.RowKit

section
variable {P : Program} {call : CallF} {ops : Array Oper}

theorem bit_eq (m i : Nat) : bit m i = m.testBit i := by
  unfold bit
  rw [Nat.testBit_eq_decide_div_mod_eq]
  have e : Nat.land (Nat.shiftRight m i) 1 = m / 2 ^ i % 2 := by
    show (m >>> i) &&& 1 = _
    rw [Nat.and_one_is_mod, Nat.shiftRight_eq_div_pow]
  rw [e, Bool.eq_iff_iff]; simp [Nat.beq_eq]

theorem bit_add (m i j : Nat) : bit (addBit m i) j = (bit m j || decide (i = j)) := by
  rw [bit_eq, bit_eq]
  show (m ||| (1 <<< i)).testBit j = _
  rw [Nat.testBit_or, Nat.one_shiftLeft, Nat.testBit_two_pow]

theorem bit_zero (j : Nat) : bit 0 j = false := by rw [bit_eq]; simp

theorem sub_iff (p L : Nat) : Nat.beq (Nat.land p L) p = true ↔ ∀ j, bit p j = true → bit L j = true := by
  rw [Nat.beq_eq]
  show (p &&& L) = p ↔ _
  constructor
  · intro h j hj
    rw [bit_eq] at hj ⊢
    rw [← h, Nat.testBit_and] at hj
    simp at hj; exact hj.2
  · intro h
    apply Nat.eq_of_testBit_eq
    intro j
    rw [Nat.testBit_and]
    cases hp : p.testBit j with
    | false => rfl
    | true => have := h j (by rw [bit_eq]; exact hp); rw [bit_eq] at this; simp [this]

theorem preMask_iff (o : Oper) (j : Nat) : bit (preMask o) j = true ↔ ∃ e ∈ o.after, Region.binds .any e = true ∧ e.on = j := by
  have key : ∀ l : List Edge, bit (l.foldr (fun e m => pick2 (Region.binds .any e) (addBit m e.on) m) 0) j = true ↔ ∃ e ∈ l, Region.binds .any e = true ∧ e.on = j := by
    intro l
    induction l with
    | nil => simp [bit_zero]
    | cons e l ih =>
      simp only [List.foldr_cons, List.mem_cons, exists_eq_or_imp]
      cases hb : Region.binds .any e with
      | false => show bit (l.foldr _ 0) j = true ↔ _; rw [ih]; simp
      | true => show bit (addBit (l.foldr _ 0) e.on) j = true ↔ _; rw [bit_add, Bool.or_eq_true, ih]; simp [or_comm]
  have := key o.after.toList
  unfold preMask
  rw [this]; simp

theorem looksMask_iff (o : Oper) (d : Nat) : bit (looksMask ops o) d = true ↔ d ∈ o.looksAt ops := by
  have key : ∀ l : List Tmp, bit (l.foldr (fun d m => addBit m d) 0) d = true ↔ d ∈ l := by
    intro l
    induction l with
    | nil => simp [bit_zero]
    | cons e l ih =>
      simp only [List.foldr_cons, List.mem_cons]
      rw [bit_add, Bool.or_eq_true, ih]; simp; constructor
      · rintro (h | h)
        · exact .inr h
        · exact .inl h.symm
      · rintro (h | h)
        · exact .inr h.symm
        · exact .inl h
  exact key _

structure POk (P : Program) (ops : Array Oper) (p : PO) : Prop where
  o : ops[p.i]? = some p.o
  pre : p.pre = preMask p.o
  looks : p.looks = looksMask ops p.o
  q : p.q = quiet P p.o.op
  ld : p.ld = isLoad p.o.op
  anc : ∀ j, bit p.anc j = true → Reach ops p.i j

theorem ancMask_spec (pre j : Nat) : ∀ l : List PO, bit (ancMask pre l) j = true → bit pre j = true ∨ ∃ p ∈ l, bit pre p.i = true ∧ bit p.anc j = true
  | [], h => .inl h
  | p :: l, h => by
    unfold ancMask at h
    rw [pick2_eq] at h
    split at h
    · rename_i hb
      have h' : (p.anc ||| ancMask pre l).testBit j = true := by rw [← bit_eq]; exact h
      rw [Nat.testBit_or, Bool.or_eq_true] at h'
      rcases h' with h' | h'
      · exact .inr ⟨p, by simp, hb, by rw [bit_eq]; exact h'⟩
      · rcases ancMask_spec pre j l (by rw [bit_eq]; exact h') with h1 | ⟨q, hq, h2⟩
        · exact .inl h1
        · exact .inr ⟨q, by simp [hq], h2⟩
    · rcases ancMask_spec pre j l h with h1 | ⟨q, hq, h2⟩
      · exact .inl h1
      · exact .inr ⟨q, by simp [hq], h2⟩

theorem posRev_spec : ∀ (l : List Oper) (i : Nat) (acc : List PO), (∀ j, l[j]? = ops[i + j]?) → (∀ p ∈ acc, POk P ops p) → (∀ k, k < i → ∃ p ∈ acc, p.i = k) →
    (∀ p ∈ posRev P ops l i acc, POk P ops p) ∧ (∀ k, k < i + l.length → ∃ p ∈ posRev P ops l i acc, p.i = k)
  | [], i, acc, _, h1, h2 => ⟨h1, by simpa [posRev] using h2⟩
  | o :: l, i, acc, hl, h1, h2 => by
    unfold posRev
    have h0 : ops[i]? = some o := by simpa using (hl 0).symm
    have hp : POk P ops ⟨o, i, preMask o, ancMask (preMask o) acc, looksMask ops o, quiet P o.op, isLoad o.op⟩ := by
      refine ⟨h0, rfl, rfl, rfl, rfl, fun j hj => ?_⟩
      rcases ancMask_spec _ _ _ hj with h | ⟨p, hp, h3, h4⟩
      · obtain ⟨e, he, hb, rfl⟩ := (preMask_iff o j).1 h
        exact .one h0 he hb
      · obtain ⟨e, he, hb, heq⟩ := (preMask_iff o p.i).1 h3
        exact .more h0 he hb (by rw [heq]; exact (h1 p hp).anc j h4)
    have := posRev_spec l (i + 1) (⟨o, i, preMask o, ancMask (preMask o) acc, looksMask ops o, quiet P o.op, isLoad o.op⟩ :: acc)
      (fun j => by have := hl (j + 1); simpa [Nat.add_assoc, Nat.add_comm 1 j] using this)
      (fun p hm => by
        rcases List.mem_cons.1 hm with rfl | hm
        · exact hp
        · exact h1 p hm)
      (fun k hk => by
        by_cases hki : k = i
        · exact ⟨_, List.mem_cons_self, hki.symm⟩
        · obtain ⟨p, hm, hpk⟩ := h2 k (by omega); exact ⟨p, by simp [hm], hpk⟩)
    refine ⟨this.1, fun k hk => this.2 k ?_⟩
    simp only [List.length_cons] at hk; omega

structure PosOk (P : Program) (ops : Array Oper) (pos : List PO) : Prop where
  each : ∀ p ∈ pos, POk P ops p
  all : ∀ k, k < ops.size → ∃ p ∈ pos, p.i = k

theorem posOk : PosOk P ops (posRev P ops ops.toList 0 []).reverse := by
  have := posRev_spec (P := P) (ops := ops) ops.toList 0 [] (by simp) (by simp) (by simp)
  exact ⟨fun p hp => this.1 p (by simpa using hp), fun k hk => by
    obtain ⟨p, hm, h⟩ := this.2 k (by simpa using hk); exact ⟨p, by simpa using hm, h⟩⟩

/-- A number and a row of bools, that list the same. -/
structure Lis (ops : Array Oper) (L : Nat) (listed : Array Bool) : Prop where
  size : listed.size = ops.size
  get : ∀ j, listed.getD j false = bit L j

theorem Lis.getT {L : Nat} {listed : Array Bool} (h : Lis ops L listed) {j : Nat} (hj : j < ops.size) : listed.getD j true = bit L j := by
  rw [← h.get]
  have : j < listed.size := by rw [h.size]; exact hj
  simp [Array.getD, this]

theorem Lis.add {L : Nat} {listed : Array Bool} (h : Lis ops L listed) {i : Nat} (hi : i < ops.size) : Lis ops (addBit L i) (listed.setIfInBounds i true) := by
  refine ⟨by simpa using h.size, fun j => ?_⟩
  rw [bit_add]
  by_cases hij : i = j
  · subst hij
    have : i < listed.size := by rw [h.size]; exact hi
    simp [this]
  · rw [getD_set_ne false hij, h.get]; simp [hij]

theorem Lis.zero : Lis ops 0 (Array.replicate ops.size false) := ⟨by simp, fun j => by
  rw [bit_zero]
  by_cases hlt : j < ops.size
  · simp [Array.getD, hlt]
  · simp [Array.getD, hlt]⟩

theorem readyM_iff {pos : List PO} (hp : PosOk P ops pos) {L : Nat} {listed : Array Bool} (hl : Lis ops L listed) {p : PO} (hm : p ∈ pos) : readyM L p = true ↔ p.i ∈ Region.ready .any ops listed := by
  have ho := (hp.each p hm).o
  have hlt : p.i < ops.size := (Array.getElem?_eq_some_iff.1 ho).1
  rw [mem_ready, hl.getT hlt]
  unfold readyM
  rw [pick2_eq]
  constructor
  · intro h
    split at h
    · cases h
    · rename_i hb
      refine ⟨by simpa using hb, p.o, ho, fun e he hbnd => ?_⟩
      rw [hl.get]
      rw [(hp.each p hm).pre] at h
      exact (sub_iff _ _).1 h e.on ((preMask_iff p.o e.on).2 ⟨e, he, hbnd, rfl⟩)
  · rintro ⟨h1, o, ho', hall⟩
    rw [ho] at ho'; cases ho'
    rw [if_neg (by rw [h1]; simp)]
    rw [(hp.each p hm).pre]
    refine (sub_iff _ _).2 fun j hj => ?_
    obtain ⟨e, he, hb, rfl⟩ := (preMask_iff p.o j).1 hj
    rw [← hl.get]; exact hall e he hb

theorem ready_po {pos : List PO} (hp : PosOk P ops pos) {L : Nat} {listed : Array Bool} (hl : Lis ops L listed) {i : Nat} (hi : i ∈ Region.ready .any ops listed) : ∃ p ∈ pos, p.i = i ∧ readyM L p = true := by
  obtain ⟨_, o, ho, _⟩ := mem_ready.1 hi
  obtain ⟨p, hm, rfl⟩ := hp.all i (Array.getElem?_eq_some_iff.1 ho).1
  exact ⟨p, hm, rfl, (readyM_iff hp hl hm).2 hi⟩

theorem apartM_spec {x y : PO} (hx : POk P ops x) (hy : POk P ops y) (h : apartM x y = true) : x.o.apart ops y.o = true := by
  unfold apartM at h
  have nl : ∀ {z : PO} (hz : POk P ops z) {d : Nat}, bit z.looks d = false → (z.o.looksAt ops).contains d = false := by
    intro z hz d hd
    rw [hz.looks] at hd
    rw [← Bool.not_eq_true, List.contains_iff_mem, ← looksMask_iff, hd]; simp
  unfold Oper.apart
  split at h
  · rename_i d e hd he
    simp only [Bool.and_eq_true, Bool.not_eq_true'] at h
    simp only [hd, he, nl hy h.1.1, nl hx h.2, Bool.not_false, Bool.true_and, Bool.and_true]
    have hne : ¬ (e = d) := by
      intro hh; subst hh
      have := h.1.2
      rw [← Bool.not_eq_true, Nat.beq_eq] at this; exact this rfl
    simp [hne]
  · rename_i d hd he
    simp only [Bool.not_eq_true'] at h
    rw [hd, he]
    simp only [nl hy h]
    simp
  · rename_i e hd he
    simp only [Bool.not_eq_true'] at h
    rw [hd, he]
    simp only [nl hx h]
    simp
  · rename_i hd he
    rw [hd, he]; rfl

theorem freeM_spec {pos : List PO} (hp : PosOk P ops pos) {L : Nat} {listed : Array Bool} (hl : Lis ops L listed) {p : PO} (hm : p ∈ pos) (h : freeM pos L p = true) :
    ∀ (j : Nat) (oj : Oper), ops[j]? = some oj → j ≠ p.i → listed.getD j true = false → (∀ e ∈ oj.after, Region.binds .any e = true → e.on ≠ p.i) → p.o.apart ops oj = true := by
  intro j oj hj hji hun hno
  have hlt : j < ops.size := (Array.getElem?_eq_some_iff.1 hj).1
  obtain ⟨r, hr, hri⟩ := hp.all j hlt
  have hro := (hp.each r hr).o
  rw [hri, hj] at hro
  have hroo : oj = r.o := by cases hro; rfl
  have := List.all_eq_true.1 h r hr
  simp only [Bool.or_eq_true] at this
  rcases this with ((h1 | h1) | h1) | h1
  · rw [Nat.beq_eq] at h1; exact absurd (hri ▸ h1) hji
  · rw [hri, ← hl.getT hlt, hun] at h1; cases h1
  · rw [(hp.each r hr).pre] at h1
    obtain ⟨e, he, hb, heq⟩ := (preMask_iff r.o p.i).1 h1
    exact absurd heq (hno e (by rw [hroo]; exact he) hb)
  · rw [hroo]; exact apartM_spec (hp.each p hm) (hp.each r hr) h1

theorem loadsM_spec {pos : List PO} (hp : PosOk P ops pos) {L : Nat} {listed : Array Bool} (hl : Lis ops L listed) {p : PO} (hm : p ∈ pos) (h : loadsM pos L p = true) : LoadsAhead ops listed p.i := by
  intro j oj hj hld hlist
  have hlt : j < ops.size := (Array.getElem?_eq_some_iff.1 hj).1
  obtain ⟨r, hr, hri⟩ := hp.all j hlt
  have hro := (hp.each r hr).o
  rw [hri, hj] at hro
  have hroo : oj = r.o := by cases hro; rfl
  have := List.all_eq_true.1 h r hr
  simp only [Bool.or_eq_true, Bool.not_eq_true'] at this
  rw [(hp.each r hr).ld, ← hroo, hld, hri, ← hl.getT hlt, hlist] at this
  rcases this with (h1 | h1) | h1
  · cases h1
  · cases h1
  · exact (hp.each p hm).anc j h1

noncomputable def drawS (P : Program) (call : CallF) (ops : Array Oper) : List (Oper × Bool) → Act → Mem → Option (Act × Mem)
  | [], a, H => some (a, H)
  | (o, lk) :: l, a, H => match stepLS P call ops lk o a H with
    | some (a', H') => drawS P call ops l a' H'
    | none => none

theorem planM_any (hk : CallKeeps call) (hsel : ∀ (j : Nat) (o : Oper) cs b, ops[j]? = some o → o.op ≠ .select cs b) {pos : List PO} (hp : PosOk P ops pos) {af : Act} {Hf : Mem} : ∀ (n L : Nat) (listed : Array Bool) (l : List (Oper × Bool)), planM pos n L = some l → Lis ops L listed → Closed ops listed →
    ∀ a H, drawS P call ops l a H = some (af, Hf) → AnyA P call ops (fun x y => x = af ∧ y = Hf) n listed a H := by
  intro n
  induction n with
  | zero =>
    intro L listed l h hl _ a H hd
    unfold planM at h
    split at h
    · rename_i hf
      cases h
      simp only [drawS, Option.some.injEq] at hd
      cases hd
      refine ⟨?_, rfl, rfl⟩
      rw [List.eq_nil_iff_forall_not_mem]
      intro i hi
      obtain ⟨p, hm, _, hr⟩ := ready_po hp hl hi
      have := List.find?_eq_none.1 hf p hm
      exact this hr
    · cases h
  | succ n ih =>
    intro L listed l h hl hcl a H hd
    unfold planM at h
    split at h
    · rename_i p hf
      have hm := List.mem_of_find?_eq_some hf
      have hqr := List.find?_some hf
      simp only [Bool.and_eq_true] at hqr
      have hir := (readyM_iff hp hl hm).1 hqr.2
      have hq : quiet P p.o.op = true := by rw [← (hp.each p hm).q]; exact hqr.1
      have ho := (hp.each p hm).o
      have hlt : p.i < ops.size := (Array.getElem?_eq_some_iff.1 ho).1
      rw [pick2_eq] at h
      split at h
      · rename_i hfree
        split at h
        · rename_i l' hl'
          cases h
          simp only [drawS] at hd
          split at hd
          · rename_i a1 H1 hst
            have hst' : stepS P call ops p.o a H = some (a1, H1) := by simpa [stepLS] using hst
            obtain ⟨rfl, v, rfl, hy⟩ := QY.of_step hq hst'
            exact anyA_first hk hsel ho hq n listed a H1 (freeM_spec hp hl hm hfree) hcl hir hy (ih _ _ _ hl' (hl.add hlt) (hcl.add hir) _ _ hd)
          · cases hd
        · cases h
      · cases h
    · split at h
      · rename_i hf
        cases h
        simp only [drawS, Option.some.injEq] at hd
        cases hd
        have hnil : ∀ i, i ∉ Region.ready .any ops listed := by
          intro i hi
          obtain ⟨p, hm, _, hr⟩ := ready_po hp hl hi
          have : p ∈ pos.filter (readyM L) := List.mem_filter.2 ⟨hm, hr⟩
          rw [hf] at this; cases this
        exact ⟨fun _ => ⟨rfl, rfl⟩, fun j hj => absurd hj (hnil j)⟩
      · rename_i p hf
        have hmf : p ∈ pos.filter (readyM L) := by rw [hf]; simp
        obtain ⟨hm, hr⟩ := List.mem_filter.1 hmf
        have hir := (readyM_iff hp hl hm).1 hr
        have ho := (hp.each p hm).o
        have hlt : p.i < ops.size := (Array.getElem?_eq_some_iff.1 ho).1
        split at h
        · rename_i l' hl'
          cases h
          simp only [drawS] at hd
          split at hd
          · rename_i a1 H1 hst
            refine ⟨fun h0 => (by rw [h0] at hir; cases hir), fun j hj => ?_⟩
            have hji : j = p.i := by
              obtain ⟨q, hqm, hqi, hqr⟩ := ready_po hp hl hj
              have : q ∈ pos.filter (readyM L) := List.mem_filter.2 ⟨hqm, hqr⟩
              rw [hf] at this
              simp at this
              rw [← hqi, this]
            subst hji
            exact ⟨p.o, _, a1, H1, ho, hst, fun h0 => .inr (loadsM_spec hp hl hm (by simpa using h0)), ih _ _ _ hl' (hl.add hlt) (hcl.add hj) _ _ hd⟩
          · cases hd
        · cases h
      · cases h

theorem drawA_cons (o : Oper) (lk : Bool) (l : List (Oper × Bool)) (f : Fr) (H : Mem) : drawA P call ops.toList ((o, lk) :: l) f H = match stepL P call ops.toList lk o f H with | some (f', H') => drawA P call ops.toList l f' H' | none => none := by
  show Option.rec (motive := fun _ => Option (Fr × Mem)) none (fun r => drawA P call ops.toList l r.1 r.2) (stepL P call ops.toList lk o f H) = _
  cases stepL P call ops.toList lk o f H with
  | none => rfl
  | some r => rfl

theorem drawA_rep : ∀ (l : List (Oper × Bool)) {f f' : Fr} {a : Act} {H H' : Mem}, Rep f a → drawA P call ops.toList l f H = some (f', H') → ∃ a', drawS P call ops l a H = some (a', H') ∧ Rep f' a'
  | [], f, f', a, H, H', hr, h => by
    have h' : some (f, H) = some (f', H') := h
    cases h'; exact ⟨a, rfl, hr⟩
  | (o, lk) :: l, f, f', a, H, H', hr, h => by
    rw [drawA_cons] at h
    split at h
    · rename_i f1 H1 h1
      obtain ⟨a1, h2, h3⟩ := stepL_rep hr h1
      obtain ⟨a', h4, h5⟩ := drawA_rep l h3 h
      exact ⟨a', by simp only [drawS, h2]; exact h4, h5⟩
    · cases h

theorem opsA_cons (o : Oper) (l : List Oper) (f : Fr) (H : Mem) : opsA P call ops.toList (o :: l) f H = match stepA P call ops.toList o f H with | some (f', H') => opsA P call ops.toList l f' H' | none => none := by
  show Option.rec (motive := fun _ => Option (Fr × Mem)) none (fun r => opsA P call ops.toList l r.1 r.2) (stepA P call ops.toList o f H) = _
  cases stepA P call ops.toList o f H with
  | none => rfl
  | some r => rfl

end
end Go.Ev
