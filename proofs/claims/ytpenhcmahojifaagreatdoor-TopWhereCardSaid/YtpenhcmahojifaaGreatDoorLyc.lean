/- The evaluator's operations together; regions, bodies and calls. -/
import Derived.Test.YtpenhcmahojifaaGreatDoorLyb
import Derived.Laws.StructEq
import Derived.Tactics
import Derived.RangeFuncSeq
import Derived.OrdersIn
import Derived.TacticsIn
import Derived.RangeFuncLeaves
set_option linter.unusedVariables false
set_option linter.unusedSimpArgs false
set_option linter.unusedSectionVars false
namespace Go.Ev
open Go.RowKit
variable [TokE]
section
variable {c : Cx} {P : Program} {w : World} {ρ : Ren} {H : Mem}
/-- What the machine does at an operation is what the evaluator says. -/
def OpOk (c : Cx) (ρ : Ren) (o : Oper) (ev : Operand → Value) (w : World) (v : Value) (H' : Mem) : Prop :=
  ∃ ρ' w' v', ρ.le ρ' ∧ Emb c ρ' H' w' ∧ VRel ρ' v v' ∧ ((execOp ev o).run c.P w = .ok (.value v') w' ∨ ((execOp ev o).run c.P w = .ok .skip w' ∧ v' = undef))
/-- Operands, evaluated on both sides. -/
abbrev EvR (ρ : Ren) (ev ev' : Operand → Value) (o : Op) : Prop := ∀ x ∈ o.operands, VRel ρ (ev x) (ev' x)
theorem PR.parts {ev ev' : Operand → Value} : ∀ (l : List (Nat × Operand)), (∀ q ∈ l, VRel ρ (ev q.2) (ev' q.2)) → PR (VRel ρ) (l.map fun q => (q.1, ev q.2)) (l.map fun q => (q.1, ev' q.2))
  | [], _ => trivial
  | q :: l, h => ⟨rfl, h q (by simp), PR.parts l fun x hx => h x (by simp [hx])⟩
theorem or_map {ev ev' : Operand → Value} (x : Option Operand) (h : ∀ y, x = some y → VRel ρ (ev y) (ev' y)) : OR (VRel ρ) (x.map ev) (x.map ev') := by
  cases x with
  | none => exact .none
  | some y => exact .some (h y rfl)
theorem AR.map {ev ev' : Operand → Value} (xs : Array Operand) (h : ∀ y ∈ xs, VRel ρ (ev y) (ev' y)) : AR (VRel ρ) (xs.map ev) (xs.map ev') :=
  ⟨by simp, fun i x y hx hy => by
    simp only [Array.getElem?_map, Option.map_eq_some_iff] at hx hy
    obtain ⟨q, h1, rfl⟩ := hx
    obtain ⟨q', h2, rfl⟩ := hy
    rw [h1] at h2; cases h2
    exact h q (Array.mem_of_getElem? h1)⟩
theorem withMem_spec {H H' : Mem} {x : Option Value} {v : Value} (h : withMem H x = some (v, H')) : x = some v ∧ H' = H := by
  cases x with
  | none => cases h
  | some u =>
    have h' : some (u, H) = some (v, H') := h
    cases h'; exact ⟨rfl, rfl⟩
theorem withMem_some (H : Mem) (v : Value) : withMem H (some v) = some (v, H) := rfl
theorem orElse_spec {x y : Option Value} {v : Value} (h : orElse x y = some v) : x = some v ∨ (x = none ∧ y = some v) := by
  cases x with
  | none => exact .inr ⟨rfl, h⟩
  | some u => exact .inl h
theorem ltI_spec (a b : Int) : ltI a b = decide (a < b) := by
  unfold ltI
  split
  · rw [ble_succ]; rw [decide_eq_decide]; simp only [Int.ofNat_eq_natCast]; omega
  · simp only [Int.ofNat_eq_natCast, Int.negSucc_eq]; symm; simp; omega
  · simp only [Int.ofNat_eq_natCast, Int.negSucc_eq]; symm; simp; omega
  · rw [ble_succ]; rw [decide_eq_decide]; simp only [Int.negSucc_eq]; omega
theorem eqI_spec (a b : Int) : eqI a b = (a == b) := by
  unfold eqI
  split
  · rename_i m n; rw [Bool.eq_iff_iff]; simp [Nat.beq_eq]; omega
  · rename_i m n; rw [Bool.eq_iff_iff]; simp [Nat.beq_eq]
  · rename_i h1 h2
    cases a <;> cases b
    · exact absurd rfl (h1 _ _ rfl)
    · rfl
    · rfl
    · exact absurd rfl (h2 _ _ rfl)
theorem inI64_spec {n : Int} (h : inI64 n = true) : IntKind.i64.wrap n = n := by
  refine IntWalk.i64_in n ?_
  unfold inI64 at h
  split at h
  · simp only [Nat.blt_eq] at h; simp only [Int.ofNat_eq_natCast]; omega
  · simp only [Nat.blt_eq] at h; simp only [Int.negSucc_eq]; omega
theorem forced_eq (n : Int) : forced n = n := by
  unfold forced
  split <;> rfl
theorem eqKind_spec {k k' : IntKind} (h : eqKind k k' = true) : k = k' := by
  cases k <;> cases k' <;> first | rfl | (simp [eqKind] at h)
/-! ### Numbers of which not all is known -/
mutual
theorem eqT_den {env : IntKind → Nat → Int} : ∀ a b, eqT a b = true → den env a = den env b
  | .int k a, .int k' b, h => by
    simp only [eqT, pick2_eq] at h
    split at h
    · rename_i hk
      rw [eqI_spec, beq_iff_eq] at h
      rw [eqKind_spec hk, h]
    · cases h
  | .func (.yield c) x ⟨[]⟩, .func (.yield c') y ⟨[]⟩, h => by
    simp only [eqT, pick2_eq] at h
    split at h
    · rename_i hc
      have := Nat.eq_of_beq_eq_true hc
      subst this
      simp only [den]
      rw [eqTA_den x y h]
    · cases h
theorem eqTA_den {env : IntKind → Nat → Int} : ∀ a b : Array Value, eqTA a b = true → denA env a = denA env b
  | ⟨l⟩, ⟨m⟩, h => by
    simp only [eqTA] at h
    simp only [denA]
    exact eqTL_den l m h
theorem eqTL_den {env : IntKind → Nat → Int} : ∀ l m : List Value, eqTL l m = true → denL env l = denL env m
  | [], [], _ => rfl
  | a :: l, b :: m, h => by
    simp only [eqTL, pick2_eq] at h
    split at h
    · rename_i hab
      simp only [denL]
      rw [eqT_den a b hab, eqTL_den l m h]
    · cases h
end
theorem laneV_kind {k k' : IntKind} {t : List (Option (IntKind × Int))} {j : Nat} {n : Int} (h : laneV k t j = some (k', n)) : k' = k ∧ t[j]? = some (some (k, n)) := by
  unfold laneV at h
  split at h
  · rename_i k2 x hx
    split at h
    · rename_i e; subst e; cases h; exact ⟨rfl, hx⟩
    · cases h
  · cases h
theorem denL_get {env : IntKind → Nat → Int} : ∀ (l : List Value) (j : Nat), (denL env l)[j]? = (l[j]?).map (den env)
  | [], j => by simp [denL]
  | a :: l, 0 => by simp [denL]
  | a :: l, j + 1 => by simp only [denL, List.getElem?_cons_succ]; exact denL_get l j
theorem tokV_kind {env : IntKind → Nat → Int} {c : Nat} {k k' : IntKind} {i n : Int} {r : List (Option (IntKind × Int))} (h : tokV env c (some (k, i) :: r) = some (k', n)) : k' = k := by
  unfold tokV at h
  split at h
  · exact (laneV_kind h).1
  split at h
  · rename_i e; cases e; split at h <;> cases h; rfl
  · rename_i e; cases e; split at h <;> cases h; rfl
  · rename_i e
    cases e
    split at h
    · split at h
      · split at h <;> cases h; rfl
      · cases h
    · cases h
  · cases h
theorem num_rel {v v' : Value} {k : IntKind} (hk : kindT v = some k) (h : VRel ρ v v') : ∃ n, v' = .int k n ∧ den TokR.env v = some (k, n) := by
  cases h with
  | int k' n => cases hk; exact ⟨n, rfl, rfl⟩
  | tok c x l k' n h =>
    unfold kindT at hk
    split at hk
    · rename_i e; cases e
    · rename_i e
      cases e
      cases hk
      have h0 := h
      simp only [den, denA, denL] at h
      have e := tokV_kind h
      subst e
      exact ⟨n, rfl, h0⟩
    · cases hk
  | func fn a a' b b' sa ha sb hb hn =>
    unfold kindT at hk
    split at hk
    · rename_i e; cases e
    · rename_i e; cases e; cases hn
    · cases hk
  | _ => simp [kindT, vd] at hk
theorem rel_num {v : Value} {k : IntKind} {n : Int} (hk : (kindT v).isSome = true) (h : den TokR.env v = some (k, n)) : VRel ρ v (.int k n) := by
  unfold kindT at hk
  split at hk
  · simp only [den] at h; cases h; exact .int _ _
  · exact .tok _ _ _ _ _ h
  · cases hk
theorem lookR_ok {k : IntKind} {n : Int} : ∀ (l : List (Value × Value)) (v : Value), (∀ q ∈ l, q ∈ TokE.toTokD.rews) → (kindT v).isSome = true → den TokR.env v = some (k, n) → VRel ρ (lookR l v) (.int k n)
  | [], v, _, hk, h => rel_num hk h
  | q :: l, v, hl, hk, h => by
    simp only [lookR, pick2_eq]
    split
    · rename_i he
      rw [← eqT_den (env := TokR.env) _ _ he] at h
      obtain ⟨h1, h2⟩ := TokE.rewsOk q (hl q (by simp)) _ _ h
      exact rel_num h2 h1
    · exact lookR_ok l v (fun x hx => hl x (by simp [hx])) hk h
theorem lookF_ok {op : BinOp} {x y : Value} {b : Bool} {k k' : IntKind} {m n : Int} (hx : den TokR.env x = some (k, m)) (hy : den TokR.env y = some (k', n)) : ∀ (l : List (BinOp × Value × Value × Bool)), (∀ q ∈ l, q ∈ TokE.toTokD.facts) → lookF l op x y = some b → cmpRun op m n = some b
  | [], _, h => by simp [lookF] at h
  | q :: l, hl, h => by
    simp only [lookF, pick2_eq] at h
    split at h
    · rename_i he
      simp only [Bool.and_eq_true] at he
      cases h
      rw [← eqT_den (env := TokR.env) _ _ he.2.1] at hx
      rw [← eqT_den (env := TokR.env) _ _ he.2.2] at hy
      have := TokE.factsOk q (hl q (by simp)) _ _ _ _ hx hy
      have e : q.1 = op := by
        have := Nat.eq_of_beq_eq_true he.1
        revert this
        generalize q.1 = a
        cases a <;> cases op <;> simp [binN]
      rw [← e]; exact this
    · exact lookF_ok hx hy l (fun x hx => hl x (by simp [hx])) h
theorem fastInt_cmp {op : BinOp} {a b : Int} {t : Bool} (h : fastInt op a b = some t) : cmpRun op a b = some t := by
  unfold fastInt at h
  split at h <;> first | (cases h; done) | (cases h; simp only [cmpRun, eqI_spec, ltI_spec, bne, Option.some.injEq]; try (rw [Bool.eq_iff_iff]; simp))
/-! Lanes. -/
theorem lanesT_spec {x : Value} {l : List Value} (h : lanesT x = some l) : ∃ v, x = .func (.yield 30) ⟨v :: l⟩ ⟨[]⟩ := by
  unfold lanesT at h
  split at h
  · rename_i c v l'
    rw [pick2_eq] at h
    split at h
    · rename_i hc
      cases h
      have := Nat.eq_of_beq_eq_true hc
      subst this
      exact ⟨v, rfl⟩
    · cases h
  · cases h
theorem lanes_den {env : IntKind → Nat → Int} {x : Value} {l : List Value} {k : IntKind} {n : Int} (h : lanesT x = some l) (hd : den env x = some (k, n)) : ∃ v, l[laneOf env]? = some v ∧ den env v = some (k, n) := by
  obtain ⟨v, rfl⟩ := lanesT_spec h
  simp only [den, denA, denL, tokV, if_true] at hd
  cases hv : den env v with
  | none => rw [hv] at hd; cases hd
  | some p =>
    obtain ⟨k0, i⟩ := p
    rw [hv] at hd
    have hd : laneV k0 (denL env l) (laneOf env) = some (k, n) := hd
    obtain ⟨rfl, h2⟩ := laneV_kind hd
    rw [denL_get] at h2
    cases hl : l[laneOf env]? with
    | none => rw [hl] at h2; cases h2
    | some v => rw [hl] at h2; exact ⟨v, rfl, by simpa using h2⟩
theorem mapL_get {f : Value → Option Value} : ∀ {l m : List Value}, mapL f l = some m → ∀ {j : Nat} {a : Value}, l[j]? = some a → ∃ b, f a = some b ∧ m[j]? = some b
  | [], m, h, j, a, ha => by simp at ha
  | c :: l, m, h, j, a, ha => by
    have h : (match f c with
      | some b => match mapL f l with
        | some t => some (b :: t)
        | none => none
      | none => none) = some m := h
    split at h
    · rename_i b hb
      split at h
      · rename_i t ht
        cases h
        cases j with
        | zero => simp at ha; subst ha; exact ⟨b, hb, rfl⟩
        | succ j => simp at ha; obtain ⟨b', h1, h2⟩ := mapL_get ht ha; exact ⟨b', h1, by simpa using h2⟩
      · cases h
    · cases h
theorem zipL_get {f : Value → Value → Option Value} : ∀ {l m r : List Value}, zipL f l m = some r → ∀ {j : Nat} {a b : Value}, l[j]? = some a → m[j]? = some b → ∃ c, f a b = some c ∧ r[j]? = some c
  | [], m, r, h, j, a, b, ha, hb => by simp at ha
  | x :: l, [], r, h, j, a, b, ha, hb => by simp at hb
  | x :: l, y :: m, r, h, j, a, b, ha, hb => by
    have h : (match f x y with
      | some c => match zipL f l m with
        | some t => some (c :: t)
        | none => none
      | none => none) = some r := h
    split at h
    · rename_i c hc
      split at h
      · rename_i t ht
        cases h
        cases j with
        | zero => simp at ha hb; subst ha hb; exact ⟨c, hc, rfl⟩
        | succ j => simp at ha hb; obtain ⟨b', h1, h2⟩ := zipL_get ht ha hb; exact ⟨b', h1, by simpa using h2⟩
      · cases h
    · cases h
theorem zipT_get {env : IntKind → Nat → Int} {f : Value → Value → Option Value} {x y : Value} {r : List Value} {p q : Option (IntKind × Int)} {k k' : IntKind} {m n : Int} (hp : p = some (k, m)) (hq : q = some (k', n)) (h : zipT f x y = some r) (hx : den env x = p) (hy : den env y = q) :
    ∃ a b c, den env a = p ∧ den env b = q ∧ f a b = some c ∧ r[laneOf env]? = some c := by
  subst hp hq
  unfold zipT at h
  split at h
  · rename_i l hl
    obtain ⟨a, ha, da⟩ := lanes_den hl hx
    split at h
    · rename_i l' hl'
      obtain ⟨b, hb, db⟩ := lanes_den hl' hy
      obtain ⟨c, h1, h2⟩ := zipL_get h ha hb
      exact ⟨a, b, c, da, db, h1, h2⟩
    · obtain ⟨c, h1, h2⟩ := mapL_get h ha
      exact ⟨a, y, c, da, hy, h1, h2⟩
  · split at h
    · rename_i l' hl'
      obtain ⟨b, hb, db⟩ := lanes_den hl' hy
      obtain ⟨c, h1, h2⟩ := mapL_get h hb
      exact ⟨x, b, c, hx, db, h1, h2⟩
    · cases h
theorem intRun_kind {op : BinOp} {k k' k2 : IntKind} {m n z : Int} (h : intRun op k m k' n = some (k2, z)) : k2 = k := by
  unfold intRun at h
  split at h
  all_goals first | (cases h; done) | skip
  all_goals split at h
  all_goals first | (cases h; done) | skip
  all_goals first | (cases h; rfl) | (split at h <;> first | (cases h; done) | (cases h; rfl))
theorem allT_get {env : IntKind → Nat → Int} {v : Value} : ∀ {t : List Value}, allT v t = true → ∀ {j : Nat} {a : Value}, t[j]? = some a → den env a = den env v
  | [], _, j, a, ha => by simp at ha
  | x :: t, h, j, a, ha => by
    have h : pick2 (eqT v x) (allT v t) false = true := h
    rw [pick2_eq] at h
    split at h
    · rename_i he
      cases j with
      | zero => simp at ha; subst ha; exact (eqT_den _ _ he).symm
      | succ j => simp at ha; exact allT_get h ha
    · cases h
theorem vecR_den {env : IntKind → Nat → Int} {k : IntKind} {l : List Value} {a : Value} {n : Int} (ha : l[laneOf env]? = some a) (hd : den env a = some (k, n)) : den env (vecR k l) = some (k, n) := by
  have hv : den env (vecT k l) = some (k, n) := by
    simp only [vecT, den, denA, denL, tokV, if_true, laneV]
    rw [denL_get, ha]
    simp [hd]
  unfold vecR
  split
  · exact hv
  · rename_i v t
    rw [pick2_eq]
    split
    · rename_i hall
      cases hj : laneOf env with
      | zero => rw [hj] at ha; simp at ha; subst ha; exact hd
      | succ j => rw [hj] at ha; simp at ha; rw [← allT_get hall ha]; exact hd
    · exact hv
theorem vecR_kind {k : IntKind} {l : List Value} (h : ∀ v, l[0]? = some v → (kindT v).isSome = true) : (kindT (vecR k l)).isSome = true := by
  unfold vecR
  split
  · rfl
  · rw [pick2_eq]
    split
    · exact h _ rfl
    · rfl
theorem mapL_all {f : Value → Option Value} : ∀ {l m : List Value}, mapL f l = some m → ∀ {b : Value}, b ∈ m → ∃ a, f a = some b
  | [], m, h, b, hb => by cases h; cases hb
  | c :: l, m, h, b, hb => by
    have h : (match f c with
      | some b => match mapL f l with
        | some t => some (b :: t)
        | none => none
      | none => none) = some m := h
    split at h
    · rename_i b' hb'
      split at h
      · rename_i t ht
        cases h
        rcases List.mem_cons.1 hb with rfl | hb
        · exact ⟨c, hb'⟩
        · exact mapL_all ht hb
      · cases h
    · cases h
theorem zipL_all {f : Value → Value → Option Value} : ∀ {l m r : List Value}, zipL f l m = some r → ∀ {b : Value}, b ∈ r → ∃ a a', f a a' = some b
  | [], m, r, h, b, hb => by
    cases m with
    | nil => cases h; cases hb
    | cons => cases h
  | x :: l, [], r, h, b, hb => by cases h
  | x :: l, y :: m, r, h, b, hb => by
    have h : (match f x y with
      | some c => match zipL f l m with
        | some t => some (c :: t)
        | none => none
      | none => none) = some r := h
    split at h
    · rename_i c hc
      split at h
      · rename_i t ht
        cases h
        rcases List.mem_cons.1 hb with rfl | hb
        · exact ⟨x, y, hc⟩
        · exact zipL_all ht hb
      · cases h
    · cases h
theorem zipT_all {f : Value → Value → Option Value} {x y : Value} {r : List Value} (h : zipT f x y = some r) {b : Value} (hb : b ∈ r) : ∃ a a', f a a' = some b := by
  unfold zipT at h
  split at h
  · split at h
    · exact zipL_all h hb
    · obtain ⟨a, e⟩ := mapL_all h hb; exact ⟨a, y, e⟩
  · split at h
    · obtain ⟨a, e⟩ := mapL_all h hb; exact ⟨x, a, e⟩
    · cases h
theorem laneI_spec {op : BinOp} {a b c : Value} (h : laneI op a b = some c) : ∃ k m k' n k2 z, a = .int k m ∧ b = .int k' n ∧ intRun op k m k' n = some (k2, z) ∧ c = .int k2 z := by
  unfold laneI at h
  split at h
  · rename_i k m k' n
    split at h
    · rename_i k2 z hz
      cases h
      exact ⟨k, m, k', n, k2, z, rfl, rfl, hz, by rw [forced_eq]⟩
    · cases h
  · cases h
theorem allB_get {b : Bool} : ∀ {t : List Value}, allB b t = true → ∀ {j : Nat} {a : Value}, t[j]? = some a → a = .bool b
  | [], _, j, a, ha => by simp at ha
  | x :: t, h, j, a, ha => by
    cases x with
    | bool c =>
      have h : pick2 (pick2 b c (!c)) (allB b t) false = true := h
      rw [pick2_eq] at h
      split at h
      · rename_i he
        cases j with
        | zero => simp at ha; subst ha; cases b <;> cases c <;> simp_all [pick2]
        | succ j => simp at ha; exact allB_get h ha
      · cases h
    | _ => cases h
theorem laneB_get {l : List Value} {b : Bool} (h : laneB l = some b) {j : Nat} {a : Value} (ha : l[j]? = some a) : a = .bool b := by
  unfold laneB at h
  split at h
  · rename_i c t
    rw [pick2_eq] at h
    split at h
    · rename_i hall
      cases h
      cases j with
      | zero => simp at ha; exact ha.symm
      | succ j => simp at ha; exact allB_get hall ha
    · cases h
  · cases h
theorem laneC_cmp {env : IntKind → Nat → Int} {op : BinOp} {x y : Value} {l : List Value} {b : Bool} {k k' : IntKind} {m n : Int} (h : zipT (laneC op) x y = some l) (hb : laneB l = some b) (hx : den env x = some (k, m)) (hy : den env y = some (k', n)) : cmpRun op m n = some b := by
  obtain ⟨a, c, r, da, dc, hf, hr⟩ := zipT_get rfl rfl h hx hy
  have := laneB_get hb hr
  subst this
  unfold laneC at hf
  split at hf
  · rename_i k1 m1 k2 n1
    simp only [den, Option.some.injEq, Prod.mk.injEq] at da dc
    rw [pick2_eq] at hf
    split at hf
    · split at hf
      · rename_i t ht
        cases hf
        rw [← da.2, ← dc.2]
        exact fastInt_cmp ht
      · cases hf
    · cases hf
  · cases hf
theorem cmpT_ok {op : BinOp} {x y x' y' : Value} {b : Bool} (h : cmpT op x y = some b) (hx : VRel ρ x x') (hy : VRel ρ y y') : ∃ k m n, x' = .int k m ∧ y' = .int k n ∧ cmpRun op m n = some b := by
  unfold cmpT at h
  split at h
  · rename_i k a k' c
    rw [pick2_eq] at h
    split at h
    · rename_i hk
      have := eqKind_spec hk
      subst this
      cases hx; cases hy
      exact ⟨k, a, c, rfl, rfl, fastInt_cmp h⟩
    · cases h
  · split at h
    · rename_i k k' hkx hky
      rw [pick2_eq] at h
      split at h
      · rename_i hk
        simp only [Bool.and_eq_true] at hk
        have := eqKind_spec hk.1
        subst this
        obtain ⟨m, e1, d1⟩ := num_rel hkx hx
        obtain ⟨n, e2, d2⟩ := num_rel hky hy
        rw [pick2_eq] at h
        split at h
        · rename_i he
          rw [eqT_den _ _ he, d2] at d1
          cases d1
          refine ⟨k, m, m, e1, e2, ?_⟩
          have := fastInt_cmp h
          revert this
          cases op <;> simp [cmpRun]
        split at h
        · rename_i l hl
          exact ⟨k, m, n, e1, e2, laneC_cmp hl h d1 d2⟩
        · exact ⟨k, m, n, e1, e2, lookF_ok d1 d2 _ (fun q h => h) h⟩
      · cases h
    · cases h
theorem cmp_bin {op : BinOp} {t : TypeId} {k : IntKind} {m n : Int} {b : Bool} (h : cmpRun op m n = some b) : binOp op t (.int k m) (.int k n) = (pure (.bool b) : Sem Value) := by
  cases op <;> first | (cases h; done) | (cases h; simp [binOp, Op.intCmp])
theorem int_bin {op : BinOp} {t : TypeId} {k k' k2 : IntKind} {m n z : Int} (h : intRun op k m k' n = some (k2, z)) : binOp op t (.int k m) (.int k' n) = (pure (.int k2 z) : Sem Value) := by
  cases op <;> simp only [intRun] at h <;> first | (cases h; done) | skip
  all_goals split at h
  all_goals first | (cases h; done) | skip
  all_goals first | (split at h <;> first | (cases h; done) | skip) | skip
  all_goals (try subst_vars)
  all_goals (cases h)
  all_goals simp_all [binOp, Op.intArith, Op.intBits, Op.intDiv, Op.shift]
  all_goals (intro hc; omega)
theorem okBin_run {op : BinOp} {k k' : IntKind} {y : Value} {m n : Int} (h : okBin op k k' y = true) (hy : den TokR.env y = some (k', n)) : ∃ z, intRun op k m k' n = some (k, z) ∧ nBin (binN op) = some op := by
  have lit : ∀ {kk : IntKind} {i : Int}, y = .int kk i → n = i := fun e => by subst e; simp only [den] at hy; cases hy; rfl
  unfold okBin at h
  split at h
  case h_8 =>
    split at h
    · rename_i kk j
      have := lit rfl
      subst this
      refine ⟨_, by unfold intRun; simp only; rw [if_neg (by exact Int.not_lt.2 (Int.natCast_nonneg j))], rfl⟩
    · cases h
  case h_9 =>
    split at h
    · rename_i kk j
      have := lit rfl
      subst this
      refine ⟨_, by unfold intRun; simp only; rw [if_neg (by exact Int.not_lt.2 (Int.natCast_nonneg j))], rfl⟩
    · cases h
  case h_10 =>
    split at h
    · rename_i kk j
      have := lit rfl
      subst this
      have := eqKind_spec h
      subst this
      have hne : Int.ofNat (j + 1) ≠ 0 := by simp; omega
      exact ⟨_, by simp only [intRun, if_true, if_neg hne]; rfl, rfl⟩
    · cases h
  case h_11 =>
    split at h
    · rename_i kk j
      have := lit rfl
      subst this
      have := eqKind_spec h
      subst this
      have hne : Int.ofNat (j + 1) ≠ 0 := by simp; omega
      exact ⟨_, by simp only [intRun, if_true, if_neg hne]; rfl, rfl⟩
    · cases h
  case h_12 => cases h
  all_goals
    have := eqKind_spec h
    subst this
    exact ⟨_, by simp only [intRun, if_true]; rfl, rfl⟩
theorem binT_ok {op : BinOp} {t : TypeId} {x y x' y' v : Value} (h : binT op x y = some v) (hx : VRel ρ x x') (hy : VRel ρ y y') : ∃ v', VRel ρ v v' ∧ binOp op t x' y' = (pure v' : Sem Value) := by
  unfold binT at h
  split at h
  · rename_i k k' hkx hky
    split at h
    · rename_i l hl
      cases h
      obtain ⟨m, rfl, d1⟩ := num_rel hkx hx
      obtain ⟨n, rfl, d2⟩ := num_rel hky hy
      obtain ⟨a, b, c, da, db, hf, hc⟩ := zipT_get rfl rfl hl d1 d2
      obtain ⟨k1, m1, k2, n1, k3, z1, rfl, rfl, hz1, rfl⟩ := laneI_spec hf
      simp only [den, Option.some.injEq, Prod.mk.injEq] at da db
      rw [da.1, da.2, db.1, db.2] at hz1
      have hk := intRun_kind hz1
      subst hk
      refine ⟨.int _ z1, ?_, int_bin hz1⟩
      refine rel_num (vecR_kind fun v hv => ?_) (vecR_den hc rfl)
      obtain ⟨a', b', hf'⟩ := zipT_all hl (List.mem_of_getElem? hv)
      obtain ⟨_, _, _, _, _, _, _, _, _, rfl⟩ := laneI_spec hf'
      rfl
    rw [pick2_eq] at h
    split at h
    · rename_i hok
      cases h
      obtain ⟨m, rfl, d1⟩ := num_rel hkx hx
      obtain ⟨n, rfl, d2⟩ := num_rel hky hy
      obtain ⟨z, hz, hn⟩ := okBin_run (m := m) hok d2
      refine ⟨.int k z, ?_, int_bin hz⟩
      refine lookR_ok _ _ (fun q h => h) rfl ?_
      have hn30 : ¬ binN op = 30 := by cases op <;> decide
      simp only [tokBin, den, denA, denL, d1, d2, tokV, if_neg hn30, hn, hz]
      simp
    · split at h
      · rename_i b hb
        cases h
        obtain ⟨k2, m, n, rfl, rfl, hc⟩ := cmpT_ok hb hx hy
        exact ⟨.bool b, .bool b, cmp_bin hc⟩
      · cases h
  · cases h
theorem convT_ok {k k' : IntKind} {x : Value} {m : Int} (hk : kindT x = some k') (d1 : den TokR.env x = some (k', m)) : VRel ρ (convT k x) (.int k (k.wrap m)) := by
  have h0 : VRel ρ (lookR TokE.toTokD.rews (tokConv k x)) (.int k (k.wrap m)) := by
    refine lookR_ok _ _ (fun q h => h) rfl ?_
    simp only [tokConv, den, denA, denL, d1, tokV]
    simp
  unfold convT
  split
  · rename_i l hl
    split
    · rename_i r hr
      obtain ⟨a, ha, da⟩ := lanes_den hl d1
      obtain ⟨b, hb, hc⟩ := mapL_get hr ha
      refine rel_num (vecR_kind fun v hv => ?_) (vecR_den hc ?_)
      · obtain ⟨a', hf'⟩ := mapL_all hr (List.mem_of_getElem? hv)
        unfold laneW at hf'
        split at hf'
        · cases hf'; rfl
        · cases hf'
      · unfold laneW at hb
        split at hb
        · cases hb
          simp only [den, Option.some.injEq, Prod.mk.injEq] at da
          simp only [den, forced_eq, da.2]
        · cases hb
    · exact h0
  · exact h0
theorem isIntT_spec {t : TypeId} (h : isIntT P t = true) : (∃ k, P.underlying t = some (.int k)) ∧ sizeA P t = some 1 := by
  unfold isIntT at h
  split at h
  · rename_i k h1 h2; exact ⟨⟨_, h1⟩, h2⟩
  · cases h
theorem part_int {t : TypeId} (h : isIntT P t = true) {cs : Array Value} {off : Nat} {v : Value} (hv : cs[off]? = some v) (w : World) : (part t cs off).run P w = .ok v w := by
  obtain ⟨⟨k, hu⟩, _⟩ := isIntT_spec h
  have ha : isAggA P t = some false := by unfold isAggA; rw [hu]
  obtain ⟨hlt, rfl⟩ := Array.getElem?_eq_some_iff.1 hv
  simp [part, run_isAgg ha, hlt]
theorem pair_ok {t : TypeId} {x y x' y' : Value} {b : Bool} (h : pairT P t x y = some b) (hx : VRel ρ x x') (hy : VRel ρ y y') (w : World) :
    ∃ xs ys, x' = .agg xs ∧ y' = .agg ys ∧ P.eqGuardType P.depth t = false ∧ (Op.equalIn 10000 t (.agg xs) (.agg ys)).run P w = .ok b w := by
  unfold pairT at h
  split at h
  · rename_i fs a b' c d hu
    split at h
    · rename_i f g hfs
      rw [pick2_eq] at h
      split at h
      · rename_i hc
        simp only [Bool.and_eq_true, Bool.not_eq_true', bne_iff_ne, ne_eq] at hc
        obtain ⟨⟨⟨⟨⟨⟨⟨hf, hg⟩, nf⟩, ng⟩, of⟩, og⟩, hst⟩, hgd⟩ := hc
        have of := Nat.eq_of_beq_eq_true of
        have og := Nat.eq_of_beq_eq_true og
        cases hx with
        | agg _ xs sx hxs =>
          cases hy with
          | agg _ ys sy hys =>
            refine ⟨xs, ys, rfl, rfl, hgd, ?_⟩
            obtain ⟨xs⟩ := xs
            obtain ⟨ys⟩ := ys
            match xs, ys, sx, sy, hxs, hys with
            | [a', b''], [c', d'], _, _, hxs, hys =>
              have ha := hxs 0 a a' rfl rfl
              have hb := hxs 1 b' b'' rfl rfl
              have hcc := hys 0 c c' rfl rfl
              have hd := hys 1 d d' rfl rfl
              have hfl : P.fieldsOf t = fs := by unfold Program.fieldsOf; rw [hu]
              obtain ⟨⟨kf, uf⟩, _⟩ := isIntT_spec hf
              obtain ⟨⟨kg, ug⟩, _⟩ := isIntT_spec hg
              rw [run_equalIn_agg w 9999 t _ _ (by rw [hfl]; exact hu) hst, hfl, hfs]
              simp only [Op.eqFields, if_pos nf, if_pos ng, Sem.run_bind, of, og]
              rw [part_int hf (v := a') rfl, Result.andThen_ok, part_int hf (v := c') rfl, Result.andThen_ok]
              split at h
              · rename_i h0
                obtain ⟨k, m, n, rfl, rfl, hc0⟩ := cmpT_ok h0 ha hcc
                obtain ⟨k2, m2, n2, rfl, rfl, hc1⟩ := cmpT_ok h hb hd
                rw [run_equalIn_int w 9998 _ _ _ _ _ uf, Result.andThen_ok]
                simp only [cmpRun, Option.some.injEq] at hc0 hc1
                rw [hc0]
                simp only [Bool.not_true, Bool.false_eq_true, if_false, Sem.run_bind]
                rw [part_int hg (v := .int k2 m2) rfl, Result.andThen_ok, part_int hg (v := .int k2 n2) rfl, Result.andThen_ok, run_equalIn_int w 9998 _ _ _ _ _ ug, Result.andThen_ok, hc1]
                cases b <;> simp
              · rename_i h0
                cases h
                obtain ⟨k, m, n, rfl, rfl, hc0⟩ := cmpT_ok h0 ha hcc
                rw [run_equalIn_int w 9998 _ _ _ _ _ uf, Result.andThen_ok]
                simp only [cmpRun, Option.some.injEq] at hc0
                rw [hc0]
                simp
              · cases h
      · cases h
    · cases h
  · cases h
theorem orc_ok {o : Oper} {ev ev' : Operand → Value} {v : Value} (hev : ∀ x ∈ o.op.operands, VRel ρ (ev x) (ev' x)) (h : orcA P ev o = some v) (w : World) :
    ∃ v', (execOp ev' o).run P w = .ok (.value v') w ∧ VRel ρ v v' := by
  unfold orcA at h
  split at h
  · rename_i op t x y yt hop
    have hx := hev x (by simp [hop, Op.operands])
    have hy := hev y (by simp [hop, Op.operands])
    split at h
    · rename_i u hu
      cases h
      have hkx : ∃ k m k' n, ev' x = .int k m ∧ ev' y = .int k' n := by
        unfold binT at hu
        split at hu
        · rename_i k k' hkx hky
          obtain ⟨m, e, _⟩ := num_rel hkx hx
          obtain ⟨n, e2, _⟩ := num_rel hky hy
          exact ⟨k, m, k', n, e, e2⟩
        · cases hu
      obtain ⟨v', h1, h2⟩ := binT_ok (t := t) hu hx hy
      refine ⟨v', ?_, h1⟩
      obtain ⟨k, m, k', n, e, e2⟩ := hkx
      have hg : eqGuard op t x y (ev' x) (ev' y) = (pure () : Sem Unit) := by
        rw [e, e2]
        cases op <;> rfl
      simp only [execOp, hop]
      rw [hg, h2]
      simp
    · have pr : ∀ {b : Bool}, pairT P t (ev x) (ev y) = some b → ∀ f : Bool → Value, (op = .eql ∧ f = .bool) ∨ (op = .neq ∧ f = fun b => .bool (!b)) → (execOp ev' o).run P w = .ok (.value (f b)) w := by
        intro b hb f hf
        obtain ⟨xs, ys, e1, e2, hg, h2⟩ := pair_ok hb hx hy w
        simp only [execOp, hop, e1, e2, Sem.run_bind]
        rw [run_eqGuard_agg _ _ _ _ _ _ _ hg]
        rcases hf with ⟨rfl, rfl⟩ | ⟨rfl, rfl⟩
        · rw [Result.andThen_ok, run_eql_struct, h2]; simp
        · rw [Result.andThen_ok, run_neq_struct, h2]; simp
      split at h
      · rename_i b hb _
        cases h
        exact ⟨_, pr hb .bool (.inl ⟨rfl, rfl⟩), .bool _⟩
      · rename_i b hb _
        cases h
        exact ⟨_, pr hb (fun b => .bool (!b)) (.inr ⟨rfl, rfl⟩), .bool _⟩
      · cases h
  · rename_i s d x hop
    have hx := hev x (by simp [hop, Op.operands])
    split at h
    · rename_i ks k kx hs hd hkx
      cases h
      obtain ⟨m, e, d1⟩ := num_rel hkx hx
      refine ⟨.int k (k.wrap m), ?_, convT_ok hkx d1⟩
      simp only [execOp, hop]
      rw [e]
      simp only [convert, Sem.run_bind, run_underlying hs, run_underlying hd, Conv.intToInt, Sem.run_pure, Result.andThen]
    · cases h
  · cases h
theorem pure_ok {o : Oper} {ev ev' : Operand → Value} {v : Value} (hev : ∀ x ∈ o.op.operands, VRel ρ (ev x) (ev' x)) (h : pureA P ev o = some v) (w : World) :
    ∃ v', (execOp ev' o).run P w = .ok (.value v') w ∧ VRel ρ v v' := by
  unfold pureA at h
  split at h
  · cases h
  · rename_i hsel
    split at h
    · rename_i hfree
      split at h
      · rename_i u hu
        split at h
        · rename_i hf
          cases h
          refine ⟨v, ?_, refl_of_free _ hf⟩
          have hc : execOp ev' o = execOp ev o := execOp_congr o (fun cs b hb => hsel cs b hb) fun x hx => by
            refine eq_of_free (hev x hx) ?_
            have := List.all_eq_true.1 hfree x (by simpa using hx)
            exact this
          rw [hc]
          exact semPure_run _ hu w
        · cases h
      · cases h
    · exact orc_ok hev h w
theorem fast_run {op : BinOp} {x y v : Value} (h : fastA op x y = some v) (t : TypeId) (p q : Operand) (w : World) :
    (do eqGuard op t p q x y; binOp op t x y : Sem Value).run P w = .ok v w ∧ addrFree v = true ∧ addrFree x = true ∧ addrFree y = true := by
  unfold fastA at h
  split at h
  · rename_i k a k' b
    rw [pick2_eq] at h
    split at h
    · rename_i hk
      have := eqKind_spec hk
      subst this
      have hg : (eqGuard op t p q (.int k a) (.int k b)).run P w = .ok () w := by
        unfold eqGuard
        cases op <;> rfl
      refine ⟨?_, ?_, rfl, rfl⟩
      · simp only [Sem.run_bind, hg, Result.andThen_ok]
        split at h
        · rename_i u hu
          cases h
          unfold fastInt at hu
          have n1 : ∀ a b : Int, (!decide (b < a)) = decide (a ≤ b) := fun a b => by
            rw [Bool.eq_iff_iff]; simp
          cases op <;> cases hu <;> simp [binOp, Op.intCmp, ltI_spec, eqI_spec, bne, n1]
        · split at h
          · rename_i n hn
            cases h
            unfold fastSum at hn
            split at hn
            · rw [pick2_eq] at hn
              split at hn
              · rename_i hr; cases hn
                have e : IntKind.i64.wrap (a + b) = a + b := inI64_spec hr
                have e2 : Int.add a b = a + b := rfl
                simp [binOp, Op.intArith, forced_eq, e]
              · cases hn
            · rw [pick2_eq] at hn
              split at hn
              · rename_i hr; cases hn
                have e : IntKind.i64.wrap (a - b) = a - b := inI64_spec hr
                have e2 : Int.sub a b = a - b := rfl
                simp [binOp, Op.intArith, forced_eq, e, e2]
              · cases hn
            · cases hn
          · cases h
      · split at h
        · cases h; rfl
        · split at h
          · cases h; rfl
          · cases h
    · cases h
  · cases h
theorem eq_run {t : TypeId} {x y : Value} {b : Bool} {op : BinOp} {v : Value} (p q : Operand) (w : World) (hg : ∀ op, (eqGuard op t p q x y).run P w = .ok () w) (he : (Op.equalIn 10000 t x y).run P w = .ok b w)
    (h1 : binOp .eql t x y = do pure (.bool (← Op.equal t x y))) (h2 : binOp .neq t x y = do pure (.bool (!(← Op.equal t x y))))
    (h : (op = .eql ∧ v = .bool b) ∨ (op = .neq ∧ v = .bool !b)) : (do eqGuard op t p q x y; binOp op t x y : Sem Value).run P w = .ok v w := by
  have he' : (Op.equal t x y).run P w = .ok b w := he
  rcases h with ⟨rfl, rfl⟩ | ⟨rfl, rfl⟩
  · simp only [Sem.run_bind, hg, Result.andThen_ok, h1, he', Sem.run_pure]
  · simp only [Sem.run_bind, hg, Result.andThen_ok, h2, he', Sem.run_pure]
theorem nil_run {op : BinOp} {x y v x' y' : Value} {t : TypeId} (hx : VRel ρ x x') (hy : VRel ρ y y') (h : nilA P op t x y = some v) (p q : Operand) (w : World) :
    (do eqGuard op t p q x' y'; binOp op t x' y' : Sem Value).run P w = .ok v w ∧ addrFree v = true := by
  unfold nilA at h
  split at h
  · rename_i a b hu
    cases hx
    cases hy
    have e : (Op.equalIn (9999 + 1) t (.bool a) (.bool b)).run P w = .ok (a == b) w := by
      unfold Op.equalIn
      simp [run_underlying hu]
    have hg : ∀ op, (eqGuard op t p q (.bool a) (.bool b)).run P w = .ok () w := fun op => by unfold eqGuard; cases op <;> rfl
    split at h
    · cases h
      refine ⟨eq_run p q w hg e rfl rfl (.inl ⟨rfl, ?_⟩), rfl⟩
      cases a <;> cases b <;> rfl
    · cases h
      refine ⟨eq_run p q w hg e rfl rfl (.inr ⟨rfl, ?_⟩), rfl⟩
      cases a <;> cases b <;> rfl
    · cases h
  · rename_i l cc l2 c2 hu
    cases hx with
    | void a' =>
      cases hy with
      | sliceNil _ _ =>
        have e : (Op.equalIn (9999 + 1) t (.slice (some a') 0 0) (.slice none l2 c2)).run P w = .ok false w := by
          unfold Op.equalIn
          simp [run_underlying hu]
        have hg : ∀ op, (eqGuard op t p q (.slice (some a') 0 0) (.slice none l2 c2)).run P w = .ok () w := fun op => by unfold eqGuard; cases op <;> rfl
        split at h
        · cases h; exact ⟨eq_run p q w hg e rfl rfl (.inl ⟨rfl, rfl⟩), rfl⟩
        · cases h; exact ⟨eq_run p q w hg e rfl rfl (.inr ⟨rfl, rfl⟩), rfl⟩
        · cases h
    | hid a' n0 c0 _ =>
      cases hy with
      | sliceNil _ _ =>
        have e : (Op.equalIn (9999 + 1) t (.slice (some a') l c0) (.slice none l2 c2)).run P w = .ok false w := by
          unfold Op.equalIn
          simp [run_underlying hu]
        have hg : ∀ op, (eqGuard op t p q (.slice (some a') l c0) (.slice none l2 c2)).run P w = .ok () w := fun op => by unfold eqGuard; cases op <;> rfl
        split at h
        · cases h; exact ⟨eq_run p q w hg e rfl rfl (.inl ⟨rfl, rfl⟩), rfl⟩
        · cases h; exact ⟨eq_run p q w hg e rfl rfl (.inr ⟨rfl, rfl⟩), rfl⟩
        · cases h
    | slice i off _ _ r y2 hr =>
      cases hy with
      | sliceNil _ _ =>
        have e : (Op.equalIn (9999 + 1) t (.slice (some ⟨r, off, none⟩) l (cc + y2)) (.slice none l2 c2)).run P w = .ok false w := by
          unfold Op.equalIn
          simp [run_underlying hu]
        have hg : ∀ op, (eqGuard op t p q (.slice (some ⟨r, off, none⟩) l (cc + y2)) (.slice none l2 c2)).run P w = .ok () w := fun op => by unfold eqGuard; cases op <;> rfl
        split at h
        · cases h; exact ⟨eq_run p q w hg e rfl rfl (.inl ⟨rfl, rfl⟩), rfl⟩
        · cases h; exact ⟨eq_run p q w hg e rfl rfl (.inr ⟨rfl, rfl⟩), rfl⟩
        · cases h
  · rename_i hu
    cases hx with
    | ptr i off r y2 hr =>
      cases hy with
      | ptrNil =>
        have e : (Op.equalIn (9999 + 1) t (.pointer (some ⟨r, off, none⟩)) (.pointer none)).run P w = .ok false w := by
          unfold Op.equalIn
          simp [run_underlying hu]
        have hg : ∀ op, (eqGuard op t p q (.pointer (some ⟨r, off, none⟩)) (.pointer none)).run P w = .ok () w := fun op => by unfold eqGuard; cases op <;> rfl
        split at h
        · cases h; exact ⟨eq_run p q w hg e rfl rfl (.inl ⟨rfl, rfl⟩), rfl⟩
        · cases h; exact ⟨eq_run p q w hg e rfl rfl (.inr ⟨rfl, rfl⟩), rfl⟩
        · cases h
  · rename_i te i a j b hu
    rw [pick2_eq] at h
    split at h
    · rename_i hc
      simp only [Bool.and_eq_true, Nat.beq_eq] at hc
      obtain ⟨⟨rfl, rfl⟩, hsz⟩ := hc
      cases hx with
      | ptr _ _ r y hr =>
        cases hy with
        | ptr _ _ r2 y2 hr2 =>
          rw [hr] at hr2; cases hr2
          have e : (Op.equalIn (9999 + 1) t (.pointer (some ⟨r, a, none⟩)) (.pointer (some ⟨r, a, none⟩))).run P w = .ok true w := by
            obtain ⟨n, hn⟩ := Option.isSome_iff_exists.1 hsz
            obtain ⟨inf, hi, _⟩ := Option.map_eq_some_iff.1 hn
            unfold Op.equalIn
            simp [run_underlying hu, sizeOf, typeInfo, hi, run_sameAddr_same]
          have hg : ∀ op, (eqGuard op t p q (.pointer (some ⟨r, a, none⟩)) (.pointer (some ⟨r, a, none⟩))).run P w = .ok () w := fun op => by unfold eqGuard; cases op <;> rfl
          split at h
          · cases h; exact ⟨eq_run p q w hg e rfl rfl (.inl ⟨rfl, rfl⟩), rfl⟩
          · cases h; exact ⟨eq_run p q w hg e rfl rfl (.inr ⟨rfl, rfl⟩), rfl⟩
          · cases h
    · cases h
  · rename_i hu
    cases hx
    cases hy
    have e : (Op.equalIn (9999 + 1) t (.pointer none) (.pointer none)).run P w = .ok true w := by
      unfold Op.equalIn
      simp [run_underlying hu]
    have hg : ∀ op, (eqGuard op t p q (.pointer none) (.pointer none)).run P w = .ok () w := fun op => by unfold eqGuard; cases op <;> rfl
    split at h
    · cases h; exact ⟨eq_run p q w hg e rfl rfl (.inl ⟨rfl, rfl⟩), rfl⟩
    · cases h; exact ⟨eq_run p q w hg e rfl rfl (.inr ⟨rfl, rfl⟩), rfl⟩
    · cases h
  · cases h
theorem widen_run {d : TypeId} {x x' v : Value} (hx : VRel ρ x x') (h : widenA P d x = some v) (s : TypeId) (hs : ∃ q, P.underlying s = some q) (w : World) : (convert s d x').run P w = .ok v w ∧ addrFree v = true := by
  obtain ⟨q, hq⟩ := hs
  unfold widenA at h
  split at h
  · rename_i n hu
    cases hx
    rw [pick2_eq] at h
    split at h
    · rename_i hn
      cases h
      refine ⟨?_, rfl⟩
      have hn' : n ≤ 255 := by simpa [Nat.ble_eq] using hn
      have e : IntKind.i64.wrap (n : Int) = n := IntWalk.i64_in _ (by omega)
      simp [convert, run_underlying hq, run_underlying hu, Conv.intToInt, e]
    · cases h
  · rename_i n hu
    cases hx
    rw [pick2_eq] at h
    split at h
    · rename_i hn
      cases h
      refine ⟨?_, rfl⟩
      simp [convert, run_underlying hq, run_underlying hu, Conv.intToInt, inI64_spec hn]
    · cases h
  · cases h
theorem next1 : Extern.allNextRows.lookup "internal/abi.NoEscape" = none := by kernel_rfl
theorem next2 : Extern.allNextRows.lookup "" = none := by kernel_rfl
theorem row1 : Extern.allGenericRows.lookup "internal/abi.NoEscape" = none := by kernel_rfl
theorem row2 : Extern.allTypedRows.lookup "internal/abi.NoEscape" = none := by kernel_rfl
theorem row3 : Extern.allRows.lookup "internal/abi.NoEscape" = some Extern.AbiNoEscape.same := by kernel_rfl
theorem same_run {o : Oper} {ev' : Operand → Value} {f y : Operand} {ats : Array TypeId} {id : FuncId} {fn : Func} (hop : o.op = .call { callee := .value f, args := #[y], argTypes := ats }) (hg : ev' f = .func (.func id) #[] #[]) (hfn : c.P.funcs[id]? = some fn) (hb : ¬ fn.body.isSome = true) (hname : fn.name = "internal/abi.NoEscape") (horg : fn.origin = "") (w : World) :
    (execOp ev' o).run c.P w = .ok (.value (ev' y)) w := by
  have hb' : fn.body.isNone = true := by simpa using hb
  have e1 : Extern.findNext fn = none := by
    simp only [Extern.findNext, hname, horg]; rw [next1, next2]; rfl
  have e2 : Extern.find fn = some Extern.AbiNoEscape.same := by
    simp only [Extern.find, hname, horg]; rw [row1, row2, row3]; rfl
  have hn : ¬ (fn.name = "runtime.NumGoroutine") := by rw [hname]; decide
  have hb2 : fn.body = none := by simpa using hb'
  simp only [execOp, hop, resolve, Deferred.ofValue, hg, invoke, callFunc]
  have e3 : Extern.AbiNoEscape.same #[ev' y] = pure (ev' y) := rfl
  simp [hfn, hn, hb2, e1, e2, e3]
set_option maxHeartbeats 1000000 in
theorem Emb.freeze {c : Cx} {ρ : Ren} {H H' : Mem} {w : World} (he : Emb c ρ H w) {i r x n : Nat} {b : Blk} (hi : alive H i = some b) (hk : Ev.kill H i = some H') (hr : ρ i = some (r, x)) : Emb c ρ H' (w.freeze ⟨r, 0, none⟩ n) := by
  have hk2 := he.kill hk
  obtain ⟨k1, k2, k3, k4⟩ := kill_spec hk
  obtain ⟨hg, hl⟩ := alive_some hi
  have hB : c.own r := by
    obtain ⟨r', x', C, fr, s, h1, h2, _⟩ := he.blk i b hg hl
    rw [hr] at h1; cases h1
    rcases h2 with h2 | h2
    · exfalso
      unfold Ev.kill at hk
      rw [hg] at hk
      obtain ⟨_, h3, _⟩ := Mem.set_spec hk
      have := he.lk
      omega
    · exact h2
  refine ⟨hk2.stay.touch hB (Lib.below_freeze (Below.refl _ _) (p := ⟨r, 0, none⟩) hB.1 n) (fun k hk => freeze_other _ _ _ _ hk), by rw [freeze_size]; exact hk2.base, hk2.dom, hk2.lk, hk2.lsz, hk2.glob, fun j b' hj hl' => ?_, hk2.inj, fun j b' hj hm => (hk2.maps j b' hj hm).heap fun q es clock hh => by
    obtain ⟨r', x', C, fr, s, h1, h2, h3, _⟩ := he.blk i b hg hl
    rw [hr] at h1; cases h1
    rw [freeze_other _ _ _ _ (fun e => by subst e; rw [h3] at hh; cases hh; exact clock _ _ _ rfl)]; exact hh, hk2.minj, hk2.old⟩
  obtain ⟨r', x', C, fr, s, h1, h2, h3, h4⟩ := hk2.blk j b' hj hl'
  obtain ⟨hj0, hne⟩ := k3 j b' hj (.inl hl')
  have hrr : r' ≠ r := fun e => hne (by subst e; exact he.inj j i b' b r' x' x hj0 hl' hg hl h1 hr)
  exact ⟨r', x', C, fr, s, h1, h2, by rw [freeze_other _ _ _ _ hrr]; exact h3, h4⟩
theorem byte_list : ∀ {cs : List Value} {acc s : ByteArray}, cs.all isByteV = true → bytesA cs acc = some s → ∃ l : List UInt8, cs = l.map (fun b => Value.int .u8 b.toNat) ∧ s.data.toList = acc.data.toList ++ l
  | [], acc, s, _, h => by cases h; exact ⟨[], rfl, by simp⟩
  | v :: cs, acc, s, ha, h => by
    simp only [List.all_cons, Bool.and_eq_true] at ha
    obtain ⟨h1, h2⟩ := ha
    unfold isByteV at h1
    split at h1
    · rename_i n
      have hn : n ≤ 255 := Nat.le_of_ble_eq_true h1
      simp only [bytesA, byteOfV] at h
      obtain ⟨l, e1, e2⟩ := byte_list h2 h
      refine ⟨UInt8.ofNat n :: l, ?_, ?_⟩
      · rw [e1]
        simp only [List.map_cons, List.cons.injEq, Value.int.injEq, true_and, and_true]
        have : (UInt8.ofNat n).toNat = n := by simp [UInt8.toNat_ofNat']; omega
        rw [this]; rfl
      · rw [e2]; simp
    · cases h1
theorem ustr_ok {c : Cx} {ρ : Ren} {H H' : Mem} {w : World} (he : Emb c ρ H w) {pt : TypeId} {p p' n n' v : Value} (hp : VRel ρ p p') (hn : VRel ρ n n') (h : ustrA c.P H pt p n = some (v, H')) (it ty : TypeId) :
    ∃ w' v', Emb c ρ H' w' ∧ VRel ρ v v' ∧ (Builtin.unsafeString_ #[pt, it] ty #[p', n']).run c.P w = .ok v' w' := by
  unfold ustrA at h
  split at h
  · rename_i a
    cases h
    cases hn
    have hp' : ∃ a', p' = .pointer a' := by cases hp <;> exact ⟨_, rfl⟩
    obtain ⟨a', rfl⟩ := hp'
    exact ⟨w, _, he, .string _, Lib.run_unsafeString_none w pt it ty a'⟩
  · rename_i i m e hu
    split at h
    · rename_i b cs hb hcs
      rw [pick2_eq] at h
      split at h
      · rename_i hc
        simp only [Bool.and_eq_true, Nat.beq_eq, beq_iff_eq] at hc
        obtain ⟨⟨⟨hel, hce⟩, hm⟩, hall⟩ := hc
        have hm := Nat.le_of_ble_eq_true hm
        split at h
        · rename_i s H1 hs hk
          cases h
          cases hn
          cases hp with
          | ptr _ _ r y hr =>
            obtain ⟨l', h1, h2, h3⟩ := he.read hr hcs
            obtain ⟨l, e1, e2⟩ := byte_list hall hs
            have hlen : l.length = m + 1 := by
              have : cs.length = m + 1 := h2
              rw [e1] at this; simpa using this
            obtain ⟨hg, hl⟩ := alive_some hb
            obtain ⟨r', y', C, fr, sz, k1, k2, k3, k4, k5, ⟨ex, k6, _⟩, k7⟩ := he.blk i b hg hl
            rw [hr] at k1; cases k1
            have hsl : s = ⟨l.toArray⟩ := by
              cases s with
              | mk d => 
                have : d.toList = l := by simpa using e2
                rw [← this]
            refine ⟨w.freeze ⟨r, 0, none⟩ (m + 1), _, he.freeze hb hk hr, .string _, ?_⟩
            have hlc : l.length ≤ C.size := by
              rw [readCells_def] at hcs
              rw [hb] at hcs
              simp only at hcs
              split at hcs
              · rename_i hle; omega
              · cases hcs
            have hrun := Lib.run_unsafeString_row (P := c.P) w pt it ty e hu hce r C.size (by simp [World.shape?, k3, hel]) l (by intro h0; rw [h0] at hlen; simp at hlen) hlc (by omega) (fun j x hx => by
              have hj : cs[j]? = some (.int .u8 x.toNat) := by rw [e1]; simp [hx]
              obtain ⟨z, hz, hzr⟩ := h1.get hj
              cases hzr
              have := h3 j _ hz
              exact this)
            rw [hlen] at hrun
            rw [hsl]
            exact hrun
        · cases h
      · cases h
    · cases h
  · cases h
theorem opA_ok (he : Emb c ρ H w) {call : CallF} {o : Oper} {ev ev' : Operand → Value} (hev : EvR ρ ev ev' o.op) (hnc : ∀ cl, o.op = .call cl → ∀ f, cl.callee = .value f → opCall c.P call (ev f) (cl.args.toList.map ev) H = none) (hni : ∀ cl, o.op = .call cl → ∀ r m, cl.callee ≠ .invoke r m) {v : Value} {H' : Mem} (h : opA c.P call ev o H = some (v, H')) :
    OpOk c ρ o ev' w v H' := by
  have hpure : ∀ {v : Value}, pureA c.P ev o = some v → OpOk c ρ o ev' w v H := by
    intro v hu
    obtain ⟨v', h1, h2⟩ := pure_ok (P := c.P) hev hu w
    exact ⟨ρ, w, _, Ren.le_refl _, he, h2, .inl h1⟩
  have same : ∀ {v v' : Value}, VRel ρ v v' → (execOp ev' o).run c.P w = .ok (.value v') w → OpOk c ρ o ev' w v H := fun h1 h2 => ⟨ρ, w, _, Ren.le_refl _, he, h1, .inl h2⟩
  unfold opA at h
  split at h
  case h_1 x hop =>
    cases h
    exact same (hev x (by simp [hop, Op.operands])) (by simp [execOp, hop])
  case h_2 x hop =>
    cases h
    exact same (hev x (by simp [hop, Op.operands])) (by simp [execOp, hop])
  case h_3 cc x y hop =>
    unfold opPick at h
    split at h
    · rename_i t hc
      cases h
      have hcc := hev cc (by simp [hop, Op.operands])
      rw [hc] at hcc
      generalize hq : ev' cc = q at hcc
      cases hcc
      refine same (v' := if t then ev' x else ev' y) ?_ (by simp [execOp, hop, hq, asBool])
      cases t
      · exact hev y (by simp [hop, Op.operands])
      · exact hev x (by simp [hop, Op.operands])
    · cases h
  case h_4 op t x y yt hop =>
    unfold opBin at h
    obtain ⟨hwm, rfl⟩ := withMem_spec h
    have hx := hev x (by simp [hop, Op.operands])
    have hy := hev y (by simp [hop, Op.operands])
    rcases orElse_spec hwm with h | ⟨_, h⟩
    · obtain ⟨h1, h2, h3, h4⟩ := fast_run (P := c.P) h t x y w
      rw [← eq_of_free hx h3, ← eq_of_free hy h4] at h1
      refine same (refl_of_free _ h2) ?_
      simp only [execOp, hop]
      rw [Sem.run_bind, h1]; rfl
    · rcases orElse_spec h with h | ⟨_, h⟩
      · obtain ⟨h1, h2⟩ := nil_run (P := c.P) hx hy h x y w
        refine same (refl_of_free _ h2) ?_
        simp only [execOp, hop]
        rw [Sem.run_bind, h1]; rfl
      · exact hpure h
  case h_5 t hop =>
    obtain ⟨ρ', w', v', h1, h2, h3, h4⟩ := alloc_ok he h
    exact ⟨ρ', w', v', h1, h2, h3, .inl (by simp [execOp, hop, h4])⟩
  case h_6 t x hop =>
    obtain ⟨ρ', w', v', h1, h2, h3, h4⟩ := box_ok he (hev x (by simp [hop, Op.operands])) h
    exact ⟨ρ', w', v', h1, h2, h3, .inl (by simp [execOp, hop, h4])⟩
  case h_7 t ps hop =>
    obtain ⟨hu, rfl⟩ := withMem_spec h
    have hp := PR.parts (ev := ev) (ev' := ev') ps.toList fun q hq => hev q.2 (by simp [hop, Op.operands]; exact ⟨q.1, by simpa using hq⟩)
    obtain ⟨v', h1, h2⟩ := build_ok hp hu w
    refine same h2 ?_
    have e1 : (ps.map fun q => (q.1, ev' q.2)) = (ps.toList.map fun q => (q.1, ev' q.2)).toArray := by apply Array.ext'; simp
    simp only [execOp, hop]
    simp only [Sem.run_bind]
    have : (Instr.build t (ps.map fun (i, x) => (i, ev' x))).run c.P w = .ok v' w := by
      rw [← h1, ← e1]
    rw [this]; rfl
  case h_8 t len ps hop =>
    have hp := PR.parts (ev := ev) (ev' := ev') ps.toList fun q hq => hev q.2 (by simp [hop, Op.operands]; exact ⟨q.1, by simpa using hq⟩)
    obtain ⟨ρ', w', v', h1, h2, h3, h4⟩ := buildSlice_ok he hp h
    refine ⟨ρ', w', v', h1, h2, h3, .inl ?_⟩
    have e1 : (ps.map fun q => (q.1, ev' q.2)) = (ps.toList.map fun q => (q.1, ev' q.2)).toArray := by apply Array.ext'; simp
    simp only [execOp, hop]
    simp only [Sem.run_bind]
    have : (Instr.buildSlice t len (ps.map fun (i, x) => (i, ev' x))).run c.P w = .ok v' w' := by
      rw [← h4, ← e1]
    rw [this]; rfl
  case h_9 t x hop =>
    obtain ⟨hu, rfl⟩ := withMem_spec h
    obtain ⟨v', h1, h2⟩ := load_ok he (hev x (by simp [hop, Op.operands])) hu
    exact same h2 (by simp [execOp, hop, h1])
  case h_10 t x y hop =>
    unfold opStore at h
    split at h
    · rename_i H1 hu
      cases h
      obtain ⟨w', h1, h2⟩ := store_ok he (hev x (by simp [hop, Op.operands])) (hev y (by simp [hop, Op.operands])) hu
      exact ⟨ρ, w', undef, Ren.le_refl _, h2, .undef, .inr ⟨by simp [execOp, hop, h1], rfl⟩⟩
    · cases h
  case h_11 x hop =>
    have hx := hev x (by simp [hop, Op.operands])
    unfold opNilCheck at h
    split at h
    · rename_i q hq
      cases h
      rw [hq] at hx
      generalize hq' : ev' x = q' at hx
      cases hx with
      | ptr i off r y hr => exact same (.ptr _ _ _ _ hr) (by simp [execOp, hop, hq'])
    · rename_i f p1 p2 hq
      cases h
      rw [hq] at hx
      generalize hq' : ev' x = q' at hx
      cases hx with
      | func _ _ a' _ b' sa ha sb hb hy => exact same (.func _ _ a' _ b' sa ha sb hb hy) (by simp [execOp, hop, hq'])
    · rename_i f p1 p2 hq
      cases h
      rw [hq] at hx
      generalize hq' : ev' x = q' at hx
      cases hx with
      | func _ _ a' _ b' sa ha sb hb hy => cases hy
      | yield _ r x h => exact same (.yield _ r x h) (by simp [execOp, hop, hq'])
    · cases h
  case h_12 s x f hop =>
    obtain ⟨hu, rfl⟩ := withMem_spec h
    obtain ⟨v', h1, h2⟩ := fieldAddr_ok (P := c.P) (hev x (by simp [hop, Op.operands])) hu w
    exact same h2 (by simp [execOp, hop, h1])
  case h_13 t x ix hop =>
    obtain ⟨hu, rfl⟩ := withMem_spec h
    obtain ⟨v', h1, h2⟩ := idx_ok (P := c.P) (hev x (by simp [hop, Op.operands])) (hev ix (by simp [hop, Op.operands])) hu w
    exact same h2 (by simp [execOp, hop, h1])
  case h_14 x k hop =>
    have hx := hev x (by simp [hop, Op.operands])
    unfold opExtract at h
    split at h
    · rename_i vs hq
      obtain ⟨hu, rfl⟩ := withMem_spec h
      rw [hq] at hx
      generalize hq' : ev' x = q' at hx
      cases hx with
      | tuple _ vs' sa ha =>
        have hu' : vs[k]? = some v := by simpa using hu
        have hlt : k < vs.size := (Array.getElem?_eq_some_iff.1 hu').1
        have hlt' : k < vs'.size := sa ▸ hlt
        exact same (v' := vs'[k]) (ha k _ _ hu' (by simp [hlt'])) (by simp [execOp, hop, hq', Instr.extract, hlt'])
    · cases h
  case h_15 t l cp hop =>
    obtain ⟨ρ', w', v', h1, h2, h3, h4⟩ := makeSlice_ok he (hev l (by simp [hop, Op.operands])) (hev cp (by simp [hop, Op.operands])) h
    exact ⟨ρ', w', v', h1, h2, h3, .inl (by simp [execOp, hop, h4])⟩
  case h_16 fn first captured hop =>
    rw [pick2_eq] at h
    split at h
    case isFalse => cases h
    rename_i hny
    cases h
    have h1 := AR.map (ev := ev) (ev' := ev') first fun y hy => hev y (by simp [hop, Op.operands, hy])
    have h2 := AR.map (ev := ev) (ev' := ev') captured fun y hy => hev y (by simp [hop, Op.operands, hy])
    exact same (.func fn _ _ _ _ h1.1 h1.2 h2.1 h2.2 hny) (by simp [execOp, hop, Instr.makeFunc])
  case h_17 t x lo hi hop =>
    unfold opSlice at h
    rw [pick2_eq] at h
    split at h
    · obtain ⟨hwm, rfl⟩ := withMem_spec h
      have hlo := or_map (ev := ev) (ev' := ev') lo fun y hy => hev y (by simp [hop, Op.operands, hy])
      have hhi := or_map (ev := ev) (ev' := ev') hi fun y hy => hev y (by simp [hop, Op.operands, hy])
      obtain ⟨v', h1, h2⟩ := arrSlice_ok he (hev x (by simp [hop, Op.operands])) hlo hhi hwm
      exact same h2 (by simp [execOp, hop, h1])
    obtain ⟨hwm, rfl⟩ := withMem_spec h
    rcases orElse_spec hwm with h | ⟨_, h⟩
    · have hlo := or_map (ev := ev) (ev' := ev') lo fun y hy => hev y (by simp [hop, Op.operands, hy])
      have hhi := or_map (ev := ev) (ev' := ev') hi fun y hy => hev y (by simp [hop, Op.operands, hy])
      obtain ⟨v', h1, h2⟩ := slice_ok (P := c.P) (hev x (by simp [hop, Op.operands])) hlo hhi h w
      exact same h2 (by simp [execOp, hop, h1])
    · exact hpure h
  case h_18 t x f hop =>
    obtain ⟨hu, rfl⟩ := withMem_spec h
    obtain ⟨v', h1, h2⟩ := fieldV_ok (P := c.P) (hev x (by simp [hop, Op.operands])) hu w
    exact same h2 (by simp [execOp, hop, h1])
  case h_19 t x ix hop =>
    unfold opIndex at h
    obtain ⟨hwm, rfl⟩ := withMem_spec h
    rcases orElse_spec hwm with h | ⟨_, h⟩
    · obtain ⟨v', h1, h2⟩ := indexStr_ok (P := c.P) (hev x (by simp [hop, Op.operands])) (hev ix (by simp [hop, Op.operands])) h w
      exact same h2 (by simp [execOp, hop, h1])
    · rcases orElse_spec h with h | ⟨_, h⟩
      · obtain ⟨v', h1, h2⟩ := indexV_ok (P := c.P) (hev x (by simp [hop, Op.operands])) (hev ix (by simp [hop, Op.operands])) h w
        exact same h2 (by simp [execOp, hop, h1])
      · exact hpure h
  case h_20 s d x hop =>
    unfold opConvert at h
    split at h
    · rename_i u hu
      cases h
      rcases orElse_spec hu with hu | ⟨_, hu⟩
      · split at hu
        · rename_i q hq
          obtain ⟨h1, h2⟩ := widen_run (P := c.P) (hev x (by simp [hop, Op.operands])) hu s ⟨q, hq⟩ w
          exact same (refl_of_free _ h2) (by simp [execOp, hop, h1])
        · cases hu
      · exact hpure hu
    · obtain ⟨ρ', w', v', h1, h2, h3, h4⟩ := convert_ok he (hev x (by simp [hop, Op.operands])) h
      exact ⟨ρ', w', v', h1, h2, h3, .inl (by simp [execOp, hop, h4])⟩
  case h_21 cl hop =>
    unfold opCalls at h
    split at h
    · rename_i f hf
      rw [hnc cl hop f hf] at h
      simp only at h
      have hfr := hev f (by simp [hop, hf, Op.operands, Call.operands])
      obtain ⟨callee, args, ats⟩ := cl
      simp only at hf h
      subst hf
      unfold opExt at h
      split at h
      · rename_i x hx
        rw [pick2_eq] at h
        split at h
        · rename_i hsame
          simp only [Option.some.injEq, Prod.mk.injEq] at h
          obtain ⟨hvx, rfl⟩ := h
          obtain ⟨y, hy, rfl⟩ : ∃ y, args = #[y] ∧ ev y = v := by
            have : args.toList.length = 1 := by have := congrArg List.length hx; simpa using this
            match hl : args.toList, this with
            | [y], _ =>
              rw [hl] at hx
              exact ⟨y, by rw [← Array.toArray_toList (xs := args), hl], by rw [← hvx]; simpa using hx⟩
          subst hy
          unfold isSame at hsame
          split at hsame
          · rename_i id hfv
            split at hsame
            · rename_i fn hfn
              rw [pick2_eq] at hsame
              split at hsame
              · cases hsame
              · rename_i hb
                rw [hfv] at hfr
                generalize hg' : ev' f = g' at hfr
                cases hfr with
                | func _ _ first' _ captured' s1 _ s2 _ _ =>
                  have e1 : first' = #[] := Array.eq_empty_of_size_eq_zero (by simpa using s1.symm)
                  have e2 : captured' = #[] := Array.eq_empty_of_size_eq_zero (by simpa using s2.symm)
                  subst e1 e2
                  have hname : fn.name = "internal/abi.NoEscape" ∧ fn.origin = "" := by simpa using hsame
                  refine same (hev y (by simp [hop, Op.operands, Call.operands])) ?_
                  exact same_run hop hg' hfn hb hname.1 hname.2 w
            · cases hsame
          · cases hsame
        · obtain ⟨hu, rfl⟩ := withMem_spec h
          exact hpure hu
      · obtain ⟨hu, rfl⟩ := withMem_spec h
        exact hpure hu
    · rename_i b hb
      obtain ⟨callee, args, ats⟩ := cl
      simp only at hb
      subst hb
      have harg : ∀ x ∈ args, VRel ρ (ev x) (ev' x) := fun x hx => hev x (by simp [hop, Op.operands, Call.operands]; exact hx)
      unfold opBuiltin at h
      split at h
      · unfold opLen at h
        split at h
        · rename_i x t hx0 ht0
          simp only at hx0 ht0
          obtain ⟨hwm, rfl⟩ := withMem_spec h
          rcases orElse_spec hwm with h | ⟨_, h⟩
          · have hx := harg x (Array.mem_of_getElem? hx0)
            unfold lenOfA at h
            split at h
            · rename_i e q n cc hu hq
              cases h
              rw [hq] at hx
              have hlen : ∃ q' c', ev' x = .slice q' n c' := by
                generalize ev' x = z at hx
                cases hx <;> exact ⟨_, _, rfl⟩
              obtain ⟨q', c', hq'⟩ := hlen
              exact same (.int _ _) (by simp [execOp, hop, resolve, invoke, builtin, Builtin.len_, ht0, hx0, run_underlying hu, hq', goInt])
            · rename_i s hu hq
              cases h
              rw [hq] at hx
              have hq' : ev' x = .string s := by
                generalize ev' x = z at hx
                cases hx; rfl
              exact same (.int _ _) (by simp [execOp, hop, resolve, invoke, builtin, Builtin.len_, ht0, hx0, run_underlying hu, hq', goInt])
            · cases h
          · exact hpure h
        · cases h
      · unfold opAppend at h
        split at h
        · rename_i s x st xt hs0 hx0 hst hxt
          have h1 := harg s (Array.mem_of_getElem? hs0)
          have h2 := harg x (Array.mem_of_getElem? hx0)
          obtain ⟨ρ', w', v', k1, k2, k3, k4⟩ := append_ok (ty := o.type) (as := args.map ev') he hst hxt (by simp [hs0]) (by simp [hx0]) h1 h2 h
          exact ⟨ρ', w', v', k1, k2, k3, .inl (by simp [execOp, hop, resolve, invoke, builtin, k4])⟩
        · cases h
      · unfold opCopy at h
        split at h
        · rename_i d x dt hd0 hx0 hdt
          have h1 := harg d (Array.mem_of_getElem? hd0)
          have h2 := harg x (Array.mem_of_getElem? hx0)
          obtain ⟨w', v', k2, k3, k4⟩ := copy_ok (ty := o.type) (as := args.map ev') he hdt (by simp [hd0]) (by simp [hx0]) h1 h2 h
          exact ⟨ρ, w', v', Ren.le_refl _, k2, k3, .inl (by simp [execOp, hop, resolve, invoke, builtin, k4])⟩
        · cases h
      · unfold opCap at h
        split at h
        · rename_i x t hx0 ht0
          simp only at hx0 ht0
          obtain ⟨hwm, rfl⟩ := withMem_spec h
          have hx := harg x (Array.mem_of_getElem? hx0)
          unfold capA at hwm
          split at hwm
          · rename_i e i off n cc hu hq
            split at hwm
            · rename_i b hb
              rw [pick2_eq] at hwm
              split at hwm
              · rename_i hfix
                cases hwm
                rw [hq] at hx
                have hlen : ∃ q', ev' x = .slice q' n cc := by
                  generalize ev' x = z at hx
                  cases hx with
                  | slice _ _ _ _ r y hr =>
                    obtain ⟨hg, hl⟩ := alive_some hb
                    obtain ⟨r', y', C, fr, s, k1, k2, k3, k4, ⟨k5, k6⟩, k7⟩ := he.blk i b hg hl
                    rw [hr] at k1; cases k1
                    have := k6 hfix
                    subst this
                    exact ⟨_, rfl⟩
                obtain ⟨q', hq'⟩ := hlen
                exact same (.int _ _) (by simp [execOp, hop, resolve, invoke, builtin, Builtin.cap_, ht0, hx0, run_underlying hu, hq', goInt])
              · cases hwm
            · cases hwm
          · rename_i e n cc hu hq
            cases hwm
            rw [hq] at hx
            have hq' : ev' x = .slice none n cc := by
              generalize ev' x = z at hx
              cases hx; rfl
            exact same (.int _ _) (by simp [execOp, hop, resolve, invoke, builtin, Builtin.cap_, ht0, hx0, run_underlying hu, hq', goInt])
          · cases hwm
        · cases h
      · unfold opSliceData at h
        split at h
        · rename_i x hx0
          obtain ⟨hwm, rfl⟩ := withMem_spec h
          have hargs : args = #[x] := by rw [← Array.toArray_toList (xs := args), hx0]
          subst hargs
          have hx := harg x (by simp)
          unfold sliceDataA at hwm
          split at hwm
          · rename_i a n cc hq
            rw [pick2_eq] at hwm
            split at hwm
            · cases hwm
            · rename_i hc0
              cases hwm
              rw [hq] at hx
              generalize hz : ev' x = z at hx
              cases hx with
              | void a' => exact absurd rfl hc0
              | hid => exact absurd rfl hc0
              | slice i off _ _ r y hr =>
                have hc1 : cc + y ≠ 0 := by
                  have : cc ≠ 0 := fun h0 => hc0 (by rw [h0]; rfl)
                  omega
                exact same (.ptr i off r y hr) (by simp [execOp, hop, resolve, invoke, builtin, hz, Lib.run_unsafeSliceData_row w _ _ _ _ _ hc1])
          · rename_i n cc hq
            cases hwm
            rw [hq] at hx
            generalize hz : ev' x = z at hx
            cases hx
            exact same .ptrNil (by simp [execOp, hop, resolve, invoke, builtin, hz, Lib.run_unsafeSliceData_nil w])
          · cases hwm
        · cases h
      · unfold opUStr at h
        split at h
        · rename_i p n pt it hx0 ht0
          have hargs : args = #[p, n] := by rw [← Array.toArray_toList (xs := args), hx0]
          have hats : ats = #[pt, it] := by rw [← Array.toArray_toList (xs := ats), ht0]
          subst hargs hats
          obtain ⟨w', v', k1, k2, k3⟩ := ustr_ok he (harg p (by simp)) (harg n (by simp)) h it o.type
          exact ⟨ρ, w', v', Ren.le_refl _, k1, k2, .inl (by simp [execOp, hop, resolve, invoke, builtin, k3])⟩
        · cases h
      · obtain ⟨hu, rfl⟩ := withMem_spec h
        exact hpure hu
    · rename_i r m hm
      exact absurd hm (hni cl hop r m)
  case h_22 t r hop =>
    have hr := or_map (ev := ev) (ev' := ev') r fun y hy => hev y (by simp [hop, Op.operands, hy])
    obtain ⟨ρ', w', v', h1, h2, h3, h4⟩ := makeMap_ok he hr h
    exact ⟨ρ', w', v', h1, h2, h3, .inl (by simp [execOp, hop, h4])⟩
  case h_23 t x k ok hop =>
    obtain ⟨hu, rfl⟩ := withMem_spec h
    obtain ⟨v', h1, h2⟩ := look_ok he (hev x (by simp [hop, Op.operands])) (hev k (by simp [hop, Op.operands])) hu
    exact same h2 (by simp [execOp, hop, h1])
  case h_24 t m k x hop =>
    obtain ⟨w', h1, h2, rfl⟩ := mapSet_ok he (hev m (by simp [hop, Op.operands])) (hev k (by simp [hop, Op.operands])) (hev x (by simp [hop, Op.operands])) h
    exact ⟨ρ, w', undef, Ren.le_refl _, h1, .undef, .inr ⟨by simp [execOp, hop, h2], rfl⟩⟩
  case h_25 t m k x hop =>
    obtain ⟨w', h1, h2, rfl⟩ := mapSet_ok he (hev m (by simp [hop, Op.operands])) (hev k (by simp [hop, Op.operands])) (hev x (by simp [hop, Op.operands])) h
    exact ⟨ρ, w', undef, Ren.le_refl _, h1, .undef, .inr ⟨by simp [execOp, hop, h2], rfl⟩⟩
  case h_26 =>
    unfold opRest at h
    split at h
    · rename_i t x hop
      obtain ⟨ρ', w', v', h1, h2, h3, h4⟩ := range_itr he (hev x (by simp [hop, Op.operands])) h
      exact ⟨ρ', w', v', h1, h2, h3, .inl (by simp [execOp, hop, h4])⟩
    · rename_i x s hop
      obtain ⟨w', v', h2, h3, h4⟩ := next_itr he (hev x (by simp [hop, Op.operands])) o.type h
      exact ⟨ρ, w', v', Ren.le_refl _, h2, h3, .inl (by simp [execOp, hop, h4])⟩
    · rename_i x hop
      obtain ⟨rfl, v', h3, h4⟩ := entry_itr he (hev x (by simp [hop, Op.operands])) h
      exact same h3 (by simp [execOp, hop, h4])
    · rename_i t x hi m hop
      obtain ⟨ρ', v', h1, h2, h3, h4⟩ := slice3_ok he (hev x (by simp [hop, Op.operands])) (hev hi (by simp [hop, Op.operands])) (hev m (by simp [hop, Op.operands])) h
      exact ⟨ρ', w, v', h1, h2, h3, .inl (by simp [execOp, hop, h4])⟩
    · obtain ⟨hu, rfl⟩ := withMem_spec h
      exact hpure hu
/-! ### Floats that are none -/
theorem flOf_rel {x x' : Value} {a : Option Nat} (h : flOf x = some a) (hx : VRel ρ x x') : ∃ n, x' = .float .f64 n ∧ FlR a n := by
  unfold flOf at h
  split at h
  · cases h; cases hx; exact ⟨_, rfl, rfl⟩
  · cases h; cases hx with
    | nan m hm => exact ⟨m, rfl, hm⟩
  · cases h
theorem flV_rel {a : Option Nat} {n : Nat} (h : FlR a n) : VRel ρ (flV a) (.float .f64 n) := by
  cases a with
  | none => exact .nan n h
  | some m => cases h; exact .float _ _
theorem codeN_un (a : Option Nat) : uncodeN (codeN a) = a := by cases a <;> rfl
theorem unTwo_two (b : Nat) : ∀ (a f : Nat), a < f → unTwo f (twoN a b) = (a, b)
  | 0, f + 1, _ => by
    have e : twoN 0 b = 2 * b + 1 := by simp [twoN]
    have h1 : (2 * b + 1) % 2 = 1 := by omega
    have h2 : (2 * b + 1) / 2 = b := by omega
    show pick2 (Nat.beq (twoN 0 b % 2) 0) _ (0, twoN 0 b / 2) = _
    rw [e, h1, h2]; rfl
  | a + 1, f + 1, h => by
    have e : twoN (a + 1) b = 2 * twoN a b := by
      unfold twoN
      rw [Nat.pow_succ, Nat.mul_comm (2 ^ a) 2, Nat.mul_assoc]
    have h1 : (2 * twoN a b) % 2 = 0 := by omega
    have h2 : (2 * twoN a b) / 2 = twoN a b := by omega
    show pick2 (Nat.beq (twoN (a + 1) b % 2) 0) ((unTwo f (twoN (a + 1) b / 2)).1 + 1, (unTwo f (twoN (a + 1) b / 2)).2) _ = _
    rw [e, h1, h2, unTwo_two b a f (by omega)]; rfl
theorem unTwo_self (a b : Nat) : unTwo (twoN a b) (twoN a b) = (a, b) := by
  refine unTwo_two b a _ ?_
  have h1 : a < 2 ^ a := Nat.lt_two_pow_self
  have h2 : 2 ^ a * 1 ≤ 2 ^ a * (2 * b + 1) := Nat.mul_le_mul_left _ (by omega)
  unfold twoN
  omega
theorem cxV_rel {a b : Option Nat} {x y : Nat} (hx : FlR a x) (hy : FlR b y) : VRel ρ (cxV a b) (.complex .f64 x y) := by
  have code : VRel ρ (.chan (some (twoN (codeN a) (codeN b) + 2))) (.complex .f64 x y) := .cpx _ _ _ (by rw [unTwo_self, codeN_un]; exact hx) (by rw [unTwo_self, codeN_un]; exact hy)
  cases a with
  | none => exact code
  | some a => cases b with
    | none => exact code
    | some b => cases hx; cases hy; exact .complex _ _ _
theorem cxOf_rel {x x' : Value} {q : Option Nat × Option Nat} (h : cxOf x = some q) (hx : VRel ρ x x') : ∃ m n, x' = .complex .f64 m n ∧ FlR q.1 m ∧ FlR q.2 n := by
  unfold cxOf at h
  split at h
  · cases h; cases hx; exact ⟨_, _, rfl, rfl, rfl⟩
  · cases h; cases hx with
    | cpx k x y h1 h2 => exact ⟨x, y, rfl, h1, h2⟩
  · cases h
theorem nan_read {m : Nat} (h : NanP m) : ∃ s f, Ieee.double.read m = .nan s f := by
  unfold NanP Ieee.Datum.isNaN at h
  split at h
  · rename_i s f he; exact ⟨s, f, he⟩
  · cases h
theorem sum_nan (d : Ieee.Datum) (s : Bool) (f : Nat) : d.sum (.nan s f) = none := by cases d <;> rfl
theorem product_nan (d : Ieee.Datum) (s : Bool) (f : Nat) : d.product (.nan s f) = none := by cases d <;> rfl
theorem fop_add {a b : Option Nat} {x y : Nat} (hx : FlR a x) (hy : FlR b y) : Ieee.double.add x y = fop .add a b := by
  unfold Ieee.Format.add
  cases a with
  | none => obtain ⟨s, f, he⟩ := nan_read hx; rw [he]; rfl
  | some a => cases b with
    | none => obtain ⟨s, f, he⟩ := nan_read hy; rw [he, sum_nan]; rfl
    | some b => cases hx; cases hy; rfl
theorem fop_sub {a b : Option Nat} {x y : Nat} (hx : FlR a x) (hy : FlR b y) : Ieee.double.sub x y = fop .sub a b := by
  unfold Ieee.Format.sub
  cases a with
  | none => obtain ⟨s, f, he⟩ := nan_read hx; rw [he]; rfl
  | some a => cases b with
    | none =>
      obtain ⟨s, f, he⟩ := nan_read hy
      rw [he]
      show Option.map _ (Ieee.Datum.sum _ (.nan (!s) f)) = _
      rw [sum_nan]; rfl
    | some b => cases hx; cases hy; rfl
theorem fop_mul {a b : Option Nat} {x y : Nat} (hx : FlR a x) (hy : FlR b y) : Ieee.double.mul x y = fop .mul a b := by
  unfold Ieee.Format.mul
  cases a with
  | none => obtain ⟨s, f, he⟩ := nan_read hx; rw [he]; rfl
  | some a => cases b with
    | none => obtain ⟨s, f, he⟩ := nan_read hy; rw [he, product_nan]; rfl
    | some b => cases hx; cases hy; rfl
theorem order_nan {x y : Nat} (h : NanP x ∨ NanP y) : Ieee.double.order x y = none := by
  unfold Ieee.Format.order
  rcases h with h | h
  · obtain ⟨s, f, he⟩ := nan_read h; rw [he]; rfl
  · obtain ⟨s, f, he⟩ := nan_read h
    rw [he]
    cases Ieee.double.read x <;> rfl
theorem cut_nan (x y t : Nat) : NanP ((Question.nanBits .f64 x y).cut t) := by
  show NanP ((t % 2) * 2 ^ 63 + 0x7ff0000000000000 + 1 + (t / 2) % (2 ^ 52 - 1))
  have h1 : (t / 2) % (2 ^ 52 - 1) < 2 ^ 52 - 1 := Nat.mod_lt _ (by decide)
  generalize (t / 2) % (2 ^ 52 - 1) = r at *
  have h2 : ((t % 2) * 2 ^ 63 + 0x7ff0000000000000 + 1 + r) % 9223372036854775808 = 0x7ff0000000000001 + r := by omega
  unfold NanP Ieee.Format.read
  have e1 : Ieee.double.signWeight = 9223372036854775808 := by decide
  have e2 : Ieee.double.binade = 4503599627370496 := by decide
  have e3 : Ieee.double.infRung = 9218868437227405312 := by decide
  simp only [e1, e2, e3, h2]
  rw [if_neg (by omega), if_neg (by omega), if_neg (by omega)]
  rfl
theorem draw_run {α : Type} (P : Program) (w : World) (x y : Nat) (k : Nat → Sem α) : (Sem.choose (.nanBits .f64 x y) k).run P w = (k ((Question.nanBits .f64 x y).cut (w.tape w.drawn (.nanBits .f64 x y)))).run P w.drew := rfl
theorem arith_run {op : BinOp} {f : Nat → Nat → Option Nat} (hop : ∀ x y, Op.floatArith op .f64 x y = (match f x y with | some r => pure (.float .f64 r) | none => (do pure (.float .f64 (← choose (.nanBits .f64 x y))) : Sem Value))) {a : Option Nat} {x y : Nat} (h : f x y = a) (he : Emb c ρ H w) :
    ∃ n w', (Op.floatArith op .f64 x y).run c.P w = .ok (.float .f64 n) w' ∧ FlR a n ∧ Emb c ρ H w' := by
  rw [hop, h]
  cases a with
  | some r => exact ⟨r, w, rfl, rfl, he⟩
  | none => exact ⟨_, _, draw_run _ _ _ _ _, cut_nan _ _ _, he.drew⟩
theorem row4 : Extern.allNextRows.lookup "math.Float64bits" = none := by kernel_rfl
theorem row5 : Extern.allGenericRows.lookup "math.Float64bits" = none := by kernel_rfl
theorem row6 : Extern.allTypedRows.lookup "math.Float64bits" = none := by kernel_rfl
theorem row7 : Extern.allRows.lookup "math.Float64bits" = some Extern.MathFloatBits.float64bits := by kernel_rfl
theorem bits_run {o : Oper} {ev' : Operand → Value} {f y : Operand} {ats : Array TypeId} {id : FuncId} {fn : Func} (hop : o.op = .call { callee := .value f, args := #[y], argTypes := ats }) (hg : ev' f = .func (.func id) #[] #[]) (hfn : c.P.funcs[id]? = some fn) (hb : ¬ fn.body.isSome = true) (hname : fn.name = "math.Float64bits") (horg : fn.origin = "") {n : Nat} (hy : ev' y = .float .f64 n) (w : World) :
    (execOp ev' o).run c.P w = .ok (.value (.int .u64 n)) w := by
  have hb' : fn.body.isNone = true := by simpa using hb
  have e1 : Extern.findNext fn = none := by
    simp only [Extern.findNext, hname, horg]; rw [row4, next2]; rfl
  have e2 : Extern.find fn = some Extern.MathFloatBits.float64bits := by
    simp only [Extern.find, hname, horg]; rw [row5, row6, row7]; rfl
  have hn : ¬ (fn.name = "runtime.NumGoroutine") := by rw [hname]; decide
  have hb2 : fn.body = none := by simpa using hb'
  simp only [execOp, hop, resolve, Deferred.ofValue, hg, invoke, callFunc]
  have e3 : Extern.MathFloatBits.float64bits #[ev' y] = pure (.int .u64 n) := by rw [hy]; rfl
  simp [hfn, hn, hb2, e1, e2, e3]
theorem bin_run {o : Oper} {ev' : Operand → Value} {op : BinOp} {t yt : TypeId} {x y : Operand} {m n : Nat} (hop : o.op = .binOp op t x y yt) (hx : ev' x = .float .f64 m) (hy : ev' y = .float .f64 n) {s : Sem Value} (hs : binOp op t (.float .f64 m) (.float .f64 n) = s) {v : Value} {w w' : World} (h : s.run c.P w = .ok v w') :
    (execOp ev' o).run c.P w = .ok (.value v) w' := by
  subst hs
  have hg : eqGuard op t x y (.float .f64 m) (.float .f64 n) = pure () := by cases op <;> rfl
  simp only [execOp, hop, hx, hy, hg]
  simp [h]
theorem complex_eq (ats : Array TypeId) (t : TypeId) (m n : Nat) : Builtin.complex_ ats t #[.float .f64 m, .float .f64 n] = pure (.complex .f64 m n) := rfl
theorem real_eq (ats : Array TypeId) (t : TypeId) (m n : Nat) : Builtin.real_ ats t #[.complex .f64 m n] = pure (.float .f64 m) := rfl
theorem imag_eq (ats : Array TypeId) (t : TypeId) (m n : Nat) : Builtin.imag_ ats t #[.complex .f64 m n] = pure (.float .f64 n) := rfl
theorem nan_ok (he : Emb c ρ H w) {o : Oper} {ev ev' : Operand → Value} (hev : EvR ρ ev ev' o.op) {v : Value} (h : nanA c.P ev o = some v) : OpOk c ρ o ev' w v H := by
  unfold nanA at h
  split at h
  · rename_i op t x y yt hop
    have hx := hev x (by simp [hop, Op.operands])
    have hy := hev y (by simp [hop, Op.operands])
    unfold nanBin at h
    split at h
    case h_2 => cases h
    rename_i a b ha hb
    obtain ⟨m, em, hm⟩ := flOf_rel ha hx
    obtain ⟨n, en, hn⟩ := flOf_rel hb hy
    have ari : ∀ {q : Option Nat}, (∃ r w', (binOp op t (.float .f64 m) (.float .f64 n)).run c.P w = .ok (.float .f64 r) w' ∧ FlR q r ∧ Emb c ρ H w') → OpOk c ρ o ev' w (flV q) H := by
      rintro q ⟨r, w', h1, h2, h3⟩
      exact ⟨ρ, w', _, Ren.le_refl _, h3, flV_rel h2, .inl (bin_run hop em en rfl h1)⟩
    split at h
    · cases h; exact ari (arith_run (op := .add) (fun x y => by rfl) (fop_add hm hn) he)
    · cases h; exact ari (arith_run (op := .sub) (fun x y => by rfl) (fop_sub hm hn) he)
    · cases h; exact ari (arith_run (op := .mul) (fun x y => by rfl) (fop_mul hm hn) he)
    · split at h
      · cases h
      · rename_i hno
        cases h
        have ho : Ieee.double.order m n = none := by
          refine order_nan ?_
          cases a with
          | none => exact .inl hm
          | some a => cases b with
            | none => exact .inr hn
            | some b => exact absurd rfl (hno a b rfl)
        refine ⟨ρ, w, _, Ren.le_refl _, he, .bool true, .inl (bin_run hop em en rfl ?_)⟩
        show (Op.floatCmp .neq .f64 m n).run c.P w = _
        have : Op.floatCmp .neq .f64 m n = pure (.bool (Ieee.double.order m n != some .eq)) := rfl
        rw [this, ho]; rfl
    · cases h
  · rename_i cl hop
    obtain ⟨callee, args, ats⟩ := cl
    have harg : ∀ x ∈ args, VRel ρ (ev x) (ev' x) := fun x hx => hev x (by simp [hop, Op.operands, Call.operands]; exact .inr hx)
    have one : ∀ {v : Value}, args.toList.map ev = [v] → ∃ p, args = #[p] ∧ ev p = v := fun h => by
      obtain ⟨l⟩ := args
      match l, h with
      | [p], h => exact ⟨p, rfl, by simpa using h⟩
    have two : ∀ {v u : Value}, args.toList.map ev = [v, u] → ∃ p q, args = #[p, q] ∧ ev p = v ∧ ev q = u := fun h => by
      obtain ⟨l⟩ := args
      match l, h with
      | [p, q], h => exact ⟨p, q, rfl, by simpa using h⟩
    simp only at h
    split at h
    · rename_i x y hl
      obtain ⟨p, q, rfl, rfl, rfl⟩ := two hl
      split at h
      · rename_i a b ha hb
        cases h
        obtain ⟨m, em, hm⟩ := flOf_rel ha (harg p (by simp))
        obtain ⟨n, en, hn⟩ := flOf_rel hb (harg q (by simp))
        exact ⟨ρ, w, _, Ren.le_refl _, he, cxV_rel hm hn, .inl (by simp [execOp, hop, resolve, em, en, invoke, builtin, complex_eq])⟩
      · cases h
    · rename_i x hl
      obtain ⟨p, rfl, rfl⟩ := one hl
      split at h
      · rename_i q hq
        cases h
        obtain ⟨m, n, em, h1, h2⟩ := cxOf_rel hq (harg p (by simp))
        exact ⟨ρ, w, _, Ren.le_refl _, he, flV_rel h1, .inl (by simp [execOp, hop, resolve, em, invoke, builtin, real_eq])⟩
      · cases h
    · rename_i x hl
      obtain ⟨p, rfl, rfl⟩ := one hl
      split at h
      · rename_i q hq
        cases h
        obtain ⟨m, n, em, h1, h2⟩ := cxOf_rel hq (harg p (by simp))
        exact ⟨ρ, w, _, Ren.le_refl _, he, flV_rel h2, .inl (by simp [execOp, hop, resolve, em, invoke, builtin, imag_eq])⟩
      · cases h
    · rename_i f hl
      obtain ⟨p, rfl, hp⟩ := one hl
      rw [pick2_eq] at h
      split at h
      · rename_i hb
        cases h
        have hf := hev f (by simp [hop, Op.operands, Call.operands])
        have hx := harg p (by simp)
        rw [hp] at hx
        generalize hq : ev' p = q at hx
        cases hx with
        | nan m hm =>
          unfold isBits at hb
          split at hb
          · rename_i id hg
            rw [hg] at hf
            generalize hg' : ev' f = g at hf
            cases hf with
            | func fn a a' b b' sa ha sb hb2 _ =>
              obtain rfl : a' = #[] := Array.eq_empty_of_size_eq_zero (by simpa using sa.symm)
              obtain rfl : b' = #[] := Array.eq_empty_of_size_eq_zero (by simpa using sb.symm)
              split at hb
              · rename_i fn hfn
                rw [pick2_eq] at hb
                split at hb
                · cases hb
                · rename_i hbody
                  simp only [Bool.and_eq_true, beq_iff_eq] at hb
                  exact ⟨ρ, w, _, Ren.le_refl _, he, .junk _ _, .inl (bits_run hop hg' hfn hbody hb.1 hb.2 hq w)⟩
              · cases hb
          · cases hb
      · cases h
    · cases h
  · cases h
end
section
variable {P : Program} {H : Mem}
theorem pureA_run {o : Oper} {ev : Operand → Value} {u : Value} (h : pureA P ev o = some u) (ho : orcA P ev o = none) : operandsFree ev o.op = true ∧ ∀ w, (execOp ev o).run P w = .ok (.value u) w := by
  unfold pureA at h
  split at h
  · cases h
  · split at h
    · rename_i hfree
      split at h
      · rename_i u' hu
        split at h
        · cases h; exact ⟨hfree, semPure_run _ hu⟩
        · cases h
      · cases h
    · rw [ho] at h; cases h
theorem flOf_free {x : Value} {a : Option Nat} (h : flOf x = some a) (hf : addrFree x = true) : ∃ n, x = .float .f64 n ∧ a = some n := by
  unfold flOf at h
  split at h
  · cases h; exact ⟨_, rfl, rfl⟩
  · simp [addrFree] at hf
  · cases h
theorem cxOf_free {x : Value} {q : Option Nat × Option Nat} (h : cxOf x = some q) (hf : addrFree x = true) : ∃ m n, x = .complex .f64 m n ∧ q = (some m, some n) := by
  unfold cxOf at h
  split at h
  · cases h; exact ⟨_, _, rfl, rfl⟩
  · simp [addrFree] at hf
  · cases h
theorem drew_ne (w : World) : w.drew ≠ w := fun h => by
  have : w.drawn + 1 = w.drawn := congrArg World.drawn h
  omega
/-- Where opA knows something too, it is the same. -/
theorem nan_op {call : CallF} {o : Oper} {ev : Operand → Value} {v u : Value} {H' : Mem} (h : nanA P ev o = some v) (h2 : opA P call ev o H = some (u, H')) : u = v ∧ H' = H := by
  unfold nanA at h
  split at h
  · rename_i op t x y yt hop
    unfold opA at h2
    rw [hop] at h2
    have h2 : opBin P ev o op t (ev x) (ev y) H = some (u, H') := h2
    unfold opBin at h2
    obtain ⟨h3, e0⟩ := withMem_spec h2
    refine ⟨?_, e0⟩
    unfold nanBin at h
    split at h
    case h_2 => cases h
    rename_i a b ha hb
    have e1 : fastA op (ev x) (ev y) = none := by
      unfold flOf at ha
      split at ha
      · rename_i n hx; rw [hx]; cases ev y <;> rfl
      · rename_i hx; rw [hx]; cases ev y <;> rfl
      · cases ha
    have e2 : nilA P op t (ev x) (ev y) = none := by
      unfold flOf at ha
      split at ha
      · rename_i n hx
        rw [hx]
        unfold nilA
        split <;> first | rfl | (rename_i h1 h2 h3; cases h2) | rfl
      · rename_i hx
        rw [hx]
        unfold nilA
        split <;> first | rfl | (rename_i h1 h2 h3; cases h2) | rfl
      · cases ha
    rw [e1, e2] at h3
    have h3 : pureA P ev o = some u := h3
    have hor : orcA P ev o = none := by
      unfold orcA
      rw [hop]
      unfold flOf at ha
      split at ha
      · rename_i n hx
        have e0 : pairT P t (ev x) (ev y) = none := by
          rw [hx]; unfold pairT
          split <;> first | rfl | (rename_i h1 h2 h3; cases h2) | rfl
        simp only [e0]
        simp only [hx, binT, kindT]
      · rename_i hx
        have e0 : pairT P t (ev x) (ev y) = none := by
          rw [hx]; unfold pairT
          split <;> first | rfl | (rename_i h1 h2 h3; cases h2) | rfl
        simp only [e0]
        simp only [hx, binT, kindT]
      · cases ha
    obtain ⟨hf, hrun⟩ := pureA_run h3 hor
    have hfx : ∀ z ∈ o.op.operands, addrFree (ev z) = true := fun z hz => List.all_eq_true.1 hf z (by simpa using hz)
    obtain ⟨m, em, rfl⟩ := flOf_free ha (hfx x (by simp [hop, Op.operands]))
    obtain ⟨n, en, rfl⟩ := flOf_free hb (hfx y (by simp [hop, Op.operands]))
    have same : ∀ {r : Value} {w' : World}, (execOp ev o).run P default = .ok (.value r) w' → u = r ∧ w' = default := fun h4 => by
      have h5 := (hrun default).symm.trans h4
      simp only [Result.ok.injEq, Next.value.injEq] at h5
      exact ⟨h5.1, h5.2.symm⟩
    have ari : ∀ {op' : BinOp} {f : Nat → Nat → Option Nat} {q : Option Nat}, binOp op t (.float .f64 m) (.float .f64 n) = Op.floatArith op' .f64 m n →
        (∀ x y, Op.floatArith op' .f64 x y = (match f x y with | some r => pure (.float .f64 r) | none => (do pure (.float .f64 (← choose (.nanBits .f64 x y))) : Sem Value))) → f m n = q → u = flV q := fun {op' f q} hb hop' hq => by
      cases q with
      | some r =>
        exact (same (bin_run (c := ⟨P, 0, 0, 0, default, fun _ => none, fun _ => none, fun _ => none⟩) hop em en hb (v := .float .f64 r) (w' := default) (by rw [hop', hq]; rfl))).1
      | none =>
        have := (same (bin_run (c := ⟨P, 0, 0, 0, default, fun _ => none, fun _ => none, fun _ => none⟩) (w := default) hop em en hb (w' := World.drew default) (by rw [hop', hq]; exact draw_run _ _ _ _ _))).2
        exact absurd this (drew_ne _)
    split at h
    · cases h; exact ari (op' := .add) rfl (fun x y => by rfl) rfl
    · cases h; exact ari (op' := .sub) rfl (fun x y => by rfl) rfl
    · cases h; exact ari (op' := .mul) rfl (fun x y => by rfl) rfl
    · cases h
    · cases h
  · rename_i cl hop
    obtain ⟨callee, args, ats⟩ := cl
    have one : ∀ {v : Value}, args.toList.map ev = [v] → ∃ p, args = #[p] ∧ ev p = v := fun h => by
      obtain ⟨l⟩ := args
      match l, h with
      | [p], h => exact ⟨p, rfl, by simpa using h⟩
    have two : ∀ {v u : Value}, args.toList.map ev = [v, u] → ∃ p q, args = #[p, q] ∧ ev p = v ∧ ev q = u := fun h => by
      obtain ⟨l⟩ := args
      match l, h with
      | [p, q], h => exact ⟨p, q, rfl, by simpa using h⟩
    unfold opA at h2
    rw [hop] at h2
    simp only at h h2
    have pur : ∀ {r : Value}, withMem H (pureA P ev o) = some (u, H') → (∀ (_ : operandsFree ev o.op = true), (execOp ev o).run P default = .ok (.value r) default) → u = r ∧ H' = H := fun h3 hr => by
      obtain ⟨h4, e0⟩ := withMem_spec h3
      obtain ⟨hf, hrun⟩ := pureA_run h4 (by unfold orcA; rw [hop])
      have h5 := (hrun default).symm.trans (hr hf)
      simp only [Result.ok.injEq, Next.value.injEq] at h5
      exact ⟨h5.1, e0⟩
    have fr : ∀ z ∈ args, operandsFree ev o.op = true → addrFree (ev z) = true := fun z hz hf => List.all_eq_true.1 hf z (by rw [hop]; simp [Op.operands, Call.operands]; exact .inr hz)
    split at h
    · rename_i x y hl
      obtain ⟨p, q, rfl, rfl, rfl⟩ := two hl
      split at h
      · rename_i a b ha hb
        cases h
        refine pur h2 fun hf => ?_
        obtain ⟨m, em, rfl⟩ := flOf_free ha (fr p (by simp) hf)
        obtain ⟨n, en, rfl⟩ := flOf_free hb (fr q (by simp) hf)
        simp [execOp, hop, resolve, em, en, invoke, builtin, complex_eq, cxV]
      · cases h
    · rename_i x hl
      obtain ⟨p, rfl, rfl⟩ := one hl
      split at h
      · rename_i q hq
        cases h
        refine pur h2 fun hf => ?_
        obtain ⟨m, n, em, rfl⟩ := cxOf_free hq (fr p (by simp) hf)
        simp [execOp, hop, resolve, em, invoke, builtin, real_eq, flV]
      · cases h
    · rename_i x hl
      obtain ⟨p, rfl, rfl⟩ := one hl
      split at h
      · rename_i q hq
        cases h
        refine pur h2 fun hf => ?_
        obtain ⟨m, n, em, rfl⟩ := cxOf_free hq (fr p (by simp) hf)
        simp [execOp, hop, resolve, em, invoke, builtin, imag_eq, flV]
      · cases h
    · rename_i f hl
      obtain ⟨p, rfl, hp⟩ := one hl
      rw [pick2_eq] at h
      split at h
      · rename_i hb
        cases h
        exfalso
        unfold isBits at hb
        split at hb
        · rename_i id hg
          split at hb
          · rename_i fn hfn
            rw [pick2_eq] at hb
            split at hb
            · cases hb
            · rename_i hbody
              simp only [Bool.and_eq_true, beq_iff_eq] at hb
              have hc : opCall P call (ev f) (#[p].toList.map ev) H = none := by
                unfold opCall
                simp only [hg, hfn]
                rw [pick2_eq, if_neg (by rw [Bool.and_eq_true]; exact fun h => hbody h.1)]
              have hs : isSame P (ev f) = false := by
                unfold isSame
                simp only [hg, hfn]
                rw [pick2_eq, if_neg hbody, hb.1]; rfl
              unfold opCalls at h2
              simp only [hc] at h2
              have h2 : pick2 (isSame P (ev f)) (some (ev p, H)) (withMem H (pureA P ev o)) = some (u, H') := h2
              rw [hs] at h2
              obtain ⟨h4, e0⟩ := withMem_spec (show withMem H (pureA P ev o) = some (u, H') from h2)
              have := fr p (by simp) (pureA_run h4 (by unfold orcA; rw [hop])).1
              rw [hp] at this
              simp [addrFree] at this
          · cases hb
        · cases hb
      · cases h
    · cases h
  · cases h
end
end Go.Ev
namespace Go.Ev
open Go.RowKit
variable [TokE]
section
variable {P : Program} {call : CallF} {ops : Array Oper} {GR : List Blk} {ye : YEnv}
/-- How far the rows reach that are live. -/
def reach : List Blk → Nat
  | [] => 0
  | b :: l => match reach l with
    | 0 => if b.live = true then 1 else 0
    | n + 1 => n + 2
theorem reach_lt : ∀ {l : List Blk} {i : Nat} {b : Blk}, l[i]? = some b → b.live = true → i < reach l
  | [], i, b, h, _ => by simp at h
  | c :: l, 0, b, h, hl => by
    simp at h; subst h
    unfold reach
    split
    · rw [if_pos hl]; exact Nat.one_pos
    · omega
  | c :: l, i + 1, b, h, hl => by
    have := reach_lt (l := l) (by simpa using h) hl
    unfold reach
    split
    · rename_i e; omega
    · rename_i n e; omega
/-- Given rows in a world. -/
def RowsAt (rows : List Blk) (w : World) : Prop := reach rows ≤ w.heap.size ∧ ∀ (i : Nat) b, rows[i]? = some b → b.live = true → ∃ fr, w.heap[i]? = some (.cells b.cells.toArray b.elem fr)
omit [TokE] in
/-- What a loop's own function does in the machine: a round. -/
def YOk [TokR] (GR : List Blk) (c : Cx) (i : Nat) (F : List Value → Mem → Option Mem) : Prop :=
  ∃ l, c.ρ0 i = some (l, 0) ∧ ∀ args H H', F args H = some H' → ∀ (K : Nat → Option Obj) (W : World) (ρ : Ren) (w : World) (args' : List Value), RowsAt GR w → Emb { c with K := K, w0 := W } ρ H w → LR (VRel ρ) args args' →
    YieldAt Fence.wide 19 c.P l args'.toArray w fun e w' => e = .returned (.bool true) ∧ ∃ ρ', ρ.le ρ' ∧ Emb { c with K := K, w0 := W } ρ' H' w'
omit [TokE] in
/-- What a told call comes to: its value, the rows behind it. -/
def MemoOk [TokR] (P : Program) (GR : List Blk) (m : FuncId → List Value → Mem → Option (Value × List Blk)) : Prop :=
  ∀ f args H v rows, m f args H = some (v, rows) → ∀ (c : Cx), c.P = P → ∀ ρ w args', RowsAt GR w → Emb c ρ H w → LR (VRel ρ) args args' → Calls P f args'.toArray w fun e w' => ∃ ρ v' M, e = .returned v' ∧ VRel ρ v v' ∧ M.size = rows.length ∧ (∀ i b, rows[i]? = some b → (b.live = true ∨ isMapB b = true) → M.get i = some b) ∧
    Emb ⟨P, w.heap.size, 0, 0, w, fun _ => none, fun _ => none, fun _ => none⟩ ρ M w'
/-- As a deferred call of a function that returns it does nothing. -/
def Harm (P : Program) (f : FuncId) : Prop :=
  ∀ (args : Array Value) (w : World), CallsDIn Fence.wide 19 P f args .returning w fun e u' w' => (∃ v, e = .returned v) ∧ settle u' = .returning ∧ Below w.heap.size w w'
/-- How many package-level variables are given, and which rows stood there when the run began. -/
structure Cx.At (c : Cx) (G : Nat) (GR : List Blk) (ye : YEnv) : Prop where
  g : c.G = G
  rows : RowsAt GR c.w0
  len : reach GR ≤ c.B
  env : ∀ i F, i < 4294967296 → ye.f i = some F → YOk GR c i F
  harm : ∀ f F, ye.f (Nat.add 4294967296 f) = some F → Harm c.P f
  memo : MemoOk c.P GR ye.m
theorem RowsAt.nil (w : World) : RowsAt [] w := ⟨Nat.zero_le _, fun i b h => by simp at h⟩
theorem Emb.rowsAt {c : Cx} {ρ : Ren} {H : Mem} {w : World} {G : Nat} {GR : List Blk} (he : Emb c ρ H w) (h : c.At G GR ye) : RowsAt GR w :=
  ⟨Nat.le_trans h.len he.base, fun i b hi hl => by
    obtain ⟨fr, h1⟩ := h.rows.2 i b hi hl
    exact ⟨fr, (he.below.block i (Nat.lt_of_lt_of_le (reach_lt hi hl) h.len)).trans h1⟩⟩
/-- What a call answers is what the machine's call answers. -/
def CallOk (P : Program) (G : Nat) (GR : List Blk) (ye : YEnv) (call : CallF) : Prop :=
  (∀ f args H v H', call f args H = some (v, H') → Nat.ble 8589934592 f = false → (P.funcs[f]? ≠ none ∨ addrFree v = true) → ∀ (c : Cx), c.P = P → c.At G GR ye → ∀ ρ w args', Emb c ρ H w → LR (VRel ρ) args args' →
    Calls P f args'.toArray w fun e w' => ∃ ρ' v', e = .returned v' ∧ ρ.le ρ' ∧ VRel ρ' v v' ∧ Emb c ρ' H' w') ∧
  ∀ i args H v H', call (yieldId i) args H = some (v, H') → v = .bool true ∧ ∃ F, ye.f i = some F ∧ F args H = some H'
/-- A fence that bars nothing. -/
def Fw (F : Fence) : Prop := F = Fence.wide ∨ ∃ l, F = Fence.wide.inRound l
/-- An operation means the same in a round. -/
def SemAs (F : Fence) (o : Oper) : Prop := ∀ ev, o.semAt F.round ev = execOp ev o
theorem SemAs.wide (o : Oper) : SemAs Fence.wide o := fun ev => Oper.semAt_none ev o
theorem SemAs.round (l : Nat) {o : Oper} (hd : notDefer o = true) : SemAs (Fence.wide.inRound l) o := fun ev => by
  have : (Fence.wide.inRound l).round = some l := rfl
  rw [this]
  exact Oper.semAt_some l ev o fun c e => by unfold notDefer at hd; rw [e] at hd; cases hd
theorem Fw.fn {F : Fence} (h : Fw F) (f : FuncId) : F.fn f := by
  rcases h with rfl | ⟨l, rfl⟩ <;> trivial
theorem Fw.calls {F : Fence} (h : Fw F) {n : Nat} {f : FuncId} {args : Array Value} {w : World} {R : Ending → World → Prop} (hc : Calls P f args w R) : CallsIn F n P f args w R := by
  rcases h with rfl | ⟨l, rfl⟩
  · exact callsIn_wide.2 hc
  · exact callsIn_wide.2 hc
theorem Fw.yields {F : Fence} (h : Fw F) {n l : Nat} {f : FuncId} {tmps : Array Value} {assign body : Code} {w : World} {R : Ending → World → Prop} (hc : RoundIn Fence.wide n P l f tmps assign body w R) : RoundIn F n P l f tmps assign body w R := by
  rcases h with rfl | ⟨l, rfl⟩
  · exact hc
  · exact hc
/-- An operation that yields a value, in whatever order. -/
theorem op_value {F : Fence} (hF : Fw F) {o : Oper} (hs : SemAs F o) {a : Act} {w w' : World} {v : Value} {Q : Exit → Act → World → Prop} {K : Act → World → Prop} (h : (execOp a.eval o).run P w = .ok (.value v) w') (hK : K (a.put o.dst v) w') : o.wpIn F 20 P a w K Q :=
  ⟨fun f _ => hF.fn f, by rw [hs, h]; exact hK⟩
theorem op_skip {F : Fence} (hF : Fw F) {o : Oper} (hs : SemAs F o) {a : Act} {w w' : World} {Q : Exit → Act → World → Prop} {K : Act → World → Prop} (h : (execOp a.eval o).run P w = .ok .skip w') (hK : K (a.put o.dst undef) w') : o.wpIn F 20 P a w K Q :=
  ⟨fun f _ => hF.fn f, by rw [hs, h]; exact hK⟩
theorem op_enter {F : Fence} (hF : Fw F) {o : Oper} (hs : SemAs F o) {a : Act} {w w' : World} {f : FuncId} {args : Array Value} {Q : Exit → Act → World → Prop} {K : Act → World → Prop} (h : (execOp a.eval o).run P w = .ok (.enter f args) w')
    (hK : Calls P f args w' fun e w'' => ∃ v, e = .returned v ∧ K (a.put o.dst v) w'') : o.wpIn F 20 P a w K Q :=
  ⟨fun f _ => hF.fn f, by
    rw [hs, h, Oper.uponIn_enter]
    exact ⟨fun _ => by decide, hF.calls (hK.mono fun e w'' he => by obtain ⟨v, rfl, hk⟩ := he; exact hk)⟩⟩
theorem op_round {F : Fence} (hF : Fw F) {o : Oper} (hs : SemAs F o) {a : Act} {w w' : World} {l : Nat} {f : FuncId} {tmps : Array Value} {assign body : Code} {Q : Exit → Act → World → Prop} {K : Act → World → Prop} (h : (execOp a.eval o).run P w = .ok (.round l f tmps assign body) w')
    (hK : RoundIn Fence.wide 19 P l f tmps assign body w' fun e w'' => ∃ v, e = .returned v ∧ K (a.put o.dst v) w'') : o.wpIn F 20 P a w K Q :=
  ⟨fun f _ => hF.fn f, by
    rw [hs, h, Oper.uponIn_round]
    exact ⟨fun _ => by decide, hF.yields (hK.mono fun e w'' he => by obtain ⟨v, rfl, hk⟩ := he; exact hk)⟩⟩
/-- Rows that are only read stay as they are, and none goes. -/
def Keeps (H H' : Mem) : Prop := H.size ≤ H'.size ∧ H'.lk = H.lk ∧ ∀ i, i < H.lk → i < H.size → H'.get i = H.get i
theorem Keeps.refl (H : Mem) : Keeps H H := ⟨Nat.le_refl _, rfl, fun _ _ _ => rfl⟩
theorem Keeps.trans {a b c : Mem} (h : Keeps a b) (k : Keeps b c) : Keeps a c :=
  ⟨Nat.le_trans h.1 k.1, k.2.1.trans h.2.1, fun i hi hs => (k.2.2 i (by rw [h.2.1]; exact hi) (Nat.lt_of_lt_of_le hs h.1)).trans (h.2.2 i hi hs)⟩
theorem Keeps.push {H H' : Mem} {b : Blk} (h : H.push b = some H') : Keeps H H' := by
  obtain ⟨h1, h2, h3⟩ := Mem.push_spec h
  exact ⟨by omega, h2, fun i _ hs => by rw [h3, if_neg (by omega)]⟩
theorem Keeps.set {H H' : Mem} {i : Nat} {b : Blk} (h : H.set i b = some H') : Keeps H H' := by
  obtain ⟨h1, h2, h3, h4, h5⟩ := Mem.set_spec h
  exact ⟨by omega, h4, fun j hj _ => by rw [h5, if_neg (by omega)]⟩
def CallKeeps (call : CallF) : Prop := ∀ f args H v H', call f args H = some (v, H') → Keeps H H'
theorem writeCells_keeps {H H' : Mem} {i off : Nat} {vs : List Value} (h : writeCells H i off vs = some H') : Keeps H H' := by
  rw [writeCells_def] at h
  split at h
  · cases h; exact .refl _
  · split at h
    · split at h
      · exact .set h
      · cases h
    · cases h
theorem newPtr_keeps {H H' : Mem} {t : TypeId} {cs : List Value} {v : Value} (h : newPtr H t cs = some (v, H')) : Keeps H H' := .push (newPtr_spec h).1
theorem newSlice_keeps {H H' : Mem} {t : TypeId} {cs : List Value} {len cap : Nat} {v : Value} (h : newSlice H t cs len cap = some (v, H')) : Keeps H H' := .push (newSlice_spec h).1
theorem newRoom_keeps {H H' : Mem} {t : TypeId} {cs : List Value} {len cap : Nat} {v : Value} (h : newRoom H t cs len cap = some (v, H')) : Keeps H H' := .push (newRoom_spec h).1
theorem withMem_keeps {H H' : Mem} {x : Option Value} {v : Value} (h : withMem H x = some (v, H')) : Keeps H H' := by
  obtain ⟨_, rfl⟩ := withMem_spec h; exact .refl _
theorem appendB_keeps {st xt : TypeId} {s x v : Value} {H H' : Mem} (h : appendB P H st xt s x = some (v, H')) : Keeps H H' := by
  unfold appendB at h
  split at h
  · split at h
    · split at h
      · split at h
        · cases h
        · split at h
          · split at h
            · simp only [Option.map_eq_some_iff] at h
              obtain ⟨u, hu, heq⟩ := h
              cases heq; exact writeCells_keeps hu
            · split at h
              · cases h; exact .refl _
              · cases h
            · cases h
          · split at h
            · split at h
              · split at h
                · rename_i H1 hkill
                  refine Keeps.trans ?_ (newSlice_keeps h)
                  unfold kill at hkill
                  split at hkill
                  · exact .set hkill
                  · cases hkill
                · cases h
              · cases h
            · exact newSlice_keeps h
            · cases h
      · cases h
    · cases h
  · cases h
theorem appendA_keeps {st xt : TypeId} {s x v : Value} {H H' : Mem} (h : appendA P H st xt s x = some (v, H')) : Keeps H H' := by
  unfold appendA at h
  split at h
  · rename_i r hg
    cases h
    obtain ⟨H2, h1, h2, h3, h4⟩ := grow_spec hg
    obtain ⟨k1, k2, k3⟩ := appendB_keeps h1
    exact ⟨by omega, by rw [← h3]; exact k2, fun i hi hs => by rw [← h4]; exact k3 i hi hs⟩
  · exact appendB_keeps h
theorem opA_keeps (hk : CallKeeps call) {ev : Operand → Value} {o : Oper} {H H' : Mem} {v : Value} (h : opA P call ev o H = some (v, H')) : Keeps H H' := by
  unfold opA at h
  split at h
  case h_1 => cases h; exact .refl _
  case h_2 => cases h; exact .refl _
  case h_3 => unfold opPick at h; split at h <;> cases h; exact .refl _
  case h_4 => exact withMem_keeps h
  case h_5 =>
    unfold opAlloc at h
    split at h
    · exact newPtr_keeps h
    · cases h
  case h_6 =>
    unfold opBox at h
    split at h
    · exact newPtr_keeps h
    · cases h
  case h_7 => exact withMem_keeps h
  case h_8 =>
    unfold buildSliceA at h
    split at h
    · split at h
      · split at h
        · cases h
        · split at h
          · exact newRoom_keeps h
          · cases h
      · cases h
    · cases h
  case h_9 => exact withMem_keeps h
  case h_10 =>
    unfold opStore at h
    split at h
    · rename_i hu
      cases h
      unfold storeA at hu
      split at hu
      · split at hu
        · exact writeCells_keeps hu
        · cases hu
      · cases hu
    · cases h
  case h_11 => unfold opNilCheck at h; split at h <;> cases h <;> exact .refl _
  case h_12 => exact withMem_keeps h
  case h_13 => exact withMem_keeps h
  case h_14 =>
    unfold opExtract at h
    split at h
    · exact withMem_keeps h
    · cases h
  case h_15 =>
    unfold makeSliceA at h
    split at h
    · split at h
      · split at h
        · exact newRoom_keeps h
        · cases h
      · cases h
    · cases h
  case h_16 =>
    rw [pick2_eq] at h
    split at h
    · cases h; exact .refl _
    · cases h
  case h_17 =>
    unfold opSlice at h
    rw [pick2_eq] at h
    split at h
    · exact withMem_keeps h
    · exact withMem_keeps h
  case h_18 => exact withMem_keeps h
  case h_19 => exact withMem_keeps h
  case h_20 =>
    unfold opConvert at h
    split at h
    · cases h; exact .refl _
    · unfold convertA at h
      split at h
      · split at h
        · split at h
          · simp only [Option.map_eq_some_iff] at h
            obtain ⟨u, _, heq⟩ := h
            cases heq; exact .refl _
          · cases h
        · cases h; exact .refl _
        · cases h; exact .refl _
        · cases h
      · split at h
        · exact newSlice_keeps h
        · cases h
      · split at h
        · rw [pick2_eq] at h
          split at h
          · cases h; exact .refl _
          · cases h
        · cases h
      · split at h
        · rw [pick2_eq] at h
          split at h
          · cases h; exact .refl _
          · cases h
        · cases h
      · split at h
        · rw [pick2_eq] at h
          split at h
          · cases h; exact .refl _
          · cases h
        · cases h
      · cases h
  case h_21 =>
    unfold opCalls at h
    split at h
    · split at h
      · rename_i r hr
        cases h
        unfold opCall at hr
        split at hr
        · split at hr
          · rename_i fn _
            rw [pick2_eq] at hr
            split at hr
            · exact hk _ _ _ _ _ hr
            · cases hr
          · cases hr
        · rw [pick2_eq] at hr
          split at hr
          · exact hk _ _ _ _ _ hr
          · cases hr
        · cases hr
      · unfold opExt at h
        split at h
        · rw [pick2_eq] at h
          split at h
          · cases h; exact .refl _
          · obtain ⟨_, rfl⟩ := withMem_spec h; exact .refl _
        · obtain ⟨_, rfl⟩ := withMem_spec h; exact .refl _
    · unfold opBuiltin at h
      split at h
      · unfold opLen at h
        split at h
        · exact withMem_keeps h
        · cases h
      · unfold opAppend at h
        split at h
        · exact appendA_keeps h
        · cases h
      · unfold opCopy at h
        split at h
        · unfold copyA at h
          split at h
          · split at h
            · split at h
              · split at h
                · simp only [Option.map_eq_some_iff] at h
                  obtain ⟨u, hu, heq⟩ := h
                  cases heq; exact writeCells_keeps hu
                · cases h; exact .refl _
                · cases h
              · cases h
            · cases h
          · cases h
        · cases h
      · unfold opCap at h
        split at h
        · exact withMem_keeps h
        · cases h
      · unfold opSliceData at h
        split at h
        · exact withMem_keeps h
        · cases h
      · unfold opUStr at h
        split at h
        · unfold ustrA at h
          split at h
          · cases h; exact .refl _
          · split at h
            · rw [pick2_eq] at h
              split at h
              · split at h
                · rename_i H1 hkill
                  cases h
                  unfold kill at hkill
                  split at hkill
                  · exact .set hkill
                  · cases hkill
                · cases h
              · cases h
            · cases h
          · cases h
        · cases h
      · exact withMem_keeps h
    · split at h
      · rename_i q hq
        unfold opCall at h
        simp only at h
        split at h
        · rw [pick2_eq] at h
          split at h
          · exact hk _ _ _ _ _ h
          · cases h
        · cases h
      · cases h
  case h_22 => obtain ⟨b, hb⟩ := makeMap_keepsS h; exact .push hb
  case h_23 => exact withMem_keeps h
  case h_24 => obtain ⟨i, b, hb⟩ := mapSet_keepsS h; exact .set hb
  case h_25 => obtain ⟨i, b, hb⟩ := mapSet_keepsS h; exact .set hb
  case h_26 =>
    unfold opRest at h
    split at h
    · obtain ⟨b, hb⟩ := range_keepsS h; exact .push hb
    · rcases next_keepsS h with rfl | ⟨i, b, hb⟩
      · exact .refl _
      · exact .set hb
    · rw [entry_keepsS h]; exact .refl _
    · rcases slice3_keepsS h with rfl | ⟨i, H1, b, hk, hb⟩
      · exact .refl _
      · unfold kill at hk
        split at hk
        · exact (Keeps.set hk).trans (.push hb)
        · cases hk
    · exact withMem_keeps h
/-! ### Steps over slots as the machine has them -/
noncomputable def stepS (P : Program) (call : CallF) (ops : Array Oper) (o : Oper) (a : Act) (H : Mem) : Option (Act × Mem) :=
  if Region.wanted o (yielded ops a.tmps) then (opA P call a.eval o H).map fun r => (a.put o.dst r.1, r.2) else some (a.put o.dst undef, H)
noncomputable def hideS (P : Program) (call : CallF) (ops : Array Oper) (R : Option (List Nat)) (o : Oper) (a : Act) (H : Mem) : Option (Act × Mem) :=
  match R, isCallO o.op with
  | some l, true => match hideL H l H with
    | some H1 => match stepS P call ops o a H1 with
      | some (a', H2) => match unhideL H l H2 with
        | some H3 => some (a', H3)
        | none => none
      | none => none
    | none => none
  | _, _ => none
theorem hideS_cases {P : Program} {call : CallF} {ops : Array Oper} {R : Option (List Nat)} {o : Oper} {a a' : Act} {H H3 : Mem} (h : hideS P call ops R o a H = some (a', H3)) :
    ∃ l H1 H2, R = some l ∧ isCallO o.op = true ∧ hideL H l H = some H1 ∧ stepS P call ops o a H1 = some (a', H2) ∧ unhideL H l H2 = some H3 := by
  unfold hideS at h
  split at h
  · rename_i l hc
    split at h
    · rename_i H1 h1
      split at h
      · rename_i a1 H2 h2
        split at h
        · rename_i H4 h3
          cases h
          exact ⟨l, H1, H2, rfl, hc, h1, h2, h3⟩
        · cases h
      · cases h
    · cases h
  · cases h
/-- It is a row that is hidden. -/
def hidB (H : Mem) (l : List Nat) (i : Nat) : Prop := i ∈ l ∧ H.lk ≤ i ∧ ∃ b, H.get i = some b ∧ b.live = true
theorem hideL_spec {H0 : Mem} : ∀ (l : List Nat) {H H1 : Mem}, hideL H0 l H = some H1 → H1.size = H.size ∧ H1.lk = H.lk ∧ (∀ i, (hidB H0 l i → H1.get i = some ⟨[], 0, false, false⟩) ∧ (¬ hidB H0 l i → H1.get i = H.get i)) ∧ ∀ i ∈ l, H0.lk ≤ i → ∀ b, H0.get i = some b → b.live = true
  | [], H, H1, h => by
    have h : some H = some H1 := h
    cases h
    exact ⟨rfl, rfl, fun i => ⟨fun h => absurd h.1 (by simp), fun _ => rfl⟩, fun i h => absurd h (by simp)⟩
  | j :: l, H, H1, h => by
    have h : (match H0.get j with
      | some b => pick2 (Nat.ble H0.lk j) (pick2 b.live (match H.set j ⟨[], 0, false, false⟩ with
        | some H1 => hideL H0 l H1
        | none => none) none) (hideL H0 l H)
      | none => hideL H0 l H) = some H1 := h
    have skip : ¬ hidB H0 (j :: l) j → (H0.lk ≤ j → ∀ b, H0.get j = some b → b.live = true) → hideL H0 l H = some H1 → H1.size = H.size ∧ H1.lk = H.lk ∧ (∀ i, (hidB H0 (j :: l) i → H1.get i = some ⟨[], 0, false, false⟩) ∧ (¬ hidB H0 (j :: l) i → H1.get i = H.get i)) ∧ ∀ i ∈ j :: l, H0.lk ≤ i → ∀ b, H0.get i = some b → b.live = true := by
      intro hn hjl h
      obtain ⟨h1, h2, h3, h4⟩ := hideL_spec l h
      have he : ∀ i, hidB H0 (j :: l) i → hidB H0 l i := fun i hi => by
        rcases List.mem_cons.1 hi.1 with rfl | hm
        · exact absurd hi hn
        · exact ⟨hm, hi.2⟩
      refine ⟨h1, h2, fun i => ⟨fun hi => (h3 i).1 (he i hi), fun hi => (h3 i).2 fun hb => hi ⟨List.mem_cons_of_mem _ hb.1, hb.2⟩⟩, fun i hi => ?_⟩
      rcases List.mem_cons.1 hi with rfl | hm
      · exact hjl
      · exact h4 i hm
    split at h
    · rename_i b hb
      rw [pick2_eq] at h
      split at h
      · rename_i hc
        rw [pick2_eq] at h
        split at h
        case isFalse => cases h
        rename_i hl
        split at h
        case h_2 => cases h
        rename_i H2 hs
        obtain ⟨s1, s2, s3, s4, s5⟩ := Mem.set_spec hs
        obtain ⟨h1, h2, h3, h4⟩ := hideL_spec l h
        have hj : hidB H0 (j :: l) j := ⟨by simp, Nat.le_of_ble_eq_true hc, b, hb, hl⟩
        refine ⟨by omega, by omega, fun i => ?_, fun i hi => ?_⟩
        · by_cases hij : i = j
          · subst hij
            refine ⟨fun _ => ?_, fun hn => absurd hj hn⟩
            by_cases hl2 : hidB H0 l i
            · exact (h3 i).1 hl2
            · rw [(h3 i).2 hl2, s5, if_pos rfl]
          · refine ⟨fun hi => (h3 i).1 ?_, fun hi => ?_⟩
            · rcases List.mem_cons.1 hi.1 with rfl | hm
              · exact absurd rfl hij
              · exact ⟨hm, hi.2⟩
            · rw [(h3 i).2 (fun hh => hi ⟨List.mem_cons_of_mem _ hh.1, hh.2⟩), s5, if_neg hij]
        · rcases List.mem_cons.1 hi with rfl | hm
          · intro _ b2 hb2; rw [hb] at hb2; cases hb2; exact hl
          · exact h4 i hm
      · rename_i hc
        refine skip ?_ (fun hle => absurd (Nat.ble_eq_true_of_le hle) hc) h
        rintro ⟨_, m2, _⟩
        exact hc (Nat.ble_eq_true_of_le m2)
    · rename_i hb
      refine skip ?_ (fun _ b hb2 => by rw [hb] at hb2; cases hb2) h
      rintro ⟨_, m2, b2, hb2, hl2⟩
      rw [hb] at hb2; cases hb2
theorem unhideL_spec {H0 : Mem} : ∀ (l : List Nat) {H H1 : Mem}, unhideL H0 l H = some H1 → H1.size = H.size ∧ H1.lk = H.lk ∧ (∀ i, hidB H0 l i → H.lk ≤ i) ∧ ∀ i, (hidB H0 l i → H1.get i = H0.get i) ∧ (¬ hidB H0 l i → H1.get i = H.get i)
  | [], H, H1, h => by
    have h : some H = some H1 := h
    cases h
    exact ⟨rfl, rfl, fun i h => absurd h.1 (by simp), fun i => ⟨fun h => absurd h.1 (by simp), fun _ => rfl⟩⟩
  | j :: l, H, H1, h => by
    have h : (match H0.get j with
      | some b => pick2 (b.live && Nat.ble H0.lk j) (match H.set j b with
        | some H1 => unhideL H0 l H1
        | none => none) (unhideL H0 l H)
      | none => unhideL H0 l H) = some H1 := h
    have skip : ¬ hidB H0 (j :: l) j → unhideL H0 l H = some H1 → H1.size = H.size ∧ H1.lk = H.lk ∧ (∀ i, hidB H0 (j :: l) i → H.lk ≤ i) ∧ ∀ i, (hidB H0 (j :: l) i → H1.get i = H0.get i) ∧ (¬ hidB H0 (j :: l) i → H1.get i = H.get i) := by
      intro hn h
      obtain ⟨h1, h2, h4, h3⟩ := unhideL_spec l h
      have he : ∀ i, hidB H0 (j :: l) i → hidB H0 l i := fun i hi => by
        rcases List.mem_cons.1 hi.1 with rfl | hm
        · exact absurd hi hn
        · exact ⟨hm, hi.2⟩
      exact ⟨h1, h2, fun i hi => h4 i (he i hi), fun i => ⟨fun hi => (h3 i).1 (he i hi), fun hi => (h3 i).2 fun hb => hi ⟨List.mem_cons_of_mem _ hb.1, hb.2⟩⟩⟩
    split at h
    · rename_i b hb
      rw [pick2_eq] at h
      split at h
      · rename_i hc
        rw [Bool.and_eq_true] at hc
        split at h
        case h_2 => cases h
        rename_i H2 hs
        obtain ⟨s1, s2, s3, s4, s5⟩ := Mem.set_spec hs
        obtain ⟨h1, h2, h4, h3⟩ := unhideL_spec l h
        have hj : hidB H0 (j :: l) j := ⟨by simp, Nat.le_of_ble_eq_true hc.2, b, hb, hc.1⟩
        have he : ∀ i, i ≠ j → hidB H0 (j :: l) i → hidB H0 l i := fun i hij hi => by
          rcases List.mem_cons.1 hi.1 with rfl | hm
          · exact absurd rfl hij
          · exact ⟨hm, hi.2⟩
        refine ⟨by omega, by omega, fun i hi => ?_, fun i => ?_⟩
        · by_cases hij : i = j
          · subst hij; exact s2
          · have := h4 i (he i hij hi); omega
        · by_cases hij : i = j
          · subst hij
            refine ⟨fun _ => ?_, fun hn => absurd hj hn⟩
            by_cases hl : hidB H0 l i
            · exact (h3 i).1 hl
            · rw [(h3 i).2 hl, s5, if_pos rfl, hb]
          · refine ⟨fun hi => (h3 i).1 (he i hij hi), fun hi => ?_⟩
            rw [(h3 i).2 (fun hh => hi ⟨List.mem_cons_of_mem _ hh.1, hh.2⟩), s5, if_neg hij]
      · rename_i hc
        refine skip ?_ h
        rintro ⟨_, m2, b2, hb2, hl2⟩
        rw [hb] at hb2; cases hb2
        exact hc (by rw [hl2, Nat.ble_eq_true_of_le m2]; rfl)
    · rename_i hb
      refine skip ?_ h
      rintro ⟨_, m2, b2, hb2, hl2⟩
      rw [hb] at hb2; cases hb2
noncomputable def stepLS (P : Program) (call : CallF) (ops : Array Oper) (R : Option (List Nat)) (lk : Bool) (o : Oper) (a : Act) (H : Mem) : Option (Act × Mem) :=
  if lk then (match appBase o.op with
    | some s => if clearA R (a.eval s) then stepS P call ops o a H else none
    | none => if storeClear R a.eval o then stepS P call ops o a H else match stepS P call ops o a { H with lk := H.size } with
      | some r => some (r.1, { r.2 with lk := H.lk })
      | none => hideS P call ops R o a H) else stepS P call ops o a H
theorem stepLS_cases {P : Program} {call : CallF} {ops : Array Oper} {R : Option (List Nat)} {lk : Bool} {o : Oper} {a : Act} {H : Mem} {r : Act × Mem} (h : stepLS P call ops R lk o a H = some r) :
    (stepS P call ops o a H = some r ∧ (lk = true → ∃ s, (appBase o.op = some s ∨ storeBase o.op = some s) ∧ clearA R (a.eval s) = true)) ∨ (lk = true ∧ ∃ u, stepS P call ops o a { H with lk := H.size } = some u ∧ r = (u.1, { u.2 with lk := H.lk })) ∨ (lk = true ∧ hideS P call ops R o a H = some r) := by
  unfold stepLS at h
  split at h
  · rename_i hl
    split at h
    · rename_i s hs
      split at h
      · rename_i hc; exact .inl ⟨h, fun _ => ⟨s, .inl hs, hc⟩⟩
      · cases h
    · split at h
      · rename_i hc
        unfold storeClear at hc
        split at hc
        · rename_i s hs
          exact .inl ⟨h, fun _ => ⟨s, .inr hs, hc⟩⟩
        · cases hc
      · split at h
        · rename_i u hu
          cases h
          exact .inr (.inl ⟨hl, u, hu, rfl⟩)
        · exact .inr (.inr ⟨hl, h⟩)
  · rename_i hl
    exact .inl ⟨h, fun h => absurd h hl⟩
/-- Slots in a tree, and in a row. -/
structure Rep (f : Fr) (a : Act) : Prop where
  n : f.n = a.tmps.size
  get : ∀ i, f.get i = a.tmps.getD i undef
theorem Fr.get_eq (f : Fr) (i : Nat) : f.get i = if i < f.n then (f.t.get i).getD undef else undef := by
  unfold Fr.get; rw [pick2_eq, ble_succ]
  cases f.t.get i <;> simp
theorem Fr.put_spec {f f' : Fr} {dst : Option Tmp} {v : Value} (h : f.put dst v = some f') : f'.n = f.n ∧ ∀ i, f'.get i = if dst = some i ∧ i < f.n then v else f.get i := by
  cases dst with
  | none =>
    have h' : some f = some f' := h
    cases h'
    exact ⟨rfl, fun i => by simp⟩
  | some d =>
    have h' : pick2 (Nat.ble (Nat.succ d) f.n) (Option.rec (motive := fun _ => Option Fr) none (fun t => some ⟨f.n, t⟩) (f.t.set d v)) (some f) = some f' := h
    rw [pick2_eq, ble_succ] at h'
    split at h'
    · rename_i hd
      simp only [decide_eq_true_eq] at hd
      cases hs : f.t.set d v with
      | none => rw [hs] at h'; cases h'
      | some t =>
        rw [hs] at h'
        have h2 : some (Fr.mk f.n t) = some f' := h'
        cases h2
        refine ⟨rfl, fun i => ?_⟩
        rw [Fr.get_eq, Fr.get_eq]
        simp only [Tr.get_set hs]
        by_cases hi : i = d
        · subst hi; simp [hd]
        · simp [hi, Ne.symm hi]
    · rename_i hd
      simp only [decide_eq_true_eq] at hd
      cases h'
      exact ⟨rfl, fun i => by
        rw [if_neg]
        rintro ⟨h1, h2⟩
        cases h1; exact hd h2⟩
theorem Fr.put_total (f : Fr) (dst : Option Tmp) (v : Value) : ∃ f', f.put dst v = some f' := by
  cases dst with
  | none => exact ⟨f, rfl⟩
  | some d =>
    show ∃ f', pick2 (Nat.ble (Nat.succ d) f.n) (Option.rec (motive := fun _ => Option Fr) none (fun t => some (Fr.rec (motive := fun _ => Fr) (fun n _ => ⟨n, t⟩) f)) (f.t.set d v)) (some f) = some f'
    obtain ⟨t, ht⟩ := Tr.set_total v f.t d
    rw [pick2_eq, ht]
    split
    · exact ⟨_, rfl⟩
    · exact ⟨_, rfl⟩
theorem Rep.put {f f' : Fr} {a : Act} (h : Rep f a) {dst : Option Tmp} {v : Value} (hp : f.put dst v = some f') : Rep f' (a.put dst v) := by
  obtain ⟨h1, h2⟩ := Fr.put_spec hp
  cases dst with
  | none => exact ⟨by rw [h1]; exact h.n, fun i => by rw [h2]; simp [h.get, Act.put]⟩
  | some d =>
    refine ⟨by rw [h1, h.n]; simp [Act.put], fun i => ?_⟩
    rw [h2, h.get, h.n]
    simp only [Act.put, Option.some.injEq]
    by_cases hd : d = i
    · subst hd
      by_cases hlt : d < a.tmps.size
      · simp [hlt]
      · simp [hlt]
    · simp [hd]
theorem Rep.eval {f : Fr} {a : Act} (h : Rep f a) : f.eval = a.eval := by
  funext x
  cases x with
  | tmp t => exact h.get t
  | const v => rfl
  | global g => rfl
  | func f => rfl
theorem Rep.wanted {f : Fr} {a : Act} (h : Rep f a) (o : Oper) : wantedA o ops.toList f = Region.wanted o (yielded ops a.tmps) := by
  unfold wantedA Region.wanted
  split
  · rename_i hg; simp [hg]
  · rename_i j want hg
    simp only [hg]
    have : yieldedA ops.toList f j = yielded ops a.tmps j := by
      unfold yieldedA yielded
      simp only [Array.getElem?_toList]
      cases ho : ops[j]? with
      | none => simp
      | some o' =>
        cases hd : o'.dst with
        | none => simp [hd]
        | some d =>
          simp only [Option.bind_some, hd, h.get]
          by_cases hlt : d < a.tmps.size
          · have e1 : a.tmps.getD d undef = a.tmps[d] := by simp [hlt]
            rw [e1, Array.getElem?_eq_getElem hlt]
            generalize a.tmps[d] = q
            cases q <;> rfl
          · simp [hlt, undef]
    rw [this]
    cases yielded ops a.tmps j with
    | none => simp
    | some b => cases b <;> cases want <;> rfl
theorem stepA_rep {f f' : Fr} {a : Act} {o : Oper} {H H' : Mem} (hr : Rep f a) (h : stepA P call ops.toList o f H = some (f', H')) : ∃ a', stepS P call ops o a H = some (a', H') ∧ Rep f' a' := by
  unfold stepA at h
  rw [hr.wanted, hr.eval, pick2_eq] at h
  unfold stepS
  split at h
  · rename_i hw
    unfold putA at h
    split at h
    · rename_i v H1 hop
      split at h
      · rename_i f1 hf
        cases h
        exact ⟨a.put o.dst v, by rw [if_pos hw, hop]; rfl, hr.put hf⟩
      · cases h
    · cases h
  · rename_i hw
    unfold putA at h
    simp only at h
    split at h
    · rename_i f1 hf
      cases h
      exact ⟨a.put o.dst undef, by rw [if_neg hw], hr.put hf⟩
    · cases h
theorem stepA_some {f : Fr} {a : Act} {o : Oper} {H : Mem} {q : Act × Mem} (hr : Rep f a) (h : stepS P call ops o a H = some q) : stepA P call ops.toList o f H ≠ none := by
  unfold stepS at h
  unfold stepA
  rw [hr.wanted, pick2_eq]
  have put : ∀ v H, putA f o.dst (some (v, H)) ≠ none := fun v H => by
    unfold putA
    obtain ⟨f', hf⟩ := Fr.put_total f o.dst v
    simp only [hf]
    simp
  split at h
  · rename_i hw
    rw [if_pos hw]
    simp only [Option.map_eq_some_iff] at h
    obtain ⟨u, hu, _⟩ := h
    rw [hr.eval, hu]
    exact put _ _
  · rename_i hw
    rw [if_neg hw]
    exact put _ _
theorem stepL_rep {f f' : Fr} {a : Act} {o : Oper} {R : Option (List Nat)} {lk : Bool} {H H' : Mem} (hr : Rep f a) (h : stepL P call ops.toList R lk o f H = some (f', H')) : ∃ a', stepLS P call ops R lk o a H = some (a', H') ∧ Rep f' a' := by
  unfold stepL at h
  unfold stepLS
  rw [pick2_eq] at h
  split at h
  · rename_i hl
    cases hb : appBase o.op with
    | some s =>
      rw [hb] at h
      simp only [pick2_eq] at h
      split at h
      · rename_i hc
        obtain ⟨a', h2, h3⟩ := stepA_rep hr h
        rw [hr.eval] at hc
        exact ⟨a', by rw [if_pos hl]; simp only [if_pos hc]; exact h2, h3⟩
      · cases h
    | none =>
      rw [hb] at h
      simp only at h
      rw [pick2_eq] at h
      split at h
      · rename_i hc
        obtain ⟨a', h2, h3⟩ := stepA_rep hr h
        rw [hr.eval] at hc
        exact ⟨a', by rw [if_pos hl]; simp only [if_pos hc]; exact h2, h3⟩
      · rename_i hc
        split at h
        · rename_i f1 H1 h1
          cases h
          obtain ⟨a', h2, h3⟩ := stepA_rep hr h1
          rw [hr.eval] at hc
          exact ⟨a', by rw [if_pos hl]; simp only [if_neg hc, h2], h3⟩
        · rename_i h1
          unfold hideA at h
          split at h
          case h_2 => cases h
          rename_i l hcall
          split at h
          case h_2 => cases h
          rename_i H1 hh
          split at h
          case h_2 => cases h
          rename_i f1 H2 h2
          split at h
          case h_2 => cases h
          rename_i H3 h3
          cases h
          obtain ⟨a', h4, h5⟩ := stepA_rep hr h2
          rw [hr.eval] at hc
          have hn : stepS P call ops o a { H with lk := H.size } = none := by
            cases hq : stepS P call ops o a { H with lk := H.size } with
            | none => rfl
            | some q => exact absurd h1 (stepA_some hr hq)
          exact ⟨a', by rw [if_pos hl]; simp only [if_neg hc, hn]; unfold hideS; simp only [hcall, hh, h4, h3], h5⟩
  · rename_i hl
    obtain ⟨a', h2, h3⟩ := stepA_rep hr h
    exact ⟨a', by rw [if_neg hl]; exact h2, h3⟩
theorem stepS_keeps (hk : CallKeeps call) {o : Oper} {a a' : Act} {H H' : Mem} (h : stepS P call ops o a H = some (a', H')) : Keeps H H' := by
  unfold stepS at h
  split at h
  · simp only [Option.map_eq_some_iff] at h
    obtain ⟨u, hu, heq⟩ := h
    cases heq; exact opA_keeps hk hu
  · cases h; exact .refl _
/-! ### A step in the machine -/
theorem yielded_rel {ρ : Ren} {a ar : Act} (hs : Sim ρ a ar) (j : Nat) : yielded ops ar.tmps j = yielded ops a.tmps j := by
  unfold yielded
  cases hd : (ops[j]?).bind (·.dst) with
  | none => rfl
  | some d =>
    simp only [Option.bind_some]
    by_cases hlt : d < a.tmps.size
    · have hlt' : d < ar.tmps.size := hs.tmps.1 ▸ hlt
      have hr := hs.tmps.2 d _ _ (Array.getElem?_eq_getElem hlt) (Array.getElem?_eq_getElem hlt')
      rw [Array.getElem?_eq_getElem hlt, Array.getElem?_eq_getElem hlt']
      generalize a.tmps[d] = x at hr
      generalize ar.tmps[d] = y at hr
      cases hr <;> rfl
    · rw [Array.getElem?_eq_none (Nat.le_of_not_lt hlt), Array.getElem?_eq_none (Nat.le_of_not_lt (hs.tmps.1 ▸ hlt))]
theorem wanted_rel {ρ : Ren} {a ar : Act} (hs : Sim ρ a ar) (o : Oper) : Region.wanted o (yielded ops ar.tmps) = Region.wanted o (yielded ops a.tmps) := by
  unfold Region.wanted
  split
  · rfl
  · rw [yielded_rel hs]
/-- No function of the program is one that the model answers by itself. -/
def noOwn (P : Program) : Prop := ∀ (id : FuncId) fn, P.funcs[id]? = some fn → ¬ (fn.name = "runtime.NumGoroutine")
theorem call_run (hno : noOwn P) {ρ : Ren} {ev ev' : Operand → Value} {o : Oper} {cl : Call} {g : Operand} (hop : o.op = .call cl) (hg : cl.callee = .value g) (hev : EvR ρ ev ev' o.op) {H H' : Mem} {v : Value}
    (h : opCall P call (ev g) (cl.args.toList.map ev) H = some (v, H')) (w : World) :
    (∃ f args args', LR (VRel ρ) args args' ∧ call f args H = some (v, H') ∧ Nat.ble 8589934592 f = false ∧ P.funcs[f]? ≠ none ∧ (execOp ev' o).run P w = .ok (.enter f args'.toArray) w) ∨
    (∃ i l x args args', i < 4294967296 ∧ ρ i = some (l, x) ∧ LR (VRel ρ) args args' ∧ call (yieldId i) args H = some (v, H') ∧ (execOp ev' o).run P w = (Instr.yield l args'.toArray).run P w) := by
  unfold opCall at h
  split at h
  · rename_i id first captured hf
    split at h
    · rename_i fn hfn
      rw [pick2_eq] at h
      split at h
      · rename_i hb
        rw [Bool.and_eq_true, Bool.not_eq_true'] at hb
        obtain ⟨hb, hlow⟩ := hb
        left
        have hgr := hev g (by simp [hop, hg, Op.operands, Call.operands])
        rw [hf] at hgr
        generalize hg' : ev' g = g' at hgr
        cases hgr with
        | func _ _ first' _ captured' s1 h1 s2 h2 _ =>
          have hargs := AR.map (ev := ev) (ev' := ev') cl.args fun y hy => hev y (by simp [hop, hg, Op.operands, Call.operands, hy])
          refine ⟨id, _, first'.toList ++ ((cl.args.map ev').toList ++ captured'.toList), ?_, h, hlow, (by rw [hfn]; simp), ?_⟩
          · have := (AR.list ⟨s1, h1⟩).append (hargs.list.append (AR.list ⟨s2, h2⟩))
            simpa using this
          · obtain ⟨cb, hb'⟩ := Option.isSome_iff_exists.1 hb
            have hname := hno id fn hfn
            obtain ⟨callee, args, ats⟩ := cl
            simp only at hg
            subst hg
            simp [execOp, hop, resolve, Deferred.ofValue, hg', invoke, callFunc, hfn, hname, hb']
      · cases h
    · cases h
  · rename_i i hf
    rw [pick2_eq] at h
    split at h
    case isFalse => cases h
    rename_i hlt
    have hlt : i < 4294967296 := by simpa [Nat.blt_eq] using hlt
    right
    have hgr := hev g (by simp [hop, hg, Op.operands, Call.operands])
    rw [hf] at hgr
    generalize hg' : ev' g = g' at hgr
    cases hgr with
    | func _ _ first' _ captured' s1 h1 s2 h2 hy => cases hy
    | yield _ l x hr =>
      have hargs := AR.map (ev := ev) (ev' := ev') cl.args fun y hy => hev y (by simp [hop, hg, Op.operands, Call.operands, hy])
      refine ⟨i, l, x, _, (cl.args.map ev').toList, hlt, hr, by simpa using hargs.list, h, ?_⟩
      obtain ⟨callee, args, ats⟩ := cl
      simp only at hg
      subst hg
      simp only [execOp, hop, resolve, Deferred.ofValue, hg', invoke]
      simp
      first | rfl | (rw [← Array.toList_map]) | skip
  · cases h
theorem invoke_run (hno : noOwn P) {ρ : Ren} {ev ev' : Operand → Value} {o : Oper} {cl : Call} {rv : Operand} {m : String} (hop : o.op = .call cl) (hg : cl.callee = .invoke rv m) (hev : EvR ρ ev ev' o.op) {H H' : Mem} {v : Value} {q : FuncId × Value} (hq : invokeA P (ev rv) m = some q)
    (h : opCall P call (.func (.func q.1) ⟨[]⟩ ⟨[]⟩) (q.2 :: cl.args.toList.map ev) H = some (v, H')) (w : World) :
    ∃ f args args', LR (VRel ρ) args args' ∧ call f args H = some (v, H') ∧ Nat.ble 8589934592 f = false ∧ P.funcs[f]? ≠ none ∧ (execOp ev' o).run P w = .ok (.enter f args'.toArray) w := by
  unfold invokeA at hq
  split at hq
  case h_2 => cases hq
  rename_i t x hx
  rw [pick2_eq] at hq
  split at hq
  case isFalse => cases hq
  rename_i hfree
  split at hq
  case h_2 => cases hq
  rename_i q1 hm
  rw [pick2_eq] at hq
  split at hq
  case isFalse => cases hq
  rename_i hfr
  cases hq
  have hr := hev rv (by simp [hop, hg, Op.operands, Call.operands])
  rw [hx] at hr
  have hr2 := eq_of_free hr (by simpa [addrFree] using hfree)
  unfold opCall at h
  simp only at h
  split at h
  · rename_i fn hfn
    rw [pick2_eq] at h
    split at h
    · rename_i hb
      rw [Bool.and_eq_true, Bool.not_eq_true'] at hb
      obtain ⟨hb, hlow⟩ := hb
      have hargs := AR.map (ev := ev) (ev' := ev') cl.args fun y hy => hev y (by simp [hop, hg, Op.operands, Call.operands, hy])
      refine ⟨q.1, q.2 :: cl.args.toList.map ev, q.2 :: (cl.args.map ev').toList, .cons (refl_of_free _ hfr) (by simpa using hargs.list), by simpa using h, hlow, (by rw [hfn]; simp), ?_⟩
      obtain ⟨cb, hb'⟩ := Option.isSome_iff_exists.1 hb
      have hname := hno q.1 fn hfn
      have hmr := semPure_run _ hm w
      have hmr : (method (P.types.size + Made.depth) t x m).run P w = .ok q w := hmr
      obtain ⟨callee, args, ats⟩ := cl
      simp only at hg
      subst hg
      have e0 : (#[Value.iface t x] ++ Array.map ev' args)[0]? = some (.iface t x) := by rw [Array.getElem?_append]; simp
      have e1 : #[q.2] ++ (Array.map ev' args).extract 0 args.size = (q.2 :: List.map ev' args.toList).toArray := by
        apply Array.ext'
        simp
        exact List.take_of_length_le (by simp)
      simp [execOp, hop, resolve, hr2, invoke, callMethod, e0, hmr, callFunc, hfn, hname, hb', e1, Result.andThen]
    · cases h
  · cases h
theorem stepS_ok (hno : noOwn P) {G : Nat} (hcall : CallOk P G GR ye call) {o : Oper} {a a' ar : Act} {H H' : Mem} (hok : o.op.operands.toList.all (operandOk G) = true) (h : stepS P call ops o a H = some (a', H')) {c : Cx} (hcP : c.P = P) (hcG : c.At G GR ye) {w : World} {ρ : Ren} (hs : Sim ρ a ar) (he : Emb c ρ H w)
    {F : Fence} (hF : Fw F) (hsa : SemAs F o) {Q : Exit → Act → World → Prop} {K : Act → World → Prop} (hK : ∀ ρ' ar' w', ρ.le ρ' → Sim ρ' a' ar' → Emb c ρ' H' w' → K ar' w') :
    if Region.wanted o (yielded ops ar.tmps) then o.wpIn F 20 P ar w K Q else (∀ f, o.about P w ar.eval = some f → F.fn f) ∧ K (ar.put o.dst undef) w := by
  subst hcP
  have hG0 := hcG.g
  subst hG0
  have hev : EvR ρ a.eval ar.eval o.op := fun x hx => hs.eval he.glob (List.all_eq_true.1 hok x (by simpa using hx))
  rw [wanted_rel hs]
  unfold stepS at h
  split at h
  · rename_i hw
    rw [if_pos hw]
    simp only [Option.map_eq_some_iff] at h
    obtain ⟨u, hu, heq⟩ := h
    cases heq
    by_cases hcl : ∃ cl g r, o.op = .call cl ∧ cl.callee = .value g ∧ opCall c.P call (a.eval g) (cl.args.toList.map a.eval) H = some r
    · obtain ⟨cl, g, r, hop, hg, hcr⟩ := hcl
      have hur : some r = some u := by
        rw [← hu]; unfold opA; rw [hop]; simp only [opCalls, hg, hcr]
      cases hur
      rcases call_run hno hop hg hev hcr w with ⟨f, args, args', hargs, hc, hlow, hfne, hrun⟩ | ⟨i, l, x, args, args', hi32, hρ, hargs, hc, hrun⟩
      · refine op_enter hF hsa hrun ((hcall.1 _ _ _ _ _ hc hlow (.inl hfne) c rfl hcG ρ w args' he hargs).mono ?_)
        rintro e w' ⟨ρ', v', rfl, h1, h2, h3⟩
        exact ⟨v', rfl, hK ρ' _ _ h1 ((hs.mono h1).put o.dst h2) h3⟩
      · obtain ⟨ev1, Fy, hFy, hFr⟩ := hcall.2 _ _ _ _ _ hc
        obtain ⟨l', h0, hy⟩ := hcG.env _ _ hi32 hFy
        have hl := he.old _ _ h0
        rw [hρ] at hl; cases hl
        obtain ⟨fn, tmps, assign, body, hr1, hr2⟩ := hy _ _ _ hFr c.K c.w0 ρ w args' (he.rowsAt hcG) he hargs
        refine op_round hF hsa (hrun.trans hr1) (hr2.mono ?_)
        rintro e w' ⟨rfl, ρ', h1, h2⟩
        have e1 : u.1 = .bool true := ev1
        exact ⟨_, rfl, hK ρ' _ _ h1 ((hs.mono h1).put o.dst (by rw [e1]; exact .bool _)) h2⟩
    · by_cases hin : ∃ cl r m, o.op = .call cl ∧ cl.callee = .invoke r m
      · obtain ⟨cl, r, m, hop, hg⟩ := hin
        unfold opA at hu
        rw [hop] at hu
        simp only [opCalls, hg] at hu
        split at hu
        case h_2 => cases hu
        rename_i q hq
        obtain ⟨f, args, args', hargs, hc, hlow, hfne, hrun⟩ := invoke_run hno hop hg hev hq hu w
        refine op_enter hF hsa hrun ((hcall.1 _ _ _ _ _ hc hlow (.inl hfne) c rfl hcG ρ w args' he hargs).mono ?_)
        rintro e w' ⟨ρ', v', rfl, h1, h2, h3⟩
        exact ⟨v', rfl, hK ρ' _ _ h1 ((hs.mono h1).put o.dst h2) h3⟩
      obtain ⟨ρ', w', v', h1, h2, h3, h4⟩ := opA_ok he hev (fun cl hop f hf => by
        cases hcr : opCall c.P call (a.eval f) (cl.args.toList.map a.eval) H with
        | none => rfl
        | some r => exact absurd ⟨cl, f, r, hop, hf, hcr⟩ hcl) (fun cl hop r m hm => hin ⟨cl, r, m, hop, hm⟩) hu
      rcases h4 with h4 | ⟨h4, rfl⟩
      · exact op_value hF hsa h4 (hK ρ' _ _ h1 ((hs.mono h1).put o.dst h3) h2)
      · exact op_skip hF hsa h4 (hK ρ' _ _ h1 ((hs.mono h1).put o.dst h3) h2)
  · rename_i hw
    rw [if_neg hw]
    cases h
    exact ⟨fun f _ => hF.fn f, hK ρ _ _ (Ren.le_refl _) (hs.put o.dst .undef) he⟩
theorem Mem.get_lk (H : Mem) (n : Nat) (i : Nat) : ({ H with lk := n } : Mem).get i = H.get i := rfl
abbrev Cx.kp (c : Cx) (K : Nat → Option Obj) : Cx := { c with K := K }
/-! ### What the run holds -/
/-- The rows that the run leans on. -/
def holds (c : Cx) (ρ : Ren) (H : Mem) (r : Nat) : Prop := r < c.B ∨ (c.K r ≠ none ∨ c.Lp r ≠ none) ∨ ∃ i b x, H.get i = some b ∧ (b.live = true ∨ isMapB b = true) ∧ ρ i = some (r, x)
/-- A row of the run's own is none of those that stay. -/
theorem Emb.image_K {c : Cx} {ρ : Ren} {H : Mem} {w : World} (h : Emb c ρ H w) {i : Nat} {b : Blk} {r x : Nat} (hi : H.get i = some b) (hl : b.live = true ∨ isMapB b = true) (hρ : ρ i = some (r, x)) : c.K r = none := by
  rcases hl with hl | hm
  · obtain ⟨r', x', C, fr, s, h1, h2, _⟩ := h.blk i b hi hl
    rw [hρ] at h1; cases h1
    rcases h2 with h2 | h2
    · exact h2.2
    · exact h2.2.1
  · obtain ⟨r', es, clock, h1, h2, _⟩ := h.maps i b hi hm
    rw [hρ] at h1; cases h1; exact h2.2.1
open Classical in
/-- All rows that the run does not hold are to stay. -/
noncomputable def holdK (c : Cx) (ρ : Ren) (H : Mem) (W : World) (r : Nat) : Option Obj :=
  if c.K r ≠ none then c.K r else if holds c ρ H r then none else W.heap[r]?
theorem Emb.hold {c : Cx} {ρ : Ren} {H : Mem} {w : World} (h : Emb c ρ H w) : Emb (c.kp (holdK c ρ H w)) ρ H w := by
  have no : ∀ {i : Nat} {b : Blk} {r x : Nat}, H.get i = some b → (b.live = true ∨ isMapB b = true) → ρ i = some (r, x) → holdK c ρ H w r = none := fun {i b r x} hi hl hρ => by
    unfold holdK
    rw [if_neg (by rw [h.image_K hi hl hρ]; simp), if_pos (.inr (.inr ⟨i, b, x, hi, hl, hρ⟩))]
  refine ⟨⟨h.below, fun r o hr => ?_, h.stay.loops⟩, h.base, h.dom, h.lk, h.lsz, h.glob, fun i b hi hl => ?_, h.inj, fun i b hi hm => ?_, h.minj, h.old⟩
  · have hr : holdK c ρ H w r = some o := hr
    unfold holdK at hr
    split at hr
    · exact h.stay.kept r o hr
    · split at hr
      · cases hr
      · exact hr
  · obtain ⟨r, x, C, fr, s, h1, h2, h3⟩ := h.blk i b hi hl
    have hn : (c.kp (holdK c ρ H w)).K r = none := no hi (.inl hl) h1
    exact ⟨r, x, C, fr, s, h1, h2.imp (fun g => ⟨g.1, hn⟩) (fun g => ⟨g.1, hn, g.2.2⟩), h3⟩
  · obtain ⟨r, es, clock, h1, h2, h3⟩ := h.maps i b hi hm
    exact ⟨r, es, clock, h1, ⟨h2.1, no hi (.inr hm) h1, h2.2.2⟩, h3⟩
theorem Emb.unhide {c : Cx} {ρ ρ' : Ren} {H H1 H2 H3 : Mem} {w w' : World} {l : List Nat} (he : Emb c ρ H w) (hle : ρ.le ρ') (back : ∀ (i : Nat) (b : Blk), H1.get i = some b → (b.live = true ∨ isMapB b = true) → H.get i = some b ∧ ¬ hidB H l i)
    (h3 : Emb (c.kp (holdK c ρ H1 w)) ρ' H2 w') (g3 : unhideL H l H2 = some H3) : Emb c ρ' H3 w' := by
  obtain ⟨b1, b2, b3, b4⟩ := unhideL_spec l g3
  have hKc : ∀ {r : Nat}, holdK c ρ H1 w r = none → c.K r = none := fun {r} hr => by
    unfold holdK at hr
    split at hr
    · exact hr
    · rename_i hn
      cases hk : c.K r with
      | none => rfl
      | some o => exact absurd (by rw [hk]; simp) hn
  -- a hidden row
  have hid : ∀ {i : Nat} {b : Blk}, hidB H l i → H.get i = some b → ∃ r x C fr s, ρ i = some (r, x) ∧ c.own r ∧ holdK c ρ H1 w r = some (.cells C b.elem fr) ∧ BlkAt c ρ' w' i b ∧ ρ' i = some (r, x) ∧ w.heap[r]? = some (.cells C b.elem fr) ∧ (s : Nat) = 0 := by
    intro i b hb hg
    obtain ⟨hm, hlk, b', hg', hl⟩ := hb
    rw [hg] at hg'; cases hg'
    obtain ⟨r, x, C, fr, s, h1, h2, hw, h4, h5, h6, h7, h8⟩ := he.blk i b hg hl
    have hiL : ¬ i < c.L := by have := he.lk; omega
    have hown : c.own r := h2.resolve_left fun h => hiL h.1
    have hnh : ¬ holds c ρ H1 r := by
      rintro (h | (h | h) | ⟨j, bj, xj, hj, hlj, hρj⟩)
      · have := hown.1; omega
      · exact h hown.2.1
      · exact h hown.2.2
      · obtain ⟨hj', hn⟩ := back j bj hj hlj
        rcases hlj with hlj | hlj
        · have := he.inj j i bj b r xj x hj' hlj hg hl hρj h1
          subst this
          exact hn ⟨hm, hlk, b, hg, hl⟩
        · obtain ⟨r', o, _, m1, _, m3, m4⟩ := he.maps j bj hj' hlj
          rw [hρj] at m1; cases m1
          rw [hw] at m3; cases m3
          exact m4.not _ _ _ rfl
    have hK : holdK c ρ H1 w r = some (.cells C b.elem fr) := by
      unfold holdK
      rw [if_neg (by rw [hown.2.1]; simp), if_neg hnh]; exact hw
    have hw' : w'.heap[r]? = some (.cells C b.elem fr) := h3.stay.kept r _ hK
    exact ⟨r, x, C, fr, 0, h1, hown, hK, ⟨r, x, C, fr, s, hle _ _ h1, .inr hown, hw', h4, h5, h6, h7.mono fun _ _ => VRel.mono hle, h8⟩, hle _ _ h1, hw, rfl⟩
  -- a row of the other ones
  have other : ∀ {i : Nat} {b : Blk}, H3.get i = some b → ¬ hidB H l i → H2.get i = some b := fun {i b} hi hn => by rw [← (b4 i).2 hn]; exact hi
  have hidden : ∀ {i : Nat} {b : Blk}, H3.get i = some b → hidB H l i → H.get i = some b := fun {i b} hi hh => by rw [← (b4 i).1 hh]; exact hi
  refine ⟨⟨h3.stay.below, fun r o hr => h3.stay.kept r o ?_, h3.stay.loops⟩, h3.base, fun i x hx => by rw [b1]; exact h3.dom i x hx, by rw [b2]; exact h3.lk, by rw [b1]; exact h3.lsz, h3.glob, fun i b hi hl => ?_, fun i j bi bj r x y hi hli hj hlj hr hr' => ?_, fun i b hi hm => ?_, fun i j bi bj r x y hi hmi hj hmj hr hr' => ?_, h3.old⟩
  · show holdK c ρ H1 w r = some o
    unfold holdK
    rw [if_pos (by rw [hr]; simp)]; exact hr
  · by_cases hh : hidB H l i
    · obtain ⟨_, _, _, _, _, _, _, _, h, _⟩ := hid hh (hidden hi hh)
      exact h
    · obtain ⟨r, x, C, fr, s, h1, h2, h4⟩ := h3.blk i b (other hi hh) hl
      exact ⟨r, x, C, fr, s, h1, h2.imp (fun g => ⟨g.1, hKc g.2⟩) (fun g => ⟨g.1, hKc g.2.1, g.2.2⟩), h4⟩
  · have mix : ∀ {i j : Nat} {bi bj : Blk} {r x y : Nat}, hidB H l i → H3.get i = some bi → ¬ hidB H l j → H3.get j = some bj → bj.live = true → ρ' i = some (r, x) → ρ' j = some (r, y) → False := by
      intro i j bi bj r x y hi hgi hj hgj hlj hr hr'
      obtain ⟨r0, x0, C, fr, s, h1, h2, h4, _, h5, _⟩ := hid hi (hidden hgi hi)
      rw [hr] at h5; cases h5
      obtain ⟨r1, x1, _, _, _, m1, m2, _⟩ := h3.blk j bj (other hgj hj) hlj
      rw [hr'] at m1; cases m1
      have : holdK c ρ H1 w r = none := by
        rcases m2 with m2 | m2
        · exact m2.2
        · exact m2.2.1
      rw [h4] at this; cases this
    by_cases h1 : hidB H l i
    · by_cases h2 : hidB H l j
      · obtain ⟨r0, x0, _, _, _, k1, _, _, _, k5, _⟩ := hid h1 (hidden hi h1)
        obtain ⟨r1, x1, _, _, _, m1, _, _, _, m5, _⟩ := hid h2 (hidden hj h2)
        rw [hr] at k5; cases k5
        rw [hr'] at m5; cases m5
        exact he.inj i j bi bj r x y (hidden hi h1) hli (hidden hj h2) hlj k1 m1
      · exact (mix h1 hi h2 hj hlj hr hr').elim
    · by_cases h2 : hidB H l j
      · exact (mix h2 hj h1 hi hli hr' hr).elim
      · exact h3.inj i j bi bj r x y (other hi h1) hli (other hj h2) hlj hr hr'
  · have hn : ¬ hidB H l i := fun hh => by
      obtain ⟨_, _, b', hg, hl⟩ := hh
      have := hidden hi ⟨‹_›, ‹_›, b', hg, hl⟩
      rw [hg] at this; cases this
      rw [not_map hl] at hm; cases hm
    obtain ⟨r, o, u, h1, h2, h4⟩ := h3.maps i b (other hi hn) hm
    exact ⟨r, o, u, h1, ⟨h2.1, hKc h2.2.1, h2.2.2⟩, h4⟩
  · have hn : ∀ {i : Nat} {b : Blk}, H3.get i = some b → isMapB b = true → ¬ hidB H l i := fun {i b} hi hm hh => by
      obtain ⟨_, _, b', hg, hl⟩ := hh
      have := hidden hi ⟨‹_›, ‹_›, b', hg, hl⟩
      rw [hg] at this; cases this
      rw [not_map hl] at hm; cases hm
    exact h3.minj i j bi bj r x y (other hi (hn hi hmi)) hmi (other hj (hn hj hmj)) hmj hr hr'
theorem stepLS_ok (hno : noOwn P) {G : Nat} (hcall : CallOk P G GR ye call) (_hk : CallKeeps call) {o : Oper} {R : Option (List Nat)} {lk : Bool} {a a' ar : Act} {H H' : Mem} (hok : o.op.operands.toList.all (operandOk G) = true) (h : stepLS P call ops R lk o a H = some (a', H')) {c : Cx} (hcP : c.P = P) (hcG : c.At G GR ye) {w : World} {ρ : Ren} (hs : Sim ρ a ar) (he : Emb c ρ H w)
    {F : Fence} (hF : Fw F) (hsa : SemAs F o) {Q : Exit → Act → World → Prop} {K : Act → World → Prop} (hK : ∀ ρ' ar' w', ρ.le ρ' → Sim ρ' a' ar' → Emb c ρ' H' w' → K ar' w') :
    if Region.wanted o (yielded ops ar.tmps) then o.wpIn F 20 P ar w K Q else (∀ f, o.about P w ar.eval = some f → F.fn f) ∧ K (ar.put o.dst undef) w := by
  rcases stepLS_cases h with ⟨h, _⟩ | ⟨_, u, hu, heq⟩ | ⟨_, hh⟩
  · exact stepS_ok hno hcall hok h hcP hcG hs he hF hsa hK
  · cases heq
    have he' : Emb c ρ { H with lk := H.size } w := he.less (Nat.le_refl _) he.lsz fun i b' hi _ => hi
    refine stepS_ok hno hcall hok hu hcP hcG hs he' hF hsa fun ρ' ar' w' h1 h2 h3 => hK ρ' ar' w' h1 h2 ?_
    exact h3.less (Nat.le_refl _) he.lk fun i b' hi _ => hi
  · obtain ⟨l, H1, H2, rfl, _, g1, g2, g3⟩ := hideS_cases hh
    obtain ⟨a1, a2, a3, _⟩ := hideL_spec l g1
    have back : ∀ (i : Nat) (b : Blk), H1.get i = some b → (b.live = true ∨ isMapB b = true) → H.get i = some b ∧ ¬ hidB H l i := fun i b hi hl => by
      have hn : ¬ hidB H l i := fun hb => by
        rw [(a3 i).1 hb] at hi; cases hi
        rcases hl with hl | hl <;> cases hl
      exact ⟨by rw [← (a3 i).2 hn]; exact hi, hn⟩
    have he1 : Emb c ρ H1 w := he.less (by omega) (by rw [a2]; exact he.lk) fun i b hi hl => (back i b hi hl).1
    refine stepS_ok hno hcall hok g2 (c := c.kp (holdK c ρ H1 w)) hcP ⟨hcG.g, hcG.rows, hcG.len, hcG.env, hcG.harm, hcG.memo⟩ hs he1.hold hF hsa fun ρ' ar' w' h1 h2 h3 => hK ρ' ar' w' h1 h2 ?_
    exact Emb.unhide he h1 back h3 g3
end
end Go.Ev
namespace Go.Ev
open Go.RowKit
variable [TokE]
section
variable {P : Program} {call : CallF} {ops : Array Oper} {GR : List Blk} {ye : YEnv}
/-- All loads that are listed come ahead of i. -/
inductive Reach (ops : Array Oper) : Nat → Nat → Prop where
  | one {i : Nat} {o : Oper} {e : Edge} (ho : ops[i]? = some o) (he : e ∈ o.after) (hb : Region.binds .any e = true) : Reach ops i e.on
  | more {i : Nat} {o : Oper} {e : Edge} {j : Nat} (ho : ops[i]? = some o) (he : e ∈ o.after) (hb : Region.binds .any e = true) (h : Reach ops e.on j) : Reach ops i j
def LoadsAhead (ops : Array Oper) (listed : Array Bool) (i : Nat) : Prop := ∀ (j : Nat) (oj : Oper), ops[j]? = some oj → isLoad oj.op = true → listed.getD j true = true → Reach ops i j
/-! ### How many are not listed -/
def cntN (listed : Array Bool) : Nat → Nat
  | 0 => 0
  | n + 1 => cntN listed n + if listed.getD n true = true then 0 else 1
theorem cntN_set {listed : Array Bool} {i : Nat} : ∀ n, cntN (listed.setIfInBounds i true) n + (if i < n ∧ listed.getD i true = false then 1 else 0) = cntN listed n
  | 0 => by simp [cntN]
  | n + 1 => by
    have ih := cntN_set (listed := listed) (i := i) n
    simp only [cntN]
    by_cases hin : i = n
    · subst hin
      rw [if_neg (by omega)] at ih
      have e : (listed.setIfInBounds i true).getD i true = true := by
        by_cases hlt : i < listed.size <;> simp [Array.getD, hlt]
      rw [e]
      cases hb : listed.getD i true with
      | true => simp; omega
      | false => simp; omega
    · rw [getD_set_ne true hin]
      by_cases h1 : i < n
      · have : i < n + 1 := by omega
        simp only [h1, this, true_and] at ih ⊢
        omega
      · have : ¬ i < n + 1 := by omega
        simp only [h1, this, false_and, if_false] at ih ⊢
        omega
def cnt (ops : Array Oper) (listed : Array Bool) : Nat := cntN listed ops.size
theorem cnt_set {listed : Array Bool} {i : Nat} (hi : i < ops.size) (h : listed.getD i true = false) : cnt ops (listed.setIfInBounds i true) + 1 = cnt ops listed := by
  have := cntN_set (listed := listed) (i := i) ops.size
  rw [if_pos ⟨hi, h⟩] at this
  exact this
theorem cntN_le {listed : Array Bool} : ∀ n, cntN listed n ≤ n
  | 0 => Nat.le_refl _
  | n + 1 => by
    have := cntN_le (listed := listed) n
    simp only [cntN]
    split <;> omega
theorem ready_cnt {listed : Array Bool} {i : Nat} (hi : i ∈ Region.ready .any ops listed) : i < ops.size ∧ listed.getD i true = false ∧ cnt ops (listed.setIfInBounds i true) + 1 = cnt ops listed := by
  obtain ⟨h0, o, ho, _⟩ := mem_ready.1 hi
  have hlt := (Array.getElem?_eq_some_iff.1 ho).1
  exact ⟨hlt, h0, cnt_set hlt h0⟩
/-- All rows of the one are in the other. -/
def Ext (H H2 : Mem) : Prop := ∀ (i : Nat) (b : Blk), H.get i = some b → H2.get i = some b
/-- A row (or all) is as it was. -/
def Pres : Option Nat → Mem → Mem → Prop
  | none, H, H2 => Ext H H2
  | some i, H, H2 => ∀ b : Blk, H.get i = some b → H2.get i = some b
theorem Pres.of_ext {pr : Option Nat} {H H2 : Mem} (h : Ext H H2) : Pres pr H H2 := by
  cases pr with
  | none => exact h
  | some i => exact h i
/-- Whatever order is picked from here on (none), or this one now (some i). 'pend': those that make rows of zeros, which the machine has done, and the evaluator not yet. -/
inductive AnyD (P : Program) (call : CallF) (ops : Array Oper) (Fin : Act → Mem → Prop) (RL : List (Nat × Option Nat)) : Option Nat → Array Bool → List Nat → Act → Mem → Prop where
  | pay {listed : Array Bool} {l1 l2 : List Nat} {i : Nat} {o : Oper} {R : Option (List Nat)} {lk : Bool} {a a' : Act} {H H' : Mem} (ho : ops[i]? = some o) (hm : makes P o = true) (hst : stepLS P call ops R lk o a H = some (a', H')) (hap : ∀ m ∈ l1 ++ l2, ∀ om, ops[m]? = some om → ∀ x, o.dst = some x → x ∉ om.looksAt ops)
      (h : AnyD P call ops Fin RL none listed (l1 ++ l2) a' H') : AnyD P call ops Fin RL none listed (l1 ++ i :: l2) a H
  | step {listed : Array Bool} {pend : List Nat} {a : Act} {H : Mem} (h0 : Region.ready .any ops listed = [] → pend = [] ∧ Fin a H) (h : ∀ i ∈ Region.ready .any ops listed, AnyD P call ops Fin RL (some i) listed pend a H) : AnyD P call ops Fin RL none listed pend a H
  | sync {listed : Array Bool} {pend : List Nat} {i : Nat} {o : Oper} {R : Option (List Nat)} {lk : Bool} {a a' : Act} {H H' : Mem} (ho : ops[i]? = some o) (hst : stepLS P call ops R lk o a H = some (a', H')) (hR : ∀ q ∈ RL, Reach ops i q.1 ∨ Pres q.2 H H') (hap : ∀ m ∈ pend, ∀ om, ops[m]? = some om → (∀ x, om.dst = some x → x ∉ o.looksAt ops ∧ o.dst ≠ some x) ∧ ∀ x, o.dst = some x → x ∉ om.looksAt ops)
      (h : AnyD P call ops Fin RL none (listed.setIfInBounds i true) pend a' H') : AnyD P call ops Fin RL (some i) listed pend a H
  | owe {listed : Array Bool} {pend : List Nat} {i : Nat} {o : Oper} {a : Act} {H : Mem} (ho : ops[i]? = some o) (hm : makes P o = true) (hmade : (madeA P a.eval o).isSome = true) (hd : ∀ m ∈ pend, ∀ om, ops[m]? = some om → om.dst ≠ o.dst ∧ ∀ x, om.dst = some x → x ∉ o.looksAt ops)
      (h : AnyD P call ops Fin RL none (listed.setIfInBounds i true) (i :: pend) a H) : AnyD P call ops Fin RL (some i) listed pend a H
theorem stepLS_keeps (hk : CallKeeps call) {o : Oper} {R : Option (List Nat)} {lk : Bool} {a a' : Act} {H H' : Mem} (h : stepLS P call ops R lk o a H = some (a', H')) : H.size ≤ H'.size ∧ H'.lk = H.lk ∧ ∀ i, i < H.lk → i < H.size → H'.get i = H.get i := by
  rcases stepLS_cases h with ⟨h, _⟩ | ⟨_, u, hu, heq⟩ | ⟨_, hh⟩
  · exact stepS_keeps hk h
  · cases heq
    obtain ⟨h1, _, h3⟩ := stepS_keeps hk hu
    exact ⟨h1, rfl, fun i _ hs => h3 i hs hs⟩
  · obtain ⟨l, H1, H2, rfl, _, g1, g2, g3⟩ := hideS_cases hh
    obtain ⟨a1, a2, a3, _⟩ := hideL_spec l g1
    obtain ⟨b1, b2, b3, b4⟩ := unhideL_spec l g3
    obtain ⟨h1, h2, h3⟩ := stepS_keeps hk g2
    refine ⟨by omega, by omega, fun i hi hs => ?_⟩
    have hn : ¬ hidB H l i := fun hb => by have := hb.2.1; omega
    rw [(b4 i).2 hn, h3 i (by omega) (by omega), (a3 i).2 hn]
/-! ### Operations that make rows -/
theorem makes_spec {o : Oper} (h : makes P o = true) : o.guard = none ∧ (∃ d, o.dst = some d) ∧ ((∃ t, o.op = .alloc t) ∨ (∃ t len ps, o.op = .buildSlice t len ps) ∨ ∃ t l c, o.op = .makeSlice t l c) := by
  unfold makes at h
  split at h
  · rename_i h1 h2 h3; exact ⟨h2, ⟨_, h3⟩, .inl ⟨_, h1⟩⟩
  · rename_i h1 h2 h3; exact ⟨h2, ⟨_, h3⟩, .inr (.inl ⟨_, _, _, h1⟩)⟩
  · rename_i h1 h2 h3; exact ⟨h2, ⟨_, h3⟩, .inr (.inr ⟨_, _, _, h1⟩)⟩
  · cases h
theorem makes_loud {o : Oper} (h : makes P o = true) : quiet P o.op = false := by
  obtain ⟨_, _, ⟨t, h1⟩ | ⟨t, l, ps, h1⟩ | ⟨t, l, q, h1⟩⟩ := makes_spec h <;> (rw [h1]; rfl)
theorem makes_load {o : Oper} (h : makes P o = true) : isLoad o.op = false := by
  obtain ⟨_, _, ⟨t, h1⟩ | ⟨t, l, ps, h1⟩ | ⟨t, l, q, h1⟩⟩ := makes_spec h <;> (rw [h1]; rfl)
theorem makes_sel {o : Oper} (h : makes P o = true) : ∀ cs b, o.op ≠ .select cs b := by
  obtain ⟨_, _, ⟨t, h1⟩ | ⟨t, l, ps, h1⟩ | ⟨t, l, q, h1⟩⟩ := makes_spec h <;> (intro cs b e; rw [h1] at e; cases e)
theorem push_lk {H H1 : Mem} {n : Nat} {b : Blk} (h : ({ H with lk := n } : Mem).push b = some H1) : H.push b = some { H1 with lk := H.lk } := by
  unfold Mem.push Mem.pushR at h ⊢
  cases hs : H.t.set H.size (Row.of b) with
  | none => simp only [hs] at h; cases h
  | some t => simp only [hs] at h; cases h; rfl
theorem made_op {o : Oper} (hm : makes P o = true) {ev : Operand → Value} {H H' : Mem} {v : Value} (h : opA P call ev o H = some (v, H')) :
    ∃ te cs sh, madeA P ev o = some (te, cs, sh) ∧ H.push ⟨cs, te, true, true⟩ = some H' ∧ v = madeV sh H.size := by
  obtain ⟨_, _, ⟨t, h1⟩ | ⟨t, len, ps, h1⟩ | ⟨t, len, cap, h1⟩⟩ := makes_spec hm
  · unfold opA at h
    rw [h1] at h
    simp only at h
    unfold opAlloc at h
    split at h
    · rename_i z hz
      obtain ⟨h2, h3⟩ := newPtr_spec h
      exact ⟨t, z.cells.toList, none, by unfold madeA; rw [h1]; simp only [hz], h2, h3⟩
    · cases h
  · unfold opA at h
    rw [h1] at h
    simp only at h
    unfold buildSliceA at h
    split at h
    · rename_i e hu
      split at h
      · rename_i s z hs hz
        split at h
        · cases h
        · rename_i hsz
          split at h
          · rename_i cs hf
            obtain ⟨h2, h3⟩ := newRoom_spec h
            exact ⟨e, cs.toList, some (len, len), by unfold madeA; rw [h1]; simp only [hu, hs, hz, if_neg hsz, hf], h2, h3⟩
          · cases h
      · cases h
    · cases h
  · unfold opA at h
    rw [h1] at h
    simp only at h
    unfold makeSliceA at h
    split at h
    · rename_i e kl l kc c hu hl hc
      split at h
      · rename_i inf z hi hz
        split at h
        · rename_i hb
          obtain ⟨h2, h3⟩ := newRoom_spec h
          exact ⟨e, z.toList, some (l.toNat, c.toNat), by unfold madeA; rw [h1]; simp only [hu, hl, hc, hi, hz, if_pos hb], h2, h3⟩
        · cases h
      · cases h
    · cases h
theorem made_step {o : Oper} {R : Option (List Nat)} {lk : Bool} {a a' : Act} {H H' : Mem} (hm : makes P o = true) (h : stepLS P call ops R lk o a H = some (a', H')) :
    ∃ te cs sh, madeA P a.eval o = some (te, cs, sh) ∧ H.push ⟨cs, te, true, true⟩ = some H' ∧ a' = a.put o.dst (madeV sh H.size) := by
  obtain ⟨hg, _, _⟩ := makes_spec hm
  have hw : Region.wanted o (yielded ops a.tmps) = true := by unfold Region.wanted; rw [hg]
  have one : ∀ {H H' : Mem} {a' : Act}, stepS P call ops o a H = some (a', H') → ∃ te cs sh, madeA P a.eval o = some (te, cs, sh) ∧ H.push ⟨cs, te, true, true⟩ = some H' ∧ a' = a.put o.dst (madeV sh H.size) := by
    intro H H' a' h
    unfold stepS at h
    rw [if_pos hw] at h
    simp only [Option.map_eq_some_iff] at h
    obtain ⟨⟨v, H1⟩, h1, heq⟩ := h
    cases heq
    obtain ⟨te, cs, sh, e1, e2, e3⟩ := made_op hm h1
    exact ⟨te, cs, sh, e1, e2, by rw [e3]⟩
  rcases stepLS_cases h with ⟨h, _⟩ | ⟨_, ⟨a1, H1⟩, h1, heq⟩ | ⟨_, hh⟩
  · exact one h
  · cases heq
    obtain ⟨te, cs, sh, e1, e2, e3⟩ := one h1
    exact ⟨te, cs, sh, e1, push_lk e2, e3⟩
  · obtain ⟨l, H1, H2, rfl, hc, _⟩ := hideS_cases hh
    obtain ⟨_, _, ⟨t, h1⟩ | ⟨t, len, ps, h1⟩ | ⟨t, len, cap, h1⟩⟩ := makes_spec hm <;> (rw [h1] at hc; cases hc)
theorem parts_congr {ev ev' : Operand → Value} {ps : Array (Nat × Operand)} (h : ∀ q ∈ ps, ev q.2 = ev' q.2) : partsA ev ps = partsA ev' ps := by
  unfold partsA
  apply List.map_congr_left
  intro q hq
  rw [h q (by simpa using hq)]
theorem made_congr {ev ev' : Operand → Value} {o : Oper} (h : ∀ x ∈ o.op.operands, ev x = ev' x) : madeA P ev o = madeA P ev' o := by
  unfold madeA
  split
  · rfl
  · rename_i t len ps hop
    rw [parts_congr fun q hq => h q.2 (by rw [hop]; simp [Op.operands]; exact ⟨q.1, by simpa using hq⟩)]
  · rename_i t len cap hop
    rw [h len (by rw [hop]; simp [Op.operands]), h cap (by rw [hop]; simp [Op.operands])]
  · rfl
theorem made_put {o : Oper} (a : Act) {dst : Option Tmp} (v : Value) (h : ∀ d, dst = some d → d ∉ o.looksAt ops) : madeA P (a.put dst v).eval o = madeA P a.eval o :=
  made_congr fun x hx => Act.eval_put fun d hd hxd => h d hd (by
    subst hxd
    exact List.mem_append_left _ (List.mem_filterMap.2 ⟨.tmp d, by simpa using hx, rfl⟩))
theorem made_run {ρ : Ren} {o : Oper} {ev ev' : Operand → Value} (hev : EvR ρ ev ev' o.op) {te : TypeId} {cs : List Value} {sh : Option (Nat × Nat)} (h : madeA P ev o = some (te, cs, sh)) :
    (∃ s, sizeA P te = some s) ∧ ∃ C : Array Value, LR (VRel ρ) cs C.toList ∧ ∀ w : World, (execOp ev' o).run P w = .ok (.value (madeV sh w.heap.size)) (w.alloc (.cells C te)) := by
  unfold madeA at h
  split at h
  · rename_i t hop
    split at h
    · rename_i z hz
      cases h
      obtain ⟨_, h2, _⟩ := run_zero hz (default : World)
      refine ⟨size_of_zero hz, z.cells, (refl_of_free (ρ := ρ) z h2).cells.list, fun w => ?_⟩
      obtain ⟨h1, _⟩ := run_zero hz w
      have : (Instr.alloc te true (.tuple #[])).run P w = .ok (.pointer (some ⟨w.heap.size, 0, none⟩)) (w.alloc (.cells z.cells te)) := by simp [Instr.alloc, h1, newVar, newRow]
      simp [execOp, hop, this, madeV]
    · cases h
  · rename_i t len ps hop
    have hp := PR.parts (ev := ev) (ev' := ev') ps.toList fun q hq => hev q.2 (by simp [hop, Op.operands]; exact ⟨q.1, by simpa using hq⟩)
    split at h
    · rename_i e hu
      split at h
      · rename_i s z hs hz
        split at h
        · cases h
        · rename_i hsz
          split at h
          · rename_i cs' hf
            cases h
            rw [fillA_eq] at hf
            obtain ⟨s', hs', hzz, hzn, _⟩ := zeros_ok (ρ := ρ) hz (default : World)
            rw [hs] at hs'; cases hs'
            obtain ⟨C, hf', hcs⟩ := fill_rel _ _ _ _ _ hp hzz hf
            refine ⟨⟨s, hs⟩, C, hcs.list, fun w => ?_⟩
            have hf2 : Instr.fill (fun i => some (i * s, s)) z (ps.toList.map fun q => (q.1, ev' q.2)) = some C := hf'
            have hrun : (Instr.buildSlice t len (ps.toList.map fun q => (q.1, ev' q.2)).toArray).run P w = .ok (.slice (some ⟨w.heap.size, 0, none⟩) len len) (w.alloc (.cells C te)) := by
              rcases zeros_cases hs hz with ⟨h0, rfl⟩ | ⟨h0, y, hy, rfl⟩
              · have hr0 : Array.range 0 = #[] := rfl
                simp [Instr.buildSlice, run_underlying hu, run_size hs, h0, hr0, hf2, newRow]
              · obtain ⟨hy1, _⟩ := run_zero hy w
                have hsz' : ¬ (16777216 < len * s) := by simpa using hsz
                simp [Instr.buildSlice, run_underlying hu, run_size hs, h0, hsz', hy1, hf2, newRow]
            have e1 : (ps.map fun q => (q.1, ev' q.2)) = (ps.toList.map fun q => (q.1, ev' q.2)).toArray := by apply Array.ext'; simp
            simp only [execOp, hop]
            simp only [Sem.run_bind]
            have : (Instr.buildSlice t len (ps.map fun (i, x) => (i, ev' x))).run P w = .ok (.slice (some ⟨w.heap.size, 0, none⟩) len len) (w.alloc (.cells C te)) := by
              rw [← hrun, ← e1]
            rw [this]; rfl
          · cases h
      · cases h
    · cases h
  · rename_i t len cap hop
    have hl := hev len (by simp [hop, Op.operands])
    have hc := hev cap (by simp [hop, Op.operands])
    split at h
    · rename_i e k n k' m hu e1 e2
      rw [e1] at hl
      rw [e2] at hc
      have el : ∀ (kk : IntKind) (i : Int) (u : Value), VRel ρ (.int kk i) u → u = .int kk i := fun kk i u h => by cases h; rfl
      split at h
      · rename_i inf z hi hz
        split at h
        · rename_i hb
          cases h
          obtain ⟨h0, h1, h2, h3⟩ := hb
          obtain ⟨s', hs', hzz, hzn, _⟩ := zeros_ok (ρ := ρ) hz (default : World)
          refine ⟨⟨s', hs'⟩, z, hzz.list, fun w => ?_⟩
          have w1 : IntKind.i64.wrap n = n := IntWalk.i64_in _ (by omega)
          have w2 : IntKind.i64.wrap m = m := IntWalk.i64_in _ (by omega)
          have hm : (inf.bytes : Int) * m ≤ 2000000 * 2000000 := Int.mul_le_mul (by omega) h2 (by omega) (by omega)
          have hbig : ¬ ((inf.bytes : Int) * m > 2 ^ 48) := by omega
          have hsz : inf.size = s' := by simpa [sizeA, hi] using hs'
          subst hsz
          have hc1 : (decide (m < 0) || decide ((inf.bytes : Int) * m > 2 ^ 48) || decide (n < 0) || decide (n > m)) = false := by
            simp; omega
          simp only [Bool.or_eq_false_iff, decide_eq_false_iff_not] at hc1
          obtain ⟨⟨⟨c1, c2⟩, c3⟩, c4⟩ := hc1
          have c2' : ¬ (281474976710656 < (inf.bytes : Int) * m) := by simpa using c2
          have key : (Instr.makeSlice t (.int k n) (.int k' m)).run P w = .ok (.slice (some ⟨w.heap.size, 0, none⟩) n.toNat m.toNat) (w.alloc (.cells z te)) := by
            rcases zeros_cases hs' hz with ⟨h0, rfl⟩ | ⟨h0, y, hy, rfl⟩
            · have hr0 : Array.range 0 = #[] := rfl
              simp [Instr.makeSlice, run_underlying hu, asInt, asIntOf, typeInfo, sizeOf, hi, w1, w2, c1, c2', c3, c4, h0, hr0, newRow]
            · obtain ⟨hy1, _⟩ := run_zero hy w
              simp [Instr.makeSlice, run_underlying hu, asInt, asIntOf, typeInfo, sizeOf, hi, w1, w2, c1, c2', c3, c4, h0, hy1, newRow]
          simp only [execOp, hop, Sem.run_bind]
          rw [el _ _ _ hl, el _ _ _ hc, key]; rfl
        · cases h
      · cases h
    · cases h
  · cases h
theorem made_rel {ρ : Ren} {i pa : Nat} (sh : Option (Nat × Nat)) (h : ρ i = some (pa, 0)) : VRel ρ (madeV sh i) (madeV sh pa) := by
  cases sh with
  | none => exact .ptr _ _ _ _ h
  | some len => exact .slice _ _ _ _ _ _ h
/-! ### Slots that the machine has set ahead -/
def putAll : List (Option Tmp × Value) → Act → Act
  | [], a => a
  | q :: l, a => putAll l (a.put q.1 q.2)
theorem putAll_put {d : Option Tmp} {v : Value} : ∀ (l : List (Option Tmp × Value)) (a : Act), (∀ q ∈ l, ∀ x, q.1 = some x → d ≠ some x) → putAll l (a.put d v) = (putAll l a).put d v
  | [], a, _ => rfl
  | q :: l, a, h => by
    simp only [putAll]
    rw [← putAll_put l (a.put q.1 q.2) fun x hx => h x (by simp [hx])]
    rw [Act.put_comm a q.2 v (h q (by simp))]
theorem putAll_mid {d : Option Tmp} {v : Value} (l1 l2 : List (Option Tmp × Value)) (a : Act) (h : ∀ q ∈ l1, ∀ x, q.1 = some x → d ≠ some x) : putAll (l1 ++ (d, v) :: l2) a = putAll (l1 ++ l2) (a.put d v) := by
  induction l1 generalizing a with
  | nil => rfl
  | cons q l1 ih =>
    simp only [List.cons_append, putAll]
    rw [ih (a.put q.1 q.2) fun x hx => h x (by simp [hx])]
    rw [Act.put_comm a q.2 v (h q (by simp))]
/-- Nothing but that memory runs out. -/
def outOnly (Q : Exit → Act → World → Prop) : Exit → Act → World → Prop := fun e a w => match e with
  | .outgrown => Q .outgrown a w
  | _ => False
theorem outOnly_lets {Q : Exit → Act → World → Prop} (h : LetsOut (outOnly Q)) : LetsOut Q := by
  obtain ⟨a, w, h⟩ := h
  exact ⟨a, w, h⟩
theorem unput_one {j : Nat} {oj : Oper} {d : Option Tmp} {v : Value} (hj : ops[j]? = some oj) (h1 : ∀ x, d = some x → x ∉ oj.looksAt ops) (h2 : ∀ x, d = some x → oj.dst ≠ some x) (hsj : ∀ cs b, oj.op ≠ .select cs b)
    {Q : Exit → Act → World → Prop} {K : Act → World → Prop} {a : Act} {w : World} {F : Fence} (hF : Fw F) (hsa : SemAs F oj) (h : wpOpIn F 20 P ops (outOnly Q) j (fun a' w' => K (a'.put d v) w') a w) : wpOpIn F 20 P ops Q j K (a.put d v) w := by
  unfold wpOpIn at *
  simp only [hj] at *
  rw [wanted_put oj a d v h1]
  split
  · rename_i hw
    rw [if_pos hw] at h
    refine ⟨fun f _ => hF.fn f, ?_⟩
    have h := h.2
    rw [hsa] at h ⊢
    rw [execOp_put oj hsj a d v h1]
    generalize (execOp a.eval oj).run P w = r at *
    cases r with
    | ok n w' =>
      cases n <;> simp only [Oper.uponIn] at h ⊢
      case value u => rw [Act.put_comm a v u h2]; exact h
      case skip => rw [Act.put_comm a v undef h2]; exact h
      case defer df =>
        rw [Act.put_defers, Act.put_comm _ v undef h2]
        exact h
      case enter f args =>
        refine ⟨h.1, CallsIn.mono h.2 fun e w'' he => ?_⟩
        cases e with
        | returned u => show K ((a.put d v).put oj.dst u) w''; rw [Act.put_comm a v u h2]; exact he
        | panicked c => exact he.elim
        | outgrown => exact outOnly_lets he
      case row row args => exact ⟨h.1, RowsIn.mono h.2 fun u w'' he => by rw [Act.put_comm a v u h2]; exact he⟩
      case round l f tmps assign body =>
        refine ⟨h.1, RoundIn.mono h.2 fun e w'' he => ?_⟩
        cases e with
        | returned u => show K ((a.put d v).put oj.dst u) w''; rw [Act.put_comm a v u h2]; exact he
        | panicked c => exact he.elim
        | outgrown => exact outOnly_lets he
    | halt x w' =>
      cases x <;> simp only [Oper.uponIn] at h ⊢
      case panic u => exact h.elim
  · rename_i hw
    rw [if_neg hw] at h
    rw [Act.put_comm a v undef h2]; exact ⟨fun f _ => hF.fn f, h.2⟩
theorem unput_all {j : Nat} {oj : Oper} (hj : ops[j]? = some oj) (hsj : ∀ cs b, oj.op ≠ .select cs b) {Q : Exit → Act → World → Prop} {K : Act → World → Prop} {w : World} {F : Fence} (hF : Fw F) (hsa : SemAs F oj) : ∀ (l : List (Option Tmp × Value)) (a : Act),
    (∀ q ∈ l, (∀ x, q.1 = some x → x ∉ oj.looksAt ops) ∧ ∀ x, q.1 = some x → oj.dst ≠ some x) → wpOpIn F 20 P ops (outOnly Q) j (fun a' w' => K (putAll l a') w') a w → wpOpIn F 20 P ops Q j K (putAll l a) w
  | [], a, _, h => by
    have := unput_one (d := none) (v := undef) (K := K) hj (fun x h => by cases h) (fun x h => by cases h) hsj (a := a) (w := w) hF hsa h
    exact this
  | q :: l, a, hq, h => by
    refine unput_all hj hsj hF hsa l (a.put q.1 q.2) (fun x hx => hq x (by simp [hx])) ?_
    exact unput_one (Q := outOnly Q) (K := fun a' w' => K (putAll l a') w') hj (hq q (by simp)).1 (hq q (by simp)).2 hsj hF hsa h
/-! ### Rows that stay -/
theorem Emb.kp_less {c : Cx} {ρ : Ren} {H : Mem} {w : World} {K K' : Nat → Option Obj} (he : Emb (c.kp K) ρ H w) (h : ∀ r o, K' r = some o → K r = some o) : Emb (c.kp K') ρ H w := by
  have no : ∀ {r}, K r = none → K' r = none := fun {r} hr => by
    cases hk : K' r with
    | none => rfl
    | some o => rw [h r o hk] at hr; cases hr
  refine ⟨⟨he.stay.below, fun r o hr => he.stay.kept r o (h r o hr), he.stay.loops⟩, he.base, he.dom, he.lk, he.lsz, he.glob, fun i b hi hl => ?_, he.inj, fun i b hi hm => ?_, he.minj, he.old⟩
  · obtain ⟨r, x, C, fr, s, h1, h2, h3⟩ := he.blk i b hi hl
    exact ⟨r, x, C, fr, s, h1, h2.imp (fun g => ⟨g.1, no g.2⟩) (fun g => ⟨g.1, no g.2.1, g.2.2⟩), h3⟩
  · obtain ⟨r, es, clock, h1, h2, h3⟩ := he.maps i b hi hm
    exact ⟨r, es, clock, h1, ⟨h2.1, no h2.2.1, h2.2.2⟩, h3⟩
theorem Emb.kp_new {c : Cx} {ρ : Ren} {H : Mem} {w : World} {K : Nat → Option Obj} (he : Emb (c.kp K) ρ H w) (o : Obj) : Emb (c.kp fun r => if r = w.heap.size then some o else K r) ρ H (w.alloc o) := by
  have lt : ∀ {r : Nat} {o : Obj}, w.heap[r]? = some o → r < w.heap.size := fun h => (Array.getElem?_eq_some_iff.1 h).1
  have g := he.stay.alloc he.base o
  refine ⟨⟨g.below, fun r o' hr => ?_, g.loops⟩, Nat.le_trans he.base (by simp), he.dom, he.lk, he.lsz, he.glob, fun i b hi hl => ?_, he.inj, fun i b hi hm => ?_, he.minj, he.old⟩
  · simp only at hr
    split at hr
    · rename_i h; subst h; cases hr
      show (w.heap.push _)[w.heap.size]? = _; simp
    · exact g.kept r o' hr
  · obtain ⟨r, x, C, fr, s, h1, h2, h3, h4⟩ := he.blk i b hi hl
    have hne : r ≠ w.heap.size := Nat.ne_of_lt (lt h3)
    exact ⟨r, x, C, fr, s, h1, h2.imp (fun g => ⟨g.1, by show (if r = _ then _ else _) = _; rw [if_neg hne]; exact g.2⟩) (fun g => ⟨g.1, by show (if r = _ then _ else _) = _; rw [if_neg hne]; exact g.2.1, g.2.2⟩), by rw [Below.heap_alloc _ _ _ (lt h3)]; exact h3, h4⟩
  · obtain ⟨r, es, clock, h1, h2, h3, h4⟩ := he.maps i b hi hm
    have hne : r ≠ w.heap.size := Nat.ne_of_lt (lt h3)
    exact ⟨r, es, clock, h1, ⟨h2.1, by show (if r = _ then _ else _) = _; rw [if_neg hne]; exact h2.2.1, h2.2.2⟩, by rw [Below.heap_alloc _ _ _ (lt h3)]; exact h3, h4⟩
/-- A row that stayed is the evaluator's new one. -/
theorem Emb.kp_pay {c : Cx} {ρ : Ren} {H H' : Mem} {w : World} {K : Nat → Option Obj} (he : Emb (c.kp K) ρ H w) {t : TypeId} {cs : List Value} {C : Array Value} {pa s : Nat} (hs : sizeA c.P t = some s) (hC : LR (VRel ρ) cs C.toList) (hK : K pa = some (.cells C t)) (hB : c.B ≤ pa) (hp : H.push ⟨cs, t, true, true⟩ = some H') :
    Emb (c.kp fun r => if r = pa then none else K r) (ρ.put H.size (pa, 0)) H' w := by
  have he' : Emb (c.kp fun r => if r = pa then none else K r) ρ H w := he.kp_less fun r o hr => by
    split at hr
    · cases hr
    · exact hr
  have hLp : c.Lp pa = none := by
    cases hl : c.Lp pa with
    | none => rfl
    | some l =>
      have h1 := he.stay.loops pa l hl
      rw [he.stay.kept pa _ hK] at h1
      cases h1
  refine he'.add hp he'.stay he'.base he'.blk he'.maps (fun i b r' y hi hl hr e => ?_) (he.stay.kept pa _ hK) ⟨hB, if_pos rfl, hLp⟩ (unfrozen_zero _) hs ⟨0, by have := hC.1; simp at this ⊢; omega, fun _ => rfl⟩ ?_ (fun _ => rfl) (Spare.full (by have := hC.1; simp at this; omega))
  · subst e
    obtain ⟨r, x, C, fr, s, h1, h2, h3⟩ := he.blk i b hi hl
    rw [hr] at h1; cases h1
    rcases h2 with h2 | h2
    · have := h2.2; simp only at this; rw [hK] at this; cases this
    · have := h2.2.1; simp only at this; rw [hK] at this; cases this
  · have := hC.begins
    simpa using this
/-- What the machine has made ahead: the operations' numbers, the rows, what they are (a pointer, or a slice so long). -/
structure Owed (P : Program) (ops : Array Oper) (c : Cx) (K : Nat → Option Obj) (a : Act) (ρ : Ren) (ps : List (Nat × Nat × Option (Nat × Nat))) : Prop where
  each : ∀ q ∈ ps, c.B ≤ q.2.1 ∧ c.K q.2.1 = none ∧ ∃ o te cs C s d, ops[q.1]? = some o ∧ o.dst = some d ∧ madeA P a.eval o = some (te, cs, q.2.2) ∧ sizeA P te = some s ∧ LR (VRel ρ) cs C.toList ∧ K q.2.1 = some (.cells C te)
  rest : ∀ r, (∀ q ∈ ps, q.2.1 ≠ r) → K r = c.K r
  nodup : (ps.map (·.2.1)).Nodup
  dsts : ps.Pairwise fun q q' => ∀ o o', ops[q.1]? = some o → ops[q'.1]? = some o' → o.dst ≠ o'.dst
theorem Owed.next {c : Cx} {K : Nat → Option Obj} {a : Act} {ρ ρ' : Ren} {ps : List (Nat × Nat × Option (Nat × Nat))} (h : Owed P ops c K a ρ ps) (hle : ρ.le ρ') {dst : Option Tmp} (v : Value) (hd : ∀ q ∈ ps, ∀ o, ops[q.1]? = some o → ∀ x, dst = some x → x ∉ o.looksAt ops) : Owed P ops c K (a.put dst v) ρ' ps :=
  ⟨fun q hq => by
    obtain ⟨g1, g2, o, te, cs, C, s, d, g3, g4, g5, g6, g7, g8⟩ := h.each q hq
    exact ⟨g1, g2, o, te, cs, C, s, d, g3, g4, by rw [made_put a v (hd q hq o g3)]; exact g5, g6, g7.mono fun _ _ => VRel.mono hle, g8⟩, h.rest, h.nodup, h.dsts⟩
def owedVals (ops : Array Oper) (ps : List (Nat × Nat × Option (Nat × Nat))) : List (Option Tmp × Value) := ps.map fun q => ((ops[q.1]?).bind (·.dst), madeV q.2.2 q.2.1)
/-! ### Operations that look elsewhere -/
theorem eval_put_of {o oi : Oper} (a : Act) (v : Value) (h : ∀ d, oi.dst = some d → d ∉ o.looksAt ops) : ∀ x ∈ o.op.operands, (a.put oi.dst v).eval x = a.eval x := fun x hx => Act.eval_put fun d hd hxd => h d hd (by
    subst hxd
    exact List.mem_append_left _ (List.mem_filterMap.2 ⟨.tmp d, by simpa using hx, rfl⟩))
theorem pureA_congr {o : Oper} {ev ev' : Operand → Value} (hv : ∀ x ∈ o.op.operands, ev x = ev' x) (hsel : ∀ cs b, o.op ≠ .select cs b) : pureA P ev o = pureA P ev' o := by
  have hc : execOp ev o = execOp ev' o := execOp_congr o hsel hv
  have ho : operandsFree ev o.op = operandsFree ev' o.op := by
    unfold operandsFree
    rw [Bool.eq_iff_iff, List.all_eq_true, List.all_eq_true]
    constructor
    · intro hh x hx; rw [← hv x (by simpa using hx)]; exact hh x hx
    · intro hh x hx; rw [hv x (by simpa using hx)]; exact hh x hx
  have hor : orcA P ev o = orcA P ev' o := by
    unfold orcA
    split
    · rename_i op t x y yt hop
      rw [hv x (by simp [hop, Op.operands]), hv y (by simp [hop, Op.operands])]
    · rename_i s d x hop
      rw [hv x (by simp [hop, Op.operands])]
    · rfl
  unfold pureA
  rw [hc, ho, hor]
theorem partsA_congr {ev ev' : Operand → Value} {ps : Array (Nat × Operand)} (h : ∀ q ∈ ps, ev q.2 = ev' q.2) : partsA ev ps = partsA ev' ps := by
  unfold partsA
  apply List.map_congr_left
  intro q hq
  rw [h q (by simpa using hq)]
theorem opA_congr {o : Oper} {ev ev' : Operand → Value} (H : Mem) (hv : ∀ x ∈ o.op.operands, ev x = ev' x) (hsel : ∀ cs b, o.op ≠ .select cs b) : opA P call ev o H = opA P call ev' o H := by
  have hp := pureA_congr (P := P) hv hsel
  unfold opA
  split
  case h_1 hop => rw [hv _ (by simp [hop, Op.operands])]
  case h_2 hop => rw [hv _ (by simp [hop, Op.operands])]
  case h_3 c x y hop => rw [hv c (by simp [hop, Op.operands]), hv x (by simp [hop, Op.operands]), hv y (by simp [hop, Op.operands])]
  case h_4 op t x y yt hop => unfold opBin; rw [hp, hv x (by simp [hop, Op.operands]), hv y (by simp [hop, Op.operands])]
  case h_5 hop => rfl
  case h_6 t x hop => rw [hv x (by simp [hop, Op.operands])]
  case h_7 t ps hop => rw [partsA_congr fun q hq => hv q.2 (by simp [hop, Op.operands]; exact ⟨q.1, by simpa using hq⟩)]
  case h_8 t len ps hop => rw [partsA_congr fun q hq => hv q.2 (by simp [hop, Op.operands]; exact ⟨q.1, by simpa using hq⟩)]
  case h_9 t x hop => rw [hv x (by simp [hop, Op.operands])]
  case h_10 t x y hop => rw [hv x (by simp [hop, Op.operands]), hv y (by simp [hop, Op.operands])]
  case h_11 x hop => rw [hv x (by simp [hop, Op.operands])]
  case h_12 s x f hop => rw [hv x (by simp [hop, Op.operands])]
  case h_13 t x ix hop => rw [hv x (by simp [hop, Op.operands]), hv ix (by simp [hop, Op.operands])]
  case h_14 x k hop => rw [hv x (by simp [hop, Op.operands])]
  case h_15 t l c hop => rw [hv l (by simp [hop, Op.operands]), hv c (by simp [hop, Op.operands])]
  case h_16 fn first captured hop =>
    rw [Array.map_congr_left (xs := first) fun x hx => hv x (by simp [hop, Op.operands, hx]), Array.map_congr_left (xs := captured) fun x hx => hv x (by simp [hop, Op.operands, hx])]
  case h_17 t x lo hi hop =>
    have e1 : lo.map ev = lo.map ev' := by cases lo with | none => rfl | some y => simp only [Option.map_some]; rw [hv y (by simp [hop, Op.operands])]
    have e2 : hi.map ev = hi.map ev' := by cases hi with | none => rfl | some y => simp only [Option.map_some]; rw [hv y (by simp [hop, Op.operands])]
    unfold opSlice
    rw [hp, e1, e2, hv x (by simp [hop, Op.operands])]
  case h_18 t x f hop => rw [hv x (by simp [hop, Op.operands])]
  case h_19 t x ix hop => unfold opIndex; rw [hp, hv x (by simp [hop, Op.operands]), hv ix (by simp [hop, Op.operands])]
  case h_20 s d x hop => unfold opConvert; rw [hp, hv x (by simp [hop, Op.operands])]
  case h_21 cl hop =>
    have harg : ∀ x ∈ cl.args, ev x = ev' x := fun x hx => hv x (by simp [hop, Op.operands, Call.operands, hx])
    unfold opCalls
    split
    · rename_i f hf
      unfold opExt
      rw [hp, hv f (by simp [hop, hf, Op.operands, Call.operands]), List.map_congr_left (l := cl.args.toList) (f := ev) (g := ev') fun x hx => harg x (by simpa using hx)]
    · unfold opBuiltin
      split
      · unfold opLen
        split
        · rename_i x t hx _; rw [harg x (Array.mem_of_getElem? hx), hp]
        · rfl
      · unfold opAppend
        split
        · rename_i s x st xt hs0 hx0 _ _
          rw [harg s (Array.mem_of_getElem? hs0), harg x (Array.mem_of_getElem? hx0)]
        · rfl
      · unfold opCopy
        split
        · rename_i d x dt hd0 hx0 _
          rw [harg d (Array.mem_of_getElem? hd0), harg x (Array.mem_of_getElem? hx0)]
        · rfl
      · unfold opCap
        split
        · rename_i x t hx _; rw [harg x (Array.mem_of_getElem? hx)]
        · rfl
      · unfold opSliceData
        split
        · rename_i x hx; rw [harg x (Array.mem_toList_iff.1 (by rw [hx]; simp))]
        · rfl
      · unfold opUStr
        split
        · rename_i p n pt _ hx _
          rw [harg p (Array.mem_toList_iff.1 (by rw [hx]; simp)), harg n (Array.mem_toList_iff.1 (by rw [hx]; simp))]
        · rfl
      · rw [hp]
    · rename_i r m hm
      rw [hv r (by simp [hop, hm, Op.operands, Call.operands]), List.map_congr_left (l := cl.args.toList) (f := ev) (g := ev') fun x hx => harg x (by simpa using hx)]
  case h_22 t r hop =>
    have e1 : r.map ev = r.map ev' := by cases r with | none => rfl | some y => simp only [Option.map_some]; rw [hv y (by simp [hop, Op.operands])]
    rw [e1]
  case h_23 t x k ok hop => rw [hv x (by simp [hop, Op.operands]), hv k (by simp [hop, Op.operands])]
  case h_24 t m k x hop => rw [hv m (by simp [hop, Op.operands]), hv k (by simp [hop, Op.operands]), hv x (by simp [hop, Op.operands])]
  case h_25 t m k x hop => rw [hv m (by simp [hop, Op.operands]), hv k (by simp [hop, Op.operands]), hv x (by simp [hop, Op.operands])]
  case h_26 =>
    unfold opRest
    split
    · rename_i t x hop; rw [hv x (by simp [hop, Op.operands])]
    · rename_i x s hop; rw [hv x (by simp [hop, Op.operands])]
    · rename_i x hop; rw [hv x (by simp [hop, Op.operands])]
    · rename_i t x hi m hop; rw [hv x (by simp [hop, Op.operands]), hv hi (by simp [hop, Op.operands]), hv m (by simp [hop, Op.operands])]
    · rw [hp]
theorem stepS_put {o oi : Oper} (a : Act) (v : Value) (H : Mem) (h1 : ∀ d, oi.dst = some d → d ∉ o.looksAt ops) (h2 : ∀ d, oi.dst = some d → o.dst ≠ some d) (hsel : ∀ cs b, o.op ≠ .select cs b) :
    stepS P call ops o (a.put oi.dst v) H = (stepS P call ops o a H).map fun r => (r.1.put oi.dst v, r.2) := by
  unfold stepS
  rw [wanted_put o a oi.dst v h1, opA_congr (P := P) (call := call) H (eval_put_of a v h1) hsel]
  split
  · cases opA P call a.eval o H with
    | none => rfl
    | some r => simp [Act.put_comm a v r.1 h2]
  · simp [Act.put_comm a v undef h2]
theorem appBase_mem {op : Op} {s : Operand} (h : appBase op = some s) : s ∈ op.operands := by
  unfold appBase at h
  split at h
  · rename_i args ats
    have := Array.mem_of_getElem? h
    simp only [Op.operands, Call.operands]
    simpa using this
  · cases h
theorem storeBase_mem {op : Op} {s : Operand} (h : storeBase op = some s) : s ∈ op.operands := by
  unfold storeBase at h
  split at h
  · cases h; simp [Op.operands]
  · cases h
theorem stepLS_put {o oi : Oper} {R : Option (List Nat)} {lk : Bool} (a : Act) (v : Value) (H : Mem) (h1 : ∀ d, oi.dst = some d → d ∉ o.looksAt ops) (h2 : ∀ d, oi.dst = some d → o.dst ≠ some d) (hsel : ∀ cs b, o.op ≠ .select cs b) :
    stepLS P call ops R lk o (a.put oi.dst v) H = (stepLS P call ops R lk o a H).map fun r => (r.1.put oi.dst v, r.2) := by
  unfold stepLS
  rw [stepS_put a v _ h1 h2 hsel, stepS_put a v _ h1 h2 hsel]
  split
  · cases hb : appBase o.op with
    | some s =>
      simp only
      rw [eval_put_of a v h1 s (appBase_mem hb)]
      split
      · rfl
      · rfl
    | none =>
      simp only
      have hsc : storeClear R (a.put oi.dst v).eval o = storeClear R a.eval o := by
        unfold storeClear
        split
        · rename_i s hs
          rw [eval_put_of a v h1 s (storeBase_mem hs)]
        · rfl
      rw [hsc]
      split
      · rfl
      · cases stepS P call ops o a { H with lk := H.size } with
        | none =>
          simp only [Option.map_none]
          unfold hideS
          split
          · rename_i l _ _
            cases hideL H l H with
            | none => rfl
            | some H1 =>
              simp only
              rw [stepS_put a v _ h1 h2 hsel]
              cases stepS P call ops o a H1 with
              | none => rfl
              | some r =>
                obtain ⟨a', H2⟩ := r
                simp only [Option.map_some]
                cases unhideL H l H2 with
                | none => rfl
                | some H3 => rfl
          · rfl
        | some r => rfl
  · rfl
/-- A step leaves the slots as they were, but for its own. -/
theorem stepS_shape {o : Oper} {a a' : Act} {H H' : Mem} (h : stepS P call ops o a H = some (a', H')) : ∃ u, a' = a.put o.dst u := by
  unfold stepS at h
  split at h
  · simp only [Option.map_eq_some_iff] at h
    obtain ⟨r, _, heq⟩ := h
    cases heq; exact ⟨_, rfl⟩
  · cases h; exact ⟨_, rfl⟩
theorem stepLS_shape {o : Oper} {R : Option (List Nat)} {lk : Bool} {a a' : Act} {H H' : Mem} (h : stepLS P call ops R lk o a H = some (a', H')) : ∃ u, a' = a.put o.dst u := by
  rcases stepLS_cases h with ⟨h, _⟩ | ⟨_, u, hu, heq⟩ | ⟨_, hh⟩
  · exact stepS_shape h
  · cases heq; exact stepS_shape hu
  · obtain ⟨l, H1, H2, rfl, _, _, g2, _⟩ := hideS_cases hh
    exact stepS_shape g2
theorem anyD_ok (hno : noOwn P) {G : Nat} (hok : okOps G ops.toList = true) (hcall : CallOk P G GR ye call) (hk : CallKeeps call) (hsel : ∀ (j : Nat) (o : Oper) cs b, ops[j]? = some o → o.op ≠ .select cs b) {c : Cx} (hcP : c.P = P) (hcG : c.At G GR ye) {F : Fence} (hF : Fw F) (hsa : ∀ o ∈ ops.toList, SemAs F o) {Fin : Act → Mem → Prop} {Q : Exit → Act → World → Prop}
    {RL : List (Nat × Option Nat)} {x : Option Nat} {listed : Array Bool} {pend : List Nat} {a : Act} {H : Mem} (h : AnyD P call ops Fin RL x listed pend a H) :
    ∀ (K : Nat → Option Obj) (ps : List (Nat × Nat × Option (Nat × Nat))) (ρ : Ren) (w : World) (ar : Act), ps.map (·.1) = pend → Owed P ops c K a ρ ps → Sim ρ a ar → Emb (c.kp K) ρ H w → (∀ a' H' ρ' ar' w', Fin a' H' → ρ.le ρ' → Sim ρ' a' ar' → Emb c ρ' H' w' → Q .normal ar' w') →
      match x with
      | none => ∀ n, cnt ops listed ≤ n → wpAnyIn F 20 P .any ops Q n listed (putAll (owedVals ops ps) ar) w
      | some i => ∀ n, cnt ops (listed.setIfInBounds i true) ≤ n → wpOpIn F 20 P ops Q i (wpAnyIn F 20 P .any ops Q n (listed.setIfInBounds i true)) (putAll (owedVals ops ps) ar) w := by
  have hsaa : ∀ {i : Nat} {o : Oper}, ops[i]? = some o → SemAs F o := fun {i o} ho => hsa o (by have := Array.mem_of_getElem? ho; simpa using this)
  have hokk : ∀ {i : Nat} {o : Oper}, ops[i]? = some o → o.op.operands.toList.all (operandOk G) = true := fun {i o} ho => List.all_eq_true.1 hok o (by have := Array.mem_of_getElem? ho; simpa using this)
  induction h with
  | @pay listed l1 l2 i o R lk a a' H H' ho hm hst hap h ih =>
    intro K ps ρ w ar hps hO hs he hQ n hn
    obtain ⟨ps1, ps2', rfl, hp1, hp2⟩ := List.map_eq_append_iff.1 hps
    obtain ⟨q, ps2, rfl, hq, hp2⟩ := List.map_eq_cons_iff.1 hp2
    obtain ⟨hB, hc0, o', te, cs, C, s, d, ho', hdst, hmade, hsz, hC, hK⟩ := hO.each q (by simp)
    rw [hq, ho] at ho'; cases ho'
    obtain ⟨te', cs', sh', hmade', hp, rfl⟩ := made_step hm hst
    rw [hmade] at hmade'; cases hmade'
    have hnd : q.2.1 ∉ (ps1 ++ ps2).map (·.2.1) ∧ ((ps1 ++ ps2).map (·.2.1)).Nodup := by
      have h1 := hO.nodup
      rw [List.map_append, List.map_cons] at h1
      have := (List.perm_middle (a := q.2.1) (l₁ := ps1.map (·.2.1)) (l₂ := ps2.map (·.2.1))).nodup_iff.1 h1
      rw [List.map_append]
      exact List.nodup_cons.1 this
    have sub : ∀ {y : Nat × Nat × Option (Nat × Nat)}, y ∈ ps1 ++ ps2 → y ∈ ps1 ++ q :: ps2 := fun hx => by
      rcases List.mem_append.1 hx with h1 | h1
      · exact List.mem_append_left _ h1
      · exact List.mem_append_right _ (List.mem_cons_of_mem _ h1)
    have hpw := List.pairwise_append.1 hO.dsts
    have hle := he.le_put (Nat.le_refl H.size) (q.2.1, 0)
    have hmid : putAll (owedVals ops (ps1 ++ q :: ps2)) ar = putAll (owedVals ops (ps1 ++ ps2)) (ar.put o.dst (madeV q.2.2 q.2.1)) := by
      unfold owedVals
      rw [List.map_append, List.map_cons, List.map_append]
      have e : (ops[q.1]?).bind (·.dst) = o.dst := by rw [hq, ho]; rfl
      rw [e]
      refine putAll_mid _ _ _ fun y hy x hx hd => ?_
      obtain ⟨q', hq', rfl⟩ := List.mem_map.1 hy
      obtain ⟨_, _, o2, te2, cs2, C2, s2, d2, ho2, _⟩ := hO.each q' (by simp [hq'])
      simp only [ho2, Option.bind_some] at hx
      exact hpw.2.2 q' hq' q (by simp) o2 o ho2 (by rw [hq]; exact ho) (by rw [hx, hd])
    rw [hmid]
    subst hcP
    have hO1 : Owed c.P ops c (fun r => if r = q.2.1 then none else K r) a ρ (ps1 ++ ps2) := by
      refine ⟨fun y hy => ?_, fun r hr => ?_, hnd.2, ?_⟩
      · obtain ⟨g1, g2, o2, te2, cs2, C2, s2, d2, g3, g4, g5, g6, g7, g8⟩ := hO.each y (sub hy)
        refine ⟨g1, g2, o2, te2, cs2, C2, s2, d2, g3, g4, g5, g6, g7, ?_⟩
        have hne : y.2.1 ≠ q.2.1 := fun e => hnd.1 (by rw [← e]; exact List.mem_map.2 ⟨y, hy, rfl⟩)
        rw [if_neg hne]; exact g8
      · by_cases e : r = q.2.1
        · rw [if_pos e, e, hc0]
        · rw [if_neg e]
          refine hO.rest r fun y hy => ?_
          rcases List.mem_append.1 hy with h1 | h1
          · exact hr y (List.mem_append_left _ h1)
          · rcases List.mem_cons.1 h1 with rfl | h1
            · exact Ne.symm e
            · exact hr y (List.mem_append_right _ h1)
      · exact List.pairwise_append.2 ⟨hpw.1, (List.pairwise_cons.1 hpw.2.1).2, fun y hy y' hy' => hpw.2.2 y hy y' (by simp [hy'])⟩
    refine ih _ (ps1 ++ ps2) (ρ.put H.size (q.2.1, 0)) w _ (by rw [List.map_append, hp1, hp2]) (hO1.next hle _ fun y hy om hom => hap y.1 (by rw [← hp1, ← hp2, ← List.map_append]; exact List.mem_map.2 ⟨y, hy, rfl⟩) om hom) ((hs.mono hle).put o.dst (made_rel _ (Ren.put_same _ _ _))) (he.kp_pay hsz hC hK hB hp) (fun a' H' ρ' ar' w' k0 k1 => hQ a' H' ρ' ar' w' k0 (Ren.le_trans hle k1)) n hn
  | @step listed pend a H h0 h ih =>
    intro K ps ρ w ar hps hO hs he hQ n hn
    have fin : Region.ready .any ops listed = [] → Q .normal (putAll (owedVals ops ps) ar) w := fun hr => by
      obtain ⟨h1, h2⟩ := h0 hr
      subst h1
      have : ps = [] := List.map_eq_nil_iff.1 hps
      subst this
      have hKK : K = c.K := funext fun r => hO.rest r fun q hq => by cases hq
      subst hKK
      exact hQ _ _ ρ ar w h2 (Ren.le_refl _) hs he
    cases n with
    | zero =>
      have hnil : Region.ready .any ops listed = [] := List.eq_nil_iff_forall_not_mem.2 fun i hi => by
        have := (ready_cnt hi).2.2; omega
      exact ⟨hnil, fin hnil⟩
    | succ n => exact ⟨fin, fun i hi => ih i hi K ps ρ w ar hps hO hs he hQ n (by have := (ready_cnt hi).2.2; omega)⟩
  | @sync listed pend i o R lk a a' H H' ho hst hR hap h ih =>
    intro K ps ρ w ar hps hO hs he hQ n hn
    refine unput_all ho (fun cs b => hsel i o cs b ho) hF (hsaa ho) _ _ (fun q hq => ?_) ?_
    · obtain ⟨y, hy, rfl⟩ := List.mem_map.1 hq
      obtain ⟨_, _, o2, te2, cs2, C2, s2, d2, ho2, _⟩ := hO.each y hy
      have h1 := (hap y.1 (by rw [← hps]; exact List.mem_map.2 ⟨y, hy, rfl⟩) o2 ho2).1
      simp only [ho2, Option.bind_some]
      exact ⟨fun x hx => (h1 x hx).1, fun x hx => (h1 x hx).2⟩
    · obtain ⟨u, rfl⟩ := stepLS_shape hst
      unfold wpOpIn
      simp only [ho]
      exact stepLS_ok hno hcall hk (hokk ho) hst (c := c.kp K) hcP ⟨hcG.g, hcG.rows, hcG.len, hcG.env, hcG.harm, hcG.memo⟩ hs he hF (hsaa ho) fun ρ' ar' w' h1 h2 h3 => ih K ps ρ' w' ar' hps (hO.next h1 u fun y hy om hom => (hap y.1 (by rw [← hps]; exact List.mem_map.2 ⟨y, hy, rfl⟩) om hom).2) h2 h3 (fun a'' H'' ρ'' ar'' w'' k0 k1 => hQ a'' H'' ρ'' ar'' w'' k0 (Ren.le_trans h1 k1)) n hn
  | @owe listed pend i o a H ho hm hmade hd h ih =>
    intro K ps ρ w ar hps hO hs he hQ n hn
    obtain ⟨hg, ⟨d, hdst⟩, _⟩ := makes_spec hm
    obtain ⟨⟨te, cs, sh⟩, hmd⟩ := Option.isSome_iff_exists.1 hmade
    have hw : ∀ ar : Act, Region.wanted o (yielded ops ar.tmps) = true := fun ar => by unfold Region.wanted; rw [hg]
    subst hcP
    have hG0 := hcG.g
    subst hG0
    have hev0 : EvR ρ a.eval ar.eval o.op := fun x hx => hs.eval he.glob (List.all_eq_true.1 (hokk ho) x (by simpa using hx))
    have hsame : ∀ (l : List (Option Tmp × Value)) (ar : Act), (∀ q ∈ l, ∀ x, q.1 = some x → x ∉ o.looksAt ops) → ∀ x ∈ o.op.operands, (putAll l ar).eval x = ar.eval x := by
      intro l
      induction l with
      | nil => intro ar _ x _; rfl
      | cons q l ih =>
        intro ar hq x hx
        show (putAll l (ar.put q.1 q.2)).eval x = _
        rw [ih _ (fun y hy => hq y (by simp [hy])) x hx]
        exact eval_put_of (ops := ops) (oi := { o with dst := q.1 }) ar q.2 (fun d' hd' => hq q (by simp) d' hd') x hx
    have hev : EvR ρ a.eval (putAll (owedVals ops ps) ar).eval o.op := fun x hx => by
      rw [hsame (owedVals ops ps) ar (fun q hq y hy => ?_) x hx]
      · exact hev0 x hx
      · obtain ⟨z, hz, rfl⟩ := List.mem_map.1 hq
        obtain ⟨_, _, o2, te2, cs2, C2, s2, d2, ho2, _⟩ := hO.each z hz
        simp only [ho2, Option.bind_some] at hy
        exact (hd z.1 (by rw [← hps]; exact List.mem_map.2 ⟨z, hz, rfl⟩) o2 ho2).2 y hy
    obtain ⟨⟨s, hsz⟩, C, hC, hrun⟩ := made_run hev hmd
    unfold wpOpIn
    simp only [ho]
    rw [if_pos (hw _)]
    refine op_value hF (hsaa ho) (hrun _) ?_
    have fresh := he.stay.fresh he.base
    have hne : ∀ q ∈ ps, q.2.1 ≠ w.heap.size := fun q hq e => by
      obtain ⟨_, _, o2, te2, cs2, C2, s2, d2, _, _, _, _, _, hK2⟩ := hO.each q hq
      have := fresh.2.1
      simp only at this
      rw [← e, hK2] at this; cases this
    have hput : (putAll (owedVals ops ps) ar).put o.dst (madeV sh w.heap.size) = putAll (owedVals ops ((i, w.heap.size, sh) :: ps)) ar := by
      have e : (ops[i]?).bind (·.dst) = o.dst := by rw [ho]; rfl
      unfold owedVals
      rw [List.map_cons]
      simp only [putAll]
      rw [e]
      refine (putAll_put _ _ fun y hy x hx hxd => ?_).symm
      obtain ⟨q, hq, rfl⟩ := List.mem_map.1 hy
      obtain ⟨_, _, o2, te2, cs2, C2, s2, d2, ho2, _⟩ := hO.each q hq
      simp only [ho2, Option.bind_some] at hx
      exact (hd q.1 (by rw [← hps]; exact List.mem_map.2 ⟨q, hq, rfl⟩) o2 ho2).1 (by rw [hx, hxd])
    rw [hput]
    refine ih _ ((i, w.heap.size, sh) :: ps) ρ _ ar (by simp [hps]) ⟨fun q hq => ?_, fun r hr => ?_, ?_, ?_⟩ hs (he.kp_new (.cells C te)) hQ n hn
    · rcases List.mem_cons.1 hq with rfl | hq
      · refine ⟨fresh.1, ?_, o, te, cs, C, s, d, ho, hdst, hmd, hsz, hC, if_pos rfl⟩
        rw [← hO.rest w.heap.size hne]; exact fresh.2.1
      · obtain ⟨g1, g2, o2, te2, cs2, C2, s2, d2, g3, g4, g5, g6, g7, g8⟩ := hO.each q hq
        exact ⟨g1, g2, o2, te2, cs2, C2, s2, d2, g3, g4, g5, g6, g7, by rw [if_neg (hne q hq)]; exact g8⟩
    · have := hr (i, w.heap.size, sh) (by simp)
      simp only at this
      rw [if_neg (Ne.symm this)]
      exact hO.rest r fun q hq => hr q (by simp [hq])
    · rw [List.map_cons]
      refine List.nodup_cons.2 ⟨fun hm' => ?_, hO.nodup⟩
      obtain ⟨q, hq, e⟩ := List.mem_map.1 hm'
      exact hne q hq e
    · refine List.pairwise_cons.2 ⟨fun q hq o1 o2 h1 h2 e => ?_, hO.dsts⟩
      rw [ho] at h1; cases h1
      exact (hd q.1 (by rw [← hps]; exact List.mem_map.2 ⟨q, hq, rfl⟩) o2 h2).1 e.symm
/-! ### Quiet operations -/
theorem withMem_free {H H' : Mem} {x : Option Value} {v : Value} (h : withMem H x = some (v, H')) : H' = H ∧ ∀ H2, withMem H2 x = some (v, H2) := by
  obtain ⟨rfl, rfl⟩ := withMem_spec h; exact ⟨rfl, fun _ => rfl⟩
theorem opLen_free {ev : Operand → Value} {o : Oper} {args : Array Operand} {ats : Array TypeId} {H H' : Mem} {v : Value} (h : opLen P ev o args ats H = some (v, H')) : H' = H ∧ ∀ H2, opLen P ev o args ats H2 = some (v, H2) := by
  unfold opLen at h ⊢
  generalize args[0]? = x at h ⊢
  generalize ats[0]? = y at h ⊢
  cases x <;> cases y <;> first | (cases h; done) | exact withMem_free h
theorem quiet_op {ev : Operand → Value} {o : Oper} {H H' : Mem} {v : Value} (hq : quiet P o.op = true) (h : opA P call ev o H = some (v, H')) :
    H' = H ∧ (isLoad o.op = false → ∀ H2, opA P call ev o H2 = some (v, H2)) ∧ (∀ H2, Ext H H2 → opA P call ev o H2 = some (v, H2)) := by
  have all : ∀ {f : Mem → Option (Value × Mem)}, (H' = H ∧ ∀ H2, f H2 = some (v, H2)) → H' = H ∧ (isLoad o.op = false → ∀ H2, f H2 = some (v, H2)) ∧ (∀ H2, Ext H H2 → f H2 = some (v, H2)) := fun hh => ⟨hh.1, fun _ => hh.2, fun H2 _ => hh.2 H2⟩
  unfold opA at h ⊢
  split at h
  case h_1 hop => cases h; simp only [hop] at all ⊢; refine ⟨?_, ?_, ?_⟩ <;> intros <;> trivial
  case h_2 hop => cases h; simp only [hop] at all ⊢; refine ⟨?_, ?_, ?_⟩ <;> intros <;> trivial
  case h_3 hop =>
    simp only [hop] at all ⊢
    unfold opPick at h ⊢
    split at h
    · rename_i t ht; cases h; simp only; refine ⟨?_, ?_, ?_⟩ <;> intros <;> trivial
    · cases h
  case h_4 hop => simp only [hop] at all ⊢; exact all (withMem_free h)
  case h_5 hop => simp [hop, quiet] at hq
  case h_6 hop => simp [hop, quiet] at hq
  case h_7 hop => simp only [hop] at all ⊢; exact all (withMem_free h)
  case h_8 hop => simp [hop, quiet] at hq
  case h_9 t x hop =>
    obtain ⟨hu, rfl⟩ := withMem_spec h
    simp only [hop]
    refine ⟨trivial, fun hl => by simp [isLoad] at hl, fun H2 hx => ?_⟩
    have hal : ∀ i b, alive H' i = some b → alive H2 i = some b := by
      intro i b hb
      obtain ⟨h1, h2⟩ := alive_some hb
      unfold alive
      rw [hx i b h1]
      simp [h2]
    have : loadA P H2 t (ev x) = some v := by
      unfold loadA at hu ⊢
      split at hu
      · split at hu
        · rename_i n _ _
          simp only [Option.map_eq_some_iff] at hu ⊢
          obtain ⟨l, hl, rfl⟩ := hu
          refine ⟨l, ?_, rfl⟩
          rw [readCells_def] at hl ⊢
          split at hl
          · rename_i b hb
            rw [hal _ _ hb]; exact hl
          · cases hl
        · split at hu
          · rename_i b hb
            rw [hal _ _ hb]; exact hu
          · cases hu
        · cases hu
      · cases hu
    rw [this]; rfl
  case h_10 hop => simp [hop, quiet] at hq
  case h_11 hop =>
    simp only [hop] at all ⊢
    unfold opNilCheck at h ⊢
    split at h
    · rename_i q hx; cases h; simp only; refine ⟨?_, ?_, ?_⟩ <;> intros <;> trivial
    · rename_i q1 q2 q3 hx; cases h; simp only; refine ⟨?_, ?_, ?_⟩ <;> intros <;> trivial
    · rename_i q1 q2 q3 hx; cases h; simp only; refine ⟨?_, ?_, ?_⟩ <;> intros <;> trivial
    · cases h
  case h_12 hop => simp only [hop] at all ⊢; exact all (withMem_free h)
  case h_13 hop => simp only [hop] at all ⊢; exact all (withMem_free h)
  case h_14 x k hop =>
    simp only [hop] at all ⊢
    unfold opExtract at h ⊢
    generalize ev x = q at h ⊢
    cases q <;> first | (cases h; done) | exact all (withMem_free h)
  case h_15 hop => simp [hop, quiet] at hq
  case h_16 fn first captured hop =>
    simp only [hop] at all ⊢
    cases hn : notYield fn with
    | false => rw [hn] at h; cases h
    | true => rw [hn] at h; cases h; refine ⟨?_, ?_, ?_⟩ <;> intros <;> trivial
  case h_17 hop =>
    simp only [hop] at all hq ⊢
    simp only [quiet, Bool.not_eq_true'] at hq
    unfold opSlice at h ⊢
    rw [hq] at h ⊢
    exact all (withMem_free h)
  case h_18 hop => simp only [hop] at all ⊢; exact all (withMem_free h)
  case h_19 hop => simp only [hop] at all ⊢; exact all (withMem_free h)
  case h_20 s d x hop =>
    simp only [hop] at all hq ⊢
    simp only [quiet, Bool.and_eq_true, Bool.not_eq_true'] at hq
    unfold opConvert at h ⊢
    split at h
    · rename_i u hu; cases h; simp only; refine ⟨?_, ?_, ?_⟩ <;> intros <;> trivial
    · exfalso
      unfold convertA at h
      split at h
      · have hq1 := hq.1.1; clear h all hq; simp_all [isSliceT]
      · have hq2 := hq.1.2; clear h all hq; simp_all [isSliceT]
      · have hq1 := hq.1.1; clear h all hq; simp_all [isSliceT]
      · have hq3 := hq.2; clear h all hq; simp_all [isPtrT]
      · have hq3 := hq.2; clear h all hq; simp_all [isPtrT]
      · cases h
  case h_21 cl hop =>
    obtain ⟨callee, args, ats⟩ := cl
    simp only [hop] at all hq ⊢
    unfold opCalls at h ⊢
    cases callee with
    | value f => simp [quiet] at hq
    | invoke r m => simp [quiet] at hq
    | builtin b =>
      simp only at h ⊢
      unfold opBuiltin at h ⊢
      cases b
      case append => simp [quiet] at hq
      case copy => simp [quiet] at hq
      case len =>
        exact all (opLen_free h)
      case cap =>
        simp only at h ⊢
        unfold opCap at h ⊢
        split at h
        · rename_i x t hx0 ht0
          obtain ⟨hu, rfl⟩ := withMem_spec h
          refine ⟨rfl, fun hl => by simp [isLoad] at hl, fun H2 hx => ?_⟩
          have : capA P H2 t (ev x) = some v := by
            unfold capA at hu ⊢
            split at hu
            · split at hu
              · rename_i b hb
                have hal : ∀ i b, alive H' i = some b → alive H2 i = some b := by
                  intro i b hb
                  obtain ⟨h1, h2⟩ := alive_some hb
                  unfold alive
                  rw [hx i b h1]
                  simp [h2]
                rw [hal _ _ hb]; exact hu
              · cases hu
            · exact hu
            · cases hu
          rw [this]; rfl
        · cases h
      all_goals first | (simp [quiet] at hq; done) | (simp only at h ⊢; exact all (withMem_free h))
  case h_22 hop => simp [hop, quiet] at hq
  case h_23 t x k ok hop =>
    obtain ⟨hu, rfl⟩ := withMem_spec h
    simp only [hop]
    refine ⟨trivial, fun hl => by simp [isLoad] at hl, fun H2 hx => ?_⟩
    have hen : ∀ {y : Value} {cs : List Value}, entriesA H' y = some cs → entriesA H2 y = some cs := by
      intro y cs hy
      unfold entriesA at hy ⊢
      split at hy
      · exact hy
      · split at hy
        · rename_i b hb
          obtain ⟨h1, h2⟩ := mapOf_some hb
          have h3 := mapOf_not hb
          simp only [mapOf, hx _ b h1, h2, h3]; exact hy
        · cases hy
      · cases hy
    have : lookA P H2 t (ev x) (ev k) ok = some v := by
      unfold lookA at hu ⊢
      split at hu
      · split at hu
        · rename_i hd hz hcs
          rw [hen hcs, hd, hz]; exact hu
        · cases hu
      · cases hu
    rw [this]; rfl
  case h_24 hop => simp [hop, quiet] at hq
  case h_25 hop => simp [hop, quiet] at hq
  case h_26 =>
    unfold opRest at h ⊢
    split at h
    · rename_i hop; simp [hop, quiet] at hq
    · rename_i hop; simp [hop, quiet] at hq
    · rename_i hop; simp [hop, quiet] at hq
    · rename_i hop; simp [hop, quiet] at hq
    · exact all (withMem_free h)
/-- What a quiet operation yields in a state. -/
def QY (P : Program) (call : CallF) (ops : Array Oper) (o : Oper) (v : Value) (a : Act) (H : Mem) : Prop :=
  (Region.wanted o (yielded ops a.tmps) = true ∧ opA P call a.eval o H = some (v, H)) ∨ (Region.wanted o (yielded ops a.tmps) = false ∧ v = undef)
theorem QY.step {o : Oper} {v : Value} {a : Act} {H : Mem} (h : QY P call ops o v a H) : stepS P call ops o a H = some (a.put o.dst v, H) := by
  unfold stepS
  rcases h with ⟨h1, h3⟩ | ⟨h1, rfl⟩
  · simp only [h1, if_true, h3]; rfl
  · simp [h1]
theorem QY.of_step {o : Oper} {a a' : Act} {H H' : Mem} (hq : quiet P o.op = true) (h : stepS P call ops o a H = some (a', H')) : H' = H ∧ ∃ v, a' = a.put o.dst v ∧ QY P call ops o v a H := by
  unfold stepS at h
  split at h
  · rename_i hw
    simp only [Option.map_eq_some_iff] at h
    obtain ⟨⟨r1, r2⟩, hr, heq⟩ := h
    cases heq
    obtain ⟨h1, _, _⟩ := quiet_op hq hr
    rw [h1] at hr ⊢
    exact ⟨rfl, _, rfl, .inl ⟨hw, hr⟩⟩
  · rename_i hw
    cases h
    exact ⟨rfl, _, rfl, .inr ⟨by simpa using hw, rfl⟩⟩
theorem QY.move {o oj : Oper} {v u : Value} {a : Act} {H : Mem} (h : QY P call ops o v a H) (hap : ∀ d, oj.dst = some d → d ∉ o.looksAt ops) (hsel : ∀ cs b, o.op ≠ .select cs b) : QY P call ops o v (a.put oj.dst u) H := by
  unfold QY at *
  rw [wanted_put o a oj.dst u hap, opA_congr (P := P) (call := call) H (eval_put_of a u hap) hsel]
  exact h
theorem QY.mem {o : Oper} {v : Value} {a : Act} {H H' : Mem} (hq : quiet P o.op = true) (h : QY P call ops o v a H) (hm : isLoad o.op = false ∨ Ext H H') : QY P call ops o v a H' := by
  rcases h with ⟨h1, h3⟩ | h
  · obtain ⟨_, k2, k3⟩ := quiet_op hq h3
    rcases hm with hm | hm
    · exact .inl ⟨h1, k2 hm H'⟩
    · exact .inl ⟨h1, k3 H' hm⟩
  · exact .inr h
/-- Whatever is listed, all that it comes after is listed. -/
def Closed (ops : Array Oper) (listed : Array Bool) : Prop :=
  ∀ k o, ops[k]? = some o → listed.getD k false = true → ∀ e ∈ o.after, Region.binds .any e = true → listed.getD e.on false = true
theorem Closed.add {listed : Array Bool} (h : Closed ops listed) {i : Nat} (hi : i ∈ Region.ready .any ops listed) : Closed ops (listed.setIfInBounds i true) := by
  intro k o ho hk e he hb
  apply getD_set_true
  by_cases hik : i = k
  · subst hik
    obtain ⟨_, o', ho', hall⟩ := mem_ready.1 hi
    rw [ho] at ho'; cases ho'
    exact hall e he hb
  · rw [getD_set_ne false hik] at hk
    exact h k o ho hk e he hb
theorem reach_listed {listed : Array Bool} (hc : Closed ops listed) {i j : Nat} (h : Reach ops i j) (hi : listed.getD i false = true) : listed.getD j false = true := by
  induction h with
  | one ho he hb => exact hc _ _ ho hi _ he hb
  | more ho he hb _ ih => exact ih (hc _ _ ho hi _ he hb)
theorem reach_ready {listed : Array Bool} (hc : Closed ops listed) {i j : Nat} (hi : i ∈ Region.ready .any ops listed) (hj : j ∈ Region.ready .any ops listed) : ¬ Reach ops j i := by
  intro h
  obtain ⟨hi0, _⟩ := mem_ready.1 hi
  have hcon : listed.getD i false = true → False := by
    intro h1
    by_cases hlt : i < listed.size
    · simp [Array.getD, hlt] at h1 hi0; rw [h1] at hi0; cases hi0
    · simp [Array.getD, hlt] at h1
  obtain ⟨_, o, ho, hall⟩ := mem_ready.1 hj
  cases h with
  | one ho' he hb => rw [ho] at ho'; cases ho'; exact hcon (hall _ he hb)
  | more ho' he hb h2 => rw [ho] at ho'; cases ho'; exact hcon (reach_listed hc h2 (hall _ he hb))
/-- What a quiet operation reads. -/
def QM (o : Oper) (a : Act) (pr : Option Nat) : Prop := pr = none ∨ ∃ b t x off m, pr = some b ∧ o.op = .load t x ∧ a.eval x = .pointer (some ⟨b, off, m⟩)
theorem QY.pres {o : Oper} {v : Value} {a : Act} {H H' : Mem} (hq : quiet P o.op = true) (h : QY P call ops o v a H) {pr : Option Nat} (hm : QM o a pr) (hp : Pres pr H H') : QY P call ops o v a H' := by
  rcases hm with rfl | ⟨b, t, x, off, m, rfl, hop, hx⟩
  · exact h.mem hq (.inr hp)
  · rcases h with ⟨h1, h3⟩ | h
    · refine .inl ⟨h1, ?_⟩
      unfold opA at h3 ⊢
      rw [hop] at h3 ⊢
      simp only at h3 ⊢
      obtain ⟨hu, _⟩ := withMem_spec h3
      have hal : ∀ k, alive H b = some k → alive H' b = some k := by
        intro k hb
        obtain ⟨h1, h2⟩ := alive_some hb
        unfold alive
        rw [hp k h1]
        simp [h2]
      have : loadA P H' t (a.eval x) = some v := by
        rw [hx] at hu ⊢
        unfold loadA at hu ⊢
        split at hu
        · rename_i heq
          cases heq
          split at hu
          · rename_i n _ _
            simp only [Option.map_eq_some_iff] at hu ⊢
            obtain ⟨l, hl, rfl⟩ := hu
            refine ⟨l, ?_, rfl⟩
            rw [readCells_def] at hl ⊢
            split at hl
            · rename_i k hb
              rw [hal _ hb]; exact hl
            · cases hl
          · split at hu
            · rename_i k hb
              rw [hal _ hb]; exact hu
            · cases hu
          · cases hu
        · cases hu
      rw [this]; rfl
    · exact .inr h
theorem QM.move {o : Oper} {a : Act} {pr : Option Nat} (h : QM o a pr) {dst : Option Tmp} (u : Value) (hd : ∀ d, dst = some d → d ∉ o.looksAt ops) : QM o (a.put dst u) pr := by
  rcases h with rfl | ⟨b, t, x, off, m, rfl, hop, hx⟩
  · exact .inl rfl
  · refine .inr ⟨b, t, x, off, m, rfl, hop, ?_⟩
    rw [← hx]
    exact Act.eval_put fun d h1 h2 => hd d h1 (by
      subst h2
      exact List.mem_append_left _ (List.mem_filterMap.2 ⟨.tmp d, by simp [hop, Op.operands], rfl⟩))
theorem AnyD.weak {Fin : Act → Mem → Prop} {RL RL' : List (Nat × Option Nat)} (hsub : ∀ q ∈ RL, q ∈ RL') {x : Option Nat} {l : Array Bool} {pend : List Nat} {a : Act} {H : Mem} (h : AnyD P call ops Fin RL' x l pend a H) : AnyD P call ops Fin RL x l pend a H := by
  induction h with
  | pay ho hm hst hap _ ih => exact .pay ho hm hst hap ih
  | step h0 _ ih => exact .step h0 ih
  | sync ho hst hR hap _ ih => exact .sync ho hst (fun q hq => hR q (hsub q hq)) hap ih
  | owe ho hm hmade hd _ ih => exact .owe ho hm hmade hd ih
theorem anyD_first (hk : CallKeeps call) {Fin : Act → Mem → Prop} (hsel : ∀ (j : Nat) (o : Oper) cs b, ops[j]? = some o → o.op ≠ .select cs b) {i : Nat} {oi : Oper} {v : Value} (hi : ops[i]? = some oi) (hq : quiet P oi.op = true)
    {RL RL' : List (Nat × Option Nat)} (hsub : ∀ q ∈ RL, q ∈ RL') {x : Option Nat} {l1 : Array Bool} {pend : List Nat} {a1 : Act} {H : Mem} (hA : AnyD P call ops Fin RL' x l1 pend a1 H) : ∀ (listed : Array Bool) (a : Act), l1 = listed.setIfInBounds i true → a1 = a.put oi.dst v → (isLoad oi.op = false ∨ ∃ pr, (i, pr) ∈ RL' ∧ QM oi a pr) →
      (∀ (j : Nat) (oj : Oper), ops[j]? = some oj → j ≠ i → (listed.getD j true = false ∨ j ∈ pend) → (∀ e ∈ oj.after, Region.binds .any e = true → e.on ≠ i) → oi.apart ops oj = true) →
      (∀ m ∈ pend, ∀ om, ops[m]? = some om → ∀ e ∈ om.after, Region.binds .any e = true → e.on ≠ i) → i ∉ pend →
      Closed ops listed → i ∈ Region.ready .any ops listed → QY P call ops oi v a H →
      match x with
      | none => AnyD P call ops Fin RL none listed pend a H
      | some j => j ≠ i → j ∈ Region.ready .any ops listed → AnyD P call ops Fin RL (some j) listed pend a H := by
  have hni : ∀ {m : Nat} {om : Oper}, ops[m]? = some om → makes P om = true → m ≠ i := fun hom hm e => by
    subst e
    rw [hi] at hom; cases hom
    rw [makes_loud hm] at hq; cases hq
  induction hA with
  | @pay l1 p1 p2 m o R lk a1 a' H H' ho hm hst hapay h ih =>
    rintro listed a rfl rfl hrd hfree hdep hnp hcl hr hy
    have hap := hfree m o ho (hni ho hm) (.inr (by simp)) (hdep m (by simp) o ho)
    obtain ⟨q1, q2, q3⟩ := Oper.apart_spec hap
    rw [stepLS_put a v H q1 q2 (fun cs b => hsel m o cs b ho)] at hst
    simp only [Option.map_eq_some_iff] at hst
    obtain ⟨⟨aj, Hj⟩, hstj, heq⟩ := hst
    simp only [Prod.mk.injEq] at heq
    obtain ⟨rfl, rfl⟩ := heq
    obtain ⟨u, rfl⟩ := stepLS_shape hstj
    obtain ⟨_, _, _, _, hp, _⟩ := made_step hm hstj
    have hext : Ext H Hj := fun k b hb => by
      obtain ⟨_, _, e3⟩ := Mem.push_spec hp
      rw [e3, if_neg (Nat.ne_of_lt (Mem.get_lt hb))]; exact hb
    have sub : ∀ {y : Nat}, y ∈ p1 ++ p2 → y ∈ p1 ++ m :: p2 := fun hx => by
      rcases List.mem_append.1 hx with h1 | h1
      · exact List.mem_append_left _ h1
      · exact List.mem_append_right _ (List.mem_cons_of_mem _ h1)
    exact AnyD.pay ho hm hstj hapay (ih listed _ rfl rfl (hrd.imp id fun ⟨pr, e1, e2⟩ => ⟨pr, e1, e2.move u q3⟩) (fun j oj hj hji hh => hfree j oj hj hji (hh.imp id sub)) (fun k hk' => hdep k (sub hk')) (fun h => hnp (sub h)) hcl hr ((hy.move q3 (fun cs b => hsel i oi cs b hi)).mem hq (.inr hext)))
  | @step l1 pend a1 H h0 h ih =>
    rintro listed a rfl rfl hrd hfree hdep hnp hcl hr hy
    refine AnyD.step (fun h => (by rw [h] at hr; cases hr)) fun j hj => ?_
    by_cases hji : j = i
    · subst hji
      have hn : ∀ m ∈ pend, ∀ om, ops[m]? = some om → (∀ x, om.dst = some x → x ∉ oi.looksAt ops ∧ oi.dst ≠ some x) ∧ ∀ x, oi.dst = some x → x ∉ om.looksAt ops := by
        intro m hm om hom
        have hne : m ≠ j := fun e => hnp (by rw [← e]; exact hm)
        obtain ⟨q1, q2, q3⟩ := Oper.apart_spec (hfree m om hom hne (.inr hm) (hdep m hm om hom))
        exact ⟨fun x hx => ⟨q3 x hx, fun e => q2 x e hx⟩, q1⟩
      exact AnyD.sync (R := none) (lk := false) hi (by unfold stepLS; exact hy.step) (fun q _ => .inr (Pres.of_ext fun _ _ hb => hb)) hn (AnyD.weak hsub (AnyD.step h0 h))
    · exact ih j (ready_mono hj hji) listed a rfl rfl hrd hfree hdep hnp hcl hr hy hji hj
  | @sync l1 pend j oj R lk a1 a' H H' hoj hst hR hap h ih =>
    rintro listed a rfl rfl hrd hfree hdep hnp hcl hr hy hji hj
    obtain ⟨hjun, oj', hoj', hall⟩ := mem_ready.1 hj
    rw [hoj] at hoj'; cases hoj'
    have hnot : ∀ e ∈ oj.after, Region.binds .any e = true → e.on ≠ i := fun e he hb heq => by
      have h1 := hall e he hb
      have h0 := (mem_ready.1 hr).1
      rw [heq] at h1
      rcases Nat.lt_or_ge i listed.size with h' | h'
      · simp [h'] at h0 h1; rw [h0] at h1; cases h1
      · simp [Array.getElem?_eq_none h'] at h1
    obtain ⟨p1, p2, p3⟩ := Oper.apart_spec (hfree j oj hoj hji (.inl hjun) hnot)
    rw [stepLS_put a v H p1 p2 (fun cs b => hsel j oj cs b hoj)] at hst
    simp only [Option.map_eq_some_iff] at hst
    obtain ⟨⟨aj, Hj⟩, hstj, heq⟩ := hst
    simp only [Prod.mk.injEq] at heq
    obtain ⟨rfl, rfl⟩ := heq
    refine AnyD.sync hoj hstj (fun q hq => hR q (hsub q hq)) hap ?_
    have hfree' : ∀ (k : Nat) (ok : Oper), ops[k]? = some ok → k ≠ i → ((listed.setIfInBounds j true).getD k true = false ∨ k ∈ pend) →
        (∀ e ∈ ok.after, Region.binds .any e = true → e.on ≠ i) → oi.apart ops ok = true := fun k ok hk' hki hun hno => by
      refine hfree k ok hk' hki (hun.imp (fun hun => ?_) id) hno
      by_cases hjk : j = k
      · subst hjk; exact hjun
      · rw [getD_set_ne true hjk] at hun; exact hun
    obtain ⟨u, rfl⟩ := stepLS_shape hstj
    have hyj : QY P call ops oi v a Hj := by
      rcases hrd with hld | ⟨pr, e1, e2⟩
      · exact hy.mem hq (.inl hld)
      · rcases hR _ e1 with h1 | h1
        · exact absurd h1 (reach_ready hcl hr hj)
        · exact hy.pres hq e2 h1
    exact ih (listed.setIfInBounds j true) _ (Array.setIfInBounds_comm _ _ (Ne.symm hji)) rfl (hrd.imp id fun ⟨pr, e1, e2⟩ => ⟨pr, e1, e2.move u p3⟩) hfree' hdep hnp (hcl.add hj) (ready_mono hr (Ne.symm hji)) (hyj.move p3 (fun cs b => hsel i oi cs b hi))
  | @owe l1 pend j oj a1 H hoj hm hmade hd h ih =>
    rintro listed a rfl rfl hrd hfree hdep hnp hcl hr hy hji hj
    obtain ⟨hjun, oj', hoj', hall⟩ := mem_ready.1 hj
    rw [hoj] at hoj'; cases hoj'
    have hnot : ∀ e ∈ oj.after, Region.binds .any e = true → e.on ≠ i := fun e he hb heq => by
      have h1 := hall e he hb
      have h0 := (mem_ready.1 hr).1
      rw [heq] at h1
      rcases Nat.lt_or_ge i listed.size with h' | h'
      · simp [h'] at h0 h1; rw [h0] at h1; cases h1
      · simp [Array.getElem?_eq_none h'] at h1
    obtain ⟨p1, _, _⟩ := Oper.apart_spec (hfree j oj hoj hji (.inl hjun) hnot)
    rw [made_put a v p1] at hmade
    refine AnyD.owe hoj hm hmade hd (ih (listed.setIfInBounds j true) a (Array.setIfInBounds_comm _ _ (Ne.symm hji)) rfl hrd (fun k ok hk' hki hun hno => ?_) (fun k hk' ok hok' => ?_) (fun hh => by
      rcases List.mem_cons.1 hh with e | hh
      · exact hji e.symm
      · exact hnp hh) (hcl.add hj) (ready_mono hr (Ne.symm hji)) hy)
    · rcases hun with hun | hun
      · refine hfree k ok hk' hki (.inl ?_) hno
        by_cases hjk : j = k
        · subst hjk; exact hjun
        · rw [getD_set_ne true hjk] at hun; exact hun
      · rcases List.mem_cons.1 hun with rfl | hun
        · exact hfree k ok hk' hki (.inl hjun) hno
        · exact hfree k ok hk' hki (.inr hun) hno
    · rcases List.mem_cons.1 hk' with rfl | hk'
      · rw [hoj] at hok'; cases hok'; exact hnot
      · exact hdep k hk' ok hok'
end
end Go.Ev
