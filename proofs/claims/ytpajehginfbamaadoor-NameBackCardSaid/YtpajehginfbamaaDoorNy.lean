/- NameBack: the run. -/
import Derived.Test.YtpajehginfbamaaDoorNx
namespace Go.Proofs.YtpajehginfbamaaDoor.nm
open Go.Tv Go.Ev
noncomputable section
section
variable (ns : Int → List UInt8) (ps : List UInt8 → Int × Bool) (cs : Int → Int × Bool) (nc : Int → List (List UInt8)) (en : List UInt8 → List (List UInt8) → Bool)
def jB (op other : Int) (s t : List UInt8) (r m : Nat) (i : Int) : Option AV := loopN X1 (mB ns ps cs nc en AV) anB r 3 pB (fun v _ => some v) m (frOf 128 [(0, .int .i64 op), (1, .int .i64 other), (2, .str s), (7, .bool true), (8, .str t), (9, .int .i64 i)]) TMem.empty
def restB (op other : Int) (s t : List UInt8) (r : Nat) : Option AV := codeFrom X1 (mB ns ps cs nc en AV) anB r 3 pB2 (fun v _ => some v) (frOf 128 [(0, .int .i64 op), (1, .int .i64 other), (2, .str s), (7, .bool true), (8, .str t)]) TMem.empty
def fB : Option AV := some (.bool false)
def tailB (s : List UInt8) : Option AV :=
  pick2 (!(ps s).2) (some (.bool (eqI (ps s).1 0))) (pick2 (!ltI (ps s).1 1) (pick2 (!ltI 322 (ps s).1) (pick2 (decide (ns (ps s).1 = s)) (some (.bool true))
    (pick2 (cs (ps s).1).2 (pick2 (!ltI (cs (ps s).1).1 0 && !ltI 15 (cs (ps s).1).1) (pick2 (Nat.ble s.length 999999 && Nat.ble (nc (cs (ps s).1).1).length 999999) (some (.bool (en s (nc (cs (ps s).1).1)))) none) none) fB)) fB) fB)
def treeR (op other : Int) (s t : List UInt8) : Option AV :=
  pick2 (!decide (t = [])) (pick2 (eqI (ps t).1 op) (pick2 (!(ps t).2) fB (pick2 (!eqI op other) (pick2 (decide (ns other = t)) fB (tailB ns ps cs nc en s)) (tailB ns ps cs nc en s))) fB) (tailB ns ps cs nc en s)
theorem restB_eq (op other : Int) (s t : List UInt8) (r : Nat) : restB ns ps cs nc en op other s t r = treeR ns ps cs nc en op other s t := by kernel_rfl
def atB (t : List UInt8) (i : Int) (k : UInt8 → Option AV) : Option AV := Option.rec (motive := fun _ => Option AV) none k (getI t i)
def digB (t : List UInt8) (i : Int) (go : Option AV) : Option AV := pick2 (eqI i 0) fB (atB t i fun c => pick2 (ltI (u8I c) 48) fB (atB t i fun c => pick2 (ltI 57 (u8I c)) fB go))
theorem stepB (op other : Int) (s t : List UInt8) (r m : Nat) (i : Int) : jB ns ps cs nc en op other s t r (m + 1) i =
    pick2 (ltI i ↑t.length) (atB t i fun c => pick2 (!ltI (u8I c) 97) (atB t i fun c => pick2 (!!ltI 122 (u8I c)) (digB t i (jB ns ps cs nc en op other s t r m (IntKind.wrap .i64 (i + 1)))) (jB ns ps cs nc en op other s t r m (IntKind.wrap .i64 (i + 1))))
      (digB t i (jB ns ps cs nc en op other s t r m (IntKind.wrap .i64 (i + 1))))) (restB ns ps cs nc en op other s t r) := by kernel_rfl
def inB (op : Int) (x : Option AV) : Option AV :=
  pick2 (!ltI op 1) (pick2 (!ltI op 1) (pick2 (!((!ltI 322 op) == !ltI 322 op)) fB x) (pick2 (!((!ltI 322 op) == false)) fB x)) (pick2 (!ltI op 1) (pick2 (!(false == !ltI 322 op)) fB x) x)
theorem enterB (op other : Int) (s : List UInt8) (r : Nat) : enterT X1 (mB ns ps cs nc en AV) anB r 3 [.int .i64 op, .int .i64 other, .str s] TMem.empty (fun v _ => some v) =
    pick2 (ltI 100 ↑s.length) (some (.bool true)) (pick2 (!ltI op 1) (pick2 (decide (ns op = []) == !ltI 322 op) fB (inB op (jB ns ps cs nc en op other s (ns op) r r 0))) (pick2 (decide (ns op = []) == false) fB (inB op (jB ns ps cs nc en op other s (ns op) r r 0)))) := by kernel_rfl
/-- Small letters and digits alone, the first one a letter. -/
def goodB : List UInt8 → Nat → Bool
  | [], _ => true
  | c :: r, i => ((!ltI (u8I c) 97 && !ltI 122 (u8I c)) || (!Nat.beq i 0 && !ltI (u8I c) 48 && !ltI 57 (u8I c))) && goodB r (i + 1)
theorem loopB (op other : Int) (s t : List UInt8) (ht : t.length < 1000000) (r : Nat) : ∀ (rest pre : List UInt8) (m : Nat), t = pre ++ rest → rest.length < m → goodB rest pre.length = true →
    jB ns ps cs nc en op other s t r m pre.length = restB ns ps cs nc en op other s t r := by
  intro rest
  induction rest with
  | nil =>
    intro pre m he hm _
    obtain ⟨m, rfl⟩ : ∃ m', m = m' + 1 := ⟨m - 1, by simp at hm; omega⟩
    have e1 : t.length = pre.length := by rw [he]; simp
    rw [stepB, ltF (by omega)]
  | cons c rest ih =>
    intro pre m he hm hgd
    obtain ⟨m, rfl⟩ : ∃ m', m = m' + 1 := ⟨m - 1, by simp at hm; omega⟩
    have e1 : t.length = pre.length + (rest.length + 1) := by rw [he]; simp
    have hg : getI t (pre.length : Int) = some c := by rw [he]; exact getI_at pre rest c
    rw [goodB, Bool.and_eq_true] at hgd
    have hin := ih (pre ++ [c]) m (by rw [he]; simp) (by simp at hm; omega) (by rw [List.length_append]; exact hgd.2)
    rw [List.length_append] at hin
    have hin : jB ns ps cs nc en op other s t r m ((pre.length : Int) + 1) = restB ns ps cs nc en op other s t r := hin
    rw [stepB]
    unfold digB atB
    rw [ltT (by omega), hg, i64_in (n := (pre.length : Int) + 1) (by omega) (by omega), hin]
    simp only [pickT]
    have hgd := hgd.1
    have h0 : eqI (pre.length : Int) 0 = Nat.beq pre.length 0 := rfl
    rw [h0]
    generalize ltI (u8I c) 97 = a at hgd ⊢
    generalize ltI 122 (u8I c) = b at hgd ⊢
    generalize ltI (u8I c) 48 = d at hgd ⊢
    generalize ltI 57 (u8I c) = e at hgd ⊢
    generalize Nat.beq pre.length 0 = z at hgd ⊢
    cases a <;> cases b <;> cases d <;> cases e <;> cases z <;> first | (simp at hgd; done) | rfl
end
/-! ### The plain law -/
theorem findN_some {s : List UInt8} : ∀ {l : List (List UInt8)} {i k : Int}, findN s l i = some k → ∃ j : Nat, k = i + j ∧ l[j]? = some s
  | [], _, _, h => by cases h
  | p :: l, i, k, h => by
    rw [findN] at h
    split at h
    · rename_i hp; cases h; exact ⟨0, by simp, by simp [hp]⟩
    · obtain ⟨j, h1, h2⟩ := findN_some h
      exact ⟨j + 1, by omega, by simpa using h2⟩
/-- Where a name stands, reckoned. -/
def findQ (s : List UInt8) (l : List (List UInt8)) : Nat → Nat := List.rec (motive := fun _ => Nat → Nat) (fun _ => 0) (fun p _ r i => pick2 (Ev.eqBytes p s) i (r (i + 1))) l
theorem findQ_eq (s : List UInt8) : ∀ (l : List (List UInt8)) (i : Nat), 1 ≤ i → ∀ k, findQ s l i = k → 1 ≤ k → findN s l i = some (k : Int)
  | [], i, _, k, h, hk => by have : (0 : Nat) = k := h; omega
  | p :: l, i, hi, k, h, hk => by
    have h' : pick2 (Ev.eqBytes p s) i (findQ s l (i + 1)) = k := h
    rw [pick2_eq, Ev.eqBytes_spec] at h'
    rw [findN]
    by_cases hp : p = s
    · rw [if_pos (by simpa using hp)] at h'; rw [if_pos hp, h']
    · rw [if_neg (by simpa using hp)] at h'; rw [if_neg hp]
      exact findQ_eq s l (i + 1) (by omega) k h' hk
theorem findAll : ((List.range 322).all fun j => Nat.beq (findQ (nms.getD j []) nms 1) (j + 1)) = true := by kernel_rfl
theorem goodAll : (nms.all fun t => goodB t 0 && !Ev.eqBytes t [] && Nat.ble t.length 100) = true := by kernel_rfl
theorem parse_name {op : Int} (h : 1 ≤ op ∧ op ≤ 322) : parseS (nameS op) = (op, true) := by
  have hj := List.all_eq_true.1 findAll (op.toNat - 1) (List.mem_range.2 (by omega))
  rw [Nat.beq_eq] at hj
  have := findQ_eq _ nms 1 (Nat.le_refl _) _ hj (by omega)
  have e : ((op.toNat - 1 + 1 : Nat) : Int) = op := by omega
  rw [e] at this
  unfold parseS
  rw [nameS_eq, if_pos h]
  have this : findN (nms.getD (op.toNat - 1) []) nms 1 = some op := this
  rw [this]
theorem name_mem {op : Int} (h : 1 ≤ op ∧ op ≤ 322) : nameS op ∈ nms := by
  rw [nameS_eq, if_pos h]
  have hlt : op.toNat - 1 < nms.length := by rw [nms_len]; omega
  rw [List.getD_eq_getElem?_getD, List.getElem?_eq_getElem hlt]
  exact List.getElem_mem hlt
theorem name_good {op : Int} (h : 1 ≤ op ∧ op ≤ 322) : goodB (nameS op) 0 = true ∧ nameS op ≠ [] ∧ (nameS op).length ≤ 100 := by
  have := List.all_eq_true.1 goodAll _ (name_mem h)
  simp only [Bool.and_eq_true, Bool.not_eq_true', Nat.ble_eq] at this
  refine ⟨this.1.1, fun e => ?_, this.2⟩
  have h2 := this.1.2
  rw [Ev.eqBytes_spec, e] at h2
  simp at h2
theorem name_none {op : Int} (h : ¬ (1 ≤ op ∧ op ≤ 322)) : nameS op = [] := by rw [nameS_eq, if_neg h]
theorem name_inj {op other : Int} (h : 1 ≤ op ∧ op ≤ 322) (he : nameS other = nameS op) : other = op := by
  by_cases ho : 1 ≤ other ∧ other ≤ 322
  · have h1 := parse_name h
    rw [← he, parse_name ho] at h1
    exact (Prod.mk.inj h1).1
  · rw [name_none ho] at he
    exact absurd he.symm (name_good h).2.1
theorem condF_mem {s : List UInt8} : ∀ {l : List (List UInt8 × Int)}, (condF s l).2 = true → (s, (condF s l).1) ∈ l
  | [], h => by cases h
  | q :: l, h => by
    rw [condF] at h ⊢
    split
    · rename_i hq
      rw [← hq]; exact List.mem_cons_self ..
    · rename_i hq
      rw [if_neg hq] at h
      exact List.mem_cons_of_mem _ (condF_mem h)
theorem conds_names : ∀ q ∈ condsL, q.1 ∈ namesC q.2 ∧ (namesC q.2).length ≤ 3 := by decide
theorem ends_of {s p : List UInt8} {l : List (List UInt8)} (hp : p ≠ []) (h : s.take p.length = p) (hm : s.drop p.length ∈ l) : endsS s l = true := by
  unfold endsS
  rw [List.any_eq_true]
  refine ⟨_, hm, decide_eq_true ?_⟩
  have h1 : 0 < p.length := List.length_pos_iff.2 hp
  have h2 : p.length ≤ s.length := by have := congrArg List.length h; simp at this; omega
  rw [List.length_drop]
  exact ⟨by omega, by rw [show s.length - (s.length - p.length) = p.length by omega]⟩
/-- What a text is read as, if it is no name: a beginning and a condition's name. -/
theorem try_spec {s : List UInt8} : ∀ {l : List (List UInt8 × Int)}, (tryS s l).2 = true → ∃ q ∈ l, s.take q.1.length = q.1 ∧ (condS (s.drop q.1.length)).2 = true ∧ (tryS s l).1 = q.2 + (condS (s.drop q.1.length)).1
  | [], h => by cases h
  | q :: l, h => by
    have e : tryS s (q :: l) = if (cutS s q.1).2 = true ∧ (condS (cutS s q.1).1).2 = true then (q.2 + (condS (cutS s q.1).1).1, true) else tryS s l := rfl
    rw [e] at h ⊢
    by_cases hc : (cutS s q.1).2 = true ∧ (condS (cutS s q.1).1).2 = true
    · rw [if_pos hc] at h ⊢
      have ht : s.take q.1.length = q.1 := by
        have := hc.1
        unfold cutS at this
        split at this
        · assumption
        · cases this
      have hd : cutS s q.1 = (s.drop q.1.length, true) := by unfold cutS; rw [if_pos ht]
      rw [hd] at hc ⊢
      exact ⟨q, List.mem_cons_self .., ht, hc.2, rfl⟩
    · rw [if_neg hc] at h ⊢
      obtain ⟨q', h1, h2⟩ := try_spec h
      exact ⟨q', List.mem_cons_of_mem _ h1, h2⟩
theorem try_no {s : List UInt8} : ∀ {l : List (List UInt8 × Int)}, (tryS s l).2 = false → (tryS s l).1 = 0
  | [], _ => rfl
  | q :: l, h => by
    have e : tryS s (q :: l) = if (cutS s q.1).2 = true ∧ (condS (cutS s q.1).1).2 = true then (q.2 + (condS (cutS s q.1).1).1, true) else tryS s l := rfl
    rw [e] at h ⊢
    by_cases hc : (cutS s q.1).2 = true ∧ (condS (cutS s q.1).1).2 = true
    · rw [if_pos hc] at h; cases h
    · rw [if_neg hc] at h ⊢; exact try_no h
theorem tailB_eq (s : List UInt8) (hs : s.length ≤ 100) : tailB nameS parseS condOf namesC endsS s = some (.bool true) := by
  unfold tailB
  cases hp : (parseS s).2 with
  | false =>
    have h0 : (parseS s).1 = 0 := by
      unfold parseS at hp ⊢
      split at hp
      · cases hp
      · exact try_no hp
    rw [h0]; rfl
  | true =>
    simp only [Bool.not_true, pickF]
    unfold parseS at hp ⊢
    cases hn : findN s nms 1 with
    | some k =>
      obtain ⟨j, rfl, hj⟩ := findN_some hn
      have hlt : j < 322 := by have := (List.getElem?_eq_some_iff.1 hj).1; rwa [nms_len] at this
      have e : nameS (1 + (j : Int)) = s := by
        rw [nameS_eq, if_pos (by omega), show (1 + (j : Int)).toNat - 1 = j by omega, List.getD_eq_getElem?_getD, hj]; rfl
      simp only
      rw [ltF (by omega), ltF (by omega), e, decide_eq_true rfl]; rfl
    | none =>
      rw [hn] at hp
      simp only at hp ⊢
      obtain ⟨q, hq, ht, hc, he⟩ := try_spec hp
      obtain ⟨c1, c2⟩ := condS_has (s.drop q.1.length)
      have hm := condF_mem hc
      obtain ⟨m1, m2⟩ := conds_names _ hm
      have hq' : (q.1 = [106] ∧ q.2 = 68) ∨ (q.1 = [115, 101, 116] ∧ q.2 = 84) ∨ (q.1 = [99, 109, 111, 118] ∧ q.2 = 100) := by
        simp only [heads, List.mem_cons, List.not_mem_nil, or_false] at hq
        rcases hq with rfl | rfl | rfl <;> simp
      have hqn : q.1 ≠ [] := by rcases hq' with h | h | h <;> rw [h.1] <;> simp
      have hcond : condOf (tryS s heads).1 = ((condS (s.drop q.1.length)).1, true) := by
        rw [he]; unfold condOf
        rcases hq' with h | h | h
        · rw [h.2, if_pos (by omega)]; simp; omega
        · rw [h.2, if_neg (by omega), if_pos (by omega)]; simp; omega
        · rw [h.2, if_neg (by omega), if_neg (by omega), if_pos (by omega)]; simp; omega
      have hen : endsS s (namesC (condS (s.drop q.1.length)).1) = true := ends_of hqn ht m1
      rw [hcond]
      have hr : 68 ≤ (tryS s heads).1 ∧ (tryS s heads).1 ≤ 115 := by rw [he]; rcases hq' with h | h | h <;> rw [h.2] <;> omega
      rw [ltF (by omega), ltF (by omega)]
      simp only
      have hl2 : Nat.ble (namesC (condS (s.drop q.1.length)).1).length 999999 = true := bleT (Nat.le_trans m2 (by omega))
      rw [ltF (by omega), ltF (by omega), bleT (show s.length ≤ 999999 by omega), hl2, hen]
      cases decide (nameS (tryS s heads).1 = s) <;> rfl
theorem back (op other : Int) (s : List UInt8) : enterT X1 (mB nameS parseS condOf namesC endsS AV) anB 200 3 [.int .i64 op, .int .i64 other, .str s] TMem.empty (fun v _ => some v) = some (.bool true) := by
  rw [enterB]
  by_cases hs : 100 < s.length
  · rw [ltT (by omega)]
  · rw [ltF (by omega)]
    show pick2 (!ltI op 1) _ _ = _
    by_cases h : 1 ≤ op ∧ op ≤ 322
    · obtain ⟨g1, g2, g3⟩ := name_good h
      have hl := loopB nameS parseS condOf namesC endsS op other s (nameS op) (by omega) 200 (nameS op) [] 200 rfl (by omega) g1
      have hl : jB nameS parseS condOf namesC endsS op other s (nameS op) 200 200 0 = _ := hl
      rw [hl, restB_eq]
      unfold inB treeR
      rw [ltF (a := op) (by omega), ltF (a := 322) (by omega), decide_eq_false g2, parse_name h, tailB_eq s (by omega), eqT (a := op) rfl]
      by_cases ho : op = other
      · rw [eqT ho]; rfl
      · rw [eqF ho, decide_eq_false (fun e => ho (name_inj h e).symm)]; rfl
    · have hl := loopB nameS parseS condOf namesC endsS op other s (nameS op) (by rw [name_none h]; simp) 200 (nameS op) [] 200 rfl (by rw [name_none h]; simp) (by rw [name_none h]; rfl)
      have hl : jB nameS parseS condOf namesC endsS op other s (nameS op) 200 200 0 = _ := hl
      rw [hl, restB_eq]
      unfold inB treeR
      rw [name_none h, tailB_eq s (by omega), decide_eq_true rfl]
      by_cases h1 : 1 ≤ op
      · rw [ltF (a := op) (by omega), ltT (a := 322) (by omega)]; rfl
      · rw [ltT (a := op) (by omega)]; rfl
end
end Go.Proofs.YtpajehginfbamaaDoor.nm
