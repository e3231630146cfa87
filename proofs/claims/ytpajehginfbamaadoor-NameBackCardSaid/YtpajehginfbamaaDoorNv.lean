/- The document's answers for mnemonics, as contracts of the symbolic layer. -/
import Derived.Test.YtpajehginfbamaaDoorNs
namespace Go.Proofs.YtpajehginfbamaaDoor.nm
open Go.Tv Go.Ev
noncomputable section
def behS (s p : List UInt8) : List UInt8 × Bool := if s.take p.length = p then (s.drop p.length, true) else ([], false)
theorem tree75 (s p : List UInt8) : enterT X1 (m0 AV) an0 200 75 [.str s, .str p] TMem.empty (fun v _ => some v) =
    pick2 (ltI ↑s.length ↑p.length) (some (.tup [.str [], .bool false])) (pick2 (!ltI ↑p.length 0 && !ltI (Int.ofNat s.length) ↑p.length) (pick2 (!decide (cutL s 0 ↑p.length = p)) (some (.tup [.str [], .bool false]))
      (pick2 (!ltI ↑p.length 0 && !ltI (Int.ofNat s.length) ↑p.length) (some (.tup [.str (cutL s ↑p.length ↑s.length), .bool true])) none)) none) := by kernel_rfl
theorem run75 (s p : List UInt8) : enterT X1 (m0 AV) an0 200 75 [.str s, .str p] TMem.empty (fun v _ => some v) = some (.tup [.str (behS s p).1, .bool (behS s p).2]) := by
  rw [tree75]
  unfold behS
  by_cases h : s.length < p.length
  · rw [ltT (by omega), if_neg (fun e => by have := congrArg List.length e; simp at this; omega)]
  · rw [ltF (by omega), ltF (a := (p.length : Int)) (b := 0) (by omega), ltF (a := Int.ofNat s.length) (by simp; omega)]
    have e1 : cutL s 0 (p.length : Int) = s.take p.length := by unfold cutL; simp
    have e2 : cutL s (p.length : Int) (s.length : Int) = s.drop p.length := by
      unfold cutL; simp only [Int.toNat_natCast]; rw [List.take_of_length_le (by rw [List.length_drop]; omega)]
    rw [e1, e2]
    by_cases hp : s.take p.length = p
    · rw [if_pos hp, decide_eq_true hp]; rfl
    · rw [if_neg hp, decide_eq_false hp]; rfl
def gBeh (args : List AV) : Option (Bool × List PRes) :=
  match args with
  | [.str s, .str p] => some (true, [.val (.str (behS s p).1), .val (.bool (behS s p).2)])
  | _ => none
theorem con75 : ConOk X1 cfM 75 gBeh :=
  con_vals (inM_ok 75 rfl) m0_ok fun args rs hg => by
    unfold gBeh at hg
    split at hg
    · rename_i s p
      simp only [Option.some.injEq, Prod.mk.injEq] at hg
      obtain ⟨_, rfl⟩ := hg
      exact ⟨[.str (behS s p).1, .bool (behS s p).2], an0, 200, run75 s p, rfl, rfl⟩
    · cases hg
theorem tree76 (s : List UInt8) : enterT X1 (m0 AV) an0 200 76 [.str s] TMem.empty (fun v _ => some v) = condT s condsL := by kernel_rfl
def gConds (args : List AV) : Option (Bool × List PRes) :=
  match args with
  | [.str s] => some (true, [.val (.int .i64 (condS s).1), .val (.bool (condS s).2)])
  | _ => none
theorem con76 : ConOk X1 cfM 76 gConds :=
  con_vals (inM_ok 76 rfl) m0_ok fun args rs hg => by
    unfold gConds at hg
    split at hg
    · rename_i s
      simp only [Option.some.injEq, Prod.mk.injEq] at hg
      obtain ⟨_, rfl⟩ := hg
      exact ⟨[.int .i64 (condS s).1, .bool (condS s).2], an0, 200, (tree76 s).trans (condT_eq _ _), rfl, rfl⟩
    · cases hg
def MR : List Con := [(75, [none, none], gBeh), (76, [none], gConds)]
theorem MR_ok : TabOk X1 cfM MR := .cons con75 (.cons con76 .nil)
def mR (β : Type) : CallT β := callT X1 (tab MR) inM 400 β 40
theorem mR_ok (β : Type) : CallTOk X1 cfM (mR β) := callT_ok MR_ok inM_ok 400 40 β
/-- The document's Parse: all names, then the three beginnings. -/
def refT (s : List UInt8) (k : Option AV) (l : List (List UInt8)) : Int → Option AV :=
  List.rec (motive := fun _ => Int → Option AV) (fun _ => k) (fun p _ r i => pick2 (decide (p = s)) (some (.tup [.int .i64 i, .bool true])) (r (i + 1))) l
def ref1 (s p : List UInt8) (f : Int) (k : Option AV) : Option AV :=
  pick2 (behS s p).2 (pick2 (condS (behS s p).1).2 (some (.tup [.int .i64 (IntKind.wrap .i64 (f + (condS (behS s p).1).1)), .bool true])) k) k
def ref3 (s : List UInt8) : Option AV := ref1 s [106] 68 (ref1 s [115, 101, 116] 84 (ref1 s [99, 109, 111, 118] 100 (some (.tup [.int .i64 0, .bool false]))))
theorem tree24 (s : List UInt8) : enterT X1 (mR AV) an0 400 24 [.str s] TMem.empty (fun v _ => some v) = refT s (ref3 s) nms 1 := by kernel_rfl
theorem refT_eq (s : List UInt8) (k : Option AV) : ∀ (l : List (List UInt8)) (i : Int), refT s k l i = match findN s l i with | some j => some (.tup [.int .i64 j, .bool true]) | none => k
  | [], i => rfl
  | p :: l, i => by
    show pick2 (decide (p = s)) (some (.tup [.int .i64 i, .bool true])) (refT s k l (i + 1)) = _
    rw [pick2_eq, findN, refT_eq s k l (i + 1)]
    by_cases h : p = s
    · simp [h]
    · simp [h]
theorem ref1_eq (s p : List UInt8) (f : Int) (hf : f = 68 ∨ f = 84 ∨ f = 100) (l : List (List UInt8 × Int)) (k : Option AV) (hk : k = some (.tup [.int .i64 (tryS s l).1, .bool (tryS s l).2])) :
    ref1 s p f k = some (.tup [.int .i64 (tryS s ((p, f) :: l)).1, .bool (tryS s ((p, f) :: l)).2]) := by
  subst hk
  have e : tryS s ((p, f) :: l) = if (cutS s p).2 = true ∧ (condS (cutS s p).1).2 = true then (f + (condS (cutS s p).1).1, true) else tryS s l := rfl
  rw [e]
  unfold ref1 behS cutS
  obtain ⟨h1, h2⟩ := condS_has (s.drop p.length)
  rw [pick2_eq, pick2_eq]
  by_cases h : s.take p.length = p
  · simp only [if_pos h]
    by_cases hc : (condS (s.drop p.length)).2 = true
    · simp only [hc, if_true, and_self]
      rw [i64_in (by omega) (by omega)]
    · simp [hc]
  · simp only [if_neg h]; simp
theorem run24 (s : List UInt8) : enterT X1 (mR AV) an0 400 24 [.str s] TMem.empty (fun v _ => some v) = some (.tup [.int .i64 (parseS s).1, .bool (parseS s).2]) := by
  rw [tree24, refT_eq]
  unfold parseS
  cases findN s nms 1 with
  | some j => rfl
  | none =>
    exact ref1_eq s _ _ (.inl rfl) _ _ (ref1_eq s _ _ (.inr (.inl rfl)) _ _ (ref1_eq s _ _ (.inr (.inr rfl)) [] _ rfl))
theorem con24 : ConOk X1 cfM 24 (gParse parseS) :=
  con_vals (inM_ok 24 rfl) mR_ok fun args rs hg => by
    unfold gParse at hg
    split at hg
    · rename_i s
      simp only [Option.some.injEq, Prod.mk.injEq] at hg
      obtain ⟨_, rfl⟩ := hg
      exact ⟨[.int .i64 (parseS s).1, .bool (parseS s).2], an0, 400, run24 s, rfl, rfl⟩
    · cases hg
def refN (op : Int) : Option AV :=
  pick2 (!ltI op 1) (pick2 (!!ltI 322 op) (some (.str [])) (Option.rec (motive := fun _ => Option AV) none (fun y => some (.str y)) (getI nms (IntKind.wrap .i64 (op - 1))))) (some (.str []))
theorem tree29 (op : Int) : enterT X1 (mR AV) an0 400 29 [.int .i64 op] TMem.empty (fun v _ => some v) = refN op := by kernel_rfl
theorem run29 (op : Int) : enterT X1 (mR AV) an0 400 29 [.int .i64 op] TMem.empty (fun v _ => some v) = some (.str (nameS op)) := by
  rw [tree29, nameS_eq]
  unfold refN
  rw [Bool.not_not, pick_nlt, pick_lt]
  by_cases h1 : 1 ≤ op
  · rw [if_pos h1]
    by_cases h2 : op ≤ 322
    · rw [if_neg (by omega), if_pos ⟨h1, h2⟩, i64_in (by omega) (by omega)]
      obtain ⟨i, hi⟩ : ∃ i : Nat, op - 1 = i := ⟨(op - 1).toNat, by omega⟩
      have hi2 : op.toNat - 1 = i := by omega
      rw [hi, hi2, getI_nat]
      have hlt : i < nms.length := by rw [nms_len]; omega
      rw [List.getElem?_eq_getElem hlt, List.getD_eq_getElem?_getD, List.getElem?_eq_getElem hlt]; rfl
    · rw [if_pos (by omega), if_neg (fun h => h2 h.2)]
  · rw [if_neg h1, if_neg (fun h => h1 h.1)]
theorem con29 : ConOk X1 cfM 29 (gName nameS) :=
  con_vals (inM_ok 29 rfl) mR_ok fun args rs hg => by
    unfold gName at hg
    split at hg
    · rename_i op
      simp only [Option.some.injEq, Prod.mk.injEq] at hg
      obtain ⟨_, rfl⟩ := hg
      exact ⟨[.str (nameS op)], an0, 400, run29 op, rfl, rfl⟩
    · cases hg
/-- The condition of a number. -/
def condOf (op : Int) : Int × Bool := if 68 ≤ op ∧ op < 84 then (op - 68, true) else if 84 ≤ op ∧ op < 100 then (op - 84, true) else if 100 ≤ op ∧ op < 116 then (op - 100, true) else (0, false)
def cT (op lo hi : Int) (k : Option AV) : Option AV := pick2 (!ltI op lo) (pick2 (ltI op hi) (some (.tup [.int .i64 (IntKind.wrap .i64 (op - lo)), .bool true])) k) k
def cT3 (op : Int) : Option AV := cT op 68 84 (cT op 84 100 (cT op 100 116 (some (.tup [.int .i64 0, .bool false]))))
theorem tree25 (op : Int) : enterT X1 (m0 AV) an0 400 25 [.int .i64 op] TMem.empty (fun v _ => some v) = cT3 op := by kernel_rfl
theorem tree20 (op : Int) : enterT X1 (m0 AV) an0 400 20 [.int .i64 op] TMem.empty (fun v _ => some v) = cT3 op := by kernel_rfl
theorem cT_eq {lo hi : Int} (h0 : 0 ≤ lo) (h1 : hi ≤ 1000) (op : Int) (k : Option AV) : cT op lo hi k = if lo ≤ op ∧ op < hi then some (.tup [.int .i64 (op - lo), .bool true]) else k := by
  unfold cT
  rw [pick_nlt, pick_lt]
  by_cases a : lo ≤ op
  · by_cases b : op < hi
    · rw [if_pos a, if_pos b, if_pos ⟨a, b⟩, i64_in (by omega) (by omega)]
    · rw [if_pos a, if_neg b, if_neg (fun h => b h.2)]
  · rw [if_neg a, if_neg (fun h => a h.1)]
theorem cT3_eq (op : Int) : cT3 op = some (.tup [.int .i64 (condOf op).1, .bool (condOf op).2]) := by
  unfold cT3 condOf
  rw [cT_eq (by omega) (by omega), cT_eq (by omega) (by omega), cT_eq (by omega) (by omega)]
  split
  · rfl
  · split
    · rfl
    · split <;> rfl
def gCond (cs : Int → Int × Bool) (args : List AV) : Option (Bool × List PRes) :=
  match args with
  | [.int .i64 op] => some (true, [.val (.int .i64 (cs op).1), .val (.bool (cs op).2)])
  | _ => none
theorem con_pair {f : FuncId} {cs : Int → Int × Bool} (hf : inM f = true) (h : ∀ op, enterT X1 (m0 AV) an0 400 f [.int .i64 op] TMem.empty (fun v _ => some v) = some (.tup [.int .i64 (cs op).1, .bool (cs op).2])) : ConOk X1 cfM f (gCond cs) :=
  con_vals (inM_ok f hf) m0_ok fun args rs hg => by
    unfold gCond at hg
    split at hg
    · rename_i op
      simp only [Option.some.injEq, Prod.mk.injEq] at hg
      obtain ⟨_, rfl⟩ := hg
      exact ⟨[.int .i64 (cs op).1, .bool (cs op).2], an0, 400, h op, rfl, rfl⟩
    · cases hg
theorem con20 : ConOk X1 cfM 20 (gCond condOf) := con_pair rfl fun op => (tree20 op).trans (cT3_eq op)
theorem con25 : ConOk X1 cfM 25 (gCond condOf) := con_pair rfl fun op => (tree25 op).trans (cT3_eq op)
/-- The immediates of a number. -/
def immOf (op : Int) : Int × Bool := if 1 ≤ op ∧ op ≤ 322 then if op ≤ 10 ∨ op = 16 then (0, true) else if op = 48 then (64, true) else if op = 51 then (16, false) else (8, false) else (0, false)
def iP (n : Int) (b : Bool) : Option AV := some (.tup [.int .i64 n, .bool b])
def iE (op : Int) : Option AV := pick2 (eqI op 48) (iP 64 true) (pick2 (eqI op 51) (iP 16 false) (iP 8 false))
def iL (op : Int) (l : List Int) : Option AV := List.rec (motive := fun _ => Option AV) (pick2 (eqI op 16) (iP 0 true) (iE op)) (fun k _ r => pick2 (eqI op k) (pick2 (eqI op k) (iP 0 true) (iE op)) r) l
def iT (op : Int) : Option AV := pick2 (!ltI op 1) (pick2 (!!ltI 322 op) (iP 0 false) (iL op [1, 2, 3, 4, 5, 6, 7, 8, 9, 10])) (iP 0 false)
def iS (op : Int) : Option AV := pick2 (eqI op 16) (iP 0 true) (iE op)
def iR (op : Int) : Option AV := pick2 (!ltI op 1) (pick2 (!!ltI 322 op) (iP 0 false) (pick2 (!ltI op 1) (pick2 (!ltI 10 op) (iP 0 true) (iS op)) (iS op))) (iP 0 false)
theorem tree26 (op : Int) : enterT X1 (m0 AV) an0 400 26 [.int .i64 op] TMem.empty (fun v _ => some v) = iT op := by kernel_rfl
theorem tree27 (op : Int) : enterT X1 (m0 AV) an0 400 27 [.int .i64 op] TMem.empty (fun v _ => some v) = iR op := by kernel_rfl
theorem iE_eq (op : Int) : iE op = if op = 48 then iP 64 true else if op = 51 then iP 16 false else iP 8 false := by unfold iE; rw [pick_eq, pick_eq]
theorem iL_eq (op : Int) : ∀ l : List Int, iL op l = if op ∈ l ∨ op = 16 then iP 0 true else iE op
  | [] => by
    show pick2 (eqI op 16) (iP 0 true) (iE op) = _
    rw [pick_eq]; simp
  | k :: l => by
    show pick2 (eqI op k) (pick2 (eqI op k) (iP 0 true) (iE op)) (iL op l) = _
    rw [pick_eq, pick_eq, iL_eq op l]
    by_cases h : op = k
    · simp [h]
    · simp [h]
theorem iP_if (op : Int) : some (AV.tup [.int .i64 (immOf op).1, .bool (immOf op).2]) = if 1 ≤ op ∧ op ≤ 322 then if op ≤ 10 ∨ op = 16 then iP 0 true else iE op else iP 0 false := by
  rw [iE_eq]
  unfold immOf iP
  split
  · split
    · rfl
    · split
      · rfl
      · split <;> rfl
  · rfl
theorem iT_eq (op : Int) : iT op = some (.tup [.int .i64 (immOf op).1, .bool (immOf op).2]) := by
  rw [iP_if]
  unfold iT
  rw [Bool.not_not, pick_nlt, pick_lt, iL_eq]
  by_cases h1 : 1 ≤ op
  · by_cases h2 : op ≤ 322
    · rw [if_pos h1, if_neg (show ¬ 322 < op by omega), if_pos (show 1 ≤ op ∧ op ≤ 322 from ⟨h1, h2⟩)]
      by_cases h3 : op ≤ 10 ∨ op = 16
      · rw [if_pos h3, if_pos]
        rcases h3 with h3 | h3
        · left; simp; omega
        · exact .inr h3
      · rw [if_neg h3, if_neg]
        rintro (h4 | h4)
        · simp at h4; omega
        · exact h3 (.inr h4)
    · rw [if_pos h1, if_pos (show 322 < op by omega), if_neg (show ¬ (1 ≤ op ∧ op ≤ 322) from fun h => h2 h.2)]
  · rw [if_neg h1, if_neg (show ¬ (1 ≤ op ∧ op ≤ 322) from fun h => h1 h.1)]
theorem iR_eq (op : Int) : iR op = some (.tup [.int .i64 (immOf op).1, .bool (immOf op).2]) := by
  rw [iP_if]
  unfold iR iS
  rw [Bool.not_not, pick_nlt, pick_lt, pick_nlt, pick_nlt, pick_eq]
  by_cases h1 : 1 ≤ op
  · by_cases h2 : op ≤ 322
    · rw [if_pos h1, if_neg (show ¬ 322 < op by omega), if_pos (show 1 ≤ op ∧ op ≤ 322 from ⟨h1, h2⟩), if_pos h1]
      by_cases h3 : op ≤ 10
      · rw [if_pos h3, if_pos (.inl h3)]
      · rw [if_neg h3]
        by_cases h4 : op = 16
        · rw [if_pos h4, if_pos (.inr h4)]
        · rw [if_neg h4, if_neg (fun h => h.elim h3 h4)]
    · rw [if_pos h1, if_pos (show 322 < op by omega), if_neg (show ¬ (1 ≤ op ∧ op ≤ 322) from fun h => h2 h.2)]
  · rw [if_neg h1, if_neg (show ¬ (1 ≤ op ∧ op ≤ 322) from fun h => h1 h.1)]
theorem con26 : ConOk X1 cfM 26 (gCond immOf) := con_pair rfl fun op => (tree26 op).trans (iT_eq op)
theorem con27 : ConOk X1 cfM 27 (gCond immOf) := con_pair rfl fun op => (tree27 op).trans (iR_eq op)
/-- The table for NameTells. -/
def MT (ns : Int → List UInt8) (ps : List UInt8 → Int × Bool) (cs is : Int → Int × Bool) : List Con :=
  [(15, [], gYes), (16, [none], gName ns), (19, [none], gParse ps), (20, [none], gCond cs), (24, [none], gParse ps), (25, [none], gCond cs), (26, [none], gCond is), (27, [none], gCond is), (29, [none], gName ns)]
theorem MT_ok : TabOk X1 cfM (MT nameS parseS condOf immOf) :=
  .cons con15 (.cons con16 (.cons con19 (.cons con20 (.cons con24 (.cons con25 (.cons con26 (.cons con27 (.cons con29 .nil))))))))
def mT (ns : Int → List UInt8) (ps : List UInt8 → Int × Bool) (cs is : Int → Int × Bool) (β : Type) : CallT β := callT X1 (tab (MT ns ps cs is)) inM 200 β 40
theorem mT_ok (β : Type) : CallTOk X1 cfM (mT nameS parseS condOf immOf β) := callT_ok MT_ok inM_ok 200 40 β
end
end Go.Proofs.YtpajehginfbamaaDoor.nm
