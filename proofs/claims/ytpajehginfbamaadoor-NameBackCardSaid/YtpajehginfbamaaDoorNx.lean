/- NameBack: ends, its contract; the names of a condition that is known by a number alone. -/
import Derived.Test.YtpajehginfbamaaDoorNv
import Derived.Test.YtpajehginfbamaaDoorNu2
namespace Go.Proofs.YtpajehginfbamaaDoor.nm
open Go.Tv Go.Ev
noncomputable section
def pE : List Bool := [true, false, true, false]
def anE : FnAnn := ⟨annOf [0, 1, 5] pE, .none, []⟩
def jE (s : List UInt8) (l : List (List UInt8)) (r m : Nat) (i : Int) : Option AV := loopN X1 (m0 AV) anE r 21 pE (fun v _ => some v) m (frOf 37 [(0, .str s), (1, .lst .str l), (5, .int .i64 i)]) TMem.empty
def atE (l : List (List UInt8)) (i : Int) (k : List UInt8 → Option AV) : Option AV := Option.rec (motive := fun _ => Option AV) none k (getI l i)
def treeE (s : List UInt8) (l : List (List UInt8)) (i : Int) (go : Int → Option AV) : Option AV :=
  pick2 (ltI i ↑l.length) (atE l i fun y => pick2 (ltI ↑y.length ↑s.length)
    (atE l i fun z => pick2 (!ltI (IntKind.wrap .i64 (↑s.length - ↑z.length)) 0 && !ltI (Int.ofNat s.length) (IntKind.wrap .i64 (↑s.length - ↑z.length)))
      (atE l i fun x => pick2 (decide (cutL s (IntKind.wrap .i64 (↑s.length - ↑z.length)) ↑s.length = x)) (some (.bool true)) (go (IntKind.wrap .i64 (i + 1)))) none)
    (go (IntKind.wrap .i64 (i + 1)))) (some (.bool false))
theorem stepE (s : List UInt8) (l : List (List UInt8)) (r m : Nat) (i : Int) : jE s l r (m + 1) i = treeE s l i (jE s l r m) := by kernel_rfl
theorem enterE (s : List UInt8) (l : List (List UInt8)) (m : Nat) : enterT X1 (m0 AV) anE m 21 [.str s, .lst .str l] TMem.empty (fun v _ => some v) = jE s l m m 0 := by kernel_rfl
/-- Does a text end with one of some, and begin with something? -/
def endsS (s : List UInt8) (l : List (List UInt8)) : Bool := l.any fun t => decide (t.length < s.length ∧ s.drop (s.length - t.length) = t)
theorem loopE (s : List UInt8) (hs : s.length < 1000000) (l : List (List UInt8)) (hl : l.length < 1000000) (r : Nat) : ∀ (rest pre : List (List UInt8)) (m : Nat), l = pre ++ rest → rest.length < m → jE s l r m pre.length = some (.bool (endsS s rest)) := by
  intro rest
  induction rest with
  | nil =>
    intro pre m he hm
    obtain ⟨m, rfl⟩ : ∃ m', m = m' + 1 := ⟨m - 1, by simp at hm; omega⟩
    have e1 : l.length = pre.length := by rw [he]; simp
    rw [stepE]
    unfold treeE
    rw [ltF (by omega)]; rfl
  | cons y rest ih =>
    intro pre m he hm
    obtain ⟨m, rfl⟩ : ∃ m', m = m' + 1 := ⟨m - 1, by simp at hm; omega⟩
    have e1 : l.length = pre.length + (rest.length + 1) := by rw [he]; simp
    have hg : getI l (pre.length : Int) = some y := by rw [he]; exact getI_at pre rest y
    have hin := ih (pre ++ [y]) m (by rw [he]; simp) (by simp at hm; omega)
    rw [List.length_append] at hin
    have hin : jE s l r m ((pre.length : Int) + 1) = some (.bool (endsS s rest)) := hin
    have e2 : endsS s (y :: rest) = (decide (y.length < s.length ∧ s.drop (s.length - y.length) = y) || endsS s rest) := rfl
    rw [stepE, e2]
    unfold treeE atE
    rw [ltT (by omega), hg, i64_in (n := (pre.length : Int) + 1) (by omega) (by omega)]
    simp only [pickT]
    by_cases h : y.length < s.length
    · have e3 : (s.length : Int) - (y.length : Int) = ((s.length - y.length : Nat) : Int) := by omega
      have e4 : cutL s ((s.length - y.length : Nat) : Int) (s.length : Int) = s.drop (s.length - y.length) := by
        unfold cutL; simp only [Int.toNat_natCast]; rw [List.take_of_length_le (by rw [List.length_drop]; omega)]
      rw [ltT (by omega), i64_in (n := (s.length : Int) - (y.length : Int)) (by omega) (by omega), ltF (a := (s.length : Int) - (y.length : Int)) (by omega), ltF (a := Int.ofNat s.length) (by simp only [Int.ofNat_eq_natCast]; omega), e3, e4]
      simp only [pickT, Bool.not_false, Bool.and_self]
      by_cases h2 : s.drop (s.length - y.length) = y
      · rw [decide_eq_true h2, decide_eq_true ⟨h, h2⟩]; rfl
      · rw [decide_eq_false h2, decide_eq_false (fun q => h2 q.2), hin]; rfl
    · rw [ltF (by omega), decide_eq_false (show ¬ (y.length < s.length ∧ s.drop (s.length - y.length) = y) from fun q => h q.1), hin]; rfl
def gEnds (args : List AV) : Option (Bool × List PRes) :=
  match args with
  | [.str s, a] => match asL .str a with
    | some l => some (Nat.ble s.length 999999 && Nat.ble l.length 999999, [.val (.bool (endsS s l))])
    | none => none
  | _ => none
theorem con21 : ConOk X1 cfM 21 gEnds :=
  con_vals (inM_ok 21 rfl) m0_ok fun args rs hg => by
    unfold gEnds at hg
    split at hg
    · rename_i s a
      split at hg
      · rename_i l hl
        obtain rfl := asL_spec hl
        simp only [Option.some.injEq, Prod.mk.injEq, Bool.and_eq_true, Nat.ble_eq] at hg
        obtain ⟨⟨h1, h2⟩, rfl⟩ := hg
        exact ⟨[.bool (endsS s l)], anE, l.length + 1, (enterE s l _).trans (loopE s (by omega) l (by omega) _ l [] (l.length + 1) rfl (by omega)), rfl, rfl⟩
      · cases hg
    · cases hg
/-- The names of a condition. -/
def namesC (c : Int) : List (List UInt8) := namesOf c.toNat
def gNamesI (nc : Int → List (List UInt8)) (args : List AV) : Option (Bool × List PRes) :=
  match args with
  | [.int .i64 c] => some (!ltI c 0 && !ltI 15 c, [.list 9 .str (nc c)])
  | _ => none
theorem con22i : ConOk X1 cfM 22 (gNamesI namesC) :=
  con_runs (inM_ok 22 rfl) m0_ok an0 20 fun args rs hg => by
    unfold gNamesI at hg
    split at hg
    · rename_i c
      simp only [Option.some.injEq, Prod.mk.injEq, Bool.and_eq_true] at hg
      obtain ⟨⟨h1, h2⟩, rfl⟩ := hg
      rw [ltI_spec] at h1 h2
      have h1 : 0 ≤ c := by simpa using h1
      have h2 : c ≤ 15 := by simpa using h2
      obtain ⟨k, rfl⟩ : ∃ k : Nat, c = Int.ofNat k := ⟨c.toNat, by simp; omega⟩
      exact List.all_eq_true.1 runN_all k (List.mem_range.2 (by simp at h2; omega))
    · cases hg
def MB (ns : Int → List UInt8) (ps : List UInt8 → Int × Bool) (cs : Int → Int × Bool) (nc : Int → List (List UInt8)) (en : List UInt8 → List (List UInt8) → Bool) : List Con :=
  [(15, [], gYes), (16, [none], gName ns), (19, [none], gParse ps), (20, [none], gCond cs), (21, [none, some .str], fun args => match args with
    | [.str s, a] => match asL .str a with
      | some l => some (Nat.ble s.length 999999 && Nat.ble l.length 999999, [.val (.bool (en s l))])
      | none => none
    | _ => none), (22, [none], gNamesI nc)]
theorem MB_ok : TabOk X1 cfM (MB nameS parseS condOf namesC endsS) := .cons con15 (.cons con16 (.cons con19 (.cons con20 (.cons con21 (.cons con22i .nil)))))
def mB (ns : Int → List UInt8) (ps : List UInt8 → Int × Bool) (cs : Int → Int × Bool) (nc : Int → List (List UInt8)) (en : List UInt8 → List (List UInt8) → Bool) (β : Type) : CallT β := callT X1 (tab (MB ns ps cs nc en)) inM 200 β 40
theorem mB_ok (β : Type) : CallTOk X1 cfM (mB nameS parseS condOf namesC endsS β) := callT_ok MB_ok inM_ok 200 40 β
def pB : List Bool := [true, true, true, true, true, false, true, false]
def pB2 : List Bool := [true, true, true, true, true, true]
def anB : FnAnn := ⟨annPlus (annOf [0, 1, 2, 7, 8, 9] pB) (annOf [0, 1, 2, 7, 8] pB2), .none, []⟩
end
end Go.Proofs.YtpajehginfbamaaDoor.nm
