/- Expressions: symbols looked up; operators of two operands. -/
import Derived.Test.YtpaddkkfefgkfaaDoorEh
import Derived.Test.YtpaddkkfefgkfaaDoorPz
namespace Go.Proofs.YtpaddkkfefgkfaaDoor.ex
open Go.Tv Go.Ev Go.Px
noncomputable section
def tySym : Tv.Ty := .pair .str (.pair (.int .i64) .bool)

/-! ### The last symbol of a name -/
def p18 : List Bool := [true, false, true, false]
def an18 : FnAnn := ⟨annOf [0, 1, 4, 5, 6] p18, .none, []⟩
def symA (q : Sym) : AV := .agg [.str q.1, .int .i64 q.2.1, .bool q.2.2]
def symR : Option Sym → AV
  | some q => .tup [symA q, .bool true]
  | none => .tup [symA ([], 0, false), .bool false]
def jLa (f : FuncId) (l : List Sym) (s : List UInt8) (r m : Nat) (i : Int) : Option AV := loopN X0 (cN [] [] AV) an18 r f p18 (fun v _ => some v) m (frOf 26 [(0, .lst tySym l), (1, .str s), (4, .ptr 0 0), (5, .bool false), (6, .int .i64 i)]) (memOf [.cells 36 [.str [], .int .i64 0, .bool false]])
def stepA (l : List Sym) (s : List UInt8) (i : Int) (go : Option AV) : Option AV :=
  pick2 (!ltI i 0) (Option.rec (motive := fun _ => Option AV) none (fun y => pick2 (decide (y.1 = s)) (Option.rec (motive := fun _ => Option AV) none (fun y => some (symR (some y))) (getI l i)) go) (getI l i)) (some (symR none))
set_option maxRecDepth 100000 in
theorem stepLa1 (l : List Sym) (s : List UInt8) (r m : Nat) (i : Int) : jLa 18 l s r (m + 1) i = stepA l s i (jLa 18 l s r m (IntKind.wrap .i64 (i - 1))) := by kernel_rfl
set_option maxRecDepth 100000 in
theorem stepLa2 (l : List Sym) (s : List UInt8) (r m : Nat) (i : Int) : jLa 11 l s r (m + 1) i = stepA l s i (jLa 11 l s r m (IntKind.wrap .i64 (i - 1))) := by kernel_rfl
set_option maxRecDepth 100000 in
theorem enterLa1 (l : List Sym) (s : List UInt8) (r : Nat) : enterT X0 (cN [] [] AV) an18 r 18 [.lst tySym l, .str s] TMem.empty (fun v _ => some v) = jLa 18 l s r r (IntKind.wrap .i64 ((l.length : Int) - 1)) := by kernel_rfl
set_option maxRecDepth 100000 in
theorem enterLa2 (l : List Sym) (s : List UInt8) (r : Nat) : enterT X0 (cN [] [] AV) an18 r 11 [.lst tySym l, .str s] TMem.empty (fun v _ => some v) = jLa 11 l s r r (IntKind.wrap .i64 ((l.length : Int) - 1)) := by kernel_rfl
set_option maxRecDepth 100000 in
theorem enterLn1 (s : List UInt8) : enterT X0 (cN [] [] AV) an18 5 18 [.nils, .str s] TMem.empty (fun v _ => some v) = some (symR none) := by kernel_rfl
set_option maxRecDepth 100000 in
theorem enterLn2 (s : List UInt8) : enterT X0 (cN [] [] AV) an18 5 11 [.nils, .str s] TMem.empty (fun v _ => some v) = some (symR none) := by kernel_rfl
theorem loopLa {f : FuncId} {l : List Sym} (hl : l.length ≤ 1000000) {s : List UInt8} {r : Nat} (step : ∀ m i, jLa f l s r (m + 1) i = stepA l s i (jLa f l s r m (IntKind.wrap .i64 (i - 1)))) :
    ∀ (n : Nat) (pre suf : List Sym) (m : Nat), pre.length = n → l = pre ++ suf → n < m → jLa f l s r m ((n : Int) - 1) = some (symR (firstF pre.reverse s))
  | 0, pre, suf, m, hp, he, hm => by
    obtain ⟨m, rfl⟩ : ∃ m', m = m' + 1 := ⟨m - 1, by omega⟩
    have : pre = [] := List.length_eq_zero_iff.1 hp
    subst this
    rw [step]; rfl
  | n + 1, pre, suf, m, hp, he, hm => by
    obtain ⟨m, rfl⟩ : ∃ m', m = m' + 1 := ⟨m - 1, by omega⟩
    rcases List.eq_nil_or_concat pre with rfl | ⟨pre', a, rfl⟩
    · simp at hp
    · rw [List.concat_eq_append] at hp he ⊢
      have hp' : pre'.length = n := by simpa using hp
      have hln : n < l.length := by rw [he]; simp; omega
      have hg : getI l (n : Int) = some a := by rw [he, ← hp', List.append_assoc]; exact getI_at pre' _ a
      have hin := loopLa hl step n pre' ([a] ++ suf) m hp' (by rw [he]; simp) (by omega)
      have e1 : ((n + 1 : Nat) : Int) - 1 = n := by omega
      rw [step, e1]
      unfold stepA
      rw [ltF (by omega), hg, i64_in (n := (n : Int) - 1) (by omega) (by omega), hin]
      rw [List.reverse_append]
      show pick2 (decide (a.1 = s)) (some (symR (some a))) _ = some (symR (if a.1 = s then some a else firstF pre'.reverse s))
      by_cases h : a.1 = s
      · rw [decide_eq_true h, if_pos h]
      · rw [decide_eq_false h, if_neg h]
def gLast (args : List AV) : Option (Bool × List PRes) :=
  match args with
  | [L, .str s] => match asLs tySym L with
    | some l => some (Nat.ble l.length 1000000, [.val (symA ((lastF l s).getD ([], 0, false))), .val (.bool (lastF l s).isSome)])
    | none => none
  | _ => none
theorem symR_eq (o : Option Sym) : symR o = .tup [symA (o.getD ([], 0, false)), .bool o.isSome] := by cases o <;> rfl
theorem con_last {f : FuncId} (h0 : ∀ s, enterT X0 (cN [] [] AV) an18 5 f [.nils, .str s] TMem.empty (fun v _ => some v) = some (symR none)) (h1 : ∀ l s r, enterT X0 (cN [] [] AV) an18 r f [.lst tySym l, .str s] TMem.empty (fun v _ => some v) = jLa f l s r r (IntKind.wrap .i64 ((l.length : Int) - 1)))
    (step : ∀ l s r m i, jLa f l s r (m + 1) i = stepA l s i (jLa f l s r m (IntKind.wrap .i64 (i - 1)))) : ConOk X0 cf0 f gLast :=
  con_vals (nk f) (cN_ok k0 n0) fun args rs hg => by
    unfold gLast at hg
    split at hg
    case h_2 => cases hg
    split at hg
    case h_2 => cases hg
    rename_i s _ l hx
    simp only [Option.some.injEq, Prod.mk.injEq] at hg
    obtain ⟨h2, rfl⟩ := hg
    have h2 := Nat.le_of_ble_eq_true h2
    rcases asLs_spec hx with rfl | ⟨rfl, rfl⟩
    · refine ⟨[symA ((lastF l s).getD ([], 0, false)), .bool (lastF l s).isSome], an18, l.length + 1, ?_, rfl, rfl⟩
      rw [h1, i64_in (n := (l.length : Int) - 1) (by omega) (by omega), loopLa h2 (step l s _) l.length l [] _ rfl (List.append_nil l).symm (by omega), symR_eq]
      rfl
    · exact ⟨[symA ([], 0, false), .bool false], an18, 5, h0 s, rfl, rfl⟩
theorem con_la1 : ConOk X0 cf0 18 gLast := con_last enterLn1 enterLa1 stepLa1
theorem con_la2 : ConOk X0 cf0 11 gLast := con_last enterLn2 enterLa2 stepLa2

/-! ### Symbols too long -/
def pLs : List Bool := [true, false, true, false]
def anLs : FnAnn := ⟨annOf [0, 1, 4, 5] pLs, .none, []⟩
def jLs (l : List Sym) (most r m : Nat) (i : Int) : Option AV := loopN X0 (cN [] [] AV) anLs r 7 pLs (fun v _ => some v) m (frOf 28 [(0, .lst tySym l), (1, .int .i64 most), (4, .bool false), (5, .int .i64 i)]) (memOf [])
set_option maxRecDepth 100000 in
theorem con_ls : ConOk X0 cf0 7 (gLg tySym fun y => ltI 100 y.1.length) :=
  con_long (cN_ok k0 n0) anLs jLs (fun l most r => by kernel_rfl) (fun l most r m i => by kernel_rfl)

/-! ### Operators of two operands -/
section
variable {β : Type} (R : Int → Bool → Option β) (op a b : Int)
def divB : Option β := pick2 (eqI b 0) (R 0 false) (pick2 (eqI op 8) (pick2 (eqI b 0) none (R (IntKind.wrap .i64 (Int.tdiv a b)) true)) (pick2 (eqI b 0) none (R (Int.tmod a b) true)))
def shB : Option β := pick2 (ltI b 0) (R 0 false) (pick2 (eqI op 12)
  (pick2 (ltI (IntKind.wrap .u64 b) 0) none (R (IntKind.wrap .i64 (IntKind.wrap .u64 (IntKind.wrap .u64 a * 2 ^ min (Int.toNat (IntKind.wrap .u64 b)) 64))) true))
  (pick2 (ltI (IntKind.wrap .u64 b) 0) none (R (IntKind.wrap .i64 (Int.fdiv (IntKind.wrap .u64 a) (2 ^ min (Int.toNat (IntKind.wrap .u64 b)) 64))) true)))
def bitB : Option β := pick2 (eqI op 14) (R (IntKind.wrap .i64 ↑(BitVec.toNat (BitVec.ofInt 64 a &&& BitVec.ofInt 64 b))) true)
  (pick2 (eqI op 15) (R (IntKind.wrap .i64 ↑(BitVec.toNat (BitVec.ofInt 64 a ^^^ BitVec.ofInt 64 b))) true) (R (IntKind.wrap .i64 ↑(BitVec.toNat (BitVec.ofInt 64 a ||| BitVec.ofInt 64 b))) true))
def sumB : Option β := pick2 (eqI op 10) (R (IntKind.wrap .i64 (a + b)) true) (pick2 (eqI op 11) (R (IntKind.wrap .i64 (a - b)) true)
  (pick2 (eqI op 12) (pick2 (eqI op 12) (shB R op a b) (bitB R op a b)) (pick2 (eqI op 13) (shB R op a b) (bitB R op a b))))
def binB : Option β := pick2 (eqI op 7) (R (IntKind.wrap .i64 (a * b)) true) (pick2 (eqI op 8) (pick2 (eqI op 8) (divB R op a b) (sumB R op a b)) (pick2 (eqI op 9) (divB R op a b) (sumB R op a b)))
end
theorem u64_nn (b : Int) : 0 ≤ IntKind.wrap .u64 b := by
  unfold IntKind.wrap
  have : IntKind.signed .u64 = false := rfl
  simp only [this, Bool.false_and]
  exact Int.emod_nonneg _ (by decide)
/-- What an operator of two operands makes, and whether it makes anything. -/
def binV (op a b : Int) : Int × Bool := ((binB (fun y k => some (y, k)) op a b).getD (0, false))
theorem binB_eq {β : Type} (R : Int → Bool → Option β) (op a b : Int) : binB R op a b = R (binV op a b).1 (binV op a b).2 := by
  unfold binV binB divB sumB shB bitB
  rw [ltF (a := IntKind.wrap .u64 b) (u64_nn b)]
  cases eqI op 7
  · cases eqI op 8
    · cases eqI op 9
      · cases eqI op 10
        · cases eqI op 11
          · cases eqI op 12
            · cases eqI op 13
              · cases eqI op 14
                · cases eqI op 15 <;> rfl
                · rfl
              · cases ltI b 0 <;> rfl
            · cases ltI b 0 <;> rfl
          · rfl
        · rfl
      · cases eqI b 0 <;> rfl
    · cases eqI b 0 <;> rfl
  · rfl
set_option maxRecDepth 100000 in
theorem treeBi (op a b : Int) : enterT X0 (cN [] [] AV) an0 5 19 [.int .i64 op, .int .i64 a, .int .i64 b] TMem.empty (fun v _ => some v) = binB (fun y k => some (.tup [.int .i64 y, .bool k])) op a b := by kernel_rfl
def gBi (args : List AV) : Option (Bool × List PRes) :=
  match args with
  | [.int .i64 op, .int .i64 a, .int .i64 b] => some (true, [.val (.int .i64 (binV op a b).1), .val (.bool (binV op a b).2)])
  | _ => none
theorem con_bi : ConOk X0 cf0 19 gBi :=
  con_vals (nk 19) (cN_ok k0 n0) fun args rs hg => by
    unfold gBi at hg
    split at hg
    case h_2 => cases hg
    rename_i op a b
    simp only [Option.some.injEq, Prod.mk.injEq] at hg
    obtain ⟨h1, rfl⟩ := hg
    exact ⟨[.int .i64 (binV op a b).1, .bool (binV op a b).2], an0, 5, (treeBi op a b).trans (binB_eq _ op a b), rfl, rfl⟩
def M13 : List Con := (19, [none, none, none], gBi) :: (18, [some tySym, none], gLast) :: (11, [some tySym, none], gLast) :: (7, [some tySym, none], gLg tySym fun y => ltI 100 y.1.length) :: M12
theorem M13_ok : TabOk X0 cf0 M13 := .cons con_bi (.cons con_la1 (.cons con_la2 (.cons con_ls M12_ok)))
end
end Go.Proofs.YtpaddkkfefgkfaaDoor.ex
