/- SourceExact: the setting; the law's function from the place where its two numbers are known. -/
import Derived.Test.YtfggompceldfgaaGreatDoorSk
import Derived.Test.YtfggompceldfgaaGreatDoorLyg
namespace Go.Proofs.YtfggompceldfgaaGreatDoor.sx
open Go.Tv Go.Ev
noncomputable section
def kn : Known := rg.kT [(13, [])] noKnown
def X0 : Cfg := { P := Tryz.prog, G := 0, gv := fun _ => [] }
def an0 : FnAnn := ⟨.none, .none, []⟩
def inl : FuncId → Bool := fun f => !Nat.beq f 13
def K0 : KT2 := fun _ => none
def c0 (β : Type) : CallT β := callT X0 K0 inl 200 β 40
theorem kn_none {f : FuncId} (h : inl f = true) (args : List Value) : kn f args = none := by
  unfold inl at h
  have h : Nat.beq f 13 = false := by simpa using h
  unfold kn rg.kT rg.hasE
  rw [h]; rfl
theorem c0_ok (β : Type) : CallTOk X0 (cfOf X0 kn) (c0 β) := callT_ok (by intro id s g h; cases h) (fun f h args => kn_none h args) 200 40 β
theorem kn_ok {GR : List Blk} (h : ∀ w, RowsAt GR w → Calls Tryz.prog 13 #[] w fun e w' => e = .returned (.bool true) ∧ RowKit.Below w.heap.size w w') : KnownOkR Tryz.prog GR kn :=
  rg.kT_ok (KnownOkR.any noKnown_ok) fun q hq w hw => by
    simp only [List.mem_cons, List.not_mem_nil, or_false] at hq
    subst hq
    exact h w hw
theorem conA : ConOk X0 (cfOf X0 kn) 13 gYes := con_yes rfl
def pkI (n q : Int) : Int := pick2 (ltI (Int.tmod n q) 0) (IntKind.wrap .i64 (Int.tmod n q + q)) (Int.tmod n q)
theorem treeP (n q : Int) : enterT X0 (c0 AV) an0 5 18 [.int .i64 n, .int .i64 q] TMem.empty (fun v _ => some v) =
    pick2 (ltI q 1) (some (.int .i64 0)) (pick2 (eqI q 0) none (pick2 (ltI (Int.tmod n q) 0) (some (.int .i64 (IntKind.wrap .i64 (Int.tmod n q + q)))) (some (.int .i64 (Int.tmod n q))))) := by kernel_rfl
def gPick (args : List AV) : Option (Bool × List PRes) :=
  match args with
  | [.int .i64 n, .int .i64 q] => some (!ltI q 1, [.val (.int .i64 (pkI n q))])
  | _ => none
theorem conP : ConOk X0 (cfOf X0 kn) 18 gPick :=
  con_vals (fun args => kn_none rfl args) c0_ok fun args rs hg => by
    unfold gPick at hg
    split at hg
    · rename_i n q
      simp only [Option.some.injEq, Prod.mk.injEq] at hg
      obtain ⟨h1, rfl⟩ := hg
      have hq : 1 ≤ q := by rw [ltI_spec] at h1; simpa using h1
      refine ⟨[.int .i64 (pkI n q)], an0, 5, ?_, rfl, rfl⟩
      rw [treeP, ltF (by omega), eqF (by omega)]
      unfold pkI
      cases ltI (Int.tmod n q) 0 <;> rfl
    · cases hg
theorem pkI_range (n q : Int) (hq : 1 ≤ q) (h2 : q ≤ 1000) : 0 ≤ pkI n q ∧ pkI n q < q := by
  unfold pkI
  rw [pick_lt]
  have h3 := Int.tmod_lt_of_pos n (show 0 < q by omega)
  have h4 : -q < Int.tmod n q := by
    rcases Int.le_total 0 n with h | h
    · have := Int.tmod_nonneg q h; omega
    · have e : Int.tmod n q = - Int.tmod (-n) q := by rw [Int.neg_tmod]; omega
      have := Int.tmod_lt_of_pos (-n) (show 0 < q by omega)
      omega
  split
  · rw [i64_in (by omega) (by omega)]; omega
  · omega
/-! The bytes of a float, and the float of bytes. -/
def wI (n : Nat) : Int := IntKind.wrap .u64 (IntKind.wrap .i64 (n : Int))
def leB (n : Nat) : List Int := [IntKind.wrap .u8 (Int.fdiv (wI n) 1), IntKind.wrap .u8 (Int.fdiv (wI n) 256), IntKind.wrap .u8 (Int.fdiv (wI n) 65536), IntKind.wrap .u8 (Int.fdiv (wI n) 16777216), IntKind.wrap .u8 (Int.fdiv (wI n) 4294967296), IntKind.wrap .u8 (Int.fdiv (wI n) 1099511627776), IntKind.wrap .u8 (Int.fdiv (wI n) 281474976710656), IntKind.wrap .u8 (Int.fdiv (wI n) 72057594037927936)]
def nanB (n : Nat) : Bool := Ieee.Format.order (FloatKind.format FloatKind.f64) n n != some Ordering.eq
def nanL : List Int := [1, 0, 0, 0, 0, 0, 248, 127]
def flB (n : Nat) : List Int := pick2 (nanB n) nanL (leB n)
def backA (n : Nat) : Bool := eqI (Int.fdiv (IntKind.wrap .i64 (IntKind.wrap .u64 (IntKind.wrap .u64 (IntKind.wrap .i64 (n : Int)) * 1))) 1) (IntKind.wrap .i64 (n : Int))
def backB (n : Nat) : Bool := eqI (IntKind.wrap .i64 (Int.fdiv (IntKind.wrap .u64 (IntKind.wrap .u64 (IntKind.wrap .i64 (n : Int)) * 1)) 1)) (IntKind.wrap .i64 (n : Int))
def gFl (args : List AV) : Option (Bool × List PRes) :=
  match args with
  | [.flt n] => some (nanB n || backA n, [.room 5 (.int .u8) (flB n) 8])
  | _ => none
def mF (l : List Int) : TMem := ⟨1, 0, 0, .n .e (some (.list 5 (.int .u8) l 8 true false)) .e⟩
set_option maxRecDepth 100000 in
theorem treeFl (n : Nat) : enterT X0 (c0 (AV × TMem)) an0 100 26 [.flt n] TMem.empty (fun v H => some (v, H)) =
    pick2 (nanB n) (some (.osl 0 0 8 8, mF nanL)) (pick2 (backA n) (some (.osl 0 0 8 8, mF (leB n))) (pick2 (!backB n) (some (.nils, TMem.empty)) (some (.osl 0 0 8 8, mF (leB n))))) := by kernel_rfl
theorem conFl : ConOk X0 (cfOf X0 kn) 26 gFl :=
  con_of (fun args => kn_none rfl args) c0_ok fun args rs hg => by
    unfold gFl at hg
    split at hg
    · rename_i n
      simp only [Option.some.injEq, Prod.mk.injEq] at hg
      obtain ⟨h1, rfl⟩ := hg
      have fin : ∀ l : List Int, flB n = l → l.length = 8 → resAt (mF l) [] [.osl 0 0 8 8] [.room 5 (.int .u8) (flB n) 8] := fun l hl hn => by
        rw [hl]
        exact ⟨rfl, 0, 8, by rw [hn], rfl, by simp, trivial⟩
      cases hn : nanB n with
      | true => exact ⟨[.osl 0 0 8 8], mF nanL, an0, 100, by rw [treeFl, hn]; rfl, fin _ (show pick2 (nanB n) nanL (leB n) = _ by rw [hn, pick2_eq]; simp) rfl⟩
      | false =>
        rw [hn, Bool.false_or] at h1
        exact ⟨[.osl 0 0 8 8], mF (leB n), an0, 100, by rw [treeFl, hn, h1]; rfl, fin _ (show pick2 (nanB n) nanL (leB n) = _ by rw [hn, pick2_eq]; simp) rfl⟩
    · cases hg
def orI (a b : Int) : Int := IntKind.wrap .u64 ((BitVec.ofInt 64 a ||| BitVec.ofInt 64 b).toNat : Int)
def shI (a m : Int) : Int := IntKind.wrap .u64 (IntKind.wrap .u64 a * m)
def rdI (a b c d e f g h : Int) : Nat := Int.toNat (orI (orI (orI (orI (orI (orI (orI (orI 0 (shI a 1)) (shI b 256)) (shI c 65536)) (shI d 16777216)) (shI e 4294967296)) (shI f 1099511627776)) (shI g 281474976710656)) (shI h 72057594037927936))
def gRd (args : List AV) : Option (Bool × List PRes) :=
  match args with
  | [.lst (.int .u8) (a :: b :: c :: d :: e :: f :: g :: h :: _)] => some (true, [.val (.flt (rdI a b c d e f g h))])
  | _ => none
set_option maxRecDepth 100000 in
theorem treeRd (a b c d e f g h : Int) (r : List Int) : enterT X0 (c0 AV) an0 100 22 [.lst (.int .u8) (a :: b :: c :: d :: e :: f :: g :: h :: r)] TMem.empty (fun v _ => some v) = some (.flt (rdI a b c d e f g h)) := by kernel_rfl
theorem conRd : ConOk X0 (cfOf X0 kn) 22 gRd :=
  con_vals (fun args => kn_none rfl args) c0_ok fun args rs hg => by
    unfold gRd at hg
    split at hg
    · rename_i a b c d e f g h r
      simp only [Option.some.injEq, Prod.mk.injEq] at hg
      obtain ⟨_, rfl⟩ := hg
      exact ⟨[.flt (rdI a b c d e f g h)], an0, 100, treeRd a b c d e f g h r, rfl, rfl⟩
    · cases hg
def ME : List Con := [(26, [none], gFl), (22, [some (.int .u8)], gRd), (13, [], gYes), (18, [none, none], gPick)]
theorem ME_ok : TabOk X0 (cfOf X0 kn) ME := .cons conFl (.cons conRd (.cons conA (.cons conP .nil)))
def mE (β : Type) : CallT β := callT X0 (tab ME) inl 200 β 40
theorem mE_ok (β : Type) : CallTOk X0 (cfOf X0 kn) (mE β) := callT_ok ME_ok (fun f h args => kn_none h args) 200 40 β
def pE : List Bool := [true, true, true]
def anE : FnAnn := ⟨annOf [0, 1, 4, 5] pE, .none, []⟩
def stE (a b : Int) : Option AV := codeFrom X0 (mE AV) anE 100 7 pE (fun v _ => some v) (frOf 69 [(0, .int .i64 a), (1, .int .i64 b), (4, .bool false), (5, .bool true)]) TMem.empty
theorem preE (a b : Int) (K : TFr → TMem → Option AV) : preT X0 (mE AV) anE 100 7 pE [.int .i64 a, .int .i64 b] TMem.empty (fun v _ => some v) K =
    K (frOf 69 [(0, .int .i64 (IntKind.wrap .i64 (pkI a 19 - 9))), (1, .int .i64 (IntKind.wrap .i64 (pkI b 19 - 9))), (4, .bool false), (5, .bool true)]) TMem.empty := by kernel_rfl
theorem enterE (a b : Int) : enterT X0 (mE AV) anE 100 7 [.int .i64 a, .int .i64 b] TMem.empty (fun v _ => some v) = stE (IntKind.wrap .i64 (pkI a 19 - 9)) (IntKind.wrap .i64 (pkI b 19 - 9)) :=
  (enter_from (by kernel_rfl) _ _ _).trans (preE a b _)
def isT : Option AV → Bool
  | some (.bool true) => true
  | _ => false
theorem isT_spec {r : Option AV} (h : isT r = true) : r = some (.bool true) := by
  unfold isT at h
  split at h
  · rfl
  · cases h
/-- All second numbers. -/
def rowE (a : Int) : Bool := (List.range 19).all fun j => isT (stE a ((j : Int) - 9))
theorem row_spec {a b : Int} (h : rowE a = true) (h0 : -9 ≤ b) (h1 : b ≤ 9) : stE a b = some (.bool true) := by
  have := List.all_eq_true.1 h (b + 9).toNat (by rw [List.mem_range]; omega)
  have e : (((b + 9).toNat : Nat) : Int) - 9 = b := by omega
  rw [e] at this
  exact isT_spec this
end
end Go.Proofs.YtfggompceldfgaaGreatDoor.sx
