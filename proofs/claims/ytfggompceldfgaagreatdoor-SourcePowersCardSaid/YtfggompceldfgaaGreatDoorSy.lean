/- SourcePowers: the bytes of floats that may be none; the contracts of both Powers. -/
import Derived.Test.YtfggompceldfgaaGreatDoorSx
import Derived.Test.YtfggompceldfgaaGreatDoorLyh
namespace Go.Proofs.YtfggompceldfgaaGreatDoor.sy
open Go.Tv Go.Ev Go.Proofs.YtfggompceldfgaaGreatDoor.sx
noncomputable section
def X1 : Cfg := { P := Tryz.prog, G := 0, gv := fun _ => [], fl := true }
def c1 (β : Type) : CallT β := callT X1 K0 inl 200 β 40
theorem c1_ok (β : Type) : CallTOk X1 (cfOf X1 kn) (c1 β) := callT_ok (by intro id s g h; cases h) (fun f h args => kn_none h args) 200 40 β
theorem conA1 : ConOk X1 (cfOf X1 kn) 13 gYes := con_yes rfl
/-- The value, and the row of a list that comes first. -/
def gLook (v : AV) (H : TMem) : Option (AV × Option Row) :=
  match v with
  | .tup (.own i _ :: _) => some (v, H.get i)
  | .own i _ => some (v, H.get i)
  | .osl i _ _ _ => some (v, H.get i)
  | _ => some (v, none)
theorem gLook_inv {v : AV} {H : TMem} {r : AV × Option Row} (h : gLook v H = some r) : v = r.1 := by
  unfold gLook at h
  split at h <;> (cases h; rfl)

/-! ### The bytes of a float -/
def ptB (n : Nat) : List Int := [IntKind.wrap .u8 (Int.fdiv (n : Int) 1), IntKind.wrap .u8 (Int.fdiv (n : Int) 256), IntKind.wrap .u8 (Int.fdiv (n : Int) 65536), IntKind.wrap .u8 (Int.fdiv (n : Int) 16777216), IntKind.wrap .u8 (Int.fdiv (n : Int) 4294967296), IntKind.wrap .u8 (Int.fdiv (n : Int) 1099511627776), IntKind.wrap .u8 (Int.fdiv (n : Int) 281474976710656), IntKind.wrap .u8 (Int.fdiv (n : Int) 72057594037927936)]
def fbO : Option Nat → List Int
  | none => nanL
  | some n => pick2 (nanB n) nanL (ptB n)
theorem fbO_len (a : Option Nat) : (fbO a).length = 8 := by
  cases a with
  | none => rfl
  | some n =>
    show (pick2 (nanB n) nanL (ptB n)).length = 8
    cases nanB n <;> rfl
theorem wI_eq (n : Nat) : wI n = (n : Int) % 18446744073709551616 := by
  unfold wI IntKind.wrap
  have e1 : IntKind.signed .u64 = false := rfl
  have e2 : IntKind.signed .i64 = true := rfl
  have e3 : IntKind.bits .u64 = 64 := rfl
  have e4 : IntKind.bits .i64 = 64 := rfl
  simp only [e1, e2, e3, e4, Bool.false_and, Bool.true_and]
  have e5 : ((2 : Int) ^ 64) = 18446744073709551616 := by decide
  simp
  split <;> omega
theorem u8_div {d : Int} (x : Int) (c : Int) (hd : 0 < d) (hc : 256 * d * c = 18446744073709551616) : IntKind.wrap .u8 (Int.fdiv (x % 18446744073709551616) d) = IntKind.wrap .u8 (Int.fdiv x d) := by
  have e : ∀ y : Int, IntKind.wrap .u8 y = y % 256 := fun y => by
    unfold IntKind.wrap
    have e1 : IntKind.signed .u8 = false := rfl
    have e3 : IntKind.bits .u8 = 8 := rfl
    simp only [e1, e3, Bool.false_and]
    simp
  rw [e, e, Int.fdiv_eq_ediv_of_nonneg _ (Int.le_of_lt hd), Int.fdiv_eq_ediv_of_nonneg _ (Int.le_of_lt hd)]
  have h1 : x % 18446744073709551616 = x - 18446744073709551616 * (x / 18446744073709551616) := by omega
  generalize x / 18446744073709551616 = q at h1
  rw [h1, ← hc]
  have h2 : x - 256 * d * c * q = x + (-(256 * c * q)) * d := by
    have : 256 * d * c * q = 256 * c * q * d := by rw [Int.mul_assoc 256 d c, Int.mul_comm d c, ← Int.mul_assoc 256 c d, Int.mul_assoc (256 * c) d q, Int.mul_comm d q, ← Int.mul_assoc]
    rw [this, Int.neg_mul]; omega
  rw [h2, Int.add_mul_ediv_right _ _ (by omega)]
  have h3 : -(256 * c * q) = 256 * (-(c * q)) := by rw [Int.mul_assoc, Int.mul_neg]
  rw [h3]; omega
theorem leB_eq (n : Nat) : leB n = ptB n := by
  unfold leB ptB
  rw [wI_eq, u8_div (d := 1) _ 72057594037927936 (by decide) (by decide), u8_div (d := 256) _ 281474976710656 (by decide) (by decide), u8_div (d := 65536) _ 1099511627776 (by decide) (by decide), u8_div (d := 16777216) _ 4294967296 (by decide) (by decide),
    u8_div (d := 4294967296) _ 16777216 (by decide) (by decide), u8_div (d := 1099511627776) _ 65536 (by decide) (by decide), u8_div (d := 281474976710656) _ 256 (by decide) (by decide), u8_div (d := 72057594037927936) _ 1 (by decide) (by decide)]
theorem backA_yes (n : Nat) : backA n = true := by
  unfold backA
  rw [eqI_spec, beq_iff_eq]
  generalize (n : Int) = x
  unfold IntKind.wrap
  have e1 : IntKind.signed .u64 = false := rfl
  have e2 : IntKind.signed .i64 = true := rfl
  have e3 : IntKind.bits .u64 = 64 := rfl
  have e4 : IntKind.bits .i64 = 64 := rfl
  simp only [e1, e2, e3, e4, Bool.false_and, Bool.true_and]
  have e5 : ((2 : Int) ^ 64) = 18446744073709551616 := by decide
  simp
  split <;> split <;> omega
def obF (l : List Int) : Option (AV × Option Row) := some (.osl 0 0 8 8, some (.list 5 (.int .u8) l 8 true false))
def obP (l : List Int) : Option (AV × Option Row) := some (.own 15 8, some (.list 5 (.int .u8) l 0 false false))
set_option maxRecDepth 100000 in
theorem treeF1 (n : Nat) : enterT X1 (c1 _) an0 100 26 [.flt n] TMem.empty gLook = pick2 (nanB n) (obF nanL) (pick2 (backA n) (obF (leB n)) (pick2 (!backB n) (some (.nils, none)) (obF (leB n)))) := by kernel_rfl
set_option maxRecDepth 100000 in
theorem treeF0 : enterT X1 (c1 _) an0 100 26 [.fl none] TMem.empty gLook = obF nanL := by kernel_rfl
set_option maxRecDepth 100000 in
theorem treeP1 (n : Nat) : enterT X1 (c1 _) an0 100 27 [.flt n] TMem.empty gLook = pick2 (nanB n) (obP nanL) (obP (ptB n)) := by kernel_rfl
set_option maxRecDepth 100000 in
theorem treeP0 : enterT X1 (c1 _) an0 100 27 [.fl none] TMem.empty gLook = obP nanL := by kernel_rfl
theorem runF1 (n : Nat) : enterT X1 (c1 _) an0 100 26 [.flt n] TMem.empty gLook = obF (fbO (some n)) := by
  rw [treeF1, backA_yes, leB_eq]
  show _ = obF (pick2 (nanB n) nanL (ptB n))
  cases nanB n <;> rfl
theorem runP1 (n : Nat) : enterT X1 (c1 _) an0 100 27 [.flt n] TMem.empty gLook = obP (fbO (some n)) := by
  rw [treeP1]
  show _ = obP (pick2 (nanB n) nanL (ptB n))
  cases nanB n <;> rfl
def fArg : List AV → Option (Option Nat)
  | [.flt n] => some (some n)
  | [.fl a] => some a
  | _ => none
def argO : Option Nat → AV
  | some n => .flt n
  | none => .fl none
theorem fArg_lv {args : List AV} {a : Option Nat} (h : fArg args = some a) : ∀ S m, LV S args m → LV S [argO a] m := by
  intro S m hm
  unfold fArg at h
  split at h
  · cases h; exact hm
  · cases h
    obtain ⟨x, m', rfl, h1, h2⟩ := hm.cons_inv
    refine LV.cons ?_ h2
    cases h1 with
    | fl b v hv =>
      cases a with
      | none => exact .fl none _ hv
      | some n => rw [hv]; exact .flt n
  · cases h
/-- A contract of a function of a float, from its runs. -/
theorem con_flt {f : FuncId} (hk : ∀ args, kn f args = none) {rs : Option Nat → List PRes} (h : ∀ a : Option Nat, ∃ v o, enterT X1 (c1 _) an0 100 f [argO a] TMem.empty gLook = some (v, o) ∧ ∀ M, gLook v M = some (v, o) → resAt M [] [v] (rs a) ∧ oneT [v] = v) :
    ConOk X1 (cfOf X1 kn) f fun args => match fArg args with | some a => some (true, rs a) | none => none := by
  intro args r hg
  simp only at hg
  split at hg
  · rename_i a ha
    simp only [Option.some.injEq, Prod.mk.injEq] at hg
    obtain ⟨_, rfl⟩ := hg
    obtain ⟨v, o, h1, h2⟩ := h a
    obtain ⟨v', M1, k1, k2⟩ := nrun_obs hk (c1_ok _) h1
    have e : v' = v := gLook_inv k1
    rw [e] at k1 k2
    refine ⟨[v], M1, fun S E argsE hr hgl hl => k2 [v] (h2 M1 k1).2.symm S E argsE hr hgl (fArg_lv ha S argsE hl), (h2 M1 k1).1⟩
  · cases hg
def rsF (a : Option Nat) : List PRes := [.room 5 (.int .u8) (fbO a) 8]
def rsP (a : Option Nat) : List PRes := [.list 5 (.int .u8) (fbO a)]
def gF (args : List AV) : Option (Bool × List PRes) := match fArg args with | some a => some (true, rsF a) | none => none
def gP (args : List AV) : Option (Bool × List PRes) := match fArg args with | some a => some (true, rsP a) | none => none
theorem conF : ConOk X1 (cfOf X1 kn) 26 gF :=
  con_flt (fun args => kn_none rfl args) (rs := rsF) fun a => ⟨.osl 0 0 8 8, some (.list 5 (.int .u8) (fbO a) 8 true false), by
    cases a with
    | none => exact treeF0
    | some n => exact runF1 n, fun M hM => ⟨⟨rfl, 0, 8, by rw [fbO_len], (Prod.mk.inj (Option.some.inj hM)).2, by simp, trivial⟩, rfl⟩⟩
theorem conPt : ConOk X1 (cfOf X1 kn) 27 gP :=
  con_flt (fun args => kn_none rfl args) (rs := rsP) fun a => ⟨.own 15 8, some (.list 5 (.int .u8) (fbO a) 0 false false), by
    cases a with
    | none => exact treeP0
    | some n => exact runP1 n, fun M hM => ⟨⟨rfl, .inl ⟨15, 0, false, by rw [fbO_len], (Prod.mk.inj (Option.some.inj hM)).2, by simp, trivial⟩⟩, rfl⟩⟩
def N1 : List Con := [(26, [none], gF), (27, [none], gP), (13, [], gYes)]
theorem N1_ok : TabOk X1 (cfOf X1 kn) N1 := .cons conF (.cons conPt (.cons conA1 .nil))
def c2 (β : Type) : CallT β := callT X1 (tab N1) inl 200 β 40
theorem c2_ok (β : Type) : CallTOk X1 (cfOf X1 kn) (c2 β) := callT_ok N1_ok (fun f h args => kn_none h args) 200 40 β
end
end Go.Proofs.YtfggompceldfgaaGreatDoor.sy
