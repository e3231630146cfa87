/- name.Name, name.Parse, Pick as contracts of the symbolic layer; the laws' own check. -/
import Derived.Test.YtpajehginfbamaaDoorNr
import Derived.Test.YtpajehginfbamaaDoorTd
namespace Go.Proofs.YtpajehginfbamaaDoor.nm
open Go.Tv Go.Ev
noncomputable section
theorem k15 : Ev.answer Tryd.prog knN 100 20 15 [] = some (.bool true) := by kernel_rfl
def knM (f : FuncId) (args : List Value) : Option Value := pick2 (Nat.beq f 15) (match args with | [] => some (.bool true) | _ => none) (knN f args)
theorem knM_ok : Ev.KnownOk Tryd.prog knM := by
  intro f args v h w
  unfold knM at h
  rw [pick2_eq] at h
  split at h
  · rename_i hf
    obtain rfl := Nat.eq_of_beq_eq_true hf
    split at h
    · cases h; exact Ev.answer_ok noOwn mixed knN_ok k15 w
    · cases h
  · exact knN_ok f args v h w
abbrev cfM := cfOf X1 knM
def gName (ns : Int → List UInt8) (args : List AV) : Option (Bool × List PRes) :=
  match args with
  | [.int .i64 op] => some (true, [.val (.str (ns op))])
  | _ => none
def gParse (ps : List UInt8 → Int × Bool) (args : List AV) : Option (Bool × List PRes) :=
  match args with
  | [.str s] => some (true, [.val (.int .i64 (ps s).1), .val (.bool (ps s).2)])
  | _ => none
theorem con16 : ConOk X1 cfM 16 (gName nameS) :=
  con_known fun args rs hg => by
    unfold gName at hg
    split at hg
    · rename_i op
      simp only [Option.some.injEq, Prod.mk.injEq] at hg
      obtain ⟨_, rfl⟩ := hg
      refine ⟨_, _, rfl, rfl, fun S => .str _, rfl, fun S argsE hl => ?_⟩
      obtain ⟨x, rfl⟩ : ∃ x, argsE = [x] := by
        match argsE, hl.1 with
        | [x], _ => exact ⟨x, rfl⟩
      have hx := (hl.2 0 _ _ rfl rfl).int_inv
      subst hx
      exact ⟨rfl, rfl⟩
    · cases hg
theorem con19 : ConOk X1 cfM 19 (gParse parseS) :=
  con_known2 fun args rs hg => by
    unfold gParse at hg
    split at hg
    · rename_i s
      simp only [Option.some.injEq, Prod.mk.injEq] at hg
      obtain ⟨_, rfl⟩ := hg
      refine ⟨_, _, _, _, rfl, rfl, rfl, fun S => .int _ _, fun S => .bool _, fun S argsE hl => ?_⟩
      obtain ⟨x, rfl⟩ : ∃ x, argsE = [x] := by
        match argsE, hl.1 with
        | [x], _ => exact ⟨x, rfl⟩
      have hx := (hl.2 0 _ _ rfl rfl).str_inv
      subst hx
      exact ⟨rfl, rfl, rfl⟩
    · cases hg
theorem con15 : ConOk X1 cfM 15 gYes := con_yes rfl
def pkI (n q : Int) : Int := pick2 (ltI (Int.tmod n q) 0) (IntKind.wrap .i64 (Int.tmod n q + q)) (Int.tmod n q)
def inM (f : FuncId) : Bool := !(Nat.beq f 15 || Nat.beq f 16 || Nat.beq f 19)
theorem inM_ok (f : FuncId) (h : inM f = true) (args : List Value) : knM f args = none := by
  unfold inM at h
  simp only [Bool.not_eq_true', Bool.or_eq_false_iff] at h
  unfold knM knN
  rw [h.1.1, h.1.2, h.2]
def m0 (β : Type) : CallT β := callT X1 K0 inM 200 β 40
theorem m0_ok (β : Type) : CallTOk X1 cfM (m0 β) := callT_ok (by intro id s g h; cases h) inM_ok 200 40 β
theorem tree23 (n q : Int) : enterT X1 (m0 AV) an0 5 23 [.int .i64 n, .int .i64 q] TMem.empty (fun v _ => some v) =
    pick2 (ltI q 1) (some (.int .i64 0)) (pick2 (eqI q 0) none (pick2 (ltI (Int.tmod n q) 0) (some (.int .i64 (IntKind.wrap .i64 (Int.tmod n q + q)))) (some (.int .i64 (Int.tmod n q))))) := by kernel_rfl
end
end Go.Proofs.YtpajehginfbamaaDoor.nm
namespace Go.Proofs.YtpajehginfbamaaDoor.nm
open Go.Tv Go.Ev
noncomputable section
def gPick (args : List AV) : Option (Bool × List PRes) :=
  match args with
  | [.int .i64 n, .int .i64 q] => some (!ltI q 1, [.val (.int .i64 (pkI n q))])
  | _ => none
theorem con23 : ConOk X1 cfM 23 gPick :=
  con_vals (inM_ok 23 rfl) m0_ok fun args rs hg => by
    unfold gPick at hg
    split at hg
    · rename_i n q
      simp only [Option.some.injEq, Prod.mk.injEq] at hg
      obtain ⟨h1, rfl⟩ := hg
      have hq : 1 ≤ q := by rw [ltI_spec] at h1; simpa using h1
      refine ⟨[.int .i64 (pkI n q)], an0, 5, ?_, rfl, rfl⟩
      rw [tree23, ltF (by omega), eqF (by omega)]
      unfold pkI
      cases ltI (Int.tmod n q) 0 <;> rfl
    · cases hg
def MN (ns : Int → List UInt8) (ps : List UInt8 → Int × Bool) : List Con := [(15, [], gYes), (16, [none], gName ns), (19, [none], gParse ps), (23, [none, none], gPick)]
theorem MN_ok : TabOk X1 cfM (MN nameS parseS) := .cons con15 (.cons con16 (.cons con19 (.cons con23 .nil)))
def mN (ns : Int → List UInt8) (ps : List UInt8 → Int × Bool) (β : Type) : CallT β := callT X1 (tab (MN ns ps)) inM 200 β 40
theorem mN_ok (β : Type) : CallTOk X1 cfM (mN nameS parseS β) := callT_ok MN_ok inM_ok 200 40 β
theorem pkI_range (n q : Int) (hq : 1 ≤ q) (h2 : q ≤ 1000) : 0 ≤ pkI n q ∧ pkI n q < q := by
  unfold pkI
  rw [pick_lt]
  have h3 := Int.tmod_lt_of_pos n (show 0 < q by omega)
  have h4 : -q < Int.tmod n q := by
    rcases Int.le_total 0 n with h | h
    · have := Int.tmod_nonneg q h; omega
    · have e : Int.tmod n q = - Int.tmod (-n) q := by rw [Int.neg_tmod]; omega
      have := Int.tmod_lt_of_pos (-n) (show 0 < q by omega)
      omega
  split
  · rw [i64_in (by omega) (by omega)]; omega
  · omega
end
end Go.Proofs.YtpajehginfbamaaDoor.nm
