/- CondTells: contracts of both Parse. -/
import Derived.Test.YtpabmjpkkhmidaaCt
namespace Go.Proofs.Ytpabmjpkkhmidaa.condTells
open Go.Tv Go.Ev
noncomputable section
/-- All names, and whose they are. -/
def nameL : List (List UInt8 × Int) :=
  [([111], 0), ([110, 111], 1), ([98], 2), ([99], 2), ([110, 97, 101], 2), ([97, 101], 3), ([110, 98], 3), ([110, 99], 3), ([101], 4), ([122], 4), ([110, 101], 5), ([110, 122], 5), ([98, 101], 6), ([110, 97], 6), ([97], 7), ([110, 98, 101], 7),
   ([115], 8), ([110, 115], 9), ([112], 10), ([112, 101], 10), ([110, 112], 11), ([112, 111], 11), ([108], 12), ([110, 103, 101], 12), ([103, 101], 13), ([110, 108], 13), ([108, 101], 14), ([110, 103], 14), ([103], 15), ([110, 108, 101], 15)]
def chain {β : Type} (F : Int → Bool → β) (s : List UInt8) : List (List UInt8 × Int) → β
  | [] => F 0 false
  | (t, n) :: l => pick2 (decide (t = s)) (F n true) (chain F s l)
def pI (s : List UInt8) : Int := chain (fun n _ => n) s nameL
def pB (s : List UInt8) : Bool := chain (fun _ b => b) s nameL
def gParse (args : List AV) : Option (Bool × List PRes) :=
  match args with
  | [.str s] => some (true, [.val (.int .i64 (pI s)), .val (.bool (pB s))])
  | _ => none
end
theorem chain_app {β : Type} (F : Int → Bool → β) (s : List UInt8) : ∀ l, chain F s l = F (chain (fun n _ => n) s l) (chain (fun _ b => b) s l)
  | [] => rfl
  | (t, n) :: l => by
    unfold chain
    rw [chain_app F s l]
    cases decide (t = s) <;> rfl
theorem t38 (s : List UInt8) : (enterT X1 (dT0 AV) an0 20 38 [.str s] TMem.empty fun v _ => some v) = chain (fun n b => some (.tup [.int .i64 n, .bool b])) s nameL := by kernel_rfl
theorem t39 (s : List UInt8) : (enterT X1 (dT0 AV) an0 20 39 [.str s] TMem.empty fun v _ => some v) = chain (fun n b => some (.tup [.int .i64 n, .bool b])) s nameL := by kernel_rfl
theorem con_parse {f : FuncId} (hk : ∀ args, kn f args = none) (h : ∀ s, (enterT X1 (dT0 AV) an0 20 f [.str s] TMem.empty fun v _ => some v) = chain (fun n b => some (.tup [.int .i64 n, .bool b])) s nameL) : ConOk X1 (cfOf X1 kn) f gParse :=
  con_vals hk dT0_ok fun args rs hg => by
    unfold gParse at hg
    split at hg
    · rename_i s
      injection hg with hg; injection hg with _ h2
      subst h2
      exact ⟨[.int .i64 (pI s), .bool (pB s)], an0, 20, (h s).trans (chain_app ..), rfl, rfl⟩
    · cases hg
theorem con38 : ConOk X1 (cfOf X1 kn) 38 gParse := con_parse (inl_ok 38 rfl) t38
theorem con39 : ConOk X1 (cfOf X1 kn) 39 gParse := con_parse (inl_ok 39 rfl) t39
noncomputable def MT1 : List Con := [(31, [], gYes), (38, [none], gParse), (39, [none], gParse)]
theorem MT1_ok : TabOk X1 (cfOf X1 kn) MT1 := .cons con31 (.cons con38 (.cons con39 .nil))
noncomputable def dT1 (β : Type) : CallT β := callT X1 (tab MT1) inl 40 β 10
theorem dT1_ok (β : Type) : CallTOk X1 (cfOf X1 kn) (dT1 β) := callT_ok MT1_ok inl_ok 40 10 β
end Go.Proofs.Ytpabmjpkkhmidaa.condTells
