/- cond.Names: its contract. -/
import Derived.Test.YtpajehginfbamaaDoorNs
namespace Go.Proofs.YtpajehginfbamaaDoor.nm
open Go.Tv Go.Ev
noncomputable section
def namesT : List (List (List UInt8)) := [[[111]], [[110, 111]], [[98], [99], [110, 97, 101]], [[97, 101], [110, 98], [110, 99]], [[101], [122]], [[110, 101], [110, 122]], [[98, 101], [110, 97]], [[97], [110, 98, 101]],
  [[115]], [[110, 115]], [[112], [112, 101]], [[110, 112], [112, 111]], [[108], [110, 103, 101]], [[103, 101], [110, 108]], [[108, 101], [110, 103]], [[103], [110, 108, 101]]]
def namesOf (k : Nat) : List (List UInt8) := List.rec (motive := fun _ => Nat → List (List UInt8)) (fun _ => []) (fun x _ go k => Nat.rec (motive := fun _ => List (List UInt8)) x (fun j _ => go j) k) namesT k
def gNames (args : List AV) : Option (Bool × List PRes) :=
  match args with
  | [.int .i64 (.ofNat k)] => some (Nat.ble k 15, [.list 9 .str (namesOf k)])
  | _ => none
def runN (k : Nat) : Bool := leaves [.list 9 .str (namesOf k)] (enterT X1 (m0 (AV × TMem)) an0 20 22 [.int .i64 (.ofNat k)] TMem.empty (fun v H => some (v, H)))
theorem runN_all : ((List.range 16).all runN) = true := by kernel_rfl
theorem con22 : ConOk X1 cfM 22 gNames :=
  con_runs (inM_ok 22 rfl) m0_ok an0 20 fun args rs hg => by
    unfold gNames at hg
    split at hg
    · rename_i k
      simp only [Option.some.injEq, Prod.mk.injEq] at hg
      obtain ⟨h1, rfl⟩ := hg
      have hk : k ≤ 15 := Nat.le_of_ble_eq_true h1
      exact List.all_eq_true.1 runN_all k (List.mem_range.2 (by omega))
    · cases hg
def MO (ns : Int → List UInt8) (ps : List UInt8 → Int × Bool) : List Con := (22, [none], gNames) :: MN ns ps
theorem MO_ok : TabOk X1 cfM (MO nameS parseS) := .cons con22 MN_ok
def mO (ns : Int → List UInt8) (ps : List UInt8 → Int × Bool) (β : Type) : CallT β := callT X1 (tab (MO ns ps)) inM 200 β 40
theorem mO_ok (β : Type) : CallTOk X1 cfM (mO nameS parseS β) := callT_ok MO_ok inM_ok 200 40 β
end
end Go.Proofs.YtpajehginfbamaaDoor.nm
