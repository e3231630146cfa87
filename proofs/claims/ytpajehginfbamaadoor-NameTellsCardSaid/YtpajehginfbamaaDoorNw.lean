/- NameTells: the run. -/
import Derived.Test.YtpajehginfbamaaDoorNv
namespace Go.Proofs.YtpajehginfbamaaDoor.nm
open Go.Tv Go.Ev
noncomputable section
def noT : Option AV := some (.bool false)
def tlE (ns : Int → List UInt8) (ps : List UInt8 → Int × Bool) (cs is : Int → Int × Bool) (op : Int) (s : List UInt8) : Option AV :=
  pick2 (decide (ns op = ns op)) (pick2 (eqI (ps s).1 (ps s).1) (pick2 ((ps s).2 == (ps s).2) (pick2 (eqI (cs op).1 (cs op).1) (pick2 ((cs op).2 == (cs op).2) (pick2 (eqI (is op).1 (is op).1) (pick2 ((is op).2 == (is op).2) (some (.bool true)) noT) noT) noT) noT) noT) noT) noT
theorem tree5 (ns : Int → List UInt8) (ps : List UInt8 → Int × Bool) (cs is : Int → Int × Bool) (op : Int) (s : List UInt8) : enterT X1 (mT ns ps cs is AV) an0 50 5 [.int .i64 op, .str s] TMem.empty (fun v _ => some v) =
    pick2 (ltI 100 ↑s.length) (some (.bool true)) (pick2 (!ltI op 1)
      (pick2 (!ltI op 1) (pick2 ((!ltI 322 op) == !ltI 322 op) (tlE ns ps cs is op s) noT) (pick2 ((!ltI 322 op) == false) (tlE ns ps cs is op s) noT))
      (pick2 (!ltI op 1) (pick2 (false == !ltI 322 op) (tlE ns ps cs is op s) noT) (tlE ns ps cs is op s))) := by kernel_rfl
theorem tlE_eq (ns : Int → List UInt8) (ps : List UInt8 → Int × Bool) (cs is : Int → Int × Bool) (op : Int) (s : List UInt8) : tlE ns ps cs is op s = some (.bool true) := by
  unfold tlE
  simp only [decide_true, beq_self_eq_true, eqI_spec, pickT]
theorem tells (op : Int) (s : List UInt8) : enterT X1 (mT nameS parseS condOf immOf AV) an0 50 5 [.int .i64 op, .str s] TMem.empty (fun v _ => some v) = some (.bool true) := by
  rw [tree5]
  simp only [tlE_eq, beq_self_eq_true, pickT]
  cases ltI 100 (s.length : Int) <;> cases ltI op 1 <;> rfl
end
end Go.Proofs.YtpajehginfbamaaDoor.nm
