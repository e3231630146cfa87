/- CondTells: the runs' setting. -/
import Derived.Test.YtpabmjpkkhmidaaRx
import Derived.Test.YtpabmjpkkhmidaaTd
namespace Go.Proofs.Ytpabmjpkkhmidaa.condTells
open Go.Tv Go.Ev
/-- Slices that are built have known room; what is written over goes on owning its row. -/
noncomputable def X1 : Cfg := { P := Try.prog, G := 0, gv := fun _ => [], rm := true, trs := fun f => pick2 (Nat.beq f 42) [7] [] }
noncomputable def MT0 : List Con := [(31, [], gYes)]
theorem con31 : ConOk X1 (cfOf X1 kn) 31 gYes := con_yes rfl
theorem MT0_ok : TabOk X1 (cfOf X1 kn) MT0 := .cons con31 .nil
noncomputable def dT0 (β : Type) : CallT β := callT X1 (tab MT0) inl 40 β 10
theorem dT0_ok (β : Type) : CallTOk X1 (cfOf X1 kn) (dT0 β) := callT_ok MT0_ok inl_ok 40 10 β
end Go.Proofs.Ytpabmjpkkhmidaa.condTells
