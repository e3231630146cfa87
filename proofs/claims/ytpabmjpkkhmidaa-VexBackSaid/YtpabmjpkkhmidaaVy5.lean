/- VexBack: the table of all contracts. -/
import Derived.Test.YtpabmjpkkhmidaaVy4
import Derived.Test.YtpabmjpkkhmidaaVxC
namespace Go.Proofs.Ytpabmjpkkhmidaa
open Go.Tv Go.Ev
noncomputable def MV5 : List Con := [(13, [], gYes), (47, [], gYes), (53, [none], gChk), (63, [none], gPk), (64, [none], gLong), (48, [some (.int .u8)], vexReads.gV)]
theorem MV5_ok : TabOk X0 (cfOf X0 kn) MV5 := .cons con13 (.cons con47y (.cons con53 (.cons con63 (.cons con64 (.cons vexReads.con48 .nil)))))
noncomputable def dV5 (β : Type) : CallT β := callT X0 (tab MV5) inl 40 β 10
theorem dV5_ok (β : Type) : CallTOk X0 (cfOf X0 kn) (dV5 β) := callT_ok MV5_ok inl_ok 40 10 β
end Go.Proofs.Ytpabmjpkkhmidaa
