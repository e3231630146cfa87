/- Tokens: a line. -/
import Derived.Test.YtcafcgiemdlobaaDoorTk4
namespace Go.Proofs.YtcafcgiemdlobaaDoor.lt
open Go.Tv Go.Ev

noncomputable def M5 : List Con := [(38, [none], gBy firstI), (39, [none, none], gCut nameC), (40, [none, none], gCut quoteC), (41, [none, none], gCut signC), (17, [none, none], gScan)]
theorem M5_ok : TabOk (Xg gvS) (cfOf (Xg gvS) noKnown) M5 := .cons (con38 gvS) (.cons (con39 gvS) (.cons (con40 gvS) (.cons con41 (.cons (con17 gvS) .nil))))
noncomputable def d5 (β : Type) : CallT β := callT (Xg gvS) (tab M5) inl 200 β 20
theorem d5_ok (β : Type) : CallTOk (Xg gvS) (cfOf (Xg gvS) noKnown) (d5 β) := callT_ok M5_ok (fun _ _ _ => rfl) 200 20 β
def pLx : List Bool := [true, true, true, false, true, false]
noncomputable def anLx : FnAnn := ⟨annOf [0, 3, 4, 5] pLx, .none, []⟩
end Go.Proofs.YtcafcgiemdlobaaDoor.lt
