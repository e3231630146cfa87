/- Tk5, where all listed variables are known. -/
import Derived.Test.YtcafcgiemdlobaaDoorUk4
namespace Go.Proofs.YtcafcgiemdlobaaDoor.lt.t
open Go.Tv Go.Ev Go.Proofs.YtcafcgiemdlobaaDoor.lt

theorem M5_ok : TabOk (Xg gvT) (cfOf (Xg gvT) noKnown) M5 := .cons (con38 gvT) (.cons (con39 gvT) (.cons (con40 gvT) (.cons con41 (.cons (con17 gvT) .nil))))
noncomputable def d5 (β : Type) : CallT β := callT (Xg gvT) (tab M5) inl 200 β 20
theorem d5_ok (β : Type) : CallTOk (Xg gvT) (cfOf (Xg gvT) noKnown) (d5 β) := callT_ok M5_ok (fun _ _ _ => rfl) 200 20 β
end Go.Proofs.YtcafcgiemdlobaaDoor.lt.t
