/- VexBack: VexKnown is true; a table. -/
import Derived.Test.YtpabmjpkkhmidaaVy2
import Derived.Test.YtpabmjpkkhmidaaTd
namespace Go.Proofs.Ytpabmjpkkhmidaa
open Go.Tv Go.Ev
theorem con47y : ConOk X0 (cfOf X0 kn) 47 gYes := con_yes rfl
noncomputable def MV1 : List Con := [(47, [], gYes)]
theorem MV1_ok : TabOk X0 (cfOf X0 kn) MV1 := .cons con47y .nil
noncomputable def dV1 (β : Type) : CallT β := callT X0 (tab MV1) inl 40 β 10
theorem dV1_ok (β : Type) : CallTOk X0 (cfOf X0 kn) (dV1 β) := callT_ok MV1_ok inl_ok 40 10 β
theorem t13 : (enterT X0 (dV1 AV) an0 40 13 [] TMem.empty fun v _ => some v) = some (.bool true) := by kernel_rfl
theorem con13 : ConOk X0 (cfOf X0 kn) 13 gYes :=
  con_vals (inl_ok 13 rfl) dV1_ok fun args rs hg => by
    unfold gYes at hg
    split at hg
    · injection hg with hg; injection hg with _ h2
      subst h2
      exact ⟨[.bool true], an0, 40, t13, rfl, rfl⟩
    · cases hg
end Go.Proofs.Ytpabmjpkkhmidaa
