/- Tokens: the laws' own check that the program is awake. -/
import Derived.Test.YtcafcgiemdlobaaDoorTk9
namespace Go.Proofs.YtcafcgiemdlobaaDoor.lt
open Go.Tv Go.Ev

theorem run14 : enterT (Xg gvS) (c0 gvS AV) an0 60 14 [] TMem.empty (fun v _ => some v) = some (.bool true) := by kernel_rfl
theorem con14 : ConOk (Xg gvS) (cfOf (Xg gvS) noKnown) 14 gYes :=
  con_vals (nk 14) (c0_ok gvS) fun args rs hg => by
    unfold gYes at hg
    split at hg
    · simp only [Option.some.injEq, Prod.mk.injEq] at hg
      obtain ⟨_, rfl⟩ := hg
      exact ⟨[.bool true], an0, 60, run14, rfl, rfl⟩
    · cases hg
end Go.Proofs.YtcafcgiemdlobaaDoor.lt
