/- The table of contracts. -/
import Derived.Test.YtpabmjpkkhmidaaRxC
import Derived.Test.YtpabmjpkkhmidaaTvA
namespace Go.Proofs.Ytpabmjpkkhmidaa
open Go.Tv Go.Ev
noncomputable def K1 : KT2 := fun f => pick2 (Nat.beq f 17 || Nat.beq f 18) (some ([some (.int .u8)], gRd)) (pick2 (Nat.beq f 15) (some ([], gTrue)) (pick2 (Nat.beq f 16) (some ([some (.int .u8)], gLent)) none))
noncomputable def c1 (β : Type) : CallT β := callT X0 K1 inl 40 β 10

theorem K1_ok (id : FuncId) (sig : List (Option Ty)) (g : List AV → Option (Bool × List PRes)) (h : K1 id = some (sig, g)) : ConOk X0 (cfOf X0 kn) id g := by
  simp only [K1, pick2_eq, Bool.or_eq_true, Nat.beq_eq] at h
  split at h
  · rename_i hf
    cases h
    rcases hf with rfl | rfl
    · exact con17
    · exact con18
  · split at h
    · rename_i hf
      cases h
      subst hf
      exact con15
    · split at h
      · rename_i hf
        cases h
        subst hf
        exact con16
      · cases h

theorem c1_ok (β : Type) : CallTOk X0 (cfOf X0 kn) (c1 β) := callT_ok K1_ok inl_ok 40 10 β
end Go.Proofs.Ytpabmjpkkhmidaa
