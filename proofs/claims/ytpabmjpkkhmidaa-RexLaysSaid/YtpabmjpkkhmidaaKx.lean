/- RexLays: the runs' setting. -/
import Derived.Test.YtpabmjpkkhmidaaKw
import Derived.Test.YtpabmjpkkhmidaaRx
import Derived.Test.YtpabmjpkkhmidaaTd
namespace Go.Proofs.Ytpabmjpkkhmidaa.rexLays
open Go.Tv Go.Ev
noncomputable def X2 : Cfg := { P := Try.prog, G := 0, gv := fun _ => [], kl := fun f => Nat.beq f 23 }
noncomputable def inl2 : FuncId → Bool := fun f => !(Nat.beq f 31 || Nat.beq f 15 || Nat.beq f 47 || Nat.beq f 23)
theorem inl2_ok (f : FuncId) (h : inl2 f = true) (args : List Value) : kn2 f args = none := by
  have h23 : f ≠ 23 := fun e => by subst e; cases h
  rw [kn2_else h23]
  refine inl_ok f ?_ args
  unfold inl
  unfold inl2 at h
  simp only [Bool.not_eq_true', Bool.or_eq_false_iff] at h ⊢
  exact h.1
theorem kl2 : KlOk X2 kn2 := fun id h => by
  have : id = 23 := by
    have h : Nat.beq id 23 = true := h
    rwa [Nat.beq_eq] at h
  subst this
  exact ⟨rfl, rfl, fun _ _ _ => rfl⟩
noncomputable def MK0 : List Con := [(15, [], gYes)]
theorem MK0_ok : TabOk X2 (cfOf X2 kn2) MK0 := .cons (con_yes rfl) .nil
noncomputable def dK0 (β : Type) : CallT β := callT X2 (tab MK0) inl2 40 β 10
theorem dK0_ok (β : Type) : CallTOk X2 (cfOf X2 kn2) (dK0 β) := callT_ok MK0_ok inl2_ok 40 10 β kl2
end Go.Proofs.Ytpabmjpkkhmidaa.rexLays
