/- Tokens: signs. -/
import Derived.Test.YtcafcgiemdlobaaDoorTk2
namespace Go.Proofs.YtcafcgiemdlobaaDoor.lt
open Go.Tv Go.Ev

/-- Whether a text begins so. -/
def preB (s p : List UInt8) : Bool := decide (s.take p.length = p)
theorem run63 (gv : Nat → List AV) (s p : List UInt8) : enterT (Xg gv) (d2 gv AV) an0 5 63 [.str s, .str p] TMem.empty (fun v _ => some v) = some (.bool (preB s p)) := by
  have h : enterT (Xg gv) (d2 gv AV) an0 5 63 [.str s, .str p] TMem.empty (fun v _ => some v) = pick2 (!ltI ↑s.length ↑p.length) (pick2 (!ltI ↑p.length 0 && !ltI ↑s.length ↑p.length) (some (.bool (decide (cutL s 0 ↑p.length = p)))) none) (some (.bool false)) := by kernel_rfl
  rw [h, pick_nlt]
  unfold preB
  split
  · rw [ltF (by omega), ltF (by omega)]
    show some (AV.bool (decide (cutL s 0 ↑p.length = p))) = _
    have e : cutL s 0 (p.length : Int) = s.take p.length := by unfold cutL; simp
    rw [e]
  · rw [decide_eq_false]
    intro h2
    have := congrArg List.length h2
    simp only [List.length_take] at this
    omega
noncomputable def gPre (args : List AV) : Option (Bool × List PRes) :=
  match args with
  | [.str s, .str p] => some (true, [.val (.bool (preB s p))])
  | _ => none
theorem con63 (gv : Nat → List AV) : ConOk (Xg gv) (cfOf (Xg gv) noKnown) 63 gPre :=
  con_vals (nk 63) (d2_ok gv) fun args rs hg => by
    unfold gPre at hg
    split at hg
    · rename_i s p
      simp only [Option.some.injEq, Prod.mk.injEq] at hg
      obtain ⟨h1, rfl⟩ := hg
      exact ⟨[.bool (preB s p)], an0, 5, run63 gv s p, rfl, rfl⟩
    · cases hg
noncomputable def M3 : List Con := (63, [none, none], gPre) :: M2
theorem M3_ok (gv : Nat → List AV) : TabOk (Xg gv) (cfOf (Xg gv) noKnown) M3 := .cons (con63 gv) (M2_ok gv)
noncomputable def d3 (gv : Nat → List AV) (β : Type) : CallT β := callT (Xg gv) (tab M3) inl 200 β 20
theorem d3_ok (gv : Nat → List AV) (β : Type) : CallTOk (Xg gv) (cfOf (Xg gv) noKnown) (d3 gv β) := callT_ok (M3_ok gv) (fun _ _ _ => rfl) 200 20 β
end Go.Proofs.YtcafcgiemdlobaaDoor.lt
