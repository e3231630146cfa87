/- RegTells comes to true, register by register. -/
import Derived.Test.YtpajehginfbamaaDoorRgT
namespace Go.Proofs.YtpajehginfbamaaDoor.rg
open Go.Tv Go.Ev
noncomputable section
def K3 : KT2 := fun f => pick2 (Nat.beq f 34) (some ([], gYes)) <| pick2 (Nat.beq f 78) (some ([none], gNames)) none
def c3 (β : Type) : CallT β := callT X0 K3 inl 200 β 20
theorem K3_ok (id : FuncId) (sig : List (Option Ty)) (g : List AV → Option (Bool × List PRes)) (h : K3 id = some (sig, g)) : ConOk X0 (cfOf X0 noKnown) id g := by
  simp only [K3, pick2_eq, Nat.beq_eq] at h
  by_cases h34 : id = 34
  · rw [if_pos h34] at h; cases h; subst h34; exact con34
  rw [if_neg h34] at h
  by_cases h78 : id = 78
  · rw [if_pos h78] at h; cases h; subst h78; exact con78
  rw [if_neg h78] at h
  cases h
theorem c3_ok (β : Type) : CallTOk X0 (cfOf X0 noKnown) (c3 β) := callT_ok K3_ok (fun _ _ _ => rfl) 200 20 β
def isYes : Option AV → Bool
  | some (.bool b) => b
  | _ => false
theorem isYes_spec {r : Option AV} (h : isYes r = true) : r = some (.bool true) := by
  unfold isYes at h
  split at h
  · rw [h]
  · cases h
def ok10 (c n : Int) : Bool := isYes (enterT X0 (c3 AV) an0 200 10 [.agg [.int .i64 c, .int .i64 n]] TMem.empty (fun v _ => some v))
theorem ok10a : ∀ m n : Nat, (ok10 (Int.negSucc m) (Int.negSucc n) && ok10 (Int.negSucc m) (Int.ofNat n) && ok10 0 (Int.negSucc n) && ok10 0 (Int.ofNat n) && ok10 (Int.ofNat (m + 9)) (Int.negSucc n) && ok10 (Int.ofNat (m + 9)) (Int.ofNat n)) = true := by intros; kernel_rfl
theorem ok10b : ∀ n : Nat, allN (fun c => ok10 (Int.ofNat c) (Int.negSucc n) && ok10 (Int.ofNat c) (Int.ofNat (n + 16))) 1 8 = true := by intros; kernel_rfl
theorem ok10c1 : allN (fun n => ok10 1 (Int.ofNat n)) 0 16 = true := by kernel_rfl
theorem ok10c2 : allN (fun n => ok10 2 (Int.ofNat n)) 0 16 = true := by kernel_rfl
theorem ok10c3 : allN (fun n => ok10 3 (Int.ofNat n)) 0 16 = true := by kernel_rfl
theorem ok10c4 : allN (fun n => ok10 4 (Int.ofNat n)) 0 16 = true := by kernel_rfl
theorem ok10c5 : allN (fun n => ok10 5 (Int.ofNat n)) 0 16 = true := by kernel_rfl
theorem ok10c6 : allN (fun n => ok10 6 (Int.ofNat n)) 0 16 = true := by kernel_rfl
theorem ok10c7 : allN (fun n => ok10 7 (Int.ofNat n)) 0 16 = true := by kernel_rfl
theorem ok10c8 : allN (fun n => ok10 8 (Int.ofNat n)) 0 16 = true := by kernel_rfl
theorem each10 : Each ok10 := ⟨ok10a, ok10b, ok10c1, ok10c2, ok10c3, ok10c4, ok10c5, ok10c6, ok10c7, ok10c8⟩

theorem tells (c n : Int) : enterT X0 (c3 AV) an0 200 10 [.agg [.int .i64 c, .int .i64 n]] TMem.empty (fun v _ => some v) = some (.bool true) := by
  have h := each10.all c n
  unfold ok10 at h
  exact isYes_spec h
end
end Go.Proofs.YtpajehginfbamaaDoor.rg
