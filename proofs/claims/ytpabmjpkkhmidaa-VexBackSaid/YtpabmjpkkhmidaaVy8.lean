/- VexBack: the bytes of fields, and the fields of bytes, by looking at all. -/
import Derived.Test.YtpabmjpkkhmidaaVy7
namespace Go.Proofs.Ytpabmjpkkhmidaa
open Go.Tv Go.Ev
noncomputable section
def inB (c : Int) : Bool := !ltI c 0 && ltI c 256
def q1 (r x b m : Int) : Bool := inB (bM r x b m) && (eqI (rR (bM r x b m)) r && (eqI (rX (bM r x b m)) x && (eqI (rB (bM r x b m)) b && eqI (rM (bM r x b m)) m)))
def q2 (w v l p : Int) : Bool := inB (bN w v l (pkI p)) && (eqI (rW (bN w v l (pkI p))) w && (eqI (rV (bN w v l (pkI p))) v && (eqI (rL (bN w v l (pkI p))) l && eqI (rP (bN w v l (pkI p))) p)))
def q3 (r v l p : Int) : Bool := inB (bO r v l (pkI p)) && (eqI (rR (bO r v l (pkI p))) r && (eqI (rV (bO r v l (pkI p))) v && (eqI (rL (bO r v l (pkI p))) l && eqI (rP (bO r v l (pkI p))) p)))
def bitB (n : Int) : Bool := eqI n 0 || eqI n 1
def preB (p : Int) : Bool := eqI p 0 || (eqI p 1 || (eqI p 2 || eqI p 4))
def q4 (y : Int) : Bool := bitB (rR y) && (bitB (rX y) && (bitB (rB y) && pick2 (ltI (rM y) 1) true (pick2 (ltI 3 (rM y)) true (eqI (bM (rR y) (rX y) (rB y) (rM y)) y))))
def q5 (c : Int) : Bool := bitB (rW c) && (bitB (rL c) && (preB (rP c) && ((!ltI (rV c) 0 && !ltI 15 (rV c)) && eqI (bN (rW c) (rV c) (rL c) (pkI (rP c))) c)))
def q6 (y : Int) : Bool := bitB (rR y) && (bitB (rL y) && (preB (rP y) && ((!ltI (rV y) 0 && !ltI 15 (rV y)) && eqI (bO (rR y) (rV y) (rL y) (pkI (rP y))) y)))
end
theorem q1_all : allN (fun r => allN (fun x => allN (fun b => allN (fun m => q1 (Int.ofNat r) (Int.ofNat x) (Int.ofNat b) (Int.ofNat m)) 1 3) 0 2) 0 2) 0 2 = true := by kernel_rfl
theorem q2_a : allN (fun w => allN (fun v => allN (fun l => allN (fun p => q2 (Int.ofNat w) (Int.ofNat v) (Int.ofNat l) (Int.ofNat p)) 0 3) 0 2) 0 16) 0 2 = true := by kernel_rfl
theorem q2_b : allN (fun w => allN (fun v => allN (fun l => q2 (Int.ofNat w) (Int.ofNat v) (Int.ofNat l) 4) 0 2) 0 16) 0 2 = true := by kernel_rfl
theorem q3_a : allN (fun w => allN (fun v => allN (fun l => allN (fun p => q3 (Int.ofNat w) (Int.ofNat v) (Int.ofNat l) (Int.ofNat p)) 0 3) 0 2) 0 16) 0 2 = true := by kernel_rfl
theorem q3_b : allN (fun w => allN (fun v => allN (fun l => q3 (Int.ofNat w) (Int.ofNat v) (Int.ofNat l) 4) 0 2) 0 16) 0 2 = true := by kernel_rfl
theorem q4_all : allN (fun y => q4 (Int.ofNat y)) 0 256 = true := by kernel_rfl
theorem q5_all : allN (fun y => q5 (Int.ofNat y)) 0 256 = true := by kernel_rfl
theorem q6_all : allN (fun y => q6 (Int.ofNat y)) 0 256 = true := by kernel_rfl

/-- What the fields may be. -/
structure Good (r x b m w v l p : Int) : Prop where
  r : r = 0 ∨ r = 1
  x : x = 0 ∨ x = 1
  b : b = 0 ∨ b = 1
  w : w = 0 ∨ w = 1
  l : l = 0 ∨ l = 1
  m : 1 ≤ m ∧ m ≤ 3
  v : 0 ≤ v ∧ v ≤ 15
  p : p = 0 ∨ p = 1 ∨ p = 2 ∨ p = 4

theorem bit_pick {β : Type} (n : Int) (F B : β) : bit n F B = if n = 0 ∨ n = 1 then F else B := by
  unfold bit
  rw [pick_neq, pick_neq]
  by_cases h0 : n = 0
  · subst h0; simp [bit]
  · by_cases h1 : n = 1
    · subst h1; simp
    · simp [h0, h1]
end Go.Proofs.Ytpabmjpkkhmidaa
