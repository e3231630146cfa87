/- RexLays: contracts of both Rex. -/
import Derived.Test.YtpabmjpkkhmidaaKx
namespace Go.Proofs.Ytpabmjpkkhmidaa.rexLays
open Go.Tv Go.Ev
noncomputable section
def bitI (n : Int) : Bool := eqI n 0 || eqI n 1
/-- What Rex answers. -/
def rexI (w r x b : Int) : Int := pick2 (bitI w && (bitI r && (bitI x && bitI b))) (8 * w + (4 * r + (2 * x + b))) (-1)
def gRexA (args : List AV) : Option (Bool × List PRes) :=
  match args with
  | [.int .i64 w, .int .i64 r, .int .i64 x, .int .i64 b] => some (true, [.val (.int .i64 (rexI w r x b))])
  | _ => none
def runR (f : FuncId) (w r x b : Int) : Option AV := enterT X2 (dK0 AV) an0 40 f [.int .i64 w, .int .i64 r, .int .i64 x, .int .i64 b] TMem.empty fun v _ => some v
def isI (o : Option AV) (n : Int) : Bool :=
  match o with
  | some (.int .i64 k) => eqI k n
  | _ => false
end
theorem isI_spec {o : Option AV} {n : Int} (h : isI o n = true) : o = some (.int .i64 n) := by
  unfold isI at h
  split at h
  · rw [eqI_spec, beq_iff_eq] at h; rw [h]
  · cases h
theorem bad_of {n : Int} (h : bitI n = false) : (∃ m, n = Int.negSucc m) ∨ ∃ m, n = Int.ofNat (m + 2) := by
  cases n with
  | negSucc m => exact .inl ⟨m, rfl⟩
  | ofNat k =>
    match k, h with
    | 0, h => cases h
    | 1, h => cases h
    | m + 2, _ => exact .inr ⟨m, rfl⟩
theorem good_of {n : Int} (h : bitI n = true) : ∃ k : Nat, n = Int.ofNat k ∧ k < 2 := by
  have : n = 0 ∨ n = 1 := by simpa [bitI, eqI_spec] using h
  rcases this with rfl | rfl
  · exact ⟨0, rfl, by omega⟩
  · exact ⟨1, rfl, by omega⟩
theorem con_rex {f : FuncId} (hk : ∀ args, kn2 f args = none)
    (w1 : ∀ (m : Nat) (r x b : Int), isI (runR f (Int.negSucc m) r x b) (-1) = true) (w2 : ∀ (m : Nat) (r x b : Int), isI (runR f (Int.ofNat (m + 2)) r x b) (-1) = true)
    (r1 : ∀ (m : Nat) (x b : Int), allN (fun w => isI (runR f (Int.ofNat w) (Int.negSucc m) x b) (-1)) 0 2 = true) (r2 : ∀ (m : Nat) (x b : Int), allN (fun w => isI (runR f (Int.ofNat w) (Int.ofNat (m + 2)) x b) (-1)) 0 2 = true)
    (x1 : ∀ (m : Nat) (b : Int), allN (fun w => allN (fun r => isI (runR f (Int.ofNat w) (Int.ofNat r) (Int.negSucc m) b) (-1)) 0 2) 0 2 = true) (x2 : ∀ (m : Nat) (b : Int), allN (fun w => allN (fun r => isI (runR f (Int.ofNat w) (Int.ofNat r) (Int.ofNat (m + 2)) b) (-1)) 0 2) 0 2 = true)
    (b1 : ∀ (m : Nat), allN (fun w => allN (fun r => allN (fun x => isI (runR f (Int.ofNat w) (Int.ofNat r) (Int.ofNat x) (Int.negSucc m)) (-1)) 0 2) 0 2) 0 2 = true) (b2 : ∀ (m : Nat), allN (fun w => allN (fun r => allN (fun x => isI (runR f (Int.ofNat w) (Int.ofNat r) (Int.ofNat x) (Int.ofNat (m + 2))) (-1)) 0 2) 0 2) 0 2 = true)
    (ok : allN (fun w => allN (fun r => allN (fun x => allN (fun b => isI (runR f (Int.ofNat w) (Int.ofNat r) (Int.ofNat x) (Int.ofNat b)) (8 * Int.ofNat w + (4 * Int.ofNat r + (2 * Int.ofNat x + Int.ofNat b)))) 0 2) 0 2) 0 2) 0 2 = true) : ConOk X2 (cfOf X2 kn2) f gRexA :=
  con_vals hk dK0_ok fun args rs hg => by
    unfold gRexA at hg
    split at hg
    · rename_i w r x b
      injection hg with hg; injection hg with _ h2
      subst h2
      refine ⟨[.int .i64 (rexI w r x b)], an0, 40, ?_, rfl, rfl⟩
      show runR f w r x b = some (.int .i64 (rexI w r x b))
      unfold rexI
      cases hw : bitI w with
      | false => rcases bad_of hw with ⟨m, rfl⟩ | ⟨m, rfl⟩ <;> first | exact isI_spec (w1 m r x b) | exact isI_spec (w2 m r x b)
      | true =>
        obtain ⟨w, rfl, hw2⟩ := good_of hw
        cases hr : bitI r with
        | false => rcases bad_of hr with ⟨m, rfl⟩ | ⟨m, rfl⟩ <;> first | exact isI_spec (allN_spec (r1 m x b) w (by omega) (by omega)) | exact isI_spec (allN_spec (r2 m x b) w (by omega) (by omega))
        | true =>
          obtain ⟨r, rfl, hr2⟩ := good_of hr
          cases hx : bitI x with
          | false => rcases bad_of hx with ⟨m, rfl⟩ | ⟨m, rfl⟩ <;> first | exact isI_spec (allN_spec (allN_spec (x1 m b) w (by omega) (by omega)) r (by omega) (by omega)) | exact isI_spec (allN_spec (allN_spec (x2 m b) w (by omega) (by omega)) r (by omega) (by omega))
          | true =>
            obtain ⟨x, rfl, hx2⟩ := good_of hx
            cases hb : bitI b with
            | false => rcases bad_of hb with ⟨m, rfl⟩ | ⟨m, rfl⟩ <;> first | exact isI_spec (allN_spec (allN_spec (allN_spec (b1 m) w (by omega) (by omega)) r (by omega) (by omega)) x (by omega) (by omega)) | exact isI_spec (allN_spec (allN_spec (allN_spec (b2 m) w (by omega) (by omega)) r (by omega) (by omega)) x (by omega) (by omega))
            | true =>
              obtain ⟨b, rfl, hb2⟩ := good_of hb
              exact isI_spec (allN_spec (allN_spec (allN_spec (allN_spec ok w (by omega) (by omega)) r (by omega) (by omega)) x (by omega) (by omega)) b (by omega) (by omega))
    · cases hg
theorem con26 : ConOk X2 (cfOf X2 kn2) 26 gRexA :=
  con_rex (inl2_ok 26 rfl) (fun _ _ _ _ => by kernel_rfl) (fun _ _ _ _ => by kernel_rfl) (fun _ _ _ => by kernel_rfl) (fun _ _ _ => by kernel_rfl) (fun _ _ => by kernel_rfl) (fun _ _ => by kernel_rfl) (fun _ => by kernel_rfl) (fun _ => by kernel_rfl) (by kernel_rfl)
theorem con27 : ConOk X2 (cfOf X2 kn2) 27 gRexA :=
  con_rex (inl2_ok 27 rfl) (fun _ _ _ _ => by kernel_rfl) (fun _ _ _ _ => by kernel_rfl) (fun _ _ _ => by kernel_rfl) (fun _ _ _ => by kernel_rfl) (fun _ _ => by kernel_rfl) (fun _ _ => by kernel_rfl) (fun _ => by kernel_rfl) (fun _ => by kernel_rfl) (by kernel_rfl)
noncomputable def MK1 : List Con := [(15, [], gYes), (26, [none, none, none, none], gRexA), (27, [none, none, none, none], gRexA)]
theorem MK1_ok : TabOk X2 (cfOf X2 kn2) MK1 := .cons (con_yes rfl) (.cons con26 (.cons con27 .nil))
noncomputable def dK1 (β : Type) : CallT β := callT X2 (tab MK1) inl2 40 β 10
theorem dK1_ok (β : Type) : CallTOk X2 (cfOf X2 kn2) (dK1 β) := callT_ok MK1_ok inl2_ok 40 10 β kl2
noncomputable def run4 (p n w r x b : Int) : Option AV := enterT X2 (dK1 AV) an0 40 4 [.int .i64 p, .int .i64 n, .int .i64 w, .int .i64 r, .int .i64 x, .int .i64 b] TMem.empty fun v _ => some v
noncomputable def fin4 (w r x b : Int) : Option AV := pick2 (eqI (rexI w r x b) (rexI w r x b)) (some (.bool true)) (some (.bool false))
theorem fin4_ok (w r x b : Int) : fin4 w r x b = some (.bool true) := by
  unfold fin4
  rw [eqT rfl]
end Go.Proofs.Ytpabmjpkkhmidaa.rexLays
