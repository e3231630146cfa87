/- Tokens: bytes. -/
import Derived.Test.YtcafcgiemdlobaaDoorLg
namespace Go.Proofs.YtcafcgiemdlobaaDoor.lt
open Go.Tv Go.Ev

def firstI (n : Int) : Bool := decide (97 ≤ n ∧ n ≤ 122 ∨ 65 ≤ n ∧ n ≤ 90 ∨ n = 95 ∨ n = 46)
def moreI (n : Int) : Bool := firstI n || decide (48 ≤ n ∧ n ≤ 57)
def plainI (n : Int) : Bool := decide (32 ≤ n ∧ n ≤ 126)
theorem run38 (gv : Nat → List AV) (n : Int) : enterT (Xg gv) (c0 gv AV) an0 5 38 [.int .u8 n] TMem.empty (fun v _ => some v) = some (.bool (firstI n)) := by
  have h : enterT (Xg gv) (c0 gv AV) an0 5 38 [.int .u8 n] TMem.empty (fun v _ => some v) = pickR n 97 122 (some (.bool true)) (pickR n 65 90 (some (.bool true)) (pick2 (eqI n 95) (some (.bool true)) (some (.bool (eqI n 46))))) := by kernel_rfl
  rw [h]
  simp only [pickR_eq, pick_eq]
  unfold firstI
  split
  · rw [decide_eq_true (by omega)]
  · split
    · rw [decide_eq_true (by omega)]
    · split
      · rw [decide_eq_true (by omega)]
      · refine congrArg (fun x => some (AV.bool x)) ?_
        rw [eqI_spec, Bool.eq_iff_iff, beq_iff_eq, decide_eq_true_eq]; omega
theorem run62 (gv : Nat → List AV) (n : Int) : enterT (Xg gv) (c0 gv AV) an0 5 62 [.int .u8 n] TMem.empty (fun v _ => some v) = some (.bool (plainI n)) := by
  have h : enterT (Xg gv) (c0 gv AV) an0 5 62 [.int .u8 n] TMem.empty (fun v _ => some v) = pick2 (!ltI n 32) (some (.bool (!ltI 126 n))) (some (.bool false)) := by kernel_rfl
  rw [h, pick_nlt]
  unfold plainI
  split
  · refine congrArg (fun x => some (AV.bool x)) ?_
    rw [ltI_spec, Bool.eq_iff_iff, Bool.not_eq_true', decide_eq_false_iff_not, decide_eq_true_eq]; omega
  · rw [decide_eq_false (by omega)]
noncomputable def gBy (p : Int → Bool) (args : List AV) : Option (Bool × List PRes) :=
  match args with
  | [.int .u8 n] => some (true, [.val (.bool (p n))])
  | _ => none
theorem con_by {gv : Nat → List AV} {call : ∀ β, CallT β} (hcall : ∀ β, CallTOk (Xg gv) (cfOf (Xg gv) noKnown) (call β)) {f : FuncId} {p : Int → Bool} (h : ∀ n, enterT (Xg gv) (call AV) an0 5 f [.int .u8 n] TMem.empty (fun v _ => some v) = some (.bool (p n))) : ConOk (Xg gv) (cfOf (Xg gv) noKnown) f (gBy p) :=
  con_vals (nk f) hcall fun args rs hg => by
    unfold gBy at hg
    split at hg
    · rename_i n
      simp only [Option.some.injEq, Prod.mk.injEq] at hg
      obtain ⟨h1, rfl⟩ := hg
      exact ⟨[.bool (p n)], an0, 5, h n, rfl, rfl⟩
    · cases hg
theorem con38 (gv : Nat → List AV) : ConOk (Xg gv) (cfOf (Xg gv) noKnown) 38 (gBy firstI) := con_by (c0_ok gv) (run38 gv)
theorem con62 (gv : Nat → List AV) : ConOk (Xg gv) (cfOf (Xg gv) noKnown) 62 (gBy plainI) := con_by (c0_ok gv) (run62 gv)
noncomputable def M1 : List Con := [(38, [none], gBy firstI), (62, [none], gBy plainI)]
theorem M1_ok (gv : Nat → List AV) : TabOk (Xg gv) (cfOf (Xg gv) noKnown) M1 := .cons (con38 gv) (.cons (con62 gv) .nil)
noncomputable def d1 (gv : Nat → List AV) (β : Type) : CallT β := callT (Xg gv) (tab M1) inl 200 β 20
theorem d1_ok (gv : Nat → List AV) (β : Type) : CallTOk (Xg gv) (cfOf (Xg gv) noKnown) (d1 gv β) := callT_ok (M1_ok gv) (fun _ _ _ => rfl) 200 20 β
theorem run61 (gv : Nat → List AV) (n : Int) : enterT (Xg gv) (d1 gv AV) an0 5 61 [.int .u8 n] TMem.empty (fun v _ => some v) = some (.bool (moreI n)) := by
  have h : enterT (Xg gv) (d1 gv AV) an0 5 61 [.int .u8 n] TMem.empty (fun v _ => some v) = pick2 (firstI n) (some (.bool true)) (pick2 (!ltI n 48) (some (.bool (!ltI 57 n))) (some (.bool false))) := by kernel_rfl
  rw [h, pick2_eq, pick_nlt]
  unfold moreI
  split
  · rename_i hf; rw [hf]; rfl
  · rename_i hf
    have hf : firstI n = false := by simpa using hf
    rw [hf, Bool.false_or]
    split
    · refine congrArg (fun x => some (AV.bool x)) ?_
      rw [ltI_spec, Bool.eq_iff_iff, Bool.not_eq_true', decide_eq_false_iff_not, decide_eq_true_eq]; omega
    · rw [decide_eq_false (by omega)]
theorem con61 (gv : Nat → List AV) : ConOk (Xg gv) (cfOf (Xg gv) noKnown) 61 (gBy moreI) := con_by (d1_ok gv) (run61 gv)
noncomputable def M2 : List Con := (61, [none], gBy moreI) :: M1
theorem M2_ok (gv : Nat → List AV) : TabOk (Xg gv) (cfOf (Xg gv) noKnown) M2 := .cons (con61 gv) (M1_ok gv)
noncomputable def d2 (gv : Nat → List AV) (β : Type) : CallT β := callT (Xg gv) (tab M2) inl 200 β 20
theorem d2_ok (gv : Nat → List AV) (β : Type) : CallTOk (Xg gv) (cfOf (Xg gv) noKnown) (d2 gv β) := callT_ok (M2_ok gv) (fun _ _ _ => rfl) 200 20 β
end Go.Proofs.YtcafcgiemdlobaaDoor.lt
