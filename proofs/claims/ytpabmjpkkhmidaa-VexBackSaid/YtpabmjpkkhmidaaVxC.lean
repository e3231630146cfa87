/- Contracts for VexReads. -/
import Derived.Test.YtpabmjpkkhmidaaVx
import Derived.Test.YtpabmjpkkhmidaaRxL
import Derived.Test.YtpabmjpkkhmidaaTd
namespace Go.Proofs.Ytpabmjpkkhmidaa.vexReads
open Go.Tv Go.Ev

theorem okB_spec {l : List Int} (h : okB l = true) : ∀ n ∈ l, ∃ i : Nat, n = Int.ofNat i ∧ i < 256 := fun n hn => by
  have := List.all_eq_true.1 h n hn
  simp only [ltI_spec, Bool.and_eq_true, Bool.not_eq_true', decide_eq_true_eq, decide_eq_false_iff_not] at this
  exact ⟨n.toNat, by show n = (n.toNat : Int); omega, by omega⟩

noncomputable def gV (args : List AV) : Option (Bool × List PRes) :=
  match args with
  | [a] => match asL (.int .u8) a with
    | some l => some (okB l, [.val (vx (vr l)), .val (.int .i64 (nth (vr l) 8)), .val (.int .i64 (nth (vr l) 9))])
    | none => none
  | _ => none
noncomputable def gLent (args : List AV) : Option (Bool × List PRes) :=
  match args with
  | [a] => match asL (.int .u8) a with
    | some l => some (Nat.ble l.length 1000, [.room 5 (.int .u8) (lent l) l.length])
    | none => none
  | _ => none
noncomputable def gTrue (args : List AV) : Option (Bool × List PRes) :=
  match args with
  | [] => some (true, [.val (.bool true)])
  | _ => none

theorem con_read {f : FuncId} (hk : ∀ args, kn f args = none) (h : ∀ (l : List Int), (∀ n ∈ l, ∃ i : Nat, n = Int.ofNat i ∧ i < 256) → ∃ H, (runV f l fun v H => some (v, H)) = some (vt (vr l), H)) : ConOk X0 (cfOf X0 kn) f gV :=
  con_of hk c0_ok fun args rs hg => by
    unfold gV at hg
    split at hg
    · split at hg
      · rename_i l hl
        injection hg with hg; injection hg with h1 h2
        subst h2
        rw [asL_spec hl]
        obtain ⟨H, hH⟩ := h l (okB_spec h1)
        exact ⟨[_, _, _], H, an0, 5, hH, ⟨rfl, rfl, rfl, rfl, rfl, rfl, trivial⟩⟩
      · cases hg
    · cases hg

theorem con48 : ConOk X0 (cfOf X0 kn) 48 gV := con_read (inl_ok 48 rfl) vread48
theorem con49 : ConOk X0 (cfOf X0 kn) 49 gV := con_read (inl_ok 49 rfl) vread49

theorem con16 : ConOk X0 (cfOf X0 kn) 16 gLent :=
  con_of (inl_ok 16 rfl) c0_ok fun args rs hg => by
    unfold gLent at hg
    split at hg
    · rename_i a
      split at hg
      · rename_i l hl
        injection hg with h; injection h with h1 h2
        subst h2
        rw [asL_spec hl]
        refine ⟨[_], _, an0, 5, lent_run l (Nat.le_of_ble_eq_true h1) _, rfl, 0, 4, ?_, rfl, by simp, trivial⟩
        simp [lent]
      · cases hg
    · cases hg

theorem con47 : ConOk X0 (cfOf X0 kn) 47 gTrue :=
  con_known fun args rs hg => by
    unfold gTrue at hg
    split at hg
    · injection hg with h; injection h with h1 h2
      subst h2
      refine ⟨.bool true, .bool true, rfl, rfl, fun S => .bool true, rfl, fun S argsE hl => ?_⟩
      have : argsE = [] := List.length_eq_zero_iff.1 hl.1.symm
      subst this
      exact ⟨rfl, rfl⟩
    · cases hg

noncomputable def K2 : KT2 := fun f => pick2 (Nat.beq f 48 || Nat.beq f 49) (some ([some (.int .u8)], gV)) (pick2 (Nat.beq f 47) (some ([], gTrue)) (pick2 (Nat.beq f 16) (some ([some (.int .u8)], gLent)) none))
noncomputable def c2 (β : Type) : CallT β := callT X0 K2 inl 40 β 10

theorem K2_ok (id : FuncId) (sig : List (Option Ty)) (g : List AV → Option (Bool × List PRes)) (h : K2 id = some (sig, g)) : ConOk X0 (cfOf X0 kn) id g := by
  simp only [K2, pick2_eq, Bool.or_eq_true, Nat.beq_eq] at h
  split at h
  · rename_i hf
    cases h
    rcases hf with rfl | rfl
    · exact con48
    · exact con49
  · split at h
    · rename_i hf
      cases h
      subst hf
      exact con47
    · split at h
      · rename_i hf
        cases h
        subst hf
        exact con16
      · cases h

theorem c2_ok (β : Type) : CallTOk X0 (cfOf X0 kn) (c2 β) := callT_ok K2_ok inl_ok 40 10 β
end Go.Proofs.Ytpabmjpkkhmidaa.vexReads
