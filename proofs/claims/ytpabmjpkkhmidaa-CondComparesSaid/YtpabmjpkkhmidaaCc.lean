/- Pick, and the table for CondCompares. -/
import Derived.Test.YtpabmjpkkhmidaaRx
namespace Go.Proofs.Ytpabmjpkkhmidaa.condCompares
open Go.Tv Go.Ev

theorem top_run {X : Cfg} {kn : Ev.Known} {id : FuncId} (hk : ∀ args, kn id args = none) {call : ∀ β, CallT β} (hcall : ∀ β, CallTOk X (cfOf X kn) (call β)) {an : FnAnn} {rounds : Nat} {args : List AV} {v : AV}
    (h : enterT X (call AV) an rounds id args TMem.empty (fun v _ => some v) = some v) : ∀ (S : Wo) (E : Mem) (argsE : List Value), Rel S TMem.empty E → GlobOk X S → LV S args argsE →
    ∃ S' vE E', (∃ N, ∀ n : Nat × Nat, N ≤ n.1 ∧ N ≤ n.2 → cfOf X kn n id argsE E = some (vE, E')) ∧ VR S' v vE := by
  obtain ⟨v', H1, h1, h2⟩ := enter_ok (nf := false) (hcall _) (fun h => by cases h) h
  cases h1
  intro S E argsE hr hg hl
  obtain ⟨S', vE, E', a1, a2, _, _, _⟩ := h2 S E argsE hr hg hl
  exact ⟨S', vE, E', call_of_enter hk a1, a2⟩

/-- What Pick(n, 16) answers. -/
noncomputable def pk (n : Int) : Int := pick2 (ltI (Int.tmod n 16) 0) (IntKind.wrap .i64 (Int.tmod n 16 + 16)) (Int.tmod n 16)

theorem tree36 (n : Int) : enterT X0 (c0 (AV × TMem)) an0 5 36 [.int .i64 n, .int .i64 16] TMem.empty (fun v H => some (v, H)) = pick2 (ltI (Int.tmod n 16) 0) (some (.int .i64 (IntKind.wrap .i64 (Int.tmod n 16 + 16)), TMem.empty)) (some (.int .i64 (Int.tmod n 16), TMem.empty)) := by kernel_rfl

noncomputable def gPick (m : Int) (args : List AV) : Option (Bool × List PRes) :=
  match args with
  | [.int .i64 n, .int .i64 q] => some (eqI (pk n) m && eqI q 16, [.val (.int .i64 m)])
  | _ => none
noncomputable def gTrue (args : List AV) : Option (Bool × List PRes) :=
  match args with
  | [] => some (true, [.val (.bool true)])
  | _ => none

theorem con36 (m : Int) : ConOk X0 (cfOf X0 kn) 36 (gPick m) :=
  con_of (inl_ok 36 rfl) c0_ok fun args rs hg => by
    unfold gPick at hg
    split at hg
    · rename_i n q
      injection hg with hg; injection hg with h1 h2
      subst h2
      simp only [Bool.and_eq_true, eqI_spec, beq_iff_eq] at h1
      obtain ⟨rfl, rfl⟩ := h1
      refine ⟨[.int .i64 (pk n)], TMem.empty, an0, 5, ?_, rfl, rfl, trivial⟩
      rw [tree36]
      unfold pk
      cases ltI (Int.tmod n 16) 0 <;> rfl
    · cases hg

theorem con31 : ConOk X0 (cfOf X0 kn) 31 gTrue :=
  con_known fun args rs hg => by
    unfold gTrue at hg
    split at hg
    · injection hg with h; injection h with h1 h2
      subst h2
      refine ⟨.bool true, .bool true, rfl, rfl, fun S => .bool true, rfl, fun S argsE hl => ?_⟩
      have : argsE = [] := List.length_eq_zero_iff.1 hl.1.symm
      subst this
      exact ⟨rfl, rfl⟩
    · cases hg

noncomputable def Kc (m : Int) : KT2 := fun f => pick2 (Nat.beq f 36) (some ([none, none], gPick m)) (pick2 (Nat.beq f 31) (some ([], gTrue)) none)
noncomputable def cc (m : Int) (β : Type) : CallT β := callT X0 (Kc m) inl 40 β 10

theorem Kc_ok (m : Int) (id : FuncId) (sig : List (Option Ty)) (g : List AV → Option (Bool × List PRes)) (h : Kc m id = some (sig, g)) : ConOk X0 (cfOf X0 kn) id g := by
  simp only [Kc, pick2_eq, Nat.beq_eq] at h
  split at h
  · rename_i hf
    cases h
    subst hf
    exact con36 m
  · split at h
    · rename_i hf
      cases h
      subst hf
      exact con31
    · cases h

theorem cc_ok (m : Int) (β : Type) : CallTOk X0 (cfOf X0 kn) (cc m β) := callT_ok (Kc_ok m) inl_ok 40 10 β

noncomputable def run8 (m : Nat) (a b n : Int) : Option AV := enterT X0 (cc (Int.ofNat m) AV) an0 20 8 [.int .u8 a, .int .u8 b, .int .i64 n] TMem.empty (fun v _ => some v)
end Go.Proofs.Ytpabmjpkkhmidaa.condCompares
