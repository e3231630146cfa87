/- VexBack: contracts of Check and packed. -/
import Derived.Test.YtpabmjpkkhmidaaVy
namespace Go.Proofs.Ytpabmjpkkhmidaa
open Go.Tv Go.Ev

theorem pk {α β : Type} (F : α → β) (c : Bool) (a b : α) : pick2 c (F a) (F b) = F (pick2 c a b) := by cases c <;> rfl
noncomputable def chkI (r x b m w v l p : Int) : Int := chk r x b m w v l p fun e => e
theorem chk_app {β : Type} (r x b m w v l p : Int) (F : Int → β) : chk r x b m w v l p F = F (chkI r x b m w v l p) := by
  unfold chkI chk bit
  simp only [pk F]
noncomputable def pkI (p : Int) : Int := pick2 (eqI p 1) 1 (pick2 (eqI p 4) 2 (pick2 (eqI p 2) 3 0))

noncomputable def gChk (args : List AV) : Option (Bool × List PRes) :=
  match args with
  | [.agg [.int .i64 r, .int .i64 x, .int .i64 b, .int .i64 m, .int .i64 w, .int .i64 v, .int .i64 l, .int .i64 p]] => some (true, [.val (.int .i64 (chkI r x b m w v l p))])
  | _ => none
noncomputable def gPk (args : List AV) : Option (Bool × List PRes) :=
  match args with
  | [.int .i64 p] => some (true, [.val (.int .i64 (pkI p))])
  | _ => none


theorem t53' (r x b m w v l p : Int) : (enterT X0 (c0 AV) an0 9 53 [agV r x b m w v l p] TMem.empty fun v _ => some v) = chk r x b m w v l p fun e => some (.int .i64 e) := by kernel_rfl
theorem t63' (p : Int) : (enterT X0 (c0 AV) an0 9 63 [.int .i64 p] TMem.empty fun v _ => some v) = pick2 (eqI p 1) (some (.int .i64 1)) (pick2 (eqI p 4) (some (.int .i64 2)) (pick2 (eqI p 2) (some (.int .i64 3)) (some (.int .i64 0)))) := by kernel_rfl

theorem con53 : ConOk X0 (cfOf X0 kn) 53 gChk :=
  con_vals (inl_ok 53 rfl) c0_ok fun args rs hg => by
    unfold gChk at hg
    split at hg
    · rename_i r x b m w v l p
      injection hg with hg; injection hg with _ h2
      subst h2
      refine ⟨[.int .i64 (chkI r x b m w v l p)], an0, 9, ?_, rfl, rfl⟩
      exact (t53' r x b m w v l p).trans (chk_app ..)
    · cases hg
theorem con63 : ConOk X0 (cfOf X0 kn) 63 gPk :=
  con_vals (inl_ok 63 rfl) c0_ok fun args rs hg => by
    unfold gPk at hg
    split at hg
    · rename_i p
      injection hg with hg; injection hg with _ h2
      subst h2
      refine ⟨[.int .i64 (pkI p)], an0, 9, ?_, rfl, rfl⟩
      rw [t63']
      show _ = some (AV.int .i64 (pkI p))
      unfold pkI
      cases eqI p 1 <;> cases eqI p 4 <;> cases eqI p 2 <;> rfl
    · cases hg
end Go.Proofs.Ytpabmjpkkhmidaa
