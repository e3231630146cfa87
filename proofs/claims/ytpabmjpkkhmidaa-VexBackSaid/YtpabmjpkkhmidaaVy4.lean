/- VexBack: the contract of long. -/
import Derived.Test.YtpabmjpkkhmidaaVy3
namespace Go.Proofs.Ytpabmjpkkhmidaa
open Go.Tv Go.Ev
noncomputable def xo (a b : Int) : Int := IntKind.wrap .i64 ↑(BitVec.toNat (BitVec.ofInt 64 a ^^^ BitVec.ofInt 64 b))
noncomputable def orI (a b : Int) : Int := IntKind.wrap .i64 ↑(BitVec.toNat (BitVec.ofInt 64 a ||| BitVec.ofInt 64 b))
noncomputable def sh (a k : Int) : Int := IntKind.wrap .i64 (a * 2 ^ min (Int.toNat k) 64)
noncomputable def layI (n : Int) : List (Int × Int) → Int
  | [] => n
  | (v, k) :: l => layI (orI (sh n k) v) l
noncomputable def bM (r x b m : Int) : Int := IntKind.wrap .u8 (xo (layI 0 [(r, 1), (x, 1), (b, 1), (m, 5)]) 224)
noncomputable def bN (w v l q : Int) : Int := IntKind.wrap .u8 (xo (layI 0 [(w, 1), (v, 4), (l, 1), (q, 2)]) 120)
noncomputable def bO (r v l q : Int) : Int := IntKind.wrap .u8 (xo (layI 0 [(r, 1), (v, 4), (l, 1), (q, 2)]) 248)
noncomputable def MV2 : List Con := [(53, [none], gChk), (63, [none], gPk)]
theorem MV2_ok : TabOk X0 (cfOf X0 kn) MV2 := .cons con53 (.cons con63 .nil)
noncomputable def dV2 (β : Type) : CallT β := callT X0 (tab MV2) inl 40 β 10
theorem dV2_ok (β : Type) : CallTOk X0 (cfOf X0 kn) (dV2 β) := callT_ok MV2_ok inl_ok 40 10 β
noncomputable def longL (r x b m w v l p : Int) : List Int := [196, bM r x b m, bN w v l (pkI p)]
noncomputable def gLong (args : List AV) : Option (Bool × List PRes) :=
  match args with
  | [.agg [.int .i64 r, .int .i64 x, .int .i64 b, .int .i64 m, .int .i64 w, .int .i64 v, .int .i64 l, .int .i64 p]] => some (true, [.list 5 (.int .u8) (longL r x b m w v l p)])
  | _ => none
/-- The value, and the row of the list that it is. -/
noncomputable def kOne (v : AV) (H : TMem) : Option (AV × Option Row) :=
  match v with
  | .own i _ => some (v, H.get i)
  | _ => some (v, none)
theorem con_one {X : Cfg} {kn : Ev.Known} {f : FuncId} (hk : ∀ args, kn f args = none) {g : List AV → Option (Bool × List PRes)} {call : ∀ β, CallT β} (hcall : ∀ β, CallTOk X (cfOf X kn) (call β))
    (h : ∀ args rs, g args = some (true, rs) → ∃ vs an rounds o, enterT X (call (AV × Option Row)) an rounds f args TMem.empty kOne = some (oneT vs, o) ∧ ∀ H : TMem, kOne (oneT vs) H = some (oneT vs, o) → resAt H [] vs rs) : ConOk X (cfOf X kn) f g := by
  intro args rs hg
  obtain ⟨vs, an, rounds, o, h1, h2⟩ := h args rs hg
  obtain ⟨v', H1, k1, k2⟩ := enter_ok (nf := false) (hcall _) (fun h => by cases h) h1
  have k3 : v' = oneT vs := by
    unfold kOne at k1
    split at k1 <;> exact (Prod.mk.inj (Option.some.inj k1)).1
  subst k3
  refine ⟨vs, H1, fun S E argsE hr hgl hl => ?_, h2 H1 k1⟩
  obtain ⟨S', vE, E', a1, a2, a3, a4, _⟩ := k2 S E argsE hr hgl hl
  exact ⟨S', vE, E', call_of_enter hk a1, one_inv a2, a3, a4⟩
theorem t64 (r x b m w v l p : Int) : enterT X0 (dV2 (AV × Option Row)) an0 10 64 [agV r x b m w v l p] TMem.empty kOne = some (.own 11 3, some (.list 5 (.int .u8) (longL r x b m w v l p) 0 false false)) := by kernel_rfl
theorem con64 : ConOk X0 (cfOf X0 kn) 64 gLong :=
  con_one (inl_ok 64 rfl) dV2_ok fun args rs hg => by
    unfold gLong at hg
    split at hg
    · rename_i r x b m w v l p
      injection hg with hg; injection hg with _ h2
      subst h2
      refine ⟨[.own 11 3], an0, 10, _, t64 r x b m w v l p, fun H h => ⟨rfl, .inl ⟨11, 0, false, rfl, (Prod.mk.inj (Option.some.inj h)).2, by simp, trivial⟩⟩⟩
    · cases hg
end Go.Proofs.Ytpabmjpkkhmidaa
