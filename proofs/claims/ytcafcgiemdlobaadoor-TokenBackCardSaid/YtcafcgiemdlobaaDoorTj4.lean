/- How a token is written: numbers below 0. -/
import Derived.Test.YtcafcgiemdlobaaDoorTj3
import Derived.Test.YtcafcgiemdlobaaDoorLh
namespace Go.Proofs.YtcafcgiemdlobaaDoor.lt
open Go.Tv Go.Ev

noncomputable def and15 (a : Int) : Int := ((BitVec.ofInt 64 a &&& BitVec.ofInt 64 15).toNat : Int)
theorem and15_eq (a : Int) : and15 a = a % 16 := by
  unfold and15
  have e : BitVec.ofInt 64 a = BitVec.ofInt 64 (a % 18446744073709551616) := by
    apply BitVec.eq_of_toNat_eq
    simp only [BitVec.toNat_ofInt]
    congr 1
    omega
  rw [e]
  have := and_low (a := a % 18446744073709551616) (by omega) (by omega) 4 (by omega)
  have h2 : ((2 ^ 4 - 1 : Nat) : Int) = 15 := rfl
  rw [h2] at this
  rw [this]
  show a % 18446744073709551616 % 16 = a % 16
  omega
def dgI (d : Int) : UInt8 := digs16.getD d.toNat 0
theorem getI_dg {d : Int} (h0 : 0 ≤ d) (h1 : d < 16) : getI digs16 d = some (dgI d) := by
  obtain ⟨k, rfl⟩ : ∃ k : Nat, d = k := ⟨d.toNat, by omega⟩
  rw [getI_nat]
  unfold dgI
  have : k < digs16.length := by show k < 16; omega
  rw [Int.toNat_natCast, List.getElem?_eq_getElem this, List.getD_eq_getElem?_getD, List.getElem?_eq_getElem this]; rfl
theorem cut_dg {d : Int} (h0 : 0 ≤ d) (h1 : d < 16) : cutL digs16 d (d + 1) = [dgI d] := by
  obtain ⟨k, rfl⟩ : ∃ k : Nat, d = k := ⟨d.toNat, by omega⟩
  unfold cutL dgI
  have : k < digs16.length := by show k < 16; omega
  have e : ((k : Int) + 1).toNat - (k : Int).toNat = 1 := by omega
  rw [e, Int.toNat_natCast, List.drop_eq_getElem_cons this, List.getD_eq_getElem?_getD, List.getElem?_eq_getElem this]; rfl
noncomputable def treeU : Nat → Int → List Int → Nat → Option AV
  | 0, _, L, _ => some (.str (L.map iU8))
  | f + 1, u, L, i => Option.rec (motive := fun _ => Option AV) none (fun c => treeU f (Int.fdiv u 16) (L.set i (u8I c)) (i - 1)) (getI digs16 (IntKind.wrap .u64 (and15 u)))
theorem tree71 (u : Int) : enterT (Xg gvT) (c0 gvT AV) an0 20 71 [.int .u64 u] TMem.empty (fun v _ => some v) = treeU 16 u [48, 120, 48, 48, 48, 48, 48, 48, 48, 48, 48, 48, 48, 48, 48, 48, 48, 48] 17 := by kernel_rfl
def setD : Nat → Int → List Int → Nat → List Int
  | 0, _, L, _ => L
  | f + 1, u, L, i => setD f (u / 16) (L.set i (u8I (dgI (u % 16)))) (i - 1)
theorem treeU_eq : ∀ (f : Nat) (u : Int) (L : List Int) (i : Nat), 0 ≤ u → treeU f u L i = some (.str ((setD f u L i).map iU8))
  | 0, _, _, _, _ => rfl
  | f + 1, u, L, i, h => by
    rw [treeU, and15_eq, u64_in (by omega) (by omega), getI_dg (by omega) (by omega)]
    show treeU f (Int.fdiv u 16) (L.set i (u8I (dgI (u % 16)))) (i - 1) = _
    have e : Int.fdiv u 16 = u / 16 := Int.fdiv_eq_ediv_of_nonneg _ (by omega)
    rw [e, treeU_eq f (u / 16) _ _ (by omega), setD]
/-- 0x and sixteen digits. -/
def unsS (u : Int) : List UInt8 := (setD 16 u [48, 120, 48, 48, 48, 48, 48, 48, 48, 48, 48, 48, 48, 48, 48, 48, 48, 48] 17).map iU8
noncomputable def gUns (args : List AV) : Option (Bool × List PRes) :=
  match args with
  | [.int .u64 u] => some (!ltI u 0, [.val (.str (unsS u))])
  | _ => none
theorem con71 : ConOk (Xg gvT) (cfOf (Xg gvT) noKnown) 71 gUns :=
  con_vals (nk 71) (c0_ok gvT) fun args rs hg => by
    unfold gUns at hg
    split at hg
    · rename_i u
      simp only [Option.some.injEq, Prod.mk.injEq, ltI_spec, Bool.not_eq_true', decide_eq_false_iff_not] at hg
      obtain ⟨h1, rfl⟩ := hg
      exact ⟨[.str (unsS u)], an0, 20, (tree71 u).trans (treeU_eq 16 u _ _ (by omega)), rfl, rfl⟩
    · cases hg
noncomputable def M7' : List Con := (20, [none], gHex) :: (51, [none, none, none], gTell) :: (53, [none], gVal) :: (59, [none], gVal) :: (71, [none], gUns) :: M6'
theorem M7'_ok : TabOk (Xg gvT) (cfOf (Xg gvT) noKnown) M7' := .cons con20T (.cons (con51 gvT) (.cons con53 (.cons con59 (.cons con71 (M6'_ok gvT)))))
noncomputable def d7' (β : Type) : CallT β := callT (Xg gvT) (tab M7') inl 200 β 20
theorem d7'_ok (β : Type) : CallTOk (Xg gvT) (cfOf (Xg gvT) noKnown) (d7' β) := callT_ok M7'_ok (fun _ _ _ => rfl) 200 20 β
end Go.Proofs.YtcafcgiemdlobaaDoor.lt
