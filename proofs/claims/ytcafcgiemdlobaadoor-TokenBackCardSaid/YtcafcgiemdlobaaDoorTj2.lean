/- Tokens that may be: signs. -/
import Derived.Test.YtcafcgiemdlobaaDoorTj
namespace Go.Proofs.YtcafcgiemdlobaaDoor.lt
open Go.Tv Go.Ev

/-- All signs, the longer ones first. -/
def sgns : List (List UInt8) := [[36, 36], [60, 60], [62, 62], [43], [45], [42], [47], [37], [38], [124], [94], [126], [40], [41], [91], [93], [44], [58], [36]]
/-- The first of some texts with which one begins. -/
def headL (s : List UInt8) : List (List UInt8) → List UInt8
  | [] => []
  | p :: l => if preB s p = true then p else headL s l
noncomputable def anSg : FnAnn := ⟨annOf [0, 3, 4] pN1, .none, []⟩
noncomputable def jSg (gv : Nat → List AV) (s : List UInt8) (L : List (List UInt8)) (r m : Nat) (i : Int) : Option AV := loopN (Xg gv) (c0 gv AV) anSg r 73 pN1 (fun v _ => some v) m (frOf 38 [(0, .str s), (3, .own 0 L.length), (4, .int .i64 i)]) (memOf [.list 9 .str L 0 false false])
noncomputable def atL {α : Type} (L : List α) (i : Int) (k : α → Option AV) : Option AV := Option.rec (motive := fun _ => Option AV) none k (getI L i)
theorem stepSg (gv : Nat → List AV) (s : List UInt8) (L : List (List UInt8)) (r m : Nat) (i : Int) : jSg gv s L r (m + 1) i =
    pick2 (ltI i ↑L.length) (atL L i fun y => pick2 (!ltI ↑s.length ↑y.length) (atL L i fun z => pick2 (!ltI ↑z.length 0 && !ltI (Int.ofNat s.length) ↑z.length) (atL L i fun x => pick2 (decide (cutL s 0 ↑z.length = x)) (atL L i fun v => some (.str v)) (jSg gv s L r m (IntKind.wrap .i64 (i + 1)))) none)
      (jSg gv s L r m (IntKind.wrap .i64 (i + 1)))) (some (.str [])) := by kernel_rfl
theorem enterSg (gv : Nat → List AV) (s : List UInt8) (r : Nat) : enterT (Xg gv) (c0 gv AV) anSg r 73 [.str s] TMem.empty (fun v _ => some v) = jSg gv s sgns r r 0 := by kernel_rfl
theorem loopSg (gv : Nat → List AV) (s : List UInt8) (L : List (List UInt8)) (hL : L.length < 1000000) (r : Nat) : ∀ (rest pre : List (List UInt8)) (m : Nat), L = pre ++ rest → rest.length < m → jSg gv s L r m pre.length = some (.str (headL s rest)) := by
  intro rest
  induction rest with
  | nil =>
    intro pre m he hm
    obtain ⟨m, rfl⟩ : ∃ m', m = m' + 1 := ⟨m - 1, by simp at hm; omega⟩
    have hl : L.length = pre.length := by rw [he]; simp
    rw [stepSg, ltF (by omega)]; rfl
  | cons p rest ih =>
    intro pre m he hm
    obtain ⟨m, rfl⟩ : ∃ m', m = m' + 1 := ⟨m - 1, by simp at hm; omega⟩
    have hl : L.length = pre.length + (rest.length + 1) := by rw [he]; simp
    have hg : getI L (pre.length : Int) = some p := by rw [he]; exact getI_at pre rest p
    have hin := ih (pre ++ [p]) m (by rw [he]; simp) (by simp at hm; omega)
    rw [List.length_append] at hin
    have hin : jSg gv s L r m ((pre.length : Int) + 1) = some (.str (headL s rest)) := hin
    rw [stepSg]
    unfold atL
    rw [ltT (by omega), hg, i64_in (n := (pre.length : Int) + 1) (by omega) (by omega), hin]
    show pick2 (!ltI ↑s.length ↑p.length) (pick2 (!ltI ↑p.length 0 && !ltI (Int.ofNat s.length) ↑p.length) (pick2 (decide (cutL s 0 ↑p.length = p)) (some (AV.str p)) (some (AV.str (headL s rest)))) none) (some (AV.str (headL s rest))) = _
    rw [pick_nlt, headL]
    unfold preB
    split
    · have e : cutL s 0 (p.length : Int) = s.take p.length := by unfold cutL; simp
      rw [ltF (by omega), ltF (a := Int.ofNat s.length) (by simp only [Int.ofNat_eq_natCast]; omega), e]
      by_cases h : s.take p.length = p
      · rw [decide_eq_true h]; rfl
      · rw [decide_eq_false h]; rfl
    · rename_i hlt
      rw [decide_eq_false (fun h2 => by have := congrArg List.length h2; simp only [List.length_take] at this; omega)]; rfl
noncomputable def gSg (args : List AV) : Option (Bool × List PRes) :=
  match args with
  | [.str s] => some (true, [.val (.str (headL s sgns))])
  | _ => none
theorem con73 (gv : Nat → List AV) : ConOk (Xg gv) (cfOf (Xg gv) noKnown) 73 gSg :=
  con_vals (nk 73) (c0_ok gv) fun args rs hg => by
    unfold gSg at hg
    split at hg
    · rename_i s
      simp only [Option.some.injEq, Prod.mk.injEq] at hg
      obtain ⟨h1, rfl⟩ := hg
      exact ⟨[.str (headL s sgns)], anSg, 100, (enterSg gv s 100).trans (loopSg gv s sgns (by decide) 100 sgns [] 100 rfl (by decide)), rfl, rfl⟩
    · cases hg
noncomputable def M6' : List Con := (37, [none], gTx nameB) :: (72, [none], gTx nameB) :: (73, [none], gSg) :: M5'
theorem M6'_ok (gv : Nat → List AV) : TabOk (Xg gv) (cfOf (Xg gv) noKnown) M6' := .cons (con37 gv) (.cons (con72 gv) (.cons (con73 gv) (M5'_ok gv)))
noncomputable def d6' (gv : Nat → List AV) (β : Type) : CallT β := callT (Xg gv) (tab M6') inl 200 β 20
theorem d6'_ok (gv : Nat → List AV) (β : Type) : CallTOk (Xg gv) (cfOf (Xg gv) noKnown) (d6' gv β) := callT_ok (M6'_ok gv) (fun _ _ _ => rfl) 200 20 β
end Go.Proofs.YtcafcgiemdlobaaDoor.lt
