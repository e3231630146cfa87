/- AlikeTokens: its contract; the loops of TokenBlanks. -/
import Derived.Test.YtcafcgiemdlobaaDoorTn
import Derived.Test.YtcafcgiemdlobaaDoorBk
namespace Go.Tv
/-- The notes of two. -/
def annPlus : Ann → Ann → Ann
  | .none, b => b
  | .node o l r, .none => .node o l r
  | .node o l r, .node o' l' r' => .node (match o with | some x => some x | none => o') (annPlus l l') (annPlus r r')
end Go.Tv
namespace Go.Proofs.YtcafcgiemdlobaaDoor.lt
open Go.Tv Go.Ev

def alikeP (x y : Piece) : Bool := decide (x.1 = y.1 ∧ x.2.1 = y.2.1 ∧ x.2.2.1 = y.2.2.1)
def alikeL : List Piece → List Piece → Bool
  | [], [] => true
  | x :: a, y :: b => alikeP x y && alikeL a b
  | _, _ => false
def pAl : List Bool := [true, true, false, true, false]
noncomputable def anAl : FnAnn := ⟨annOf [0, 1, 5] pAl, .none, []⟩
noncomputable def jAl (a b : List Piece) (r m : Nat) (i : Int) : Option AV := loopN (Xg gvS) (d6 AV) anAl r 16 pAl (fun v _ => some v) m (frOf 54 [(0, .lst tyTok a), (1, .lst tyTok b), (5, .int .i64 i)]) TMem.empty
noncomputable def twoP (a b : List Piece) (i : Int) (k : Piece → Piece → Option AV) : Option AV :=
  Option.rec (motive := fun _ => Option AV) none (fun x => Option.rec (motive := fun _ => Option AV) none (fun y => k x y) (getI b i)) (getI a i)
theorem stepAl (a b : List Piece) (r m : Nat) (i : Int) : jAl a b r (m + 1) i =
    pick2 (ltI i ↑a.length) (twoP a b i fun x y => pick2 (!eqI x.1 y.1) (some (.bool false)) (twoP a b i fun x y => pick2 (!eqI x.2.1 y.2.1) (some (.bool false)) (twoP a b i fun x y => pick2 (!decide (x.2.2.1 = y.2.2.1)) (some (.bool false)) (jAl a b r m (IntKind.wrap .i64 (i + 1)))))) (some (.bool true)) := by kernel_rfl
theorem enterAl (a b : List Piece) (m : Nat) : enterT (Xg gvS) (d6 AV) anAl m 16 [.lst tyTok a, .lst tyTok b] TMem.empty (fun v _ => some v) = pick2 (!eqI ↑a.length ↑b.length) (some (.bool false)) (jAl a b m m 0) := by kernel_rfl
theorem twoP_at (p q a b : List Piece) (x y : Piece) (h : p.length = q.length) (k : Piece → Piece → Option AV) : twoP (p ++ x :: a) (q ++ y :: b) (p.length : Int) k = k x y := by
  unfold twoP
  rw [getI_at, h, getI_at]
theorem loopAl (r : Nat) : ∀ (a b p q : List Piece) (m : Nat), p.length = q.length → a.length = b.length → a.length < m → (p ++ a).length ≤ 1000000 → jAl (p ++ a) (q ++ b) r m (p.length : Int) = some (.bool (alikeL a b)) := by
  intro a
  induction a with
  | nil =>
    intro b p q m h1 h2 h3 h4
    obtain ⟨m, rfl⟩ : ∃ m', m = m' + 1 := ⟨m - 1, by simp at h3; omega⟩
    have : b = [] := List.length_eq_zero_iff.1 h2.symm
    subst this
    rw [stepAl, ltF (by simp)]; rfl
  | cons x a ih =>
    intro b p q m h1 h2 h3 h4
    obtain ⟨m, rfl⟩ : ∃ m', m = m' + 1 := ⟨m - 1, by simp at h3; omega⟩
    match b, h2 with
    | y :: b, h2 =>
      simp only [List.length_cons, List.length_append] at h2 h3 h4
      rw [stepAl, ltT (by simp only [List.length_append, List.length_cons]; omega)]
      show twoP (p ++ x :: a) (q ++ y :: b) (p.length : Int) _ = _
      rw [twoP_at p q a b x y h1, twoP_at p q a b x y h1, twoP_at p q a b x y h1, i64_in (by omega) (by omega)]
      have := ih b (p ++ [x]) (q ++ [y]) m (by simp [h1]) (by omega) (by omega) (by simp only [List.length_append, List.length_cons, List.length_nil]; omega)
      simp only [List.append_assoc, List.singleton_append, List.length_append, List.length_cons, List.length_nil] at this
      have e : ((p.length + (0 + 1) : Nat) : Int) = (p.length : Int) + 1 := by omega
      rw [e] at this
      rw [this]
      rw [alikeL]
      unfold alikeP
      by_cases h5 : x.1 = y.1
      · rw [eqT h5]
        by_cases h6 : x.2.1 = y.2.1
        · rw [eqT h6]
          by_cases h7 : x.2.2.1 = y.2.2.1
          · simp [h5, h6, h7, pick2]
          · simp [h5, h6, h7, pick2]
        · rw [eqF h6]; simp [h5, h6, pick2]
      · rw [eqF h5]; simp [h5, pick2]
noncomputable def gAlike (args : List AV) : Option (Bool × List PRes) :=
  match args with
  | [.lst (.pair (.int .i64) (.pair (.int .i64) (.pair .str (.int .i64)))) a, .lst (.pair (.int .i64) (.pair (.int .i64) (.pair .str (.int .i64)))) b] => some (Nat.ble a.length 1000000, [.val (.bool (alikeL a b))])
  | _ => none
theorem alikeL_len : ∀ {a b : List Piece}, a.length ≠ b.length → alikeL a b = false
  | [], [], h => absurd rfl h
  | [], _ :: _, _ => rfl
  | _ :: _, [], _ => rfl
  | x :: a, y :: b, h => by
    rw [alikeL, alikeL_len (a := a) (b := b) (by simpa using h), Bool.and_false]
theorem con16 : ConOk (Xg gvS) (cfOf (Xg gvS) noKnown) 16 gAlike :=
  con_vals (nk 16) d6_ok fun args rs hg => by
    unfold gAlike at hg
    split at hg
    · rename_i a b
      simp only [Option.some.injEq, Prod.mk.injEq] at hg
      obtain ⟨h1, rfl⟩ := hg
      have hl : a.length ≤ 1000000 := Nat.le_of_ble_eq_true h1
      refine ⟨[.bool (alikeL a b)], anAl, a.length + 1, ?_, rfl, rfl⟩
      rw [enterAl]
      by_cases h : a.length = b.length
      · rw [eqT (by omega)]
        exact loopAl (a.length + 1) a b [] [] _ rfl h (by omega) (by simpa using hl)
      · rw [eqF (by omega), alikeL_len h]; rfl
    · cases hg
noncomputable def M7 : List Con := (16, [some tyTok, some tyTok], gAlike) :: M6
theorem M7_ok : TabOk (Xg gvS) (cfOf (Xg gvS) noKnown) M7 := .cons con16 M6_ok
noncomputable def d7 (β : Type) : CallT β := callT (Xg gvS) (tab M7) inl 200 β 20
theorem d7_ok (β : Type) : CallTOk (Xg gvS) (cfOf (Xg gvS) noKnown) (d7 β) := callT_ok M7_ok (fun _ _ _ => rfl) 200 20 β
def pBl : List Bool := [true, true, true, true, true, false, true, false]
def qBl : List Bool := [true, true, true, true, true, true, true, true, false, true, false]
noncomputable def anBl : FnAnn := ⟨annPlus (annOf [0, 1, 2, 7, 8, 10, 11] pBl) (annOf [7, 8, 10, 12, 14] qBl), .none, []⟩
noncomputable def jBl (s : List UInt8) (tabs : List Bool) (k : List UInt8) (l : List Piece) (r m : Nat) (ahead : List UInt8) (i : Int) : Option AV :=
  loopN (Xg gvS) (d7 AV) anBl r 3 pBl (fun v _ => some v) m (frOf 96 [(0, .str s), (1, .lst .bool tabs), (2, .str k), (7, .bool true), (8, .own 0 l.length), (10, .str ahead), (11, .int .i64 i)]) (memOf [.list 32 tyTok l 0 false false])
noncomputable def jBm (l : List Piece) (ahead : List UInt8) (y : List Piece) (r m : Nat) (i : Int) : Option AV :=
  loopN (Xg gvS) (d7 AV) anBl r 3 qBl (fun v _ => some v) m (frOf 96 [(7, .bool true), (8, .own 0 l.length), (10, .str ahead), (12, .own 1 y.length), (14, .int .i64 i)]) (memOf [.list 32 tyTok l 0 false false, .list 32 tyTok y 0 false false])
end Go.Proofs.YtcafcgiemdlobaaDoor.lt
