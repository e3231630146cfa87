/- TokenBack: the run. -/
import Derived.Test.YtcafcgiemdlobaaDoorTb3
namespace Go.Proofs.YtcafcgiemdlobaaDoor.lt
open Go.Tv Go.Ev

noncomputable def anAk : FnAnn := ⟨annOf [0, 1, 5] pN1, .none, []⟩
noncomputable def jAk (a b : List Piece) (r m : Nat) (i : Int) : Option AV := loopN (Xg gvT) (c0 gvT AV) anAk r 16 pN1 (fun v _ => some v) m (frOf 54 [(0, .lst tyTok a), (1, .lst tyTok b), (5, .int .i64 i)]) TMem.empty
noncomputable def twoK (a b : List Piece) (i : Int) (k : Piece → Piece → Option AV) : Option AV := atL a i fun x => atL b i fun y => k x y
theorem stepAk (a b : List Piece) (r m : Nat) (i : Int) : jAk a b r (m + 1) i =
    pick2 (ltI i ↑a.length) (twoK a b i fun x y => pick2 (!eqI x.1 y.1) (some (.bool false)) (twoK a b i fun x y => pick2 (!eqI x.2.1 y.2.1) (some (.bool false)) (twoK a b i fun x y => pick2 (!decide (x.2.2.1 = y.2.2.1)) (some (.bool false)) (jAk a b r m (IntKind.wrap .i64 (i + 1)))))) (some (.bool true)) := by kernel_rfl
theorem enterAk (a b : List Piece) (m : Nat) : enterT (Xg gvT) (c0 gvT AV) anAk m 16 [.lst tyTok a, .lst tyTok b] TMem.empty (fun v _ => some v) = pick2 (!eqI ↑a.length ↑b.length) (some (.bool false)) (jAk a b m m 0) := by kernel_rfl
theorem loopAk (r : Nat) : ∀ (a b p q : List Piece) (m : Nat), p.length = q.length → a.length = b.length → a.length < m → (p ++ a).length ≤ 1000000 → jAk (p ++ a) (q ++ b) r m (p.length : Int) = some (.bool (alike a b)) := by
  intro a
  induction a with
  | nil =>
    intro b p q m h1 h2 h3 h4
    obtain ⟨m, rfl⟩ : ∃ m', m = m' + 1 := ⟨m - 1, by simp at h3; omega⟩
    have : b = [] := List.length_eq_zero_iff.1 h2.symm
    subst this
    rw [stepAk, ltF (by simp)]; rfl
  | cons x a ih =>
    intro b p q m h1 h2 h3 h4
    obtain ⟨m, rfl⟩ : ∃ m', m = m' + 1 := ⟨m - 1, by simp at h3; omega⟩
    match b, h2 with
    | y :: b, h2 =>
      simp only [List.length_cons, List.length_append] at h2 h3 h4
      have g1 : getI (p ++ x :: a) (p.length : Int) = some x := getI_at p a x
      have g2 : getI (q ++ y :: b) (p.length : Int) = some y := by rw [h1]; exact getI_at q b y
      have two : ∀ k : Piece → Piece → Option AV, twoK (p ++ x :: a) (q ++ y :: b) (p.length : Int) k = k x y := fun k => by unfold twoK atL; rw [g1, g2]
      rw [stepAk, ltT (by simp only [List.length_append, List.length_cons]; omega)]
      show twoK (p ++ x :: a) (q ++ y :: b) (p.length : Int) _ = _
      rw [two, two, two, i64_in (by omega) (by omega)]
      have := ih b (p ++ [x]) (q ++ [y]) m (by simp [h1]) (by omega) (by omega) (by simp only [List.length_append, List.length_cons, List.length_nil]; omega)
      simp only [List.append_assoc, List.singleton_append, List.length_append, List.length_cons, List.length_nil] at this
      have e : ((p.length + (0 + 1) : Nat) : Int) = (p.length : Int) + 1 := by omega
      rw [e] at this
      rw [this, alike]
      by_cases h5 : x.1 = y.1
      · rw [eqT h5]
        by_cases h6 : x.2.1 = y.2.1
        · rw [eqT h6]
          by_cases h7 : x.2.2.1 = y.2.2.1
          · simp [h5, h6, h7, pick2]
          · simp [h5, h6, h7, pick2]
        · rw [eqF h6]; simp [h5, h6, pick2]
      · rw [eqF h5]; simp [h5, pick2]
theorem alike_len : ∀ {a b : List Piece}, alike a b = true → a.length = b.length
  | [], [], _ => rfl
  | [], _ :: _, h => by cases h
  | _ :: _, [], h => by cases h
  | x :: a, y :: b, h => by
    rw [alike, Bool.and_eq_true] at h
    simp [alike_len h.2]
/-- Told where it holds alone. -/
noncomputable def gAk (args : List AV) : Option (Bool × List PRes) :=
  match args with
  | [a, b] => match asL tyTok a, asL tyTok b with
    | some l, some l' => some (Nat.ble l.length 999999 && alike l l', [.val (.bool true)])
    | _, _ => none
  | _ => none
theorem con16T : ConOk (Xg gvT) (cfOf (Xg gvT) noKnown) 16 gAk :=
  con_vals (nk 16) (c0_ok gvT) fun args rs hg => by
    unfold gAk at hg
    split at hg
    · rename_i a b
      split at hg
      · rename_i l l' hl hl'
        obtain rfl := asL_spec hl
        obtain rfl := asL_spec hl'
        simp only [Option.some.injEq, Prod.mk.injEq, Nat.ble_eq, Bool.and_eq_true] at hg
        obtain ⟨⟨h1, h2⟩, rfl⟩ := hg
        have he := alike_len h2
        refine ⟨[.bool true], anAk, l.length + 1, ?_, rfl, rfl⟩
        rw [enterAk, eqT (by omega)]
        have := loopAk (l.length + 1) l l' [] [] (l.length + 1) rfl he (by omega) (by simp; omega)
        rw [h2] at this
        exact this
      · cases hg
    · cases hg
noncomputable def gLexG (lx : List UInt8 → List Piece × Int × Int) (args : List AV) : Option (Bool × List PRes) :=
  match args with
  | [.str s] => some (true, [.list 32 tyTok (lx s).1, .val (.agg [.int .i64 (lx s).2.1, .int .i64 (lx s).2.2])])
  | _ => none
noncomputable def gJoinG (jn : List Piece → List UInt8 × Int) (cw : List Piece → Bool) (args : List AV) : Option (Bool × List PRes) :=
  match args with
  | [a] => match asL tyTok a with
    | some l => some (Nat.ble l.length 1000 && cw l, [.val (.str (jn l).1), .val (.int .i64 (jn l).2)])
    | none => none
  | _ => none
noncomputable def gAkG (ak : List Piece → List Piece → Bool) (args : List AV) : Option (Bool × List PRes) :=
  match args with
  | [a, b] => match asL tyTok a, asL tyTok b with
    | some l, some l' => some (Nat.ble l.length 999999 && ak l l', [.val (.bool true)])
    | _, _ => none
  | _ => none
noncomputable def gLongG (lo : List Piece → Int → Bool) (args : List AV) : Option (Bool × List PRes) :=
  match args with
  | [a, .int .i64 q] => match asL tyTok a with
    | some l => some (Nat.ble l.length 9223372036854775807, [.val (.bool (lo l q))])
    | none => none
  | _ => none
noncomputable def MB' (lx : List UInt8 → List Piece × Int × Int) (jn : List Piece → List UInt8 × Int) (cw : List Piece → Bool) (ak : List Piece → List Piece → Bool) (lo : List Piece → Int → Bool) : List Con :=
  [(14, [], gYes), (15, [none], gLexG lx), (16, [some tyTok, some tyTok], gAkG ak), (27, [some tyTok, none], gLongG lo), (29, [some tyTok], gJoinG jn cw)]
theorem MB'_ok : TabOk (Xg gvT) (cfOf (Xg gvT) noKnown) (MB' lexC joinS (fun l => l.all condW) alike longB) := .cons con14T (.cons t.con15 (.cons con16T (.cons con27 (.cons con29 .nil))))
noncomputable def dB' (lx : List UInt8 → List Piece × Int × Int) (jn : List Piece → List UInt8 × Int) (cw : List Piece → Bool) (ak : List Piece → List Piece → Bool) (lo : List Piece → Int → Bool) (β : Type) : CallT β := callT (Xg gvT) (tab (MB' lx jn cw ak lo)) inl 200 β 20
theorem dB'_ok (β : Type) : CallTOk (Xg gvT) (cfOf (Xg gvT) noKnown) (dB' lexC joinS (fun l => l.all condW) alike longB β) := callT_ok MB'_ok (fun _ _ _ => rfl) 200 20 β
end Go.Proofs.YtcafcgiemdlobaaDoor.lt
