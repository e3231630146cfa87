/- SourcePowers: both Powers. -/
import Derived.Test.YtfggompceldfgaaGreatDoorSy
namespace Go.Proofs.YtfggompceldfgaaGreatDoor.sy
open Go.Tv Go.Ev Go.Proofs.YtfggompceldfgaaGreatDoor.sx
noncomputable section
abbrev Ob := Option (AV × Option Row)
def viewA (a : Option Nat) : List Int := List.take 8 (List.drop 0 (fbO a))
theorem viewA_eq (a : Option Nat) : viewA a = fbO a := by
  unfold viewA
  rw [List.drop_zero, ← fbO_len a, List.take_length]
def appA (o v : List Int) (k : Nat → List Int → Ob) : Ob := pick2 (Nat.ble (o.length + v.length) 1000000) (k (o.length + v.length) (o ++ v)) none
theorem appA_in {o v : List Int} (h : o.length + v.length ≤ 1000000) (k : Nat → List Int → Ob) : appA o v k = k (o.length + v.length) (o ++ v) := by
  unfold appA
  rw [bleT h]
def nextA (a b c d : Option Nat) : Option Nat := fop .sub (fop .mul a c) (fop .mul b d)
def nextB (a b c d : Option Nat) : Option Nat := fop .add (fop .mul a d) (fop .mul b c)
def one64 : Nat := 4607182418800017408
def obE : Ob := some (.tup [.nils, .int .i64 5], none)
def obO (k : Nat) (o : List Int) : Ob := some (.tup [.own 0 k, .int .i64 0], some (.list 5 (.int .u8) o 0 false false))
def badT (re im n : Int) (go : Ob) : Ob :=
  pick2 (ltI n 1) obE (pick2 (ltI 64 n) obE (pick2 (ltI re (-9007199254740992)) obE (pick2 (ltI 9007199254740992 re) obE (pick2 (ltI im (-9007199254740992)) obE (pick2 (ltI 9007199254740992 im) obE go)))))
def fI (n : Int) : Nat := FloatKind.nearest .f64 n

/-! ### The program's -/
def pA : List Bool := [true, true, true, true, false, true, false]
def anA : FnAnn := ⟨annOf [8, 9, 10, 38, 39] pA, .none, []⟩
def jA0 (c d : Nat) (n : Int) (r m : Nat) (i : Int) : Ob := loopN X1 (c2 _) anA r 10 pA gLook m (frOf 76 [(8, .nils), (9, .cx (some c) (some d)), (10, .opq (.complex .f64 4607182418800017408 0)), (38, .int .i64 n), (39, .int .i64 i)]) (memOf [])
def jA1 (c d : Nat) (n : Int) (r m : Nat) (k : Nat) (o : List Int) (a b : Option Nat) (i : Int) : Ob := loopN X1 (c2 _) anA r 10 pA gLook m (frOf 76 [(8, .own 0 k), (9, .cx (some c) (some d)), (10, .cx a b), (38, .int .i64 n), (39, .int .i64 i)]) (memOf [.list 5 (.int .u8) o 0 false false])
set_option maxRecDepth 100000 in
theorem stepA1 (c d : Nat) (n : Int) (r m : Nat) (k : Nat) (o : List Int) (a b : Option Nat) (i : Int) : jA1 c d n r (m + 1) k o a b i =
    pick2 (ltI i n) (appA o (viewA a) fun _ o1 => appA o1 (viewA b) fun k2 o2 => jA1 c d n r m k2 o2 (nextA a b (some c) (some d)) (nextB a b (some c) (some d)) (IntKind.wrap .i64 (i + 1))) (obO k o) := by kernel_rfl
set_option maxRecDepth 100000 in
theorem stepA0 (c d : Nat) (n : Int) (r m : Nat) (i : Int) : jA0 c d n r (m + 1) i =
    pick2 (ltI i n) (appA [] (viewA (some one64)) fun _ o1 => appA o1 (viewA (some 0)) fun k2 o2 => jA1 c d n r m k2 o2 (nextA (some one64) (some 0) (some c) (some d)) (nextB (some one64) (some 0) (some c) (some d)) (IntKind.wrap .i64 (i + 1))) (some (.tup [.nils, .int .i64 0], none)) := by kernel_rfl
set_option maxRecDepth 100000 in
theorem enterA (re im n : Int) (r : Nat) : enterT X1 (c2 _) anA r 10 [.int .i64 re, .int .i64 im, .int .i64 n] TMem.empty gLook = badT re im n (jA0 (fI re) (fI im) n r r 0) := by kernel_rfl

/-! ### The document's -/
def pB : List Bool := [true, true, true, true, true, true, false, true, false]
def anB : FnAnn := ⟨annOf [9, 2, 10, 11, 12, 13, 14] pB, .none, []⟩
def jB0 (c d : Nat) (n : Int) (r m : Nat) (i : Int) : Ob := loopN X1 (c2 _) anB r 11 pB gLook m (frOf 79 [(9, .nils), (2, .int .i64 n), (10, .flt 4607182418800017408), (11, .flt 0), (12, .flt c), (13, .flt d), (14, .int .i64 i)]) (memOf [])
def jB1 (c d : Nat) (n : Int) (r m : Nat) (k : Nat) (o : List Int) (a b : Option Nat) (i : Int) : Ob := loopN X1 (c2 _) anB r 11 pB gLook m (frOf 79 [(9, .own 0 k), (2, .int .i64 n), (10, .fl a), (11, .fl b), (12, .flt c), (13, .flt d), (14, .int .i64 i)]) (memOf [.list 5 (.int .u8) o 0 false false])
set_option maxRecDepth 100000 in
theorem stepB1 (c d : Nat) (n : Int) (r m : Nat) (k : Nat) (o : List Int) (a b : Option Nat) (i : Int) : jB1 c d n r (m + 1) k o a b i =
    pick2 (ltI i n) (appA o (fbO a) fun _ o1 => appA o1 (fbO b) fun k2 o2 => jB1 c d n r m k2 o2 (nextA a b (some c) (some d)) (nextB a b (some c) (some d)) (IntKind.wrap .i64 (i + 1))) (obO k o) := by kernel_rfl
set_option maxRecDepth 100000 in
theorem stepB0 (c d : Nat) (n : Int) (r m : Nat) (i : Int) : jB0 c d n r (m + 1) i =
    pick2 (ltI i n) (appA [] (fbO (some one64)) fun _ o1 => appA o1 (fbO (some 0)) fun k2 o2 => jB1 c d n r m k2 o2 (nextA (some one64) (some 0) (some c) (some d)) (nextB (some one64) (some 0) (some c) (some d)) (IntKind.wrap .i64 (i + 1))) (some (.tup [.nils, .int .i64 0], none)) := by kernel_rfl
set_option maxRecDepth 100000 in
theorem enterB (re im n : Int) (r : Nat) : enterT X1 (c2 _) anB r 11 [.int .i64 re, .int .i64 im, .int .i64 n] TMem.empty gLook = badT re im n (jB0 (fI re) (fI im) n r r 0) := by kernel_rfl

/-! ### What both come to -/
def pwL : Nat → Option Nat → Option Nat → Option Nat → Option Nat → List Int
  | 0, _, _, _, _ => []
  | k + 1, a, b, c, d => fbO a ++ (fbO b ++ pwL k (nextA a b c d) (nextB a b c d) c d)
theorem pwL_len (c d : Option Nat) : ∀ (k : Nat) (a b : Option Nat), (pwL k a b c d).length = 16 * k
  | 0, _, _ => rfl
  | k + 1, a, b => by
    unfold pwL
    rw [List.length_append, List.length_append, fbO_len, fbO_len, pwL_len c d k]; omega
theorem loopP {vw : Option Nat → List Int} (hv : ∀ a, vw a = fbO a) {c d : Nat} {n : Int} (hn : n ≤ 64) {J : Nat → Nat → List Int → Option Nat → Option Nat → Int → Ob}
    (step : ∀ m k o a b i, J (m + 1) k o a b i = pick2 (ltI i n) (appA o (vw a) fun _ o1 => appA o1 (vw b) fun k2 o2 => J m k2 o2 (nextA a b (some c) (some d)) (nextB a b (some c) (some d)) (IntKind.wrap .i64 (i + 1))) (obO k o)) :
    ∀ (q m : Nat) (o : List Int) (a b : Option Nat) (i : Nat), (i : Int) + q = n → q < m → o.length = 16 * i → J m o.length o a b i = obO (o ++ pwL q a b (some c) (some d)).length (o ++ pwL q a b (some c) (some d)) := by
  intro q
  induction q with
  | zero =>
    intro m o a b i hi hm ho
    obtain ⟨m, rfl⟩ : ∃ m', m = m' + 1 := ⟨m - 1, by omega⟩
    rw [step, ltF (by omega)]
    show obO _ _ = _
    rw [pwL, List.append_nil]
  | succ q ih =>
    intro m o a b i hi hm ho
    obtain ⟨m, rfl⟩ : ∃ m', m = m' + 1 := ⟨m - 1, by omega⟩
    rw [step, ltT (by omega)]
    show appA _ _ _ = _
    rw [hv, hv, appA_in (by rw [fbO_len]; omega), appA_in (by rw [List.length_append, fbO_len, fbO_len]; omega), ← List.length_append, i64_in (n := (i : Int) + 1) (by omega) (by omega)]
    have := ih m (o ++ fbO a ++ fbO b) (nextA a b (some c) (some d)) (nextB a b (some c) (some d)) (i + 1) (by omega) (by omega) (by rw [List.length_append, List.length_append, fbO_len, fbO_len]; omega)
    refine this.trans ?_
    rw [pwL, List.append_assoc, List.append_assoc]
theorem loopP0 {vw : Option Nat → List Int} (hv : ∀ a, vw a = fbO a) {c d : Nat} {n : Int} (h1 : 1 ≤ n) (hn : n ≤ 64) {J : Nat → Nat → List Int → Option Nat → Option Nat → Int → Ob} {J0 : Nat → Int → Ob} {e : Ob}
    (step : ∀ m k o a b i, J (m + 1) k o a b i = pick2 (ltI i n) (appA o (vw a) fun _ o1 => appA o1 (vw b) fun k2 o2 => J m k2 o2 (nextA a b (some c) (some d)) (nextB a b (some c) (some d)) (IntKind.wrap .i64 (i + 1))) (obO k o))
    (step0 : ∀ m i, J0 (m + 1) i = pick2 (ltI i n) (appA [] (vw (some one64)) fun _ o1 => appA o1 (vw (some 0)) fun k2 o2 => J m k2 o2 (nextA (some one64) (some 0) (some c) (some d)) (nextB (some one64) (some 0) (some c) (some d)) (IntKind.wrap .i64 (i + 1))) e) :
    J0 66 0 = obO (pwL n.toNat (some one64) (some 0) (some c) (some d)).length (pwL n.toNat (some one64) (some 0) (some c) (some d)) := by
  rw [step0, ltT (by omega)]
  show appA _ _ _ = _
  obtain ⟨q, hq⟩ : ∃ q : Nat, n.toNat = q + 1 := ⟨n.toNat - 1, by omega⟩
  rw [hv, hv, appA_in (by rw [fbO_len]; decide), appA_in (by rw [List.length_append, fbO_len, fbO_len]; decide), ← List.length_append, hq, pwL, List.nil_append]
  have := loopP hv hn step q 65 (fbO (some one64) ++ fbO (some 0)) (nextA (some one64) (some 0) (some c) (some d)) (nextB (some one64) (some 0) (some c) (some d)) 1 (by omega) (by omega) (by rw [List.length_append, fbO_len, fbO_len])
  refine Eq.trans ?_ (this.trans ?_)
  · rfl
  · rw [List.append_assoc]
def badB (re im n : Int) : Bool := decide (n < 1) || decide (64 < n) || decide (re < -9007199254740992) || decide (9007199254740992 < re) || decide (im < -9007199254740992) || decide (9007199254740992 < im)
theorem badT_eq (re im n : Int) (go : Ob) : badT re im n go = if badB re im n = true then obE else go := by
  unfold badT badB
  simp only [pick_lt]
  by_cases h1 : n < 1
  · simp [h1]
  by_cases h2 : 64 < n
  · simp [h1, h2]
  by_cases h3 : re < -9007199254740992
  · simp [h1, h2, h3]
  by_cases h4 : 9007199254740992 < re
  · simp [h1, h2, h3, h4]
  by_cases h5 : im < -9007199254740992
  · simp [h1, h2, h3, h4, h5]
  by_cases h6 : 9007199254740992 < im
  · simp [h1, h2, h3, h4, h5, h6]
  · simp [h1, h2, h3, h4, h5, h6]
def pwF (re im n : Int) : List Int := if badB re im n = true then [] else pwL n.toNat (some one64) (some 0) (some (fI re)) (some (fI im))
def gPw (args : List AV) : Option (Bool × List PRes) :=
  match args with
  | [.int .i64 re, .int .i64 im, .int .i64 n] => some (true, [.list 5 (.int .u8) (pwF re im n), .val (.int .i64 (if badB re im n = true then 5 else 0))])
  | _ => none
theorem con_pw {f : FuncId} (hk : ∀ args, kn f args = none) {an : FnAnn} {J0 : Nat → Nat → Int → Nat → Int → Ob} (h : ∀ re im n, enterT X1 (c2 _) an 66 f [.int .i64 re, .int .i64 im, .int .i64 n] TMem.empty gLook = badT re im n (J0 (fI re) (fI im) n 66 0))
    (h0 : ∀ c d n, 1 ≤ n → n ≤ 64 → J0 c d n 66 0 = obO (pwL n.toNat (some one64) (some 0) (some c) (some d)).length (pwL n.toNat (some one64) (some 0) (some c) (some d))) : ConOk X1 (cfOf X1 kn) f gPw := by
  intro args rs hg
  unfold gPw at hg
  split at hg
  case h_2 => cases hg
  rename_i re im n
  simp only [Option.some.injEq, Prod.mk.injEq] at hg
  obtain ⟨_, rfl⟩ := hg
  have hrun := h re im n
  rw [badT_eq] at hrun
  unfold pwF
  by_cases hb : badB re im n = true
  · rw [if_pos hb] at hrun ⊢
    obtain ⟨v, M1, k1, k2⟩ := nrun_obs hk (c2_ok _) hrun
    have e : v = .tup [.nils, .int .i64 5] := gLook_inv k1
    rw [e] at k2
    rw [if_pos hb]
    exact ⟨_, M1, k2 [.nils, .int .i64 5] rfl, rfl, .inr ⟨rfl, rfl, rfl, rfl, trivial⟩⟩
  · rw [if_neg hb] at hrun ⊢
    have hb' : 1 ≤ n ∧ n ≤ 64 := by
      unfold badB at hb
      simp only [Bool.or_eq_true, decide_eq_true_eq, not_or] at hb
      omega
    rw [h0 _ _ _ hb'.1 hb'.2] at hrun
    rw [if_neg hb]
    generalize pwL n.toNat (some one64) (some 0) (some (fI re)) (some (fI im)) = l at *
    obtain ⟨v, M1, k1, k2⟩ := nrun_obs hk (c2_ok _) hrun
    have e : v = .tup [.own 0 l.length, .int .i64 0] := gLook_inv k1
    rw [e] at k1 k2
    exact ⟨_, M1, k2 [.own 0 l.length, .int .i64 0] rfl, rfl, .inl ⟨0, 0, false, rfl, (Prod.mk.inj (Option.some.inj k1)).2, by simp, rfl, rfl, trivial⟩⟩
theorem conA2 : ConOk X1 (cfOf X1 kn) 10 gPw :=
  con_pw (fun args => kn_none rfl args) (J0 := fun c d n m i => jA0 c d n 66 m i) (fun re im n => enterA re im n 66) fun c d n h1 h2 =>
    loopP0 viewA_eq h1 h2 (J := fun m k o a b i => jA1 c d n 66 m k o a b i) (fun m k o a b i => stepA1 c d n 66 m k o a b i) (fun m i => stepA0 c d n 66 m i)
theorem conB2 : ConOk X1 (cfOf X1 kn) 11 gPw :=
  con_pw (fun args => kn_none rfl args) (J0 := fun c d n m i => jB0 c d n 66 m i) (fun re im n => enterB re im n 66) fun c d n h1 h2 =>
    loopP0 (fun _ => rfl) h1 h2 (J := fun m k o a b i => jB1 c d n 66 m k o a b i) (fun m k o a b i => stepB1 c d n 66 m k o a b i) (fun m i => stepB0 c d n 66 m i)
def N2 : List Con := (10, [none, none, none], gPw) :: (11, [none, none, none], gPw) :: N1
theorem N2_ok : TabOk X1 (cfOf X1 kn) N2 := .cons conA2 (.cons conB2 N1_ok)
def c3 (β : Type) : CallT β := callT X1 (tab N2) inl 200 β 40
theorem c3_ok (β : Type) : CallTOk X1 (cfOf X1 kn) (c3 β) := callT_ok N2_ok (fun f h args => kn_none h args) 200 40 β
end
end Go.Proofs.YtfggompceldfgaaGreatDoor.sy
