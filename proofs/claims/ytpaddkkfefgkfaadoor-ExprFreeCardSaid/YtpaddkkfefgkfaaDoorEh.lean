/- Expressions: told and read again. -/
import Derived.Test.YtpaddkkfefgkfaaDoorEg
namespace Go.Proofs.YtpaddkkfefgkfaaDoor.ex
open Go.Tv Go.Ev Go.Px
noncomputable section

def eqNd (x y : Nd) : Bool := decide (x.1 = y.1) && (decide (x.2.1 = y.2.1) && (decide (x.2.2.1 = y.2.2.1) && (decide (x.2.2.2.1 = y.2.2.2.1) && decide (x.2.2.2.2 = y.2.2.2.2))))
theorem eqNd_iff (x y : Nd) : eqNd x y = true ↔ x = y := by
  obtain ⟨a, b, c, d, e⟩ := x
  obtain ⟨a', b', c', d', e'⟩ := y
  simp [eqNd]
def pSn : List Bool := [true, true, false, true, false]
def anSn : FnAnn := ⟨annOf [0, 1, 4, 5] pSn, .none, []⟩
def jSn (x y : List Nd) (r m : Nat) (i : Int) : Option AV := loopN X0 (cN M10 [] AV) anSn r 21 pSn (fun v _ => some v) m (frOf 26 [(0, .lst tyNd x), (1, .lst tyNd y), (4, .bool false), (5, .int .i64 i)]) (memOf [])
set_option maxRecDepth 100000 in
theorem stepSn (x y : List Nd) (r m : Nat) (i : Int) : jSn x y r (m + 1) i = pick2 (ltI i x.length) (Option.rec (motive := fun _ => Option AV) none (fun a => Option.rec (motive := fun _ => Option AV) none (fun b => pick2 (!eqNd a b) (some (.bool false)) (jSn x y r m (IntKind.wrap .i64 (i + 1)))) (getI y i)) (getI x i)) (some (.bool true)) := by kernel_rfl
set_option maxRecDepth 100000 in
theorem enterSn (x y : List Nd) (r : Nat) : enterT X0 (cN M10 [] AV) anSn r 21 [.lst tyNd x, .lst tyNd y] TMem.empty (fun v _ => some v) = pick2 (!eqI x.length y.length) (some (.bool false)) (jSn x y r r 0) := by kernel_rfl
theorem loopSn (x y : List Nd) (hx : x.length < 1000000) (hxy : x.length = y.length) (r : Nat) : ∀ (rest pre : List Nd) (rest' : List Nd) (m : Nat), x = pre ++ rest → y.drop pre.length = rest' → rest.length < m → jSn x y r m pre.length = some (.bool (decide (rest = rest'))) := by
  intro rest
  induction rest with
  | nil =>
    intro pre rest' m he hy hm
    obtain ⟨m, rfl⟩ : ∃ m', m = m' + 1 := ⟨m - 1, by simp at hm; omega⟩
    have hl : x.length = pre.length := by rw [he]; simp
    have : rest' = [] := by rw [← hy, List.drop_eq_nil_iff]; omega
    subst this
    rw [stepSn, ltF (by omega)]; rfl
  | cons a rest ih =>
    intro pre rest' m he hy hm
    obtain ⟨m, rfl⟩ : ∃ m', m = m' + 1 := ⟨m - 1, by simp at hm; omega⟩
    have hl : x.length = pre.length + (rest.length + 1) := by rw [he]; simp
    have hg : getI x (pre.length : Int) = some a := by rw [he]; exact getI_at pre rest a
    have hlt : pre.length < y.length := by omega
    have hg2 : getI y (pre.length : Int) = some y[pre.length] := by rw [getI_nat, List.getElem?_eq_getElem hlt]
    have hr : rest' = y[pre.length] :: y.drop (pre.length + 1) := by rw [← hy]; exact List.drop_eq_getElem_cons hlt
    have hin := ih (pre ++ [a]) (y.drop (pre.length + 1)) m (by rw [he]; simp) (by simp) (by simp at hm; omega)
    rw [List.length_append] at hin
    have hin : jSn x y r m ((pre.length : Int) + 1) = some (.bool (decide (rest = y.drop (pre.length + 1)))) := hin
    rw [stepSn, ltT (by omega), hg, hg2, i64_in (n := (pre.length : Int) + 1) (by omega) (by omega)]
    show pick2 (!eqNd a y[pre.length]) (some (.bool false)) (jSn x y r m ((pre.length : Int) + 1)) = _
    rw [hin, hr]
    cases he : eqNd a y[pre.length] with
    | true =>
      have := (eqNd_iff _ _).1 he
      show some (AV.bool _) = _
      rw [← this]; simp
    | false =>
      have hne : a ≠ y[pre.length] := fun h => by rw [(eqNd_iff _ _).2 h] at he; cases he
      show some (AV.bool false) = _
      rw [decide_eq_false (fun h => hne (List.cons.inj h).1)]
def gSn (args : List AV) : Option (Bool × List PRes) :=
  match args with
  | [L, R] => match asL tyNd L, asL tyNd R with
    | some x, some y => some (Nat.ble x.length 900000, [.val (.bool (decide (x = y)))])
    | _, _ => none
  | _ => none
theorem con_sn : ConOk X0 cf0 21 gSn :=
  con_vals (nk 21) (cN_ok M10_ok n0) fun args rs hg => by
    unfold gSn at hg
    split at hg
    case h_2 => cases hg
    split at hg
    case h_2 => cases hg
    rename_i x y hx hy
    have e1 := asL_spec hx
    have e2 := asL_spec hy
    subst e1; subst e2
    simp only [Option.some.injEq, Prod.mk.injEq] at hg
    obtain ⟨h1, rfl⟩ := hg
    have h1 := Nat.le_of_ble_eq_true h1
    refine ⟨[.bool (decide (x = y))], anSn, x.length + 1, ?_, rfl, rfl⟩
    rw [enterSn, pick_neq]
    by_cases h : x.length = y.length
    · rw [if_pos (by omega)]
      exact loopSn x y (by omega) h _ x [] y _ rfl rfl (by omega)
    · rw [if_neg (by omega), decide_eq_false (fun e => h (by rw [e]))]; rfl

/-! ### Too long -/
theorem long_loop {α : Type} {l : List α} (hl : l.length ≤ 9223372036854775807) {big : α → Bool} {most : Nat} {j : Nat → Int → Option AV} {A B : Option AV}
    (step : ∀ m i, j (m + 1) i = pick2 (ltI i l.length) (pick2 (!ltI most i) (Option.rec (motive := fun _ => Option AV) none (fun y => pick2 (big y) A (j m (IntKind.wrap .i64 (i + 1)))) (getI l i)) B) B) :
    ∀ (rest pre : List α) (m : Nat), l = pre ++ rest → rest.length < m → j m pre.length = if (rest.take (most + 1 - pre.length)).any big = true then A else B := by
  intro rest
  induction rest with
  | nil =>
    intro pre m he hm
    obtain ⟨m, rfl⟩ : ∃ m', m = m' + 1 := ⟨m - 1, by simp at hm; omega⟩
    have hl : l.length = pre.length := by rw [he]; simp
    rw [step, ltF (by omega)]; simp
  | cons a rest ih =>
    intro pre m he hm
    obtain ⟨m, rfl⟩ : ∃ m', m = m' + 1 := ⟨m - 1, by simp at hm; omega⟩
    have hl : l.length = pre.length + (rest.length + 1) := by rw [he]; simp
    have hg : getI l (pre.length : Int) = some a := by rw [he]; exact getI_at pre rest a
    rw [step, ltT (by omega), hg, i64_in (n := (pre.length : Int) + 1) (by omega) (by omega)]
    by_cases hp : most < pre.length
    · rw [ltT (by omega)]
      have : most + 1 - pre.length = 0 := by omega
      rw [this]; simp
    · rw [ltF (by omega)]
      have hin := ih (pre ++ [a]) m (by rw [he]; simp) (by simp at hm; omega)
      rw [List.length_append] at hin
      have hin : j m ((pre.length : Int) + 1) = if (rest.take (most + 1 - (pre.length + 1))).any big = true then A else B := hin
      show pick2 (big a) A (j m ((pre.length : Int) + 1)) = _
      rw [hin, show most + 1 - pre.length = (most + 1 - (pre.length + 1)) + 1 by omega, List.take_succ_cons, List.any_cons]
      cases big a <;> simp
def longB {α : Type} (big : α → Bool) (most : Nat) (l : List α) : Bool := (l.take (most + 1)).any big || decide (most < l.length)
theorem longB_no {α : Type} {big : α → Bool} {most : Nat} {l : List α} (h : longB big most l = false) : l.length ≤ most := by
  unfold longB at h
  simp only [Bool.or_eq_false_iff, decide_eq_false_iff_not] at h
  omega
def gLg (e : Ty) (big : e.den → Bool) (args : List AV) : Option (Bool × List PRes) :=
  match args with
  | [L, .int .i64 (.ofNat most)] => match asL e L with
    | some l => some (Nat.ble l.length 9223372036854775807 && Nat.ble most 900000, [.val (.bool (longB big most l))])
    | none => none
  | _ => none
theorem con_long {f : FuncId} {e : Ty} {big : e.den → Bool} {call : ∀ β, CallT β} (hcall : ∀ β, CallTOk X0 cf0 (call β)) (an : FnAnn) (j : List e.den → Nat → Nat → Nat → Int → Option AV)
    (h : ∀ (l : List e.den) (most r : Nat), enterT X0 (call AV) an r f [.lst e l, .int .i64 most] TMem.empty (fun v _ => some v) = j l most r r 0)
    (step : ∀ (l : List e.den) (most r m : Nat) (i : Int), j l most r (m + 1) i = pick2 (ltI i l.length) (pick2 (!ltI most i) (Option.rec (motive := fun _ => Option AV) none (fun y => pick2 (big y) (some (.bool true)) (j l most r m (IntKind.wrap .i64 (i + 1)))) (getI l i)) (some (.bool (ltI most l.length)))) (some (.bool (ltI most l.length)))) : ConOk X0 cf0 f (gLg e big) :=
  con_vals (nk f) hcall fun args rs hg => by
    unfold gLg at hg
    split at hg
    case h_2 => cases hg
    split at hg
    case h_2 => cases hg
    rename_i most _ l hx
    have e1 := asL_spec hx
    subst e1
    simp only [Option.some.injEq, Prod.mk.injEq, Bool.and_eq_true] at hg
    obtain ⟨⟨h1, h2⟩, rfl⟩ := hg
    have h1 := Nat.le_of_ble_eq_true h1
    have h2 := Nat.le_of_ble_eq_true h2
    refine ⟨[.bool (longB big most l)], an, l.length + 1, ?_, rfl, rfl⟩
    refine (h l most (l.length + 1)).trans ?_
    have := long_loop (l := l) (by omega) (step l most (l.length + 1)) l [] (l.length + 1) rfl (by omega)
    have this : j l most (l.length + 1) (l.length + 1) 0 = _ := this
    rw [this]
    unfold longB
    simp only [List.length_nil, Nat.sub_zero]
    split
    · rename_i ha; rw [ha]; rfl
    · rename_i ha
      have ha : (l.take (most + 1)).any big = false := by simpa using ha
      rw [ha, ltI_spec]
      show some (AV.bool (decide ((most : Int) < (l.length : Int)))) = some (AV.bool (false || decide (most < l.length)))
      simp
def pLg : List Bool := [true, false, true, false]
def anLg : FnAnn := ⟨annOf [0, 1, 4, 5] pLg, .none, []⟩
def jLn (l : List Nd) (most r m : Nat) (i : Int) : Option AV := loopN X0 (cN [] [] AV) anLg r 6 pLg (fun v _ => some v) m (frOf 28 [(0, .lst tyNd l), (1, .int .i64 most), (4, .bool false), (5, .int .i64 i)]) (memOf [])
def jLt (l : List Tok) (most r m : Nat) (i : Int) : Option AV := loopN X0 (cN [] [] AV) anLg r 12 pLg (fun v _ => some v) m (frOf 28 [(0, .lst tyTok l), (1, .int .i64 most), (4, .bool false), (5, .int .i64 i)]) (memOf [])
set_option maxRecDepth 100000 in
theorem con_ln : ConOk X0 cf0 6 (gLg tyNd fun y => ltI 100 y.2.2.1.length) :=
  con_long (cN_ok k0 n0) anLg jLn (fun l most r => by kernel_rfl) (fun l most r m i => by kernel_rfl)
set_option maxRecDepth 100000 in
theorem con_lt : ConOk X0 cf0 12 (gLg tyTok fun y => ltI 1100 y.2.2.1.length) :=
  con_long (cN_ok k0 n0) anLg jLt (fun l most r => by kernel_rfl) (fun l most r m i => by kernel_rfl)
def M11 : List Con := (21, [some tyNd, some tyNd], gSn) :: (6, [some tyNd, none], gLg tyNd fun y => ltI 100 y.2.2.1.length) :: (12, [some tyTok, none], gLg tyTok fun y => ltI 1100 y.2.2.1.length) :: M10
theorem M11_ok : TabOk X0 cf0 M11 := .cons con_sn (.cons con_ln (.cons con_lt M10_ok))

/-! ### again -/
def textX (x : List Nd) : List Tok := if chkF nameB x = 0 then textD x else []
set_option maxRecDepth 100000 in
theorem enterAg (x : List Nd) (r : Nat) : enterT X0 (cN M11 [] AV) an0 r 13 [.lst tyNd x] TMem.empty (fun v _ => some v) =
    pick2 (!eqI (chkF nameB x) 0) (pick2 (eqI (textX x).length 0) (some (.bool (eqI (chkF nameB x) (chkF nameB x)))) (some (.bool false)))
      (pick2 (Nat.ble (textX x).length 1000000) (pick2 (!eqI (parseD (textX x) 0).2.2.1 0) (some (.bool (eqI (parseD (textX x) 0).2.2.1 3)))
        (pick2 (eqI (parseD (textX x) 0).2.1 (textX x).length) (pick2 (Nat.ble x.length 900000) (some (.bool (decide (x = (parseD (textX x) 0).1)))) none) (some (.bool false)))) none) := by kernel_rfl
theorem runAg (x : List Nd) : enterT X0 (cN M11 [] AV) an0 5 13 [.lst tyNd x] TMem.empty (fun v _ => some v) = some (.bool true) := by
  rw [enterAg, pick_neq]
  by_cases h0 : chkF nameB x = 0
  · rw [if_pos h0]
    obtain ⟨t, k1, k2, k3, k4, k5, k6, k7⟩ := textD_tree h0
    have hT : textX x = t.toks true := by unfold textX; rw [if_pos h0, k4]
    rw [hT, bleT (by omega)]
    rcases again_tree k1 with ⟨f, h⟩ | h
    · have e : parseD (t.toks true) 0 = ([], 0, 3, f) := by unfold parseD; rw [h]; rfl
      rw [e]; rfl
    · have e : parseD (t.toks true) 0 = (t.post 0, ((t.toks true).length : Int), 0, 0) := by unfold parseD; rw [h]; rfl
      rw [e]
      show pick2 (eqI ((t.toks true).length : Int) ((t.toks true).length : Int)) _ _ = _
      rw [eqT rfl, bleT (by omega), ← k2]
      simp
  · rw [if_neg h0]
    unfold textX
    rw [if_neg h0, eqT (a := chkF nameB x) rfl]; rfl
def gAg (args : List AV) : Option (Bool × List PRes) :=
  match args with
  | [L] => match asL tyNd L with
    | some _ => some (true, [.val (.bool true)])
    | none => none
  | _ => none
theorem con_ag : ConOk X0 cf0 13 gAg :=
  con_vals (nk 13) (cN_ok M11_ok n0) fun args rs hg => by
    unfold gAg at hg
    split at hg
    case h_2 => cases hg
    split at hg
    case h_2 => cases hg
    rename_i x hx
    have e1 := asL_spec hx
    subst e1
    simp only [Option.some.injEq, Prod.mk.injEq] at hg
    obtain ⟨h1, rfl⟩ := hg
    exact ⟨[.bool true], an0, 5, runAg x, rfl, rfl⟩
theorem run_aw : enterT X0 (cN [] [] AV) an0 100 5 [] TMem.empty (fun v _ => some v) = some (.bool true) := by kernel_rfl
theorem con_aw : ConOk X0 cf0 5 gYes :=
  con_vals (nk 5) (cN_ok k0 n0) fun args rs hg => by
    unfold gYes at hg
    split at hg
    · simp only [Option.some.injEq, Prod.mk.injEq] at hg
      obtain ⟨_, rfl⟩ := hg
      exact ⟨[.bool true], an0, 100, run_aw, rfl, rfl⟩
    · cases hg
def M12 : List Con := (13, [some tyNd], gAg) :: (5, [], gYes) :: M11
theorem M12_ok : TabOk X0 cf0 M12 := .cons con_ag (.cons con_aw M11_ok)

/-! ### The law -/
set_option maxRecDepth 100000 in
theorem enterEb (x : List Nd) (l : List Tok) (a : Int) (r : Nat) : enterT X0 (cN M12 [] AV) an0 r 4 [.lst tyNd x, .lst tyTok l, .int .i64 a] TMem.empty (fun v _ => some v) =
    pick2 (Nat.ble x.length 9223372036854775807 && Nat.ble 220 900000) (pick2 (longB (fun y : Nd => ltI 100 y.2.2.1.length) 220 x) (some (.bool true)) (pick2 (Nat.ble l.length 9223372036854775807 && Nat.ble 450 900000) (pick2 (longB (fun y : Tok => ltI 1100 y.2.2.1.length) 450 l) (some (.bool true))
      (pick2 (Nat.ble l.length 1000000) (pick2 (!eqI (parseD l a).2.2.1 0)
          (pick2 (eqI (parseD l a).1.length 0) (some (.bool (eqI (parseD l a).2.1 0))) (some (.bool false)))
          (pick2 (eqI (chkF nameB (parseD l a).1) 0) (pick2 (ltI a (parseD l a).2.1) (pick2 (!ltI l.length (parseD l a).2.1) (some (.bool true)) (some (.bool false))) (some (.bool false))) (some (.bool false)))) none)) none)) none := by kernel_rfl
theorem backE (x : List Nd) (hx : x.length ≤ 9223372036854775807) (l : List Tok) (hl : l.length ≤ 9223372036854775807) (a : Int) : enterT X0 (cN M12 [] AV) an0 5 4 [.lst tyNd x, .lst tyTok l, .int .i64 a] TMem.empty (fun v _ => some v) = some (.bool true) := by
  rw [enterEb, bleT hx, bleT hl]
  show pick2 (longB _ 220 x) _ (pick2 (longB _ 450 l) _ _) = _
  obtain ⟨⟨y, e, f, g⟩, hr⟩ := parse_some (nm := nameB) l a
  have hp := parse_ok (nm := nameB) hr
  have hd : parseD l a = (y, e, f, g) := by unfold parseD; rw [hr]; rfl
  rw [hd]
  cases longB (fun y : Nd => ltI 100 y.2.2.1.length) 220 x with
  | true => rfl
  | false =>
    cases hlong : longB (fun y : Tok => ltI 1100 y.2.2.1.length) 450 l with
    | true => rfl
    | false =>
      have hl2 := longB_no hlong
      show pick2 (Nat.ble l.length 1000000) _ _ = _
      rw [bleT (show l.length ≤ 1000000 by omega)]
      show pick2 (!eqI f 0) _ _ = _
      rw [pick_neq]
      by_cases h0 : f = 0
      · rw [if_pos h0]
        obtain ⟨k1, k2, k3⟩ := hp.2 h0
        rw [k1]
        show pick2 (ltI a e) (pick2 (!ltI l.length e) _ _) _ = _
        rw [ltT k2, ltF k3]; rfl
      · rw [if_neg h0]
        obtain ⟨rfl, rfl⟩ := hp.1 h0
        rfl
/-- A run of the layer that comes to true is the machine's. -/
theorem top {call : ∀ β, CallT β} (hcall : ∀ β, CallTOk X0 cf0 (call β)) {an : FnAnn} {rounds : Nat} {f : FuncId} {args : List AV} (h : enterT X0 (call AV) an rounds f args TMem.empty (fun v _ => some v) = some (.bool true))
    {w : World} (hG : X0.G ≤ w.heap.size) (hg : GlobOk X0 (woOf w)) {args' : List Value} (hargs : LV (woOf w) args args') (hb : args.all argB = true) :
    Calls Tryd.prog f args'.toArray w fun e w' => e = .returned (.bool true) ∧ RowKit.Below w.heap.size w w' :=
  top_ok (X := X0) noOwn mixed noKnown_ok (v := .bool true) (fun S x hx => hx.bool_inv) rfl (fun S E argsE hr hg hl => top_run (nk f) hcall h S E argsE hr hg hl) hG hg hargs hb
end
end Go.Proofs.YtpaddkkfefgkfaaDoor.ex
