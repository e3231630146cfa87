/- Expressions: the tokens of one. -/
import Derived.Test.YtpaddkkfefgkfaaDoorEf
namespace Go.Proofs.YtpaddkkfefgkfaaDoor.ex
open Go.Tv Go.Ev Go.Px
noncomputable section

theorem enterSo (op : Int) : enterT X0 (cN M8 [] AV) an0 5 40 [.int .i64 op] TMem.empty (fun v _ => some v) =
    pick2 (eqI op 3) (some (.str [36])) (pick2 (eqI op 4) (some (.str [36, 36])) ((fun rest => pick2 (eqI op 5) (pick2 (eqI op 5) (some (.str [45])) rest) (pick2 (eqI op 11) (some (.str [45])) rest))
      (pick2 (eqI op 6) (some (.str [126])) (pick2 (eqI op 7) (some (.str [42])) (pick2 (eqI op 8) (some (.str [47])) (pick2 (eqI op 9) (some (.str [37])) (pick2 (eqI op 10) (some (.str [43])) (pick2 (eqI op 12) (some (.str [60, 60])) (pick2 (eqI op 13) (some (.str [62, 62])) (pick2 (eqI op 14) (some (.str [38])) (pick2 (eqI op 15) (some (.str [94])) (some (.str [124]))))))))))))) := by kernel_rfl
theorem runSo (op : Int) : enterT X0 (cN M8 [] AV) an0 5 40 [.int .i64 op] TMem.empty (fun v _ => some v) = some (.str (Px.signOf op)) := by
  rw [enterSo]
  simp only [pick_eq]
  unfold Px.signOf
  by_cases h3 : op = 3
  · simp only [if_pos h3]
  simp only [if_neg h3]
  by_cases h4 : op = 4
  · simp only [if_pos h4]
  simp only [if_neg h4]
  by_cases h5 : op = 5
  · simp only [if_pos h5, if_pos (show op = 5 ∨ op = 11 from .inl h5)]
  simp only [if_neg h5]
  by_cases h11 : op = 11
  · simp only [if_pos h11, if_pos (show op = 5 ∨ op = 11 from .inr h11)]
  simp only [if_neg h11, if_neg (show ¬ (op = 5 ∨ op = 11) from fun h => h.elim h5 h11)]
  repeat' split
  all_goals first | rfl | (exfalso; omega)
def gSo (args : List AV) : Option (Bool × List PRes) :=
  match args with
  | [.int .i64 op] => some (true, [.val (.str (Px.signOf op))])
  | _ => none
theorem con_so : ConOk X0 cf0 40 gSo :=
  con_vals (nk 40) (cN_ok M8_ok n0) fun args rs hg => by
    unfold gSo at hg
    split at hg
    · rename_i op
      simp only [Option.some.injEq, Prod.mk.injEq] at hg
      obtain ⟨h1, rfl⟩ := hg
      exact ⟨[.str (Px.signOf op)], an0, 5, runSo op, rfl, rfl⟩
    · cases hg
def M9 : List Con := (40, [none], gSo) :: M8
theorem M9_ok : TabOk X0 cf0 M9 := .cons con_so M8_ok

abbrev TxF := List Nd → Int → Bool → Option (List Tok)
/-- What is handed to text, and what comes of it. -/
def gXt (rec : TxF) (ins : List NRes) : Option (Bool × List NRes × List NRes) :=
  match ins with
  | [.list t0 t l, .val X, .val (.int .i64 a), .val (.bool w)] =>
    match castL t tyTok l, asLs tyNd X with
    | some l, some x => some (Nat.beq t0 57 && ((rec x a w).isSome && Nat.ble (l.length + ((rec x a w).getD []).length) 1000000), [], [.list 57 tyTok (l ++ (rec x a w).getD [])])
    | _, _ => none
  | _ => none
def cXt (rec : TxF) : NCon := ⟨none, [some (57, tyTok), none, none, none], gXt rec⟩
def N2 (rec : TxF) : List ConN := [(25, cXt rec)]
abbrev OutT2 := Nat × Option Row
abbrev OutT := Option OutT2
def kT (v : AV) (H : TMem) : OutT :=
  match v with
  | .own i n => some (n, H.get i)
  | _ => none
def inXt (l : List Tok) (x : List Nd) (a : Int) (w : Bool) : List NRes := [.list 57 tyTok l, .val (.lst tyNd x), .val (.int .i64 a), .val (.bool w)]
def outT (l : List Tok) (n : Nat) : OutT := some (n, some (.list 57 tyTok l 0 false false))
def appT (l : List Tok) (t : Tok) (k : List Tok → Nat → OutT) : OutT := pick2 (Nat.ble (l.length + 1) 1000000) (k (l ++ [t]) (l.length + 1)) none
def subT (rec : TxF) (x : List Nd) (a : Int) (l : List Tok) (k : List Tok → Nat → OutT) : OutT :=
  pick2 (true && ((rec x a false).isSome && Nat.ble (l.length + ((rec x a false).getD []).length) 1000000)) (k (l ++ (rec x a false).getD []) (l ++ (rec x a false).getD []).length) none
def biT (rec : TxF) (x : List Nd) (nd : Nd) (w : Bool) (l : List Tok) : OutT :=
  subT rec x nd.2.2.2.1 l fun l _ => appT l (sgn (Px.signOf nd.1)) fun l _ => subT rec x nd.2.2.2.2 l fun l n => pick2 (!w) (appT l (sgn [41]) outT) (outT l n)
def treeXt (rec : TxF) (x : List Nd) (w : Bool) (l : List Tok) (nd : Nd) : OutT :=
  pick2 (eqI nd.1 1) (appT l (2, nd.2.1, [], 0) outT) (pick2 (eqI nd.1 2) (appT l (1, 0, nd.2.2.1, 0) outT) (pick2 (!ltI 4 nd.1) (appT l (sgn (Px.signOf nd.1)) outT)
    (pick2 (!ltI 6 nd.1) (appT l (sgn (Px.signOf nd.1)) fun l _ => subT rec x nd.2.2.2.1 l outT)
      (pick2 (!w) (appT l (sgn [40]) fun l _ => biT rec x nd w l) (biT rec x nd w l)))))
set_option maxRecDepth 100000 in
theorem enterXt (rec : TxF) (l : List Tok) (x : List Nd) (a : Int) (w : Bool) (r : Nat) : enterT X0 (cN M9 (N2 rec) OutT2) an0 r 25 (Tv.cellsIn 0 (inXt l x a w)) (listsIn TMem.empty (inXt l x a w)) kT =
    Option.rec (motive := fun _ => OutT) none (fun nd => treeXt rec x w l nd) (getI x a) := by kernel_rfl

def toT (l : List Tok) : Option (List Tok) → OutT
  | some r => outT (l ++ r) (l ++ r).length
  | none => none

theorem appT_eq {l : List Tok} {t : Tok} {k : List Tok → Nat → OutT} (h : l.length + 1 ≤ 1000000) : appT l t k = k (l ++ [t]) (l ++ [t]).length := by
  unfold appT
  rw [bleT h]; simp
theorem subT_eq {rec : TxF} {x : List Nd} {a : Int} {l r : List Tok} {k : List Tok → Nat → OutT} (hr : rec x a false = some r) (h : l.length + r.length ≤ 1000000) : subT rec x a l k = k (l ++ r) (l ++ r).length := by
  unfold subT
  rw [hr]
  show pick2 (true && (true && Nat.ble (l.length + r.length) 1000000)) _ _ = _
  rw [bleT h]; rfl

theorem runXt (k : Nat) (l : List Tok) (x : List Nd) (a : Int) (w : Bool) (u : List Tok) (hu : textF x (k + 1) a w = some u) (hl : l.length + u.length ≤ 1000000) (r : Nat) :
    enterT X0 (cN M9 (N2 fun x => textF x k) OutT2) an0 r 25 (Tv.cellsIn 0 (inXt l x a w)) (listsIn TMem.empty (inXt l x a w)) kT = outT (l ++ u) (l ++ u).length := by
  rw [enterXt, getI_at?]
  unfold textF at hu
  cases hat : at? x a with
  | none => rw [hat] at hu; cases hu
  | some nd =>
    rw [hat] at hu
    simp only at hu
    show treeXt _ _ _ _ nd = _
    unfold treeXt
    simp only [pick_eq, pick_nlt]
    by_cases h1 : nd.1 = 1
    · rw [if_pos h1] at hu ⊢
      cases hu
      exact appT_eq (by simpa using hl)
    rw [if_neg h1] at hu ⊢
    by_cases h2 : nd.1 = 2
    · rw [if_pos h2] at hu ⊢
      cases hu
      exact appT_eq (by simpa using hl)
    rw [if_neg h2] at hu ⊢
    by_cases h4 : nd.1 ≤ 4
    · rw [if_pos h4] at hu ⊢
      cases hu
      exact appT_eq (by simpa using hl)
    rw [if_neg h4] at hu ⊢
    by_cases h6 : nd.1 ≤ 6
    · rw [if_pos h6] at hu ⊢
      split at hu
      · rename_i v hv
        cases hu
        simp only [List.length_cons] at hl
        rw [appT_eq (by omega), subT_eq (rec := fun x => textF x k) hv (by simp; omega)]
        simp
      · cases hu
    · rw [if_neg h6] at hu ⊢
      split at hu
      · rename_i v1 v2 hv1 hv2
        cases hu
        cases w with
        | true =>
          simp only [if_true, List.nil_append, List.append_nil, List.length_append, List.length_cons] at hl
          show biT _ _ _ _ _ = _
          unfold biT
          rw [subT_eq (rec := fun x => textF x k) hv1 (by omega), appT_eq (by simp; omega), subT_eq (rec := fun x => textF x k) hv2 (by simp; omega)]
          show outT _ _ = _
          simp
        | false =>
          simp only [Bool.false_eq_true, if_false, List.length_append, List.length_cons, List.length_nil] at hl
          show appT _ _ _ = _
          rw [appT_eq (by omega)]
          unfold biT
          rw [subT_eq (rec := fun x => textF x k) hv1 (by simp; omega), appT_eq (by simp; omega), subT_eq (rec := fun x => textF x k) hv2 (by simp; omega)]
          show appT _ _ _ = _
          rw [appT_eq (by simp; omega)]
          simp
      · cases hu

/-- **text**, to any depth. -/
theorem con_xt : ∀ k : Nat, NConOk X0 cf0 25 (cXt fun x => textF x k)
  | 0 => by
    intro ins outs rs hg
    exfalso
    have hg : gXt (fun x => textF x 0) ins = some (true, outs, rs) := hg
    unfold gXt at hg
    split at hg
    · split at hg
      · simp [textF] at hg
      · cases hg
    · cases hg
  | k + 1 => by
    intro ins outs rs hg
    have hg : gXt (fun x => textF x (k + 1)) ins = some (true, outs, rs) := hg
    show ins.length = _ → _
    unfold gXt at hg
    split at hg
    case h_2 => cases hg
    rename_i t0 t l X a w _
    split at hg
    case h_2 => cases hg
    rename_i l' x hl hx
    obtain ⟨rfl, hl2⟩ := castL_spec hl
    have hl2 : l = l' := hl2
    subst hl2
    simp only [Option.some.injEq, Prod.mk.injEq, Bool.and_eq_true] at hg
    obtain ⟨⟨g0, g1, g2⟩, rfl, rfl⟩ := hg
    obtain rfl := Nat.eq_of_beq_eq_true g0
    obtain ⟨u, hu⟩ := Option.isSome_iff_exists.1 g1
    rw [hu] at g2 ⊢
    have g2 := Nat.le_of_ble_eq_true g2
    rcases asLs_spec hx with rfl | ⟨rfl, rfl⟩
    · have hrun := runXt k l x a w u hu g2 5
      unfold outT at hrun
      obtain ⟨v, M1, h1, h2⟩ := nrun_obs (nk _) (cN_ok M9_ok (.cons (con_xt k) .nil) OutT2) hrun
      intro _
      unfold kT at h1
      split at h1
      · rename_i id n
        simp only [Option.some.injEq, Prod.mk.injEq] at h1
        obtain ⟨rfl, hrow⟩ := h1
        exact ⟨[.own id (l ++ u).length], M1, h2 [.own id (l ++ u).length] rfl, .inl ⟨id, 0, false, rfl, hrow, by simp, trivial⟩⟩
      · cases h1
    · have : at? ([] : List Nd) a = none := by cases a <;> rfl
      unfold textF at hu
      rw [this] at hu; cases hu

/-! ### Text -/
theorem toks_len : ∀ (t : T) (w : Bool), (t.toks w).length ≤ 3 * t.size
  | .leaf _, _ => by simp [T.toks, T.size]
  | .un _ a, _ => by have := toks_len a false; simp only [T.toks, T.size, List.length_cons]; omega
  | .bi _ u v, w => by
    have h1 := toks_len u false
    have h2 := toks_len v false
    cases w <;> simp [T.toks, T.size] <;> omega
def textD (x : List Nd) : List Tok := (textF x 201 (x.length - 1) true).getD []
theorem textD_tree {x : List Nd} (h : chkF nameB x = 0) : ∃ t : T, t.ok nameB ∧ x = t.post 0 ∧ textF x 201 (x.length - 1) true = some (t.toks true) ∧ textD x = t.toks true ∧ (t.toks true).length ≤ 600 ∧ 0 < x.length ∧ x.length ≤ 200 := by
  obtain ⟨t, h1, h2, h3⟩ := chk_tree h
  have hs : t.size = x.length := by rw [h2, T.post_len]
  have ht := text_tree t h1 x [] [] 201 true (by rw [h2]; simp) (by omega)
  simp only [List.length_nil, Nat.zero_add] at ht
  rw [hs] at ht
  have := toks_len t true
  have := t.size_pos
  exact ⟨t, h1, h2, ht, by unfold textD; rw [ht]; rfl, by omega, by omega, h3⟩
def gText (args : List AV) : Option (Bool × List PRes) :=
  match args with
  | [L] => match asLs tyNd L with
    | some x => some (true, [.list 57 tyTok (if chkF nameB x = 0 then textD x else []), .val (.int .i64 (chkF nameB x))])
    | none => none
  | _ => none
abbrev cT : (β : Type) → CallT β := cN M9 (N2 fun x => textF x 201)
set_option maxRecDepth 100000 in
theorem enterText (x : List Nd) (r : Nat) : enterT X0 (cT _) an0 r 20 [.lst tyNd x] TMem.empty kGet =
    pick2 (!eqI (chkF nameB x) 0) (some (.tup [.nils, .int .i64 (chkF nameB x)], none))
      (pick2 (true && ((textF x 201 (IntKind.wrap .i64 (x.length - 1)) true).isSome && Nat.ble (([] : List Tok).length + ((textF x 201 (IntKind.wrap .i64 (x.length - 1)) true).getD []).length) 1000000))
        (some (.tup [.own 0 ([] ++ (textF x 201 (IntKind.wrap .i64 (x.length - 1)) true).getD []).length, .int .i64 0], some (.list 57 tyTok ([] ++ (textF x 201 (IntKind.wrap .i64 (x.length - 1)) true).getD []) 0 false false))) none) := by kernel_rfl
set_option maxRecDepth 100000 in
theorem enterText0 (r : Nat) : enterT X0 (cT _) an0 r 20 [.nils] TMem.empty kGet = some (.tup [.nils, .int .i64 2], none) := by kernel_rfl
theorem con_text : ConOk X0 cf0 20 gText := by
  intro args rs hg
  unfold gText at hg
  split at hg
  case h_2 => cases hg
  rename_i L
  split at hg
  case h_2 => cases hg
  rename_i x hx
  simp only [Option.some.injEq, Prod.mk.injEq] at hg
  obtain ⟨_, rfl⟩ := hg
  have fin : ∀ (o : Option Row) (v0 : AV), enterT X0 (cT _) an0 5 20 [L] TMem.empty kGet = some (.tup [v0, .int .i64 (chkF nameB x)], o) → ((v0 = .nils ∧ chkF nameB x ≠ 0) ∨ ∃ id, v0 = .own id (textD x).length ∧ o = some (.list 57 tyTok (textD x) 0 false false) ∧ chkF nameB x = 0) →
      ∃ vs H1, PureAt X0 cf0 20 [L] vs H1 ∧ resAt H1 [] vs [.list 57 tyTok (if chkF nameB x = 0 then textD x else []), .val (.int .i64 (chkF nameB x))] := fun o v0 h hv => by
    obtain ⟨v, M1, h1, h2⟩ := nrun_obs (nk _) (cN_ok M9_ok (.cons (con_xt 201) .nil) (AV × Option Row)) h
    have e := kGet_inv h1
    subst e
    refine ⟨_, M1, h2 [v0, .int .i64 (chkF nameB x)] rfl, rfl, ?_⟩
    rcases hv with ⟨rfl, hne⟩ | ⟨id, rfl, rfl, h0⟩
    · exact .inr ⟨rfl, by rw [if_neg hne], rfl, rfl, trivial⟩
    · rw [if_pos h0]
      exact .inl ⟨id, 0, false, rfl, (Prod.mk.inj (Option.some.inj h1)).2, by simp, rfl, rfl, trivial⟩
  rcases asLs_spec hx with rfl | ⟨rfl, rfl⟩
  · by_cases h0 : chkF nameB x = 0
    · obtain ⟨t, k1, k2, k3, k4, k5, k6, k7⟩ := textD_tree h0
      refine fin (some (.list 57 tyTok (textD x) 0 false false)) (.own 0 (textD x).length) ?_ (.inr ⟨0, rfl, rfl, h0⟩)
      rw [enterText, pick_neq, if_pos h0, i64_in (n := (x.length : Int) - 1) (by omega) (by omega), k3, k4, h0]
      show pick2 (true && (true && Nat.ble (([] : List Tok).length + (t.toks true).length) 1000000)) _ _ = _
      rw [bleT (by simp; omega)]
      rfl
    · refine fin none .nils ?_ (.inl ⟨rfl, h0⟩)
      rw [enterText, pick_neq, if_neg h0]
  · exact fin none .nils (enterText0 5) (.inl ⟨rfl, by decide⟩)
def M10 : List Con := (20, [some tyNd], gText) :: M9
theorem M10_ok : TabOk X0 cf0 M10 := .cons con_text M9_ok
end
end Go.Proofs.YtpaddkkfefgkfaaDoor.ex
