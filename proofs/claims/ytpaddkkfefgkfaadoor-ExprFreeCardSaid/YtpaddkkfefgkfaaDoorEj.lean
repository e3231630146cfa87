/- Expressions: the contract of Eval. -/
import Derived.Test.YtpaddkkfefgkfaaDoorEi
namespace Go.Proofs.YtpaddkkfefgkfaaDoor.ex
open Go.Tv Go.Ev Go.Px
noncomputable section
def pE : List Bool := [true, true, true, true, false, true, false]
def anE : FnAnn := ⟨annOf [2, 3, 1, 0, 8, 9, 10, 12, 13, 25, 26, 27] pE, .none, []⟩
def jE (L : AV) (x : List Nd) (h s : Int) (r m : Nat) (v : List Int) (p : Bool) (i : Int) : Option AV :=
  loopN X0 (cN M13 [] AV) anE r 10 pE (fun v _ => some v) m (frOf 114 [(2, .int .i64 h), (3, .int .i64 s), (1, L), (0, .lst tyNd x), (8, .int .i64 0), (9, .bool false), (10, .int .i64 0), (12, .apt 0 200), (13, .bool p), (25, .lst tyNd x), (26, .int .i64 x.length), (27, .int .i64 i)]) (memOf [.list 53 (.int .i64) v 0 true false])
def setV (v : List Int) (i : Int) (y : Int) (k : List Int → Option AV) : Option AV := Option.rec (motive := fun _ => Option AV) none (fun _ => k (v.set i.toNat y)) (getI v i)
def getV (v : List Int) (i : Int) (k : Int → Option AV) : Option AV := Option.rec (motive := fun _ => Option AV) none k (getI v i)
def errE (e : Int) : Option AV := some (.tup [.int .i64 0, .bool false, .int .i64 e])
def negI (a : Int) : Int := IntKind.wrap .i64 (0 - a)
def invI (a : Int) : Int := IntKind.wrap .i64 ((BitVec.ofInt 64 (-1) ^^^ BitVec.ofInt 64 a).toNat)
def symD (l : List Sym) (s : List UInt8) : Sym := (lastF l s).getD ([], 0, false)
def stepE (x : List Nd) (l : List Sym) (h s : Int) (v : List Int) (p : Bool) (i : Int) (go : List Int → Bool → Option AV) : Option AV :=
  pick2 (ltI i x.length) (Option.rec (motive := fun _ => Option AV) none (fun nd =>
    pick2 (eqI nd.1 1) (setV v i nd.2.1 fun v => go v p)
    (pick2 (eqI nd.1 2) (pick2 (Nat.ble l.length 1000000) (pick2 (!(lastF l nd.2.2.1).isSome) (errE 6) (setV v i (symD l nd.2.2.1).2.1 fun v => pick2 p (go v true) (go v (symD l nd.2.2.1).2.2))) none)
    (pick2 (eqI nd.1 3) (setV v i h fun v => go v true)
    (pick2 (eqI nd.1 4) (setV v i s fun v => go v true)
    (pick2 (eqI nd.1 5) (getV v nd.2.2.2.1 fun a => setV v i (negI a) fun v => go v p)
    (pick2 (eqI nd.1 6) (getV v nd.2.2.2.1 fun a => setV v i (invI a) fun v => go v p)
    (getV v nd.2.2.2.1 fun a => getV v nd.2.2.2.2 fun b => pick2 (!(binV nd.1 a b).2) (errE 5) (setV v i (binV nd.1 a b).1 fun v => go v p)))))))) (getI x i))
  (getV v (IntKind.wrap .i64 ((x.length : Int) - 1)) fun y => some (.tup [.int .i64 y, .bool p, .int .i64 0]))
set_option maxRecDepth 100000 in
theorem stepE1 (x : List Nd) (l : List Sym) (h s : Int) (r m : Nat) (v : List Int) (p : Bool) (i : Int) : jE (.lst tySym l) x h s r (m + 1) v p i = stepE x l h s v p i fun v p => jE (.lst tySym l) x h s r m v p (IntKind.wrap .i64 (i + 1)) := by kernel_rfl
set_option maxRecDepth 100000 in
theorem stepE0 (x : List Nd) (h s : Int) (r m : Nat) (v : List Int) (p : Bool) (i : Int) : jE .nils x h s r (m + 1) v p i = stepE x [] h s v p i fun v p => jE .nils x h s r m v p (IntKind.wrap .i64 (i + 1)) := by kernel_rfl
set_option maxRecDepth 100000 in
theorem enterE1 (x : List Nd) (l : List Sym) (h s : Int) (r : Nat) : enterT X0 (cN M13 [] AV) anE r 10 [.lst tyNd x, .lst tySym l, .int .i64 h, .int .i64 s] TMem.empty (fun v _ => some v) =
    pick2 (!eqI (chkF nameB x) 0) (errE (chkF nameB x)) (jE (.lst tySym l) x h s r r (List.replicate 200 0) false 0) := by kernel_rfl
set_option maxRecDepth 100000 in
theorem enterE0 (x : List Nd) (h s : Int) (r : Nat) : enterT X0 (cN M13 [] AV) anE r 10 [.lst tyNd x, .nils, .int .i64 h, .int .i64 s] TMem.empty (fun v _ => some v) =
    pick2 (!eqI (chkF nameB x) 0) (errE (chkF nameB x)) (jE .nils x h s r r (List.replicate 200 0) false 0) := by kernel_rfl
theorem getV_in {v : List Int} {i : Int} (h0 : 0 ≤ i) (h1 : i < v.length) (k : Int → Option AV) : getV v i k = k (vget v i) := by
  obtain ⟨n, rfl⟩ : ∃ n : Nat, i = n := ⟨i.toNat, by omega⟩
  unfold getV vget
  rw [getI_nat, List.getElem?_eq_getElem (by omega)]
  show k v[n] = k ((v[n]?).getD 0)
  rw [List.getElem?_eq_getElem (by omega)]; rfl
theorem setV_in {v : List Int} {n : Nat} (h1 : n < v.length) (y : Int) (k : List Int → Option AV) : setV v n y k = k (v.set n y) := by
  unfold setV
  rw [getI_nat, List.getElem?_eq_getElem h1]; rfl
def resE (q : Int × Bool × Int) : AV := .tup [.int .i64 q.1, .bool q.2.1, .int .i64 q.2.2]
theorem loopE {x : List Nd} {l : List Sym} {h s : Int} {J : Nat → List Int → Bool → Int → Option AV} (step : ∀ m v p i, J (m + 1) v p i = stepE x l h s v p i fun v p => J m v p (IntKind.wrap .i64 (i + 1)))
    (hl : l.length ≤ 1000000) (hx : x.length ≤ 200) (hne : x ≠ []) : ∀ (rest pre : List Nd) (m : Nat) (v : List Int) (p : Bool), x = pre ++ rest → rest.length < m → v.length = 200 → bndL pre.length rest →
      J m v p pre.length = some (resE (evL negI invI binV l h s rest pre.length v p)) := by
  intro rest
  induction rest with
  | nil =>
    intro pre m v p he hm hv hb
    obtain ⟨m, rfl⟩ : ∃ m', m = m' + 1 := ⟨m - 1, by simp at hm; omega⟩
    have hl' : x.length = pre.length := by rw [he]; simp
    have hp : 0 < x.length := List.length_pos_iff.2 hne
    rw [step]
    unfold stepE
    rw [ltF (by omega), i64_in (n := (x.length : Int) - 1) (by omega) (by omega)]
    show getV v ((x.length : Int) - 1) _ = _
    rw [getV_in (by omega) (by omega), hl']; rfl
  | cons nd rest ih =>
    intro pre m v p he hm hv hb
    obtain ⟨m, rfl⟩ : ∃ m', m = m' + 1 := ⟨m - 1, by simp at hm; omega⟩
    have hl' : x.length = pre.length + (rest.length + 1) := by rw [he]; simp
    have hg : getI x (pre.length : Int) = some nd := by rw [he]; exact getI_at pre rest nd
    obtain ⟨⟨b1, b2, b3⟩, hb'⟩ := hb
    have go : ∀ (y : Int) (q : Bool), J m (v.set pre.length y) q ((pre.length : Int) + 1) = some (resE (evL negI invI binV l h s rest (pre.length + 1) (v.set pre.length y) q)) := fun y q => by
      have := ih (pre ++ [nd]) m (v.set pre.length y) q (by rw [he]; simp) (by simp at hm; omega) (by simp [hv]) (by simpa using hb')
      simpa using this
    have hi : pre.length < v.length := by omega
    rw [step]
    unfold stepE
    rw [ltT (by omega), hg, i64_in (n := (pre.length : Int) + 1) (by omega) (by omega)]
    show pick2 (eqI nd.1 1) _ _ = _
    unfold evL opE
    have done : ∀ (y : Int) (q : Bool) (q' : Bool), q' = (p || q) → setV v pre.length y (fun v => J m v q' ((pre.length : Int) + 1)) = some (resE (if ((0, y, q) : Int × Int × Bool).1 = 0 then evL negI invI binV l h s rest (pre.length + 1) (v.set pre.length ((0, y, q) : Int × Int × Bool).2.1) (p || ((0, y, q) : Int × Int × Bool).2.2) else (0, false, ((0, y, q) : Int × Int × Bool).1))) := fun y q q' hq => by
      rw [setV_in hi, if_pos rfl, go, hq]
    rw [pick_eq]
    by_cases h1 : nd.1 = 1
    · simp only [if_pos h1]; exact done _ _ _ (by simp)
    rw [if_neg h1, pick_eq]
    simp only [if_neg h1]
    by_cases h2 : nd.1 = 2
    · simp only [if_pos h2]
      rw [bleT hl]
      unfold symD
      cases hL : lastF l nd.2.2.1 with
      | none => rfl
      | some q =>
        show setV v pre.length q.2.1 (fun v => pick2 p (J m v true _) (J m v q.2.2 _)) = _
        cases p with
        | true => exact done _ _ _ (by simp)
        | false => exact done _ _ _ (by simp)
    rw [if_neg h2, pick_eq]
    simp only [if_neg h2]
    by_cases h3 : nd.1 = 3
    · simp only [if_pos h3]; exact done _ _ _ (by simp)
    rw [if_neg h3, pick_eq]
    simp only [if_neg h3]
    by_cases h4 : nd.1 = 4
    · simp only [if_pos h4]; exact done _ _ _ (by simp)
    rw [if_neg h4, pick_eq]
    simp only [if_neg h4]
    obtain ⟨c1, c2⟩ := b2 (by omega)
    by_cases h5 : nd.1 = 5
    · simp only [if_pos h5]; rw [getV_in c1 (by omega)]; exact done _ _ _ (by simp)
    rw [if_neg h5, pick_eq]
    simp only [if_neg h5]
    by_cases h6 : nd.1 = 6
    · simp only [if_pos h6]; rw [getV_in c1 (by omega)]; exact done _ _ _ (by simp)
    simp only [if_neg h6]
    obtain ⟨d1, d2⟩ := b3 (by omega)
    rw [getV_in c1 (by omega), getV_in d1 (by omega)]
    cases hB : (binV nd.1 (vget v nd.2.2.2.1) (vget v nd.2.2.2.2)).2 with
    | true => rw [if_pos rfl]; exact done _ _ _ (by simp)
    | false => rw [if_neg Bool.false_ne_true]; rfl

def evF (x : List Nd) (l : List Sym) (h s : Int) : Int × Bool × Int := if chkF nameB x = 0 then evL negI invI binV l h s x 0 (List.replicate 200 0) false else (0, false, chkF nameB x)
theorem runE {x : List Nd} {l : List Sym} {h s : Int} {T : Option AV} {J : Nat → List Int → Bool → Int → Option AV} (e : T = pick2 (!eqI (chkF nameB x) 0) (errE (chkF nameB x)) (J 202 (List.replicate 200 0) false 0))
    (step : ∀ m v p i, J (m + 1) v p i = stepE x l h s v p i fun v p => J m v p (IntKind.wrap .i64 (i + 1))) (hl : l.length ≤ 1000000) : T = some (resE (evF x l h s)) := by
  rw [e, pick_neq]
  unfold evF
  by_cases hc : chkF nameB x = 0
  · rw [if_pos hc, if_pos hc]
    obtain ⟨h1, h2, h3⟩ := chkF_bnd hc
    exact loopE step hl h2 h1 x [] 202 _ false rfl (by omega) (List.length_replicate ..) h3
  · rw [if_neg hc, if_neg hc]; rfl
def gEv (args : List AV) : Option (Bool × List PRes) :=
  match args with
  | [X, L, .int .i64 h, .int .i64 s] => match asLs tyNd X, asLs tySym L with
    | some x, some l => some (Nat.ble l.length 1000000, [.val (.int .i64 (evF x l h s).1), .val (.bool (evF x l h s).2.1), .val (.int .i64 (evF x l h s).2.2)])
    | _, _ => none
  | _ => none
set_option maxRecDepth 100000 in
theorem enterEn (L : AV) (h s : Int) (r : Nat) : enterT X0 (cN M13 [] AV) anE r 10 [.nils, L, .int .i64 h, .int .i64 s] TMem.empty (fun v _ => some v) = errE 2 := by kernel_rfl
theorem con_ev : ConOk X0 cf0 10 gEv :=
  con_vals (nk 10) (cN_ok M13_ok n0) fun args rs hg => by
    unfold gEv at hg
    split at hg
    case h_2 => cases hg
    split at hg
    case h_2 => cases hg
    rename_i h s _ _ x l hx hl
    simp only [Option.some.injEq, Prod.mk.injEq] at hg
    obtain ⟨h2, rfl⟩ := hg
    have h2 := Nat.le_of_ble_eq_true h2
    refine ⟨[.int .i64 (evF x l h s).1, .bool (evF x l h s).2.1, .int .i64 (evF x l h s).2.2], anE, 202, ?_, rfl, rfl⟩
    rcases asLs_spec hx with rfl | ⟨rfl, rfl⟩
    · rcases asLs_spec hl with rfl | ⟨rfl, rfl⟩
      · exact runE (enterE1 x l h s 202) (fun m v p i => stepE1 x l h s 202 m v p i) h2
      · exact runE (enterE0 x h s 202) (fun m v p i => stepE0 x h s 202 m v p i) h2
    · rw [enterEn]; rfl
def M14 : List Con := (10, [some tyNd, some tySym, none, none], gEv) :: M13
theorem M14_ok : TabOk X0 cf0 M14 := .cons con_ev M13_ok
end
end Go.Proofs.YtpaddkkfefgkfaaDoor.ex
