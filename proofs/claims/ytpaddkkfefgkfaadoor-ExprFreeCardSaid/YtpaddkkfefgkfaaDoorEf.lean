/- Expressions: whether one may be. -/
import Derived.Test.YtpaddkkfefgkfaaDoorEe
namespace Go.Proofs.YtpaddkkfefgkfaaDoor.ex
open Go.Tv Go.Ev Go.Px
noncomputable section

theorem fields_iff (op n l r : Int) (s : List UInt8) : fieldsB nameB (op, n, s, l, r) = true ↔ 1 ≤ op ∧ op ≤ 16 ∧ (op = 1 ∨ n = 0) ∧ (op = 2 → nameB s = true) ∧ (op ≠ 2 → s = []) ∧ (op ≤ 4 → l = 0) ∧ (6 < op ∨ r = 0) := by
  simp only [fieldsB, Bool.and_eq_true, Bool.or_eq_true, decide_eq_true_eq, Bool.not_eq_true', decide_eq_false_iff_not]
  constructor
  · rintro ⟨⟨⟨⟨⟨h1, h2⟩, h3⟩, h4⟩, h5⟩, h6⟩
    refine ⟨h1, h2, h3, fun h => by rw [if_pos h] at h4; exact h4, fun h => by rw [if_neg h] at h4; exact of_decide_eq_true h4, fun h => by omega, h6⟩
  · rintro ⟨h1, h2, h3, h4, h4', h5, h6⟩
    refine ⟨⟨⟨⟨⟨h1, h2⟩, h3⟩, ?_⟩, by omega⟩, h6⟩
    split
    · rename_i h; exact h4 h
    · rename_i h; exact decide_eq_true (h4' h)
def fieldsT (op n l r : Int) (s : List UInt8) : Option AV :=
  let r3 : Option AV := pick2 (ltI 6 op) (some (.bool true)) (some (.bool (eqI r 0)))
  let r2 : Option AV := pick2 (!ltI 4 op) (pick2 (!eqI l 0) (some (.bool false)) r3) r3
  let r1b : Option AV := pick2 (!eqI op 2) (pick2 (!decide (s = [])) (some (.bool false)) r2) r2
  let r1 : Option AV := pick2 (eqI op 2) (pick2 (!nameB s) (some (.bool false)) r1b) r1b
  pick2 (ltI op 1) (some (.bool false)) (pick2 (ltI 16 op) (some (.bool false)) (pick2 (!eqI op 1) (pick2 (!eqI n 0) (some (.bool false)) r1) r1))
theorem enterFd (op n l r : Int) (s : List UInt8) : enterT X0 (cN M6 [] AV) an0 5 17 [.agg [.int .i64 op, .int .i64 n, .str s, .int .i64 l, .int .i64 r]] TMem.empty (fun v _ => some v) = fieldsT op n l r s := by kernel_rfl
theorem fieldsT_eq (op n l r : Int) (s : List UInt8) : fieldsT op n l r s = some (.bool (fieldsB nameB (op, n, s, l, r))) := by
  have hf : ∀ b : Bool, (b = true ↔ fieldsB nameB (op, n, s, l, r) = true) → some (AV.bool b) = some (.bool (fieldsB nameB (op, n, s, l, r))) := fun b h => by rw [Bool.eq_iff_iff.2 h]
  have hi := fields_iff op n l r s
  unfold fieldsT
  simp only [pick_lt, pick_nlt, pick_eq, pick_neq]
  have no : ¬ (1 ≤ op ∧ op ≤ 16 ∧ (op = 1 ∨ n = 0) ∧ (op = 2 → nameB s = true) ∧ (op ≠ 2 → s = []) ∧ (op ≤ 4 → l = 0) ∧ (6 < op ∨ r = 0)) → some (AV.bool false) = some (.bool (fieldsB nameB (op, n, s, l, r))) := fun h => hf false ⟨fun h => (by cases h), fun h2 => absurd (hi.1 h2) h⟩
  by_cases h1 : op < 1
  · rw [if_pos h1]; exact no (by omega)
  rw [if_neg h1]
  by_cases h2 : 16 < op
  · rw [if_pos h2]; exact no (by omega)
  rw [if_neg h2]
  by_cases h3 : op = 1 ∨ n = 0
  · -- the text
    have r1 : (if op = 2 then pick2 (!nameB s) (some (AV.bool false)) (if op = 2 then (if op ≤ 4 then (if l = 0 then (if 6 < op then some (AV.bool true) else some (AV.bool (eqI r 0))) else some (AV.bool false)) else (if 6 < op then some (AV.bool true) else some (AV.bool (eqI r 0)))) else pick2 (!decide (s = [])) (some (AV.bool false)) (if op ≤ 4 then (if l = 0 then (if 6 < op then some (AV.bool true) else some (AV.bool (eqI r 0))) else some (AV.bool false)) else (if 6 < op then some (AV.bool true) else some (AV.bool (eqI r 0)))))
        else if op = 2 then (if op ≤ 4 then (if l = 0 then (if 6 < op then some (AV.bool true) else some (AV.bool (eqI r 0))) else some (AV.bool false)) else (if 6 < op then some (AV.bool true) else some (AV.bool (eqI r 0)))) else pick2 (!decide (s = [])) (some (AV.bool false)) (if op ≤ 4 then (if l = 0 then (if 6 < op then some (AV.bool true) else some (AV.bool (eqI r 0))) else some (AV.bool false)) else (if 6 < op then some (AV.bool true) else some (AV.bool (eqI r 0))))) = some (.bool (fieldsB nameB (op, n, s, l, r))) := by
      have r3 : ∀ (ht : (op = 2 → nameB s = true) ∧ (op ≠ 2 → s = [])) (h5 : op ≤ 4 → l = 0), (if 6 < op then some (AV.bool true) else some (AV.bool (eqI r 0))) = some (.bool (fieldsB nameB (op, n, s, l, r))) := fun ht h5 => by
        split
        · rename_i h6; exact hf true ⟨fun _ => hi.2 ⟨by omega, by omega, h3, ht.1, ht.2, h5, .inl h6⟩, fun _ => rfl⟩
        · rename_i h6
          refine hf _ ?_
          rw [hi, eqI_spec, beq_iff_eq]
          exact ⟨fun h => ⟨by omega, by omega, h3, ht.1, ht.2, h5, .inr h⟩, fun h => by omega⟩
      have r2 : ∀ (ht : (op = 2 → nameB s = true) ∧ (op ≠ 2 → s = [])), (if op ≤ 4 then (if l = 0 then (if 6 < op then some (AV.bool true) else some (AV.bool (eqI r 0))) else some (AV.bool false)) else (if 6 < op then some (AV.bool true) else some (AV.bool (eqI r 0)))) = some (.bool (fieldsB nameB (op, n, s, l, r))) := fun ht => by
        by_cases h4 : op ≤ 4
        · rw [if_pos h4]
          by_cases h5 : l = 0
          · rw [if_pos h5]; exact r3 ht (fun _ => h5)
          · rw [if_neg h5]; exact no (by omega)
        · rw [if_neg h4]; exact r3 ht (by omega)
      by_cases ho : op = 2
      · simp only [if_pos ho]
        cases hn : nameB s with
        | true => exact r2 ⟨fun _ => hn, fun h => absurd ho h⟩
        | false => exact no (fun h => by have := h.2.2.2.1 ho; rw [hn] at this; cases this)
      · simp only [if_neg ho]
        by_cases hs : s = []
        · rw [decide_eq_true hs]; exact r2 ⟨fun h => absurd h ho, fun _ => hs⟩
        · rw [decide_eq_false hs]; exact no (fun h => hs (h.2.2.2.2.1 ho))
    rcases h3 with h3 | h3
    · rw [if_pos h3]; exact r1
    · by_cases h3' : op = 1
      · rw [if_pos h3']; exact r1
      · rw [if_neg h3', if_pos h3]; exact r1
  · rw [if_neg (fun h => h3 (.inl h)), if_neg (fun h => h3 (.inr h))]
    exact no (fun h => h3 h.2.2.1)
def gFd (args : List AV) : Option (Bool × List PRes) :=
  match args with
  | [.agg [.int .i64 op, .int .i64 n, .str s, .int .i64 l, .int .i64 r]] => some (true, [.val (.bool (fieldsB nameB (op, n, s, l, r)))])
  | _ => none
theorem con_fd : ConOk X0 cf0 17 gFd :=
  con_vals (nk 17) (cN_ok M6_ok n0) fun args rs hg => by
    unfold gFd at hg
    split at hg
    · rename_i op n s l r
      simp only [Option.some.injEq, Prod.mk.injEq] at hg
      obtain ⟨h1, rfl⟩ := hg
      exact ⟨[.bool (fieldsB nameB (op, n, s, l, r))], an0, 5, (enterFd op n l r s).trans (fieldsT_eq op n l r s), rfl, rfl⟩
    · cases hg
def M7 : List Con := (17, [none], gFd) :: M6
theorem M7_ok : TabOk X0 cf0 M7 := .cons con_fd M6_ok

/-! ### Check -/
def pCk : List Bool := [true, true, true, false, true, false]
def anCk : FnAnn := ⟨annOf [2, 3, 10, 11, 12] pCk, .none, [71, 47]⟩
def stCk (x : List Nd) (o : AV) (i : Int) : TFr := frOf 80 [(2, .int .i64 0), (3, o), (10, .lst tyNd x), (11, .int .i64 x.length), (12, .int .i64 i)]
def jC0 (x : List Nd) (r m : Nat) (i : Int) : Option AV := loopN X0 (cN M7 [] AV) anCk r 8 pCk (fun v _ => some v) m (stCk x .nils i) (memOf [])
def jC1 (x : List Nd) (r m : Nat) (n : Nat) (o : List Int) (i : Int) : Option AV := loopN X0 (cN M7 [] AV) anCk r 8 pCk (fun v _ => some v) m (stCk x (.own 0 n) i) (memOf [.list 3 (.int .i64) o 0 false false])
def e2 : Option AV := some (.int .i64 2)
def appO (o : List Int) (i : Int) (k : Nat → List Int → Option AV) : Option AV := pick2 (Nat.ble (o.length + 1) 1000000) (k (o.length + 1) (o ++ [i])) none
def cutO (o : List Int) (b : Int) (k : List Int → Option AV) : Option AV := pick2 (!ltI b 0 && !ltI o.length b) (k (o.take b.toNat)) none
def topO (o : List Int) (j : Int) (z : Int) (k : Option AV) : Option AV := Option.rec (motive := fun _ => Option AV) none (fun y => pick2 (!eqI z y) e2 k) (getI o j)
def stepK (n : Nat) (o : List Int) (i : Int) (nd : Nd) (go : Nat → List Int → Option AV) : Option AV :=
  pick2 (!fieldsB nameB nd) e2 (pick2 (!ltI 4 nd.1) (appO o i go)
    (pick2 (!ltI 6 nd.1) (pick2 (ltI n 1) e2 (topO o (IntKind.wrap .i64 (n - 1)) nd.2.2.2.1 (cutO o (IntKind.wrap .i64 (n - 1)) fun o => appO o i go)))
      (pick2 (ltI n 2) e2 (topO o (IntKind.wrap .i64 (n - 2)) nd.2.2.2.1 (topO o (IntKind.wrap .i64 (n - 1)) nd.2.2.2.2 (cutO o (IntKind.wrap .i64 (n - 2)) fun o => appO o i go))))))
set_option maxRecDepth 100000 in
theorem stepC1 (x : List Nd) (r m n : Nat) (o : List Int) (i : Int) : jC1 x r (m + 1) n o i =
    pick2 (ltI i x.length) (Option.rec (motive := fun _ => Option AV) none (fun nd => stepK n o i nd fun n o => jC1 x r m n o (IntKind.wrap .i64 (i + 1))) (getI x i)) (pick2 (!eqI n 1) e2 (some (.int .i64 0))) := by kernel_rfl
set_option maxRecDepth 100000 in
theorem stepC0 (x : List Nd) (r m : Nat) (i : Int) : jC0 x r (m + 1) i =
    pick2 (ltI i x.length) (Option.rec (motive := fun _ => Option AV) none (fun nd => pick2 (!fieldsB nameB nd) e2 (pick2 (!ltI 4 nd.1) (jC1 x r m 1 [i] (IntKind.wrap .i64 (i + 1))) (pick2 (!ltI 6 nd.1) e2 e2))) (getI x i)) e2 := by kernel_rfl
set_option maxRecDepth 100000 in
theorem enterCk (x : List Nd) (r : Nat) : enterT X0 (cN M7 [] AV) anCk r 8 [.lst tyNd x] TMem.empty (fun v _ => some v) = pick2 (ltI 200 x.length) (some (.int .i64 3)) (jC0 x r r 0) := by kernel_rfl
set_option maxRecDepth 100000 in
theorem enterCk0 (r : Nat) : enterT X0 (cN M7 [] AV) anCk (r + 1) 8 [.nils] TMem.empty (fun v _ => some v) = e2 := by kernel_rfl

theorem loopK (x : List Nd) (hx : x.length ≤ 1000) (r : Nat) : ∀ (rest pre : List Nd) (m : Nat) (o : List Int), x = pre ++ rest → rest.length < m → o.length ≤ pre.length → jC1 x r m o.length o pre.length = some (.int .i64 (chkL nameB pre.length rest o)) := by
  intro rest
  induction rest with
  | nil =>
    intro pre m o he hm ho
    obtain ⟨m, rfl⟩ : ∃ m', m = m' + 1 := ⟨m - 1, by simp at hm; omega⟩
    have hl : x.length = pre.length := by rw [he]; simp
    rw [stepC1, ltF (by omega)]
    show pick2 (!eqI (o.length : Int) 1) e2 (some (.int .i64 0)) = _
    rw [pick_neq, chkL]
    by_cases h : o.length = 1
    · rw [if_pos (by omega), if_pos h]
    · rw [if_neg (by omega), if_neg h]; rfl
  | cons nd rest ih =>
    intro pre m o he hm ho
    obtain ⟨m, rfl⟩ : ∃ m', m = m' + 1 := ⟨m - 1, by simp at hm; omega⟩
    have hl : x.length = pre.length + (rest.length + 1) := by rw [he]; simp
    have hg : getI x (pre.length : Int) = some nd := by rw [he]; exact getI_at pre rest nd
    have hin : ∀ o' : List Int, o'.length ≤ pre.length → appO o' pre.length (fun n o => jC1 x r m n o ((pre.length : Int) + 1)) = some (.int .i64 (chkL nameB (pre.length + 1) rest (o' ++ [(pre.length : Int)]))) := fun o' ho' => by
      have := ih (pre ++ [nd]) m (o' ++ [(pre.length : Int)]) (by rw [he]; simp) (by simp at hm; omega) (by simp; omega)
      simp only [List.length_append, List.length_cons, List.length_nil, Nat.zero_add] at this
      unfold appO
      rw [bleT (by omega)]
      exact this
    rw [stepC1, ltT (by omega), hg, i64_in (n := (pre.length : Int) + 1) (by omega) (by omega)]
    show stepK o.length o pre.length nd (fun n o => jC1 x r m n o ((pre.length : Int) + 1)) = _
    unfold stepK
    rw [chkL]
    cases hfd : fieldsB nameB nd with
    | false => rfl
    | true =>
      show pick2 (!ltI 4 nd.1) _ _ = _
      rw [if_pos rfl, pick_nlt]
      unfold stepO
      by_cases h4 : nd.1 ≤ 4
      · rw [if_pos h4, if_pos h4]; exact hin o ho
      · rw [if_neg h4, if_neg h4, pick_nlt]
        have lastK : ∀ (j : Nat) (z : Int) (k : Option AV) (R : Option AV), j < o.length → (o[j]? ≠ some z → R = e2) → (o[j]? = some z → k = R) → topO o (j : Int) z k = R := fun j z k R hj h1 h2 => by
          unfold topO
          rw [getI_nat, List.getElem?_eq_getElem hj]
          show pick2 (!eqI z o[j]) e2 k = _
          rw [pick_neq]
          by_cases hz : z = o[j]
          · rw [if_pos hz]; exact h2 (by rw [List.getElem?_eq_getElem hj, hz])
          · rw [if_neg hz]; exact (h1 (by rw [List.getElem?_eq_getElem hj]; intro h; exact hz (Option.some.inj h).symm)).symm
        have cutK : ∀ (j : Nat) (k : List Int → Option AV), j ≤ o.length → cutO o (j : Int) k = k (o.take j) := fun j k hj => by
          unfold cutO
          rw [ltF (by omega), ltF (by omega)]; rfl
        by_cases h6 : nd.1 ≤ 6
        · rw [if_pos h6, if_pos h6, pick_lt]
          by_cases hn : o.length < 1
          · rw [if_pos (by omega), if_pos (.inl hn)]; rfl
          · rw [if_neg (by omega)]
            have e1 : IntKind.wrap .i64 ((o.length : Int) - 1) = ((o.length - 1 : Nat) : Int) := by rw [i64_in (by omega) (by omega)]; omega
            rw [e1]
            refine lastK _ _ _ _ (by omega) (fun h => by rw [if_pos (.inr h)]; rfl) fun h => ?_
            rw [if_neg (by rintro (h1 | h1) <;> first | exact hn h1 | exact h1 h), cutK _ _ (by omega)]
            exact hin _ (by simp; omega)
        · rw [if_neg h6, if_neg h6, pick_lt]
          by_cases hn : o.length < 2
          · rw [if_pos (by omega), if_pos (.inl hn)]; rfl
          · rw [if_neg (by omega)]
            have e1 : IntKind.wrap .i64 ((o.length : Int) - 1) = ((o.length - 1 : Nat) : Int) := by rw [i64_in (by omega) (by omega)]; omega
            have e2' : IntKind.wrap .i64 ((o.length : Int) - 2) = ((o.length - 2 : Nat) : Int) := by rw [i64_in (by omega) (by omega)]; omega
            rw [e1, e2']
            refine lastK _ _ _ _ (by omega) (fun h => by rw [if_pos (.inr (.inl h))]; rfl) fun h => ?_
            refine lastK _ _ _ _ (by omega) (fun h' => by rw [if_pos (.inr (.inr h'))]; rfl) fun h' => ?_
            rw [if_neg (by rintro (h1 | h1 | h1) <;> first | exact hn h1 | exact h1 h | exact h1 h'), cutK _ _ (by omega)]
            exact hin _ (by simp; omega)

theorem runCk (x : List Nd) : enterT X0 (cN M7 [] AV) anCk 202 8 [.lst tyNd x] TMem.empty (fun v _ => some v) = some (.int .i64 (chkF nameB x)) := by
  rw [enterCk, pick_lt]
  unfold chkF
  by_cases h : 200 < x.length
  · rw [if_pos (by omega), if_pos h]
  · rw [if_neg (by omega), if_neg h, stepC0]
    cases x with
    | nil => rfl
    | cons nd rest =>
      rw [ltT (by simp)]
      show pick2 (!fieldsB nameB nd) e2 (pick2 (!ltI 4 nd.1) (jC1 (nd :: rest) 202 201 1 [0] (IntKind.wrap .i64 (0 + 1))) (pick2 (!ltI 6 nd.1) e2 e2)) = _
      rw [chkL]
      cases hfd : fieldsB nameB nd with
      | false => rfl
      | true =>
        show pick2 (!ltI 4 nd.1) _ _ = _
        rw [if_pos rfl, pick_nlt]
        unfold stepO
        by_cases h4 : nd.1 ≤ 4
        · rw [if_pos h4, if_pos h4]
          simp only [List.length_cons] at h
          exact loopK (nd :: rest) (by simp; omega) 202 rest [nd] 201 [0] rfl (by omega) (by simp)
        · rw [if_neg h4, if_neg h4, pick_nlt]
          by_cases h6 : nd.1 ≤ 6
          · rw [if_pos h6, if_pos h6]; rfl
          · rw [if_neg h6, if_neg h6]; rfl
def gCk (args : List AV) : Option (Bool × List PRes) :=
  match args with
  | [L] => match asLs tyNd L with
    | some x => some (true, [.val (.int .i64 (chkF nameB x))])
    | none => none
  | _ => none
theorem con_ck : ConOk X0 cf0 8 gCk :=
  con_vals (nk 8) (cN_ok M7_ok n0) fun args rs hg => by
    unfold gCk at hg
    split at hg
    · split at hg
      · rename_i x hx
        simp only [Option.some.injEq, Prod.mk.injEq] at hg
        obtain ⟨h1, rfl⟩ := hg
        refine ⟨[.int .i64 (chkF nameB x)], anCk, 202, ?_, rfl, rfl⟩
        rcases asLs_spec hx with rfl | ⟨rfl, rfl⟩
        · exact runCk x
        · exact enterCk0 201
      · cases hg
    · cases hg
def M8 : List Con := (8, [some tyNd], gCk) :: M7
theorem M8_ok : TabOk X0 cf0 M8 := .cons con_ck M7_ok
end
end Go.Proofs.YtpaddkkfefgkfaaDoor.ex
