/- Tokens joined, as the document says; lists of tokens held against each other. -/
import Derived.Test.YtcafcgiemdlobaaDoorTj6
import Derived.Test.YtcafcgiemdlobaaDoorTd
namespace Go.Proofs.YtcafcgiemdlobaaDoor.lt
open Go.Tv Go.Ev

noncomputable def anK : FnAnn := ⟨annPlus (annOf [0, 4, 5] pN1) (annPlus (annOf [0, 4] [true, true, true]) (annOf [0, 4, 6] pJ2)), .none, []⟩
noncomputable def jK1 (l : List Piece) (r m : Nat) (i : Int) : Option AV := loopN (Xg gvT) (d8' AV) anK r 30 pN1 (fun v _ => some v) m (frOf 71 [(0, .lst tyTok l), (4, .str []), (5, .int .i64 i)]) TMem.empty
noncomputable def restK (l : List Piece) (r : Nat) : Option AV := codeFrom (Xg gvT) (d8' AV) anK r 30 [true, true, true] (fun v _ => some v) (frOf 71 [(0, .lst tyTok l), (4, .str [])]) TMem.empty
noncomputable def jK2 (l : List Piece) (r m : Nat) (s : List UInt8) (i : Int) : Option AV := loopN (Xg gvT) (d8' AV) anK r 30 pJ2 (fun v _ => some v) m (frOf 71 [(0, .lst tyTok l), (4, .str s), (6, .int .i64 i)]) TMem.empty
noncomputable def anLo : FnAnn := ⟨annOf [0, 1, 5] pJ1, .none, []⟩
noncomputable def jLo (l : List Piece) (q : Int) (r m : Nat) (i : Int) : Option AV := loopN (Xg gvT) (c0 gvT AV) anLo r 27 pJ1 (fun v _ => some v) m (frOf 28 [(0, .lst tyTok l), (1, .int .i64 q), (5, .int .i64 i)]) TMem.empty
noncomputable def anSm : FnAnn := ⟨annOf [0, 1, 5] pN1, .none, []⟩
noncomputable def jSm (l l' : List Piece) (r m : Nat) (i : Int) : Option AV := loopN (Xg gvT) (c0 gvT AV) anSm r 31 pN1 (fun v _ => some v) m (frOf 26 [(0, .lst tyTok l), (1, .lst tyTok l'), (5, .int .i64 i)]) TMem.empty
theorem stepLo (l : List Piece) (q : Int) (r m : Nat) (i : Int) : jLo l q r (m + 1) i = pick2 (ltI i ↑l.length) (pick2 (!ltI q i) (atL l i fun y => pick2 (ltI 1100 ↑y.2.2.1.length) (some (.bool true)) (jLo l q r m (IntKind.wrap .i64 (i + 1)))) (some (.bool (ltI q ↑l.length)))) (some (.bool (ltI q ↑l.length))) := by kernel_rfl
theorem enterLo (l : List Piece) (q : Int) (r : Nat) : enterT (Xg gvT) (c0 gvT AV) anLo r 27 [.lst tyTok l, .int .i64 q] TMem.empty (fun v _ => some v) = jLo l q r r 0 := by kernel_rfl
def longB (l : List Piece) (q : Int) : Bool := decide (q < l.length) || l.any fun y => decide (1100 < y.2.2.1.length)
theorem loopLo (l : List Piece) (hl : l.length ≤ 9223372036854775807) (q : Int) (r : Nat) : ∀ (rest pre : List Piece) (m : Nat), l = pre ++ rest → rest.length < m → jLo l q r m pre.length = some (.bool (decide (q < l.length) || rest.any fun y => decide (1100 < y.2.2.1.length))) := by
  intro rest
  induction rest with
  | nil =>
    intro pre m he hm
    obtain ⟨m, rfl⟩ : ∃ m', m = m' + 1 := ⟨m - 1, by simp at hm; omega⟩
    have e0 : l = pre := by rw [he]; simp
    rw [stepLo, ltF (a := (pre.length : Int)) (by rw [e0]; omega)]
    show some (AV.bool (ltI q ↑l.length)) = _
    rw [ltI_spec]; simp
  | cons y rest ih =>
    intro pre m he hm
    obtain ⟨m, rfl⟩ : ∃ m', m = m' + 1 := ⟨m - 1, by simp at hm; omega⟩
    have e1 : l.length = pre.length + (rest.length + 1) := by rw [he]; simp
    have hg : getI l (pre.length : Int) = some y := by rw [he]; exact getI_at pre rest y
    have hin := ih (pre ++ [y]) m (by rw [he]; simp) (by simp at hm; omega)
    rw [List.length_append] at hin
    have hin : jLo l q r m ((pre.length : Int) + 1) = _ := hin
    rw [stepLo]
    unfold atL
    rw [ltT (a := (pre.length : Int)) (by omega), hg, i64_in (n := (pre.length : Int) + 1) (by omega) (by omega), hin]
    show pick2 (!ltI q ↑pre.length) (pick2 (ltI 1100 ↑y.2.2.1.length) (some (AV.bool true)) (some (AV.bool _))) (some (AV.bool (ltI q ↑l.length))) = _
    rw [pick_nlt, pick_lt]
    split
    · split
      · rename_i h; rw [List.any_cons, decide_eq_true (show 1100 < y.2.2.1.length by omega)]; simp
      · rename_i h; rw [List.any_cons, decide_eq_false (show ¬ 1100 < y.2.2.1.length by omega)]; simp
    · rw [ltT (by omega), decide_eq_true (show q < (l.length : Int) by omega)]; rfl
noncomputable def gLong (args : List AV) : Option (Bool × List PRes) :=
  match args with
  | [a, .int .i64 q] => match asL tyTok a with
    | some l => some (Nat.ble l.length 9223372036854775807, [.val (.bool (longB l q))])
    | none => none
  | _ => none
theorem con27 : ConOk (Xg gvT) (cfOf (Xg gvT) noKnown) 27 gLong :=
  con_vals (nk 27) (c0_ok gvT) fun args rs hg => by
    unfold gLong at hg
    split at hg
    · rename_i a q
      split at hg
      · rename_i l hl
        obtain rfl := asL_spec hl
        simp only [Option.some.injEq, Prod.mk.injEq, Nat.ble_eq] at hg
        obtain ⟨h1, rfl⟩ := hg
        exact ⟨[.bool (longB l q)], anLo, l.length + 1, (enterLo l q _).trans (loopLo l (by omega) q _ l [] _ rfl (by omega)), rfl, rfl⟩
      · cases hg
    · cases hg
theorem stepSm (l l' : List Piece) (r m : Nat) (i : Int) : jSm l l' r (m + 1) i = pick2 (ltI i ↑l.length) (atL l i fun y => atL l' i fun z => pick2 (!(decide (y.1 = z.1) && (decide (y.2.1 = z.2.1) && (decide (y.2.2.1 = z.2.2.1) && decide (y.2.2.2 = z.2.2.2))))) (some (.bool false)) (jSm l l' r m (IntKind.wrap .i64 (i + 1)))) (some (.bool true)) := by kernel_rfl
theorem enterSm (l l' : List Piece) (r : Nat) : enterT (Xg gvT) (c0 gvT AV) anSm r 31 [.lst tyTok l, .lst tyTok l'] TMem.empty (fun v _ => some v) = pick2 (!eqI ↑l.length ↑l'.length) (some (.bool false)) (jSm l l' r r 0) := by kernel_rfl
theorem loopSm (l : List Piece) (hl : l.length < 1000000) (r : Nat) : ∀ (rest pre : List Piece) (m : Nat), l = pre ++ rest → rest.length < m → jSm l l r m pre.length = some (.bool true) := by
  intro rest
  induction rest with
  | nil =>
    intro pre m he hm
    obtain ⟨m, rfl⟩ : ∃ m', m = m' + 1 := ⟨m - 1, by simp at hm; omega⟩
    have e0 : l = pre := by rw [he]; simp
    rw [stepSm, ltF (by rw [e0]; omega)]
  | cons y rest ih =>
    intro pre m he hm
    obtain ⟨m, rfl⟩ : ∃ m', m = m' + 1 := ⟨m - 1, by simp at hm; omega⟩
    have e1 : l.length = pre.length + (rest.length + 1) := by rw [he]; simp
    have hg : getI l (pre.length : Int) = some y := by rw [he]; exact getI_at pre rest y
    have hin := ih (pre ++ [y]) m (by rw [he]; simp) (by simp at hm; omega)
    rw [List.length_append] at hin
    have hin : jSm l l r m ((pre.length : Int) + 1) = _ := hin
    rw [stepSm]
    unfold atL
    rw [ltT (a := (pre.length : Int)) (by omega), hg, i64_in (n := (pre.length : Int) + 1) (by omega) (by omega), hin]
    show pick2 (!(decide (y.1 = y.1) && (decide (y.2.1 = y.2.1) && (decide (y.2.2.1 = y.2.2.1) && decide (y.2.2.2 = y.2.2.2))))) (some (AV.bool false)) (some (AV.bool true)) = some (AV.bool true)
    simp
noncomputable def gSame (args : List AV) : Option (Bool × List PRes) :=
  match args with
  | [a, b] => match asL tyTok a, asL tyTok b with
    | some l, some l' => some (Nat.ble l.length 999999 && decide (l = l'), [.val (.bool true)])
    | _, _ => none
  | _ => none
theorem con31 : ConOk (Xg gvT) (cfOf (Xg gvT) noKnown) 31 gSame :=
  con_vals (nk 31) (c0_ok gvT) fun args rs hg => by
    unfold gSame at hg
    split at hg
    · rename_i a b
      split at hg
      · rename_i l l' hl hl'
        obtain rfl := asL_spec hl
        obtain rfl := asL_spec hl'
        simp only [Option.some.injEq, Prod.mk.injEq, Nat.ble_eq, Bool.and_eq_true, decide_eq_true_eq] at hg
        obtain ⟨⟨h1, rfl⟩, rfl⟩ := hg
        refine ⟨[.bool true], anSm, l.length + 1, ?_, rfl, rfl⟩
        rw [enterSm, eqT rfl]
        exact loopSm l (by omega) _ l [] _ rfl (by omega)
      · cases hg
    · cases hg
theorem stepK1 (l : List Piece) (r m : Nat) (i : Int) : jK1 l r (m + 1) i = pick2 (ltI i ↑l.length) (atL l i fun y => pick2 (Nat.ble y.2.2.1.length 1100) (pick2 (!validB y) (errJ 2) (jK1 l r m (IntKind.wrap .i64 (i + 1)))) none) (restK l r) := by kernel_rfl
theorem enterK (l : List Piece) (r : Nat) : enterT (Xg gvT) (d8' AV) anK r 30 [.lst tyTok l] TMem.empty (fun v _ => some v) = jK1 l r r 0 := by kernel_rfl
theorem restK_eq (l : List Piece) (r : Nat) : restK l r = jK2 l r r [] 0 := by kernel_rfl
noncomputable def wrK (l : List Piece) (i : Int) (s : List UInt8) (go : List UInt8 → Option AV) : Option AV :=
  atL l i fun y => pick2 (eqI y.1 2) (atL l i fun z => pick2 (!ltI z.2.1 (-9223372036854775808) && ltI z.2.1 9223372036854775808) (pick2 (Nat.ble (s.length + (hexS z.2.1).length) 9223372036854775807) (go (s ++ hexS z.2.1)) none) none)
    (pick2 (eqI y.1 3) (pick2 (Nat.ble (s.length + 1) 9223372036854775807) (atL l i fun z => pick2 (Nat.ble ((s ++ [34]).length + z.2.2.1.length) 9223372036854775807) (pick2 (Nat.ble ((s ++ [34] ++ z.2.2.1).length + 1) 9223372036854775807) (go (s ++ [34] ++ z.2.2.1 ++ [34])) none) none) none)
      (atL l i fun z => pick2 (Nat.ble (s.length + z.2.2.1.length) 9223372036854775807) (go (s ++ z.2.2.1)) none))
noncomputable def finK (s : List UInt8) : Option AV := pick2 (ltI 1000 ↑s.length) (errJ 3) (some (.tup [.str s, .int .i64 0]))
theorem stepK2 (l : List Piece) (r m : Nat) (s : List UInt8) (i : Int) : jK2 l r (m + 1) s i =
    pick2 (ltI i ↑l.length) (pick2 (!ltI 1000 ↑s.length) (pick2 (ltI 0 i) (pick2 (Nat.ble (s.length + 1) 9223372036854775807) (wrK l i (s ++ [32]) fun s' => jK2 l r m s' (IntKind.wrap .i64 (i + 1))) none) (wrK l i s fun s' => jK2 l r m s' (IntKind.wrap .i64 (i + 1)))) (finK s)) (finK s) := by kernel_rfl
theorem wrK_eq {l : List Piece} {i : Int} {y : Piece} (hg : getI l i = some y) (hc : condW y = true) {s : List UInt8} (hs : s.length ≤ 100000) (go : List UInt8 → Option AV) : wrK l i s go = go (s ++ writS y) := by
  unfold condW at hc
  simp only [Bool.and_eq_true, Nat.ble_eq] at hc
  obtain ⟨⟨h1, h2⟩, h3⟩ := hc
  have hw := writ_len h3
  unfold wrK atL
  rw [hg]
  show pick2 (eqI y.1 2) (pick2 (!ltI y.2.1 (-9223372036854775808) && ltI y.2.1 9223372036854775808) (pick2 (Nat.ble (s.length + (hexS y.2.1).length) 9223372036854775807) (go (s ++ hexS y.2.1)) none) none)
    (pick2 (eqI y.1 3) (pick2 (Nat.ble (s.length + 1) 9223372036854775807) (pick2 (Nat.ble ((s ++ [34]).length + y.2.2.1.length) 9223372036854775807) (pick2 (Nat.ble ((s ++ [34] ++ y.2.2.1).length + 1) 9223372036854775807) (go (s ++ [34] ++ y.2.2.1 ++ [34])) none) none) none)
      (pick2 (Nat.ble (s.length + y.2.2.1.length) 9223372036854775807) (go (s ++ y.2.2.1)) none)) = _
  have q1 : Nat.ble (s.length + 1) 9223372036854775807 = true := bleT (by omega)
  have q2 : Nat.ble ((s ++ [34]).length + y.2.2.1.length) 9223372036854775807 = true := bleT (by simp; omega)
  have q3 : Nat.ble ((s ++ [34] ++ y.2.2.1).length + 1) 9223372036854775807 = true := bleT (by simp; omega)
  have q4 : Nat.ble (s.length + y.2.2.1.length) 9223372036854775807 = true := bleT (by omega)
  rw [h1, h2, pick_eq, pick_eq, q1, q2, q3, q4]
  by_cases k2 : y.1 = 2
  · have e : writS y = hexS y.2.1 := by unfold writS hexS; rw [if_pos k2]
    rw [e] at hw
    rw [if_pos k2, e, bleT (by omega)]; rfl
  · rw [if_neg k2]
    by_cases k3 : y.1 = 3
    · have e : writS y = [34] ++ y.2.2.1 ++ [34] := by unfold writS; rw [if_neg k2, if_pos k3]
      rw [if_pos k3, e]
      show go (s ++ [34] ++ y.2.2.1 ++ [34]) = _
      simp
    · have e : writS y = y.2.2.1 := by unfold writS; rw [if_neg k2, if_neg k3]
      rw [if_neg k3, e]
theorem loopK2 (l : List Piece) (hl : l.length ≤ 1000) (r : Nat) : ∀ (rest pre : List Piece) (m : Nat) (b : List UInt8), l = pre ++ rest → rest.length < m → 1 ≤ pre.length → (∀ y ∈ rest, condW y = true) →
    jK2 l r m b pre.length = outJ (if 1000 < b.length then ([], 3) else joinG rest b) := by
  intro rest
  induction rest with
  | nil =>
    intro pre m b he hm hp _
    obtain ⟨m, rfl⟩ : ∃ m', m = m' + 1 := ⟨m - 1, by simp at hm; omega⟩
    have e0 : l = pre := by rw [he]; simp
    rw [stepK2, ltF (a := (pre.length : Int)) (by rw [e0]; omega)]
    show finK b = _
    unfold finK
    rw [pick_lt]
    split
    · rw [if_pos (by omega)]; rfl
    · rw [if_neg (by omega)]; rfl
  | cons y rest ih =>
    intro pre m b he hm hp hc
    obtain ⟨m, rfl⟩ : ∃ m', m = m' + 1 := ⟨m - 1, by simp at hm; omega⟩
    have e1 : l.length = pre.length + (rest.length + 1) := by rw [he]; simp
    have hg : getI l (pre.length : Int) = some y := by rw [he]; exact getI_at pre rest y
    rw [stepK2, ltT (a := (pre.length : Int)) (by omega)]
    show pick2 (!ltI 1000 ↑b.length) (pick2 (ltI 0 ↑pre.length) (pick2 (Nat.ble (b.length + 1) 9223372036854775807) (wrK l ↑pre.length (b ++ [32]) fun s' => jK2 l r m s' (IntKind.wrap .i64 (↑pre.length + 1))) none) _) (finK b) = _
    rw [pick_nlt]
    by_cases hb : 1000 < b.length
    · rw [if_neg (by omega), if_pos hb]
      unfold finK
      rw [ltT (by omega)]; rfl
    · rw [if_pos (by omega), if_neg hb, ltT (a := 0) (by omega), bleT (show b.length + 1 ≤ 9223372036854775807 by omega)]
      show wrK l ↑pre.length (b ++ [32]) (fun s' => jK2 l r m s' (IntKind.wrap .i64 (↑pre.length + 1))) = _
      rw [wrK_eq hg (hc y (by simp)) (by simp; omega), i64_in (n := (pre.length : Int) + 1) (by omega) (by omega), joinG]
      have hin := ih (pre ++ [y]) m (b ++ [32] ++ writS y) (by rw [he]; simp) (by simp at hm; omega) (by simp) (fun x hx => hc x (by simp [hx]))
      rw [List.length_append] at hin
      exact hin
theorem restK_run (l : List Piece) (hl : l.length ≤ 1000) (r : Nat) (hr : l.length < r) (hc : ∀ y ∈ l, condW y = true) (hv : l.all validB = true) : restK l r = outJ (joinS l) := by
  rw [restK_eq]
  unfold joinS
  rw [if_pos hv]
  obtain ⟨m, rfl⟩ : ∃ m, r = m + 1 := ⟨r - 1, by omega⟩
  rw [stepK2]
  cases l with
  | nil => rfl
  | cons y l =>
    rw [ltT (a := (0 : Int)) (b := ((y :: l).length : Int)) (by simp only [List.length_cons]; omega)]
    show wrK (y :: l) 0 [] (fun s' => jK2 (y :: l) (m + 1) m s' 1) = _
    rw [wrK_eq (y := y) rfl (hc y (by simp)) (by simp)]
    exact loopK2 (y :: l) hl (m + 1) l [y] m (writS y) rfl (by simp at hr; omega) (by simp) (fun x hx => hc x (by simp [hx]))
theorem loopK1 (l : List Piece) (hl : l.length ≤ 1000) (r : Nat) (hr : l.length < r) (hc : ∀ y ∈ l, condW y = true) : ∀ (rest pre : List Piece) (m : Nat), l = pre ++ rest → rest.length < m → pre.all validB = true → jK1 l r m pre.length = outJ (joinS l) := by
  intro rest
  induction rest with
  | nil =>
    intro pre m he hm hp
    obtain ⟨m, rfl⟩ : ∃ m', m = m' + 1 := ⟨m - 1, by simp at hm; omega⟩
    have e0 : l = pre := by rw [he]; simp
    rw [stepK1, ltF (by rw [e0]; omega)]
    exact restK_run l hl r hr hc (by rw [e0]; exact hp)
  | cons y rest ih =>
    intro pre m he hm hp
    obtain ⟨m, rfl⟩ : ∃ m', m = m' + 1 := ⟨m - 1, by simp at hm; omega⟩
    have e1 : l.length = pre.length + (rest.length + 1) := by rw [he]; simp
    have hg : getI l (pre.length : Int) = some y := by rw [he]; exact getI_at pre rest y
    have hcy := hc y (by rw [he]; simp)
    have hs : y.2.2.1.length ≤ 1100 := by
      unfold condW at hcy
      simp only [Bool.and_eq_true, Nat.ble_eq] at hcy
      exact hcy.2
    rw [stepK1]
    unfold atL
    rw [ltT (by omega), hg, i64_in (n := (pre.length : Int) + 1) (by omega) (by omega)]
    show pick2 (Nat.ble y.2.2.1.length 1100) (pick2 (!validB y) (errJ 2) (jK1 l r m (↑pre.length + 1))) none = _
    rw [bleT hs]
    cases hv : validB y with
    | true =>
      have hin := ih (pre ++ [y]) m (by rw [he]; simp) (by simp at hm; omega) (by rw [List.all_append, hp]; simp [hv])
      rw [List.length_append] at hin
      exact hin
    | false =>
      have : l.all validB = false := by rw [he, List.all_append, List.all_cons, hv]; simp
      unfold joinS
      rw [this]; rfl
theorem runK (l : List Piece) (hl : l.length ≤ 1000) (hc : ∀ y ∈ l, condW y = true) : enterT (Xg gvT) (d8' AV) anK (l.length + 1) 30 [.lst tyTok l] TMem.empty (fun v _ => some v) = some (.tup [.str (joinS l).1, .int .i64 (joinS l).2]) := by
  rw [enterK]
  exact loopK1 l hl (l.length + 1) (by omega) hc l [] (l.length + 1) rfl (by omega) rfl
theorem con30 : ConOk (Xg gvT) (cfOf (Xg gvT) noKnown) 30 gJoin := con_joined d8'_ok fun l h1 h2 => ⟨_, runK l h1 h2⟩
theorem run14T : enterT (Xg gvT) (c0 gvT AV) an0 60 14 [] TMem.empty (fun v _ => some v) = some (.bool true) := by kernel_rfl
theorem con14T : ConOk (Xg gvT) (cfOf (Xg gvT) noKnown) 14 gYes :=
  con_vals (nk 14) (c0_ok gvT) fun args rs hg => by
    unfold gYes at hg
    split at hg
    · simp only [Option.some.injEq, Prod.mk.injEq] at hg
      obtain ⟨_, rfl⟩ := hg
      exact ⟨[.bool true], an0, 60, run14T, rfl, rfl⟩
    · cases hg
noncomputable def M9' : List Con := [(14, [], gYes), (27, [some tyTok, none], gLong), (29, [some tyTok], gJoin), (30, [some tyTok], gJoin), (31, [some tyTok, some tyTok], gSame)]
theorem M9'_ok : TabOk (Xg gvT) (cfOf (Xg gvT) noKnown) M9' := .cons con14T (.cons con27 (.cons con29 (.cons con30 (.cons con31 .nil))))
noncomputable def d9' (β : Type) : CallT β := callT (Xg gvT) (tab M9') inl 200 β 20
theorem d9'_ok (β : Type) : CallTOk (Xg gvT) (cfOf (Xg gvT) noKnown) (d9' β) := callT_ok M9'_ok (fun _ _ _ => rfl) 200 20 β
theorem tree11 (l : List Piece) : enterT (Xg gvT) (d9' AV) an0 5 11 [.lst tyTok l] TMem.empty (fun v _ => some v) =
    pick2 (Nat.ble l.length 9223372036854775807) (pick2 (longB l 200) (some (.bool true)) (pick2 (Nat.ble (0 + l.length) 1000000) (pick2 (Nat.ble l.length 1000 && l.all condW) (pick2 (Nat.ble l.length 1000 && l.all condW)
      (pick2 (decide ((joinS l).1 = (joinS l).1)) (pick2 (eqI (joinS l).2 (joinS l).2) (pick2 (Nat.ble l.length 999999 && decide (l = l)) (some (.bool true)) none) (some (.bool false))) (some (.bool false))) none) none) none)) none := by kernel_rfl
theorem writes (l : List Piece) (hl : l.length ≤ maxLen) (hw : ∀ y ∈ l, wfD tyTok y) : enterT (Xg gvT) (d9' AV) an0 5 11 [.lst tyTok l] TMem.empty (fun v _ => some v) = some (.bool true) := by
  rw [tree11, bleT (show l.length ≤ 9223372036854775807 from hl)]
  cases hb : longB l 200 with
  | true => rfl
  | false =>
    unfold longB at hb
    simp only [Bool.or_eq_false_iff, decide_eq_false_iff_not, List.any_eq_false, decide_eq_true_eq] at hb
    obtain ⟨h1, h2⟩ := hb
    have hc : l.all condW = true := by
      rw [List.all_eq_true]
      intro y hy
      have hn := (hw y hy).2.1
      have hs := h2 y hy
      have hr : -9223372036854775808 ≤ y.2.1 ∧ y.2.1 < 9223372036854775808 := by
        have hn : (Lit.int .i64 y.2.1).wf = true := hn
        simp [Lit.wf, IntKind.min, IntKind.max, IntKind.signed, IntKind.bits] at hn
        omega
      unfold condW
      rw [ltF hr.1, ltT hr.2, bleT (by omega)]; rfl
    rw [bleT (show 0 + l.length ≤ 1000000 by omega), bleT (show l.length ≤ 1000 by omega), bleT (show l.length ≤ 999999 by omega), hc, decide_eq_true rfl, decide_eq_true rfl, eqT rfl]
    rfl
end Go.Proofs.YtcafcgiemdlobaaDoor.lt
