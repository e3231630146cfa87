/- VexBack comes to true: what is read is laid so; all of it. -/
import Derived.Test.YtpabmjpkkhmidaaVy9
namespace Go.Proofs.Ytpabmjpkkhmidaa
open Go.Tv Go.Ev

section
variable {β : Type} {q z : List Int} {n c : Int} {k : AV → Option β} {yes no y : Option β}
theorem fin_true (hc : c = 0) (b : Bool) : fin c k b = k (.bool b) := by unfold fin; rw [eqT hc]
theorem room_ok (h0 : 0 ≤ n) (h1 : n ≤ z.length) : ltI ↑(List.length z) n = false ∧ (!ltI n 0 && !ltI (Int.ofNat (List.length z)) n) = true := by
  refine ⟨ltF h1, ?_⟩
  rw [ltF h0, ltF (show n ≤ Int.ofNat z.length from h1)]; rfl
theorem fnd_yes (h0 : 0 ≤ n) (h1 : n ≤ z.length) (h : List.map iU8 q = List.map iU8 (cutL z 0 n)) : fnd q z n yes no = yes := by
  obtain ⟨r1, r2⟩ := room_ok h0 h1
  unfold fnd
  rw [r1, r2, decide_eq_true h]; rfl
theorem fnd_any (h0 : 0 ≤ n) (h1 : n ≤ z.length) (hy : yes = y) (hn : no = y) : fnd q z n yes no = y := by
  obtain ⟨r1, r2⟩ := room_ok h0 h1
  unfold fnd
  rw [r1, r2, hy, hn]
  cases decide (List.map iU8 q = List.map iU8 (cutL z 0 n)) <;> rfl
theorem fndL_yes (hc : c = 0) (h0 : 0 ≤ n) (h1 : n ≤ z.length) (h : List.map iU8 q = List.map iU8 (cutL z 0 n)) : fndL q z n c k = k (.bool true) := by
  obtain ⟨r1, r2⟩ := room_ok h0 h1
  unfold fndL
  rw [r1, r2, decide_eq_true h]
  exact fin_true hc true
end

theorem byte_nat {l : List Int} (h : okB l = true) {a : Int} (ha : a ∈ l) : ∃ i : Nat, a = Int.ofNat i ∧ i < 256 := by
  have := List.all_eq_true.1 h a ha
  simp only [ltI_spec, Bool.and_eq_true, Bool.not_eq_true', decide_eq_true_eq, decide_eq_false_iff_not] at this
  exact ⟨a.toNat, by show a = (a.toNat : Int); omega, by omega⟩

theorem bitB_spec {n : Int} (h : bitB n = true) : n = 0 ∨ n = 1 := by
  simpa [bitB, eqI_spec] using h
theorem preB_spec {n : Int} (h : preB n = true) : n = 0 ∨ n = 1 ∨ n = 2 ∨ n = 4 := by
  simpa [preB, eqI_spec] using h

theorem q4_of {a : Nat} (ha : a < 256) (h : 1 ≤ rM (Int.ofNat a) ∧ rM (Int.ofNat a) ≤ 3) : (rR (Int.ofNat a) = 0 ∨ rR (Int.ofNat a) = 1) ∧ (rX (Int.ofNat a) = 0 ∨ rX (Int.ofNat a) = 1) ∧ (rB (Int.ofNat a) = 0 ∨ rB (Int.ofNat a) = 1) ∧ bM (rR (Int.ofNat a)) (rX (Int.ofNat a)) (rB (Int.ofNat a)) (rM (Int.ofNat a)) = Int.ofNat a := by
  have h1 := allN_spec q4_all a (Nat.zero_le _) (by omega)
  simp only [q4, Bool.and_eq_true] at h1
  obtain ⟨h1, h2, h3, h4⟩ := h1
  rw [ltF h.1, ltF h.2] at h4
  exact ⟨bitB_spec h1, bitB_spec h2, bitB_spec h3, by rw [pick2_eq, pick2_eq] at h4; simpa [eqI_spec] using h4⟩
theorem q5_of {c : Nat} (hc : c < 256) : (rW (Int.ofNat c) = 0 ∨ rW (Int.ofNat c) = 1) ∧ (rL (Int.ofNat c) = 0 ∨ rL (Int.ofNat c) = 1) ∧ (rP (Int.ofNat c) = 0 ∨ rP (Int.ofNat c) = 1 ∨ rP (Int.ofNat c) = 2 ∨ rP (Int.ofNat c) = 4) ∧ (0 ≤ rV (Int.ofNat c) ∧ rV (Int.ofNat c) ≤ 15) ∧ bN (rW (Int.ofNat c)) (rV (Int.ofNat c)) (rL (Int.ofNat c)) (pkI (rP (Int.ofNat c))) = Int.ofNat c := by
  have h1 := allN_spec q5_all c (Nat.zero_le _) (by omega)
  simp only [q5, Bool.and_eq_true] at h1
  obtain ⟨h1, h2, h3, h4, h5⟩ := h1
  refine ⟨bitB_spec h1, bitB_spec h2, preB_spec h3, ?_, by simpa [eqI_spec] using h5⟩
  simp only [ltI_spec, Bool.not_eq_true', decide_eq_false_iff_not] at h4
  omega
theorem q6_of {c : Nat} (hc : c < 256) : (rR (Int.ofNat c) = 0 ∨ rR (Int.ofNat c) = 1) ∧ (rL (Int.ofNat c) = 0 ∨ rL (Int.ofNat c) = 1) ∧ (rP (Int.ofNat c) = 0 ∨ rP (Int.ofNat c) = 1 ∨ rP (Int.ofNat c) = 2 ∨ rP (Int.ofNat c) = 4) ∧ (0 ≤ rV (Int.ofNat c) ∧ rV (Int.ofNat c) ≤ 15) ∧ bO (rR (Int.ofNat c)) (rV (Int.ofNat c)) (rL (Int.ofNat c)) (pkI (rP (Int.ofNat c))) = Int.ofNat c := by
  have h1 := allN_spec q6_all c (Nat.zero_le _) (by omega)
  simp only [q6, Bool.and_eq_true] at h1
  obtain ⟨h1, h2, h3, h4, h5⟩ := h1
  refine ⟨bitB_spec h1, bitB_spec h2, preB_spec h3, ?_, by simpa [eqI_spec] using h5⟩
  simp only [ltI_spec, Bool.not_eq_true', decide_eq_false_iff_not] at h4
  omega

/-- What Read may answer. -/
theorem vr_cases {z : List Int} (hz : okB z = true) : vr z = none9 ∨ vr z = none4 ∨ (∃ y t, y < 256 ∧ z = 197 :: Int.ofNat y :: t) ∨ ∃ a c t, a < 256 ∧ c < 256 ∧ z = 196 :: Int.ofNat a :: Int.ofNat c :: t ∧ 1 ≤ rM (Int.ofNat a) ∧ rM (Int.ofNat a) ≤ 3 := by
  cases z with
  | nil => exact .inl rfl
  | cons f t =>
    by_cases h7 : f = 197
    · subst h7
      cases t with
      | nil => exact .inl rfl
      | cons y t =>
        obtain ⟨i, rfl, hi⟩ := byte_nat hz (a := y) (by simp)
        exact .inr (.inr (.inl ⟨i, t, hi, rfl⟩))
    · by_cases h6 : f = 196
      · subst h6
        cases t with
        | nil => exact .inl rfl
        | cons y t =>
          obtain ⟨i, rfl, hi⟩ := byte_nat hz (a := y) (by simp)
          have e : vr (196 :: Int.ofNat i :: t) = pick2 (ltI (rM (Int.ofNat i)) 1) none4 (pick2 (ltI 3 (rM (Int.ofNat i))) none4 (vr4 (Int.ofNat i) t)) := rfl
          by_cases g1 : rM (Int.ofNat i) < 1
          · rw [ltT g1] at e; exact .inr (.inl e)
          by_cases g2 : 3 < rM (Int.ofNat i)
          · rw [ltF (by omega), ltT g2] at e; exact .inr (.inl e)
          rw [ltF (by omega), ltF (by omega)] at e
          cases t with
          | nil => exact .inl e
          | cons c t =>
            obtain ⟨j, rfl, hj⟩ := byte_nat hz (a := c) (by simp)
            exact .inr (.inr (.inr ⟨i, j, t, hi, hj, rfl, by omega, by omega⟩))
      · refine .inr (.inl ?_)
        show pick2 (eqI f 197) (vr2 t) (pick2 (eqI f 196) (vr3 t) none4) = none4
        rw [eqF h7, eqF h6]

theorem fromA {β : Type} (k : AV → TMem → Option β) (f : TFr) (H : TMem) : codeFrom X0 (dV5 β) an14 10 14 pA k f H = midT X0 (dV5 β) an14 10 14 pA [true] k (codeFrom X0 (dV5 β) an14 10 14 pB k) f H :=
  from_from (p := pA) (q := []) (by kernel_rfl) k f H
theorem fromB {β : Type} (k : AV → TMem → Option β) (f : TFr) (H : TMem) : codeFrom X0 (dV5 β) an14 10 14 pB k f H = midT X0 (dV5 β) an14 10 14 pB [true, true, true, true] k (codeFrom X0 (dV5 β) an14 10 14 pC k) f H :=
  from_from (p := pB) (q := [true, true, true]) (by kernel_rfl) k f H

section
variable {β : Type} (ei : Bool) (z : List Int) (k : AV → Option β) (K : TFr → TMem → Option β)
theorem treeC_fail (hz : okB z = true) (h : vr z = none9 ∨ vr z = none4) : treeC ei z k K = k (.bool true) := by
  unfold treeC
  rw [hz]
  rcases h with h | h <;> rw [h] <;> rfl
theorem treeC_good (hz : okB z = true) {r x b m w v l p n : Int} (h : vr z = [r, x, b, m, w, v, l, p, n, 0]) (g : Good r x b m w v l p) :
    treeC ei z k K = allT r x b m w v l p ei fun L => K (F3 z n (.own 1 L.length) 0) (memOf [cells r x b m w v l p, ways L]) := by
  unfold treeC
  rw [hz, h]
  have e0 : nth [r, x, b, m, w, v, l, p, n, 0] 0 = r := rfl
  have e1 : nth [r, x, b, m, w, v, l, p, n, 0] 1 = x := rfl
  have e2 : nth [r, x, b, m, w, v, l, p, n, 0] 2 = b := rfl
  have e3 : nth [r, x, b, m, w, v, l, p, n, 0] 3 = m := rfl
  have e4 : nth [r, x, b, m, w, v, l, p, n, 0] 4 = w := rfl
  have e5 : nth [r, x, b, m, w, v, l, p, n, 0] 5 = v := rfl
  have e6 : nth [r, x, b, m, w, v, l, p, n, 0] 6 = l := rfl
  have e7 : nth [r, x, b, m, w, v, l, p, n, 0] 7 = p := rfl
  have e8 : nth [r, x, b, m, w, v, l, p, n, 0] 8 = n := rfl
  have e9 : nth [r, x, b, m, w, v, l, p, n, 0] 9 = 0 := rfl
  rw [e0, e1, e2, e3, e4, e5, e6, e7, e8, e9, good_chk g]
  rfl
end

section
variable {β : Type} {r x b m w v l p : Int} {C : List (List Int) → Option β} {y : Option β}
theorem allT_true (hA : x = 0 → b = 0 → m = 1 → C [[197, bO r v l (pkI p)], longL r x b m 0 v l p, longL r x b m 1 v l p] = y) (hB : C [longL r x b m 0 v l p, longL r x b m 1 v l p] = y) : allT r x b m w v l p true C = y := by
  show pick2 (eqI x 0) (pick2 (eqI b 0) (pick2 (eqI m 1) (C [[197, bO r v l (pkI p)], longL r x b m 0 v l p, longL r x b m 1 v l p]) (C [longL r x b m 0 v l p, longL r x b m 1 v l p])) (C [longL r x b m 0 v l p, longL r x b m 1 v l p])) (C [longL r x b m 0 v l p, longL r x b m 1 v l p]) = y
  simp only [pick_eq]
  split
  · split
    · split
      · exact hA ‹_› ‹_› ‹_›
      · exact hB
    · exact hB
  · exact hB
theorem allT_false (hA : x = 0 → b = 0 → w = 0 → m = 1 → C [[197, bO r v l (pkI p)], longL r x b m w v l p] = y) (hB : C [longL r x b m w v l p] = y) : allT r x b m w v l p false C = y := by
  show pick2 (eqI x 0) (pick2 (eqI b 0) (pick2 (eqI w 0) (pick2 (eqI m 1) (C [[197, bO r v l (pkI p)], longL r x b m w v l p]) (C [longL r x b m w v l p])) (C [longL r x b m w v l p])) (C [longL r x b m w v l p])) (C [longL r x b m w v l p]) = y
  simp only [pick_eq]
  split
  · split
    · split
      · split
        · exact hA ‹_› ‹_› ‹_› ‹_›
        · exact hB
      · exact hB
    · exact hB
  · exact hB
end

/-- What is read is laid so. -/
theorem tail_true {β : Type} (ei : Bool) (z : List Int) (hz : okB z = true) (hn : z.length ≤ 20) (k : AV → Option β) : codeFrom X0 (dV5 β) an14 10 14 pB (fun v _ => k v) (F2 ei z) (memOf []) = k (.bool true) := by
  rw [fromB, runC]
  rcases vr_cases hz with h | h | ⟨y, t, hy, rfl⟩ | ⟨a, c, t, ha, hc, rfl, hm⟩
  · exact treeC_fail ei z k _ hz (.inl h)
  · exact treeC_fail ei z k _ hz (.inr h)
  · obtain ⟨b1, b2, b3, b4, b5⟩ := q6_of hy
    have g : Good (rR (Int.ofNat y)) 0 0 1 0 (rV (Int.ofNat y)) (rL (Int.ofNat y)) (rP (Int.ofNat y)) := ⟨b1, .inl rfl, .inl rfl, .inl rfl, b2, by omega, b4, b3⟩
    have hc := good_chk g
    rw [treeC_good ei _ k _ hz rfl g]
    have hl : (2 : Int) ≤ ↑(List.length (197 :: Int.ofNat y :: t)) := by simp; omega
    have hcut : List.map iU8 [197, bO (rR (Int.ofNat y)) (rV (Int.ofNat y)) (rL (Int.ofNat y)) (pkI (rP (Int.ofNat y)))] = List.map iU8 (cutL (197 :: Int.ofNat y :: t) 0 2) := by rw [b5]; rfl
    cases ei with
    | true =>
      exact (runD4 (rR (Int.ofNat y)) 0 0 1 0 (rV (Int.ofNat y)) (rL (Int.ofNat y)) (rP (Int.ofNat y)) (197 :: Int.ofNat y :: t) 2 k _ _ _ _ _).trans ((fnd_yes (by omega) hl hcut).trans (fin_true hc true))
    | false =>
      exact (runD2 (rR (Int.ofNat y)) 0 0 1 0 (rV (Int.ofNat y)) (rL (Int.ofNat y)) (rP (Int.ofNat y)) (197 :: Int.ofNat y :: t) 2 k _ _ _).trans ((fnd_yes (by omega) hl hcut).trans (fin_true hc true))
  · obtain ⟨a1, a2, a3, a4⟩ := q4_of ha hm
    obtain ⟨b1, b2, b3, b4, b5⟩ := q5_of hc
    have g : Good (rR (Int.ofNat a)) (rX (Int.ofNat a)) (rB (Int.ofNat a)) (rM (Int.ofNat a)) (rW (Int.ofNat c)) (rV (Int.ofNat c)) (rL (Int.ofNat c)) (rP (Int.ofNat c)) := ⟨a1, a2, a3, b1, b2, hm, b4, b3⟩
    have hck := good_chk g
    rw [treeC_good ei _ k _ hz (vr_three hm) g]
    have hl : (3 : Int) ≤ ↑(List.length (196 :: Int.ofNat a :: Int.ofNat c :: t)) := by simp; omega
    have hcut : List.map iU8 [196, bM (rR (Int.ofNat a)) (rX (Int.ofNat a)) (rB (Int.ofNat a)) (rM (Int.ofNat a)), bN (rW (Int.ofNat c)) (rV (Int.ofNat c)) (rL (Int.ofNat c)) (pkI (rP (Int.ofNat c)))] = List.map iU8 (cutL (196 :: Int.ofNat a :: Int.ofNat c :: t) 0 3) := by rw [a4, b5]; rfl
    revert g hck hcut
    generalize rR (Int.ofNat a) = r at *
    generalize rX (Int.ofNat a) = x at *
    generalize rB (Int.ofNat a) = b at *
    generalize rM (Int.ofNat a) = m at *
    generalize rW (Int.ofNat c) = w at *
    generalize rV (Int.ofNat c) = v at *
    generalize rL (Int.ofNat c) = l at *
    generalize rP (Int.ofNat c) = p at *
    generalize 196 :: Int.ofNat a :: Int.ofNat c :: t = z at *
    intro g hck hcut
    have last : fndL [196, bM r x b m, bN w v l (pkI p)] z 3 (chkI r x b m w v l p) k = k (.bool true) := fndL_yes hck (by omega) hl hcut
    cases ei with
    | false =>
      refine allT_false (fun _ _ _ _ => ?_) ?_
      · exact (runD2 r x b m w v l p z 3 k _ _ _).trans (fnd_any (by omega) hl (fin_true hck true) last)
      · exact (runD1 r x b m w v l p z 3 k _ _).trans last
    | true =>
      have two : fnd [196, bM r x b m, bN 0 v l (pkI p)] z 3 (fin (chkI r x b m w v l p) k true) (fndL [196, bM r x b m, bN 1 v l (pkI p)] z 3 (chkI r x b m w v l p) k) = k (.bool true) := by
        rcases b1 with rfl | rfl
        · exact (fnd_yes (by omega) hl hcut).trans (fin_true hck true)
        · exact fnd_any (by omega) hl (fin_true hck true) last
      refine allT_true (fun _ _ _ => ?_) ?_
      · exact (runD4 r x b m w v l p z 3 k _ _ _ _ _).trans (fnd_any (by omega) hl (fin_true hck true) two)
      · exact (runD3 r x b m w v l p z 3 k _ _ _ _).trans two

theorem law14 {β : Type} (r x b m w v l p : Int) (ei : Bool) (z : List Int) (hz : okB z = true) (k : AV → Option β) : enterT X0 (dV5 β) an14 10 14 [agV r x b m w v l p, .bool ei, .lst (.int .u8) z] TMem.empty (fun v _ => k v) = k (.bool true) := by
  rw [enter_from (p := pA) (by kernel_rfl), runA]
  unfold treeA
  by_cases h20 : (20 : Int) < ↑(List.length z)
  · rw [ltT h20]
  have hn : z.length ≤ 20 := by omega
  rw [ltF (by omega)]
  by_cases hc : chkI r x b m w v l p = 0
  · have g := chk_good hc
    rw [eqT hc]
    show allT r x b m w v l p ei _ = _
    have g0 : Good r x b m 0 v l p := ⟨g.r, g.x, g.b, .inl rfl, g.l, g.m, g.v, g.p⟩
    have g1 : Good r x b m 1 v l p := ⟨g.r, g.x, g.b, .inr rfl, g.l, g.m, g.v, g.p⟩
    cases ei with
    | true =>
      have no : ∀ {w' : Int}, true = false → w' = w := fun h => by cases h
      refine allT_true (fun h1 h2 h3 => ?_) ?_
      · subst h1; subst h2; subst h3
        rw [fromA]
        exact (runB4 r 0 0 1 w v l p true z k _ _ _ _ _ _).trans ((way_two g0 (fun h => by cases h) hz hn).trans ((way_long g g0 no hz hn).trans ((way_long g g1 no hz hn).trans ((sameD_ok g0 g1).trans (tail_true true z hz hn k)))))
      · rw [fromA]
        exact (runB3 r x b m w v l p true z k _ _ _ _ _).trans ((way_long g g0 no hz hn).trans ((way_long g g1 no hz hn).trans ((sameD_ok g0 g1).trans (tail_true true z hz hn k))))
    | false =>
      refine allT_false (fun h1 h2 h4 h3 => ?_) ?_
      · subst h1; subst h2; subst h3; subst h4
        rw [fromA]
        exact (runB2 r 0 0 1 0 v l p false z k _ _ _ _).trans ((way_two g0 (fun _ => rfl) hz hn).trans ((way_long g g (fun _ => rfl) hz hn).trans (tail_true false z hz hn k)))
      · rw [fromA]
        exact (runB1 r x b m w v l p false z k _ _ _).trans ((way_long g g (fun _ => rfl) hz hn).trans (tail_true false z hz hn k))
  · rw [eqF hc]
    show codeFrom X0 (dV5 β) an14 10 14 pA (fun v _ => k v) (F1 ei z .nils (chkI r x b m w v l p)) (memOf [cells r x b m w v l p]) = _
    rw [fromA, runB0]
    exact tail_true ei z hz hn k
end Go.Proofs.Ytpabmjpkkhmidaa
