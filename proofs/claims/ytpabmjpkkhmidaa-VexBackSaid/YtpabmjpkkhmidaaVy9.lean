/- VexBack comes to true. -/
import Derived.Test.YtpabmjpkkhmidaaVy8
namespace Go.Proofs.Ytpabmjpkkhmidaa
open Go.Tv Go.Ev

theorem chk_good {r x b m w v l p : Int} (h : chkI r x b m w v l p = 0) : Good r x b m w v l p := by
  unfold chkI chk at h
  simp only [bit_pick, pick_lt, pick_eq] at h
  by_cases h1 : r = 0 ∨ r = 1
  case neg => rw [if_neg h1] at h; cases h
  by_cases h2 : x = 0 ∨ x = 1
  case neg => rw [if_pos h1, if_neg h2] at h; cases h
  by_cases h3 : b = 0 ∨ b = 1
  case neg => rw [if_pos h1, if_pos h2, if_neg h3] at h; cases h
  by_cases h4 : w = 0 ∨ w = 1
  case neg => rw [if_pos h1, if_pos h2, if_pos h3, if_neg h4] at h; cases h
  by_cases h5 : l = 0 ∨ l = 1
  case neg => rw [if_pos h1, if_pos h2, if_pos h3, if_pos h4, if_neg h5] at h; cases h
  rw [if_pos h1, if_pos h2, if_pos h3, if_pos h4, if_pos h5] at h
  by_cases g1 : m < 1
  · rw [if_pos g1] at h; cases h
  by_cases g2 : 3 < m
  · rw [if_neg g1, if_pos g2] at h; cases h
  by_cases g3 : v < 0
  · rw [if_neg g1, if_neg g2, if_pos g3] at h; cases h
  by_cases g4 : 15 < v
  · rw [if_neg g1, if_neg g2, if_neg g3, if_pos g4] at h; cases h
  rw [if_neg g1, if_neg g2, if_neg g3, if_neg g4] at h
  refine ⟨h1, h2, h3, h4, h5, ⟨by omega, by omega⟩, ⟨by omega, by omega⟩, ?_⟩
  by_cases p0 : p = 0
  · exact .inl p0
  by_cases p1 : p = 1
  · exact .inr (.inl p1)
  by_cases p2 : p = 2
  · exact .inr (.inr (.inl p2))
  by_cases p4 : p = 4
  · exact .inr (.inr (.inr p4))
  rw [if_neg p0, if_neg p1, if_neg p2, if_neg p4] at h
  cases h

theorem good_chk {r x b m w v l p : Int} (g : Good r x b m w v l p) : chkI r x b m w v l p = 0 := by
  unfold chkI chk
  simp only [bit_pick, pick_lt, pick_eq]
  rw [if_pos g.r, if_pos g.x, if_pos g.b, if_pos g.w, if_pos g.l, if_neg (by have := g.m; omega), if_neg (by have := g.m; omega), if_neg (by have := g.v; omega), if_neg (by have := g.v; omega)]
  rcases g.p with rfl | rfl | rfl | rfl <;> rfl

theorem nat_of {n : Int} (h : 0 ≤ n) : ∃ k : Nat, n = Int.ofNat k := ⟨n.toNat, by show n = (n.toNat : Int); omega⟩
theorem inB_spec {c : Int} (h : inB c = true) : 0 ≤ c ∧ c < 256 := by
  simp only [inB, ltI_spec, Bool.and_eq_true, Bool.not_eq_true', decide_eq_true_eq, decide_eq_false_iff_not] at h
  omega

section
variable {r x b m w v l p : Int}
theorem mBack (g : Good r x b m w v l p) : inB (bM r x b m) = true ∧ rR (bM r x b m) = r ∧ rX (bM r x b m) = x ∧ rB (bM r x b m) = b ∧ rM (bM r x b m) = m := by
  obtain ⟨r, rfl⟩ := nat_of (n := r) (by rcases g.r with h | h <;> omega)
  obtain ⟨x, rfl⟩ := nat_of (n := x) (by rcases g.x with h | h <;> omega)
  obtain ⟨b, rfl⟩ := nat_of (n := b) (by rcases g.b with h | h <;> omega)
  obtain ⟨m, rfl⟩ := nat_of (n := m) (by have := g.m; omega)
  have e1 := g.r; have e2 := g.x; have e3 := g.b; have e4 := g.m
  simp only [Int.ofNat_eq_natCast] at e1 e2 e3 e4
  have h := allN_spec (allN_spec (allN_spec (allN_spec q1_all r (by omega) (by omega)) x (by omega) (by omega)) b (by omega) (by omega)) m (by omega) (by omega)
  simp only [q1, Bool.and_eq_true, eqI_spec, beq_iff_eq] at h
  exact h

theorem nBack (g : Good r x b m w v l p) : inB (bN w v l (pkI p)) = true ∧ rW (bN w v l (pkI p)) = w ∧ rV (bN w v l (pkI p)) = v ∧ rL (bN w v l (pkI p)) = l ∧ rP (bN w v l (pkI p)) = p := by
  obtain ⟨w, rfl⟩ := nat_of (n := w) (by rcases g.w with h | h <;> omega)
  obtain ⟨v, rfl⟩ := nat_of (n := v) (by have := g.v; omega)
  obtain ⟨l, rfl⟩ := nat_of (n := l) (by rcases g.l with h | h <;> omega)
  have e1 := g.w; have e2 := g.v; have e3 := g.l
  simp only [Int.ofNat_eq_natCast] at e1 e2 e3
  have h : q2 (Int.ofNat w) (Int.ofNat v) (Int.ofNat l) p = true := by
    rcases g.p with rfl | rfl | rfl | rfl
    · exact allN_spec (allN_spec (allN_spec (allN_spec q2_a w (by omega) (by omega)) v (by omega) (by omega)) l (by omega) (by omega)) 0 (by omega) (by omega)
    · exact allN_spec (allN_spec (allN_spec (allN_spec q2_a w (by omega) (by omega)) v (by omega) (by omega)) l (by omega) (by omega)) 1 (by omega) (by omega)
    · exact allN_spec (allN_spec (allN_spec (allN_spec q2_a w (by omega) (by omega)) v (by omega) (by omega)) l (by omega) (by omega)) 2 (by omega) (by omega)
    · exact allN_spec (allN_spec (allN_spec q2_b w (by omega) (by omega)) v (by omega) (by omega)) l (by omega) (by omega)
  simp only [q2, Bool.and_eq_true, eqI_spec, beq_iff_eq] at h
  exact h
theorem oBack (g : Good r x b m w v l p) : inB (bO r v l (pkI p)) = true ∧ rR (bO r v l (pkI p)) = r ∧ rV (bO r v l (pkI p)) = v ∧ rL (bO r v l (pkI p)) = l ∧ rP (bO r v l (pkI p)) = p := by
  obtain ⟨w, rfl⟩ := nat_of (n := r) (by rcases g.r with h | h <;> omega)
  obtain ⟨v, rfl⟩ := nat_of (n := v) (by have := g.v; omega)
  obtain ⟨l, rfl⟩ := nat_of (n := l) (by rcases g.l with h | h <;> omega)
  have e1 := g.r; have e2 := g.v; have e3 := g.l
  simp only [Int.ofNat_eq_natCast] at e1 e2 e3
  have h : q3 (Int.ofNat w) (Int.ofNat v) (Int.ofNat l) p = true := by
    rcases g.p with rfl | rfl | rfl | rfl
    · exact allN_spec (allN_spec (allN_spec (allN_spec q3_a w (by omega) (by omega)) v (by omega) (by omega)) l (by omega) (by omega)) 0 (by omega) (by omega)
    · exact allN_spec (allN_spec (allN_spec (allN_spec q3_a w (by omega) (by omega)) v (by omega) (by omega)) l (by omega) (by omega)) 1 (by omega) (by omega)
    · exact allN_spec (allN_spec (allN_spec (allN_spec q3_a w (by omega) (by omega)) v (by omega) (by omega)) l (by omega) (by omega)) 2 (by omega) (by omega)
    · exact allN_spec (allN_spec (allN_spec q3_b w (by omega) (by omega)) v (by omega) (by omega)) l (by omega) (by omega)
  simp only [q3, Bool.and_eq_true, eqI_spec, beq_iff_eq] at h
  exact h
end

theorem okB_cons {a : Int} {t : List Int} (h : 0 ≤ a ∧ a < 256) (ht : okB t = true) : okB (a :: t) = true := by
  unfold okB at *
  rw [List.all_cons, ht, Bool.and_true]
  simp only [ltI_spec, Bool.and_eq_true, Bool.not_eq_true', decide_eq_true_eq, decide_eq_false_iff_not]
  omega
theorem okB_nil : okB [] = true := rfl
theorem okB_app {a b : List Int} (h1 : okB a = true) (h2 : okB b = true) : okB (a ++ b) = true := by
  unfold okB at *
  rw [List.all_append, h1, h2]; rfl

theorem way_ok {β : Type} {q z : List Int} {ei : Bool} {r x b m w w' v l p : Int} {bad nx : Option β} (h : vr (q ++ z) = [r, x, b, m, w', v, l, p, (q.length : Int), 0]) (hw : ei = false → w' = w) (hq : okB q = true) (hz : okB z = true) (hlen : q.length + z.length ≤ 1000000)
    (hc : okB (cutL q 0 (IntKind.wrap .i64 (↑(List.length q) - 1))) = true) (hcut : vr (cutL q 0 (IntKind.wrap .i64 (↑(List.length q) - 1))) = none9) : way q z ei r x b m w v l p bad nx = nx := by
  have inner : ∀ u : Int, u = w → wayI q z r x b m w u v l p bad nx = nx := by
    intro u hu
    unfold wayI
    rw [List.nil_append, h, hc, hcut]
    have e0 : nth [r, x, b, m, w', v, l, p, (q.length : Int), 0] 0 = r := rfl
    have e1 : nth [r, x, b, m, w', v, l, p, (q.length : Int), 0] 1 = x := rfl
    have e2 : nth [r, x, b, m, w', v, l, p, (q.length : Int), 0] 2 = b := rfl
    have e3 : nth [r, x, b, m, w', v, l, p, (q.length : Int), 0] 3 = m := rfl
    have e5 : nth [r, x, b, m, w', v, l, p, (q.length : Int), 0] 5 = v := rfl
    have e6 : nth [r, x, b, m, w', v, l, p, (q.length : Int), 0] 6 = l := rfl
    have e7 : nth [r, x, b, m, w', v, l, p, (q.length : Int), 0] 7 = p := rfl
    have e8 : nth [r, x, b, m, w', v, l, p, (q.length : Int), 0] 8 = q.length := rfl
    have e9 : nth [r, x, b, m, w', v, l, p, (q.length : Int), 0] 9 = 0 := rfl
    rw [e0, e1, e2, e3, e5, e6, e7, e8, e9, eqT rfl, eqT rfl, hu]
    simp only [decide_true, Bool.and_self, Bool.not_true, pickF, pickT]
    rfl
  unfold way
  have e4 : nth (vr ([] ++ q ++ z)) 4 = w' := by rw [List.nil_append, h]; rfl
  rw [e4, List.nil_append, bleT hlen, okB_app hq hz]
  cases ei with
  | true => exact inner w rfl
  | false => exact inner w' (hw rfl)

/-- A byte of the way of three. -/
theorem vr_three {a c : Int} {z : List Int} (h : 1 ≤ rM a ∧ rM a ≤ 3) : vr (196 :: a :: c :: z) = [rR a, rX a, rB a, rM a, rW c, rV c, rL c, rP c, 3, 0] := by
  show pick2 (ltI (rM a) 1) none4 (pick2 (ltI 3 (rM a)) none4 (vr4 a (c :: z))) = _
  rw [ltF (by omega), ltF (by omega)]
  rfl
theorem vr_cut {a : Int} (h : 1 ≤ rM a ∧ rM a ≤ 3) : vr [196, a] = none9 := by
  show pick2 (ltI (rM a) 1) none4 (pick2 (ltI 3 (rM a)) none4 (vr4 a [])) = _
  rw [ltF (by omega), ltF (by omega)]
  rfl

section
variable {β : Type} {r x b m w v l p : Int} {ei : Bool} {z : List Int} {bad nx : Option β}
theorem way_long (g : Good r x b m w v l p) {w' : Int} (g' : Good r x b m w' v l p) (hw : ei = false → w' = w) (hz : okB z = true) (hlen : z.length ≤ 20) : way (longL r x b m w' v l p) z ei r x b m w v l p bad nx = nx := by
  obtain ⟨m0, m1, m2, m3, m4⟩ := mBack g
  obtain ⟨n0, n1, n2, n3, n4⟩ := nBack g'
  have hm : 1 ≤ rM (bM r x b m) ∧ rM (bM r x b m) ≤ 3 := by rw [m4]; exact g.m
  have hq : okB [196, bM r x b m, bN w' v l (pkI p)] = true := okB_cons (by omega) (okB_cons (inB_spec m0) (okB_cons (inB_spec n0) okB_nil))
  have hcl : cutL (longL r x b m w' v l p) 0 (IntKind.wrap .i64 (↑(List.length (longL r x b m w' v l p)) - 1)) = [196, bM r x b m] := by
    have : IntKind.wrap .i64 (↑(List.length (longL r x b m w' v l p)) - 1) = 2 := by
      show IntKind.wrap .i64 ((3 : Int) - 1) = 2
      exact i64_in (by omega) (by omega)
    rw [this]; rfl
  refine way_ok (w' := w') ?_ hw hq hz (by show 3 + z.length ≤ _; omega) ?_ ?_
  · have := vr_three (z := z) (c := bN w' v l (pkI p)) hm
    rw [m1, m2, m3, m4, n1, n2, n3, n4] at this
    exact this
  · rw [hcl]; exact okB_cons (by omega) (okB_cons (inB_spec m0) okB_nil)
  · rw [hcl]; exact vr_cut hm
theorem way_two (g : Good r 0 0 1 0 v l p) (hw : ei = false → w = 0) (hz : okB z = true) (hlen : z.length ≤ 20) : way [197, bO r v l (pkI p)] z ei r 0 0 1 w v l p bad nx = nx := by
  obtain ⟨o0, o1, o2, o3, o4⟩ := oBack g
  have hcl : cutL [197, bO r v l (pkI p)] 0 (IntKind.wrap .i64 (↑(List.length [197, bO r v l (pkI p)]) - 1)) = [197] := by
    have : IntKind.wrap .i64 (↑(List.length [197, bO r v l (pkI p)]) - 1) = 1 := by
      show IntKind.wrap .i64 ((2 : Int) - 1) = 1
      exact i64_in (by omega) (by omega)
    rw [this]; rfl
  refine way_ok (w' := 0) ?_ (fun h => (hw h).symm) (okB_cons (by omega) (okB_cons (inB_spec o0) okB_nil)) hz (by show 2 + z.length ≤ _; omega) ?_ ?_
  · show [rR (bO r v l (pkI p)), 0, 0, 1, 0, rV (bO r v l (pkI p)), rL (bO r v l (pkI p)), rP (bO r v l (pkI p)), 2, 0] = _
    rw [o1, o2, o3, o4]; rfl
  · rw [hcl]; rfl
  · rw [hcl]; rfl
theorem iU8_ne {a b : Int} (ha : 0 ≤ a ∧ a < 256) (hb : 0 ≤ b ∧ b < 256) (h : iU8 a = iU8 b) : a = b := by
  have := congrArg UInt8.toNat h
  simp only [iU8, UInt8.toNat_ofNat'] at this
  omega
theorem sameD_ok (g0 : Good r x b m 0 v l p) (g1 : Good r x b m 1 v l p) : sameD (longL r x b m 0 v l p) (longL r x b m 1 v l p) bad nx = nx := by
  obtain ⟨n0, n1, _⟩ := nBack g0
  obtain ⟨k0, k1, _⟩ := nBack g1
  unfold sameD
  have : decide (List.map iU8 (longL r x b m 0 v l p) = List.map iU8 (cutL (longL r x b m 1 v l p) 0 ↑(List.length (longL r x b m 0 v l p)))) = false := by
    rw [decide_eq_false_iff_not]
    intro h
    have h : [iU8 196, iU8 (bM r x b m), iU8 (bN 0 v l (pkI p))] = [iU8 196, iU8 (bM r x b m), iU8 (bN 1 v l (pkI p))] := h
    simp only [List.cons.injEq, and_true, true_and] at h
    have := iU8_ne (inB_spec n0) (inB_spec k0) h
    rw [this, k1] at n1
    cases n1
  rw [this]
end
end Go.Proofs.Ytpabmjpkkhmidaa
