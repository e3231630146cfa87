/- The layer's operations beside the evaluator's: those that write. -/
import Derived.Test.YtcafcgiemdlobaaDoorTvS
namespace Go.Tv
open Go.Ev (Tr pick2 Leave Mem Blk alive pick2_eq alive_some semPure pureA opA addrFree withMem orElse)

theorem putL_eq {α : Type} : ∀ (xs l : List α) (off : Nat), off + xs.length ≤ l.length → putL l off xs = l.take off ++ (xs ++ l.drop (off + xs.length))
  | [], l, off, _ => by simp [putL]
  | x :: xs, l, off, h => by
    simp only [List.length_cons] at h
    rw [putL, putL_eq xs (l.set off x) (off + 1) (by simp; omega)]
    have h1 : (l.set off x).take (off + 1) = l.take off ++ [x] := by
      rw [List.take_succ_eq_append_getElem (by simp; omega), List.take_set, List.set_eq_of_length_le (by simp; omega)]
      simp
    have h2 : (l.set off x).drop (off + 1 + xs.length) = l.drop (off + (x :: xs).length) := by
      rw [List.drop_set_of_lt (by omega)]
      simp only [List.length_cons]; congr 1; omega
    rw [h1, h2]; simp

theorem putCells_eq (l xs : List Value) (off : Nat) : Ev.putCells l off xs = putL l off xs := by
  induction xs generalizing l off with
  | nil => rfl
  | cons x xs ih => exact ih _ _

theorem putL_length {α : Type} : ∀ (xs l : List α) (off : Nat), (putL l off xs).length = l.length
  | [], l, off => rfl
  | x :: xs, l, off => by rw [putL, putL_length xs]; simp

/-- Cells in the middle. -/
theorem putL_mid {α : Type} (a c b xs : List α) (fo : Nat) (h : fo + xs.length ≤ c.length) : putL (a ++ (c ++ b)) (a.length + fo) xs = a ++ (putL c fo xs ++ b) := by
  rw [putL_eq xs c fo h, putL_eq xs _ _ (by simp; omega)]
  rw [List.take_append, List.drop_append]
  simp only [Nat.add_sub_cancel_left]
  have e1 : a.take (a.length + fo) = a := List.take_of_length_le (by omega)
  have e2 : a.drop (a.length + fo + xs.length) = [] := List.drop_eq_nil_of_le (by omega)
  have e3 : a.length + fo + xs.length - a.length = fo + xs.length := by omega
  rw [e1, e2, e3, List.take_append_of_le_length (by omega), List.drop_append_of_le_length (by omega)]
  simp

theorem CRL.set {α : Type} {R : α → List Value → Prop} {l : List α} {j : Nat} {y : α} {a c b : List Value} (hj : j < l.length) (h1 : CRL R (l.take j) a) (h2 : R y c) (h3 : CRL R (l.drop (j + 1)) b) : CRL R (l.set j y) (a ++ (c ++ b)) := by
  have : l.set j y = l.take j ++ (y :: l.drop (j + 1)) := by
    rw [List.set_eq_take_append_cons_drop, if_pos hj]
  rw [this]
  exact h1.append ⟨c, b, rfl, h2, h3⟩

theorem CRL.put {α : Type} {R : α → List Value → Prop} {s : Nat} (hR : ∀ x c, R x c → c.length = s) {l xs : List α} {mid xc : List Value} {off : Nat} (hl : CRL R l mid) (hx : CRL R xs xc) (h : off + xs.length ≤ l.length) : CRL R (putL l off xs) (putL mid (off * s) xc) := by
  have lm := hl.length hR
  have lx := hx.length hR
  obtain ⟨c1, c2, e1, k1, k2⟩ := hl.split hR off
  obtain ⟨c3, c4, e2, k3, k4⟩ := k2.split hR xs.length
  have l1 := k1.length hR
  have l3 := k3.length hR
  have t1 : (l.take off).length = off := by simp; omega
  have t3 : ((l.drop off).take xs.length).length = xs.length := by simp; omega
  rw [t1] at l1; rw [t3] at l3
  rw [putL_eq xs l off h]
  have : putL mid (off * s) xc = c1 ++ (xc ++ c4) := by
    rw [e1, e2, ← l1]
    have := putL_mid c1 c3 c4 xc 0 (by rw [lx, l3]; omega)
    rw [Nat.add_zero] at this
    rw [this, putL_eq xc c3 0 (by rw [lx, l3]; omega)]
    rw [List.drop_eq_nil_of_le (by rw [lx, l3]; omega)]
    simp
  rw [this]
  rw [List.drop_drop] at k4
  exact k1.append (hx.append k4)

theorem CR.plain {F : Nat → Option (List Value)} : ∀ (e : Ty) (x : e.den) (cs : List Value), CR F e x cs → cs.all Ev.plainCell = true
  | .int _, _, _, h => by rw [h]; rfl
  | .bool, _, _, h => by rw [h]; rfl
  | .str, _, _, h => by rw [h]; rfl
  | .flt, _, _, h => by rw [h]; rfl
  | .unit, _, _, h => by rw [h]; rfl
  | .sl _, _, _, ⟨v, h, hs⟩ => by
    rw [h]
    rcases hs with ⟨_, rfl⟩ | ⟨i, pre, mid, post, cap, rfl, _⟩ <;> rfl
  | .pair a b, _, _, ⟨c1, c2, e, h1, h2⟩ => by rw [e, List.all_append, CR.plain a _ _ h1, CR.plain b _ _ h2]; rfl

theorem CRL.plain {F : Nat → Option (List Value)} {e : Ty} : ∀ {l : List e.den} {cs : List Value}, CRL (CR F e) l cs → cs.all Ev.plainCell = true
  | [], _, h => by rw [h]; rfl
  | x :: l, _, ⟨c1, c2, e', h1, h2⟩ => by rw [e', List.all_append, CR.plain e _ _ h1, h2.plain]; rfl

theorem plain_of {S : Wo} {v : AV} {x : Value} (h : VR S v x) (hp : plainT v = true) : Ev.plainCell x = true := by
  cases h with
  | lst e l v hs => rcases hs with ⟨_, rfl⟩ | ⟨i, pre, mid, post, cap, rfl, _⟩ <;> rfl
  | agg => cases hp
  | tup => cases hp
  | unk => cases hp
  | opq v hf => exact hp
  | _ => rfl

theorem all_plain {S : Wo} : ∀ {l : List AV} {m : List Value}, LV S l m → l.all plainT = true → m.all Ev.plainCell = true
  | [], m, h, _ => by rw [h.nil_inv]; rfl
  | v :: l, m, h, hp => by
    obtain ⟨x, m', rfl, h1, h2⟩ := h.cons_inv
    simp only [List.all_cons, Bool.and_eq_true] at hp ⊢
    exact ⟨plain_of h1 hp.1, all_plain h2 hp.2⟩

/-- The cells of a value. -/
theorem cells_sim {S : Wo} {v : AV} {x : Value} {cs : List AV} (h : VR S v x) (hc : cellsT v = some cs) : LV S cs x.cells.toList := by
  have one : ∀ (v : AV) (x : Value), VR S v x → x.cells = #[x] → LV S [v] x.cells.toList := fun v x h e => by rw [e]; exact LV.cons h LV.nil
  cases h with
  | lst e l v hs =>
    cases hc
    have : x.cells = #[x] := by rcases hs with ⟨_, rfl⟩ | ⟨i, pre, mid, post, cap, rfl, _⟩ <;> rfl
    exact one _ _ (.lst e l x hs) this
  | agg l m hl hv => cases hc; exact ⟨by simpa [Value.cells] using hl, by simpa [Value.cells] using hv⟩
  | tup => cases hc
  | unk => cases hc
  | opq v hf =>
    have hc : pick2 (Ev.plainCell x) (some [AV.opq x]) none = some cs := hc
    rw [pick2_eq] at hc
    split at hc
    · rename_i hp
      cases hc
      refine one _ _ (.opq x hf) ?_
      cases x <;> first | rfl | cases hp
    · cases hc
  | _ => cases hc; exact LV.cons (by constructor <;> assumption) LV.nil

section
variable {X : Cfg} {cf : Nat × Nat → Ev.CallF} {o : Oper} {ev : Operand → AV} {H : TMem} {β : Type} {r : β}

theorem writeCells_of {E : Mem} {i off : Nat} {b : Blk} {vs : List Value} (hb : alive E i = some b) (hlk : E.lk ≤ i) (hlen : off + vs.length ≤ b.cells.length) (hp : vs.all Ev.plainCell = true) :
    ∃ E', Ev.writeCells E i off vs = some E' ∧ E'.size = E.size ∧ E'.lk = E.lk ∧ ∃ b', alive E' i = some b' ∧ b'.cells = putL b.cells off vs ∧ b'.elem = b.elem ∧ b'.fix = b.fix ∧ ∀ j, j ≠ i → E'.get j = E.get j := by
  unfold Ev.writeCells
  cases vs with
  | nil => exact ⟨E, rfl, rfl, rfl, b, hb, rfl, rfl, rfl, fun _ _ => rfl⟩
  | cons v vs =>
    rw [if_neg (by simp), hb]
    simp only
    rw [if_pos (by rw [hp]; simpa using hlen)]
    obtain ⟨E', hE⟩ := Mem.set_total (b := { b with cells := Ev.putCells b.cells off (v :: vs) }) (alive_lt hb) hlk
    obtain ⟨_, _, h3, h4, h5⟩ := Ev.Mem.set_spec hE
    refine ⟨E', hE, h3, h4, { b with cells := Ev.putCells b.cells off (v :: vs) }, alive_eq (by rw [h5, if_pos rfl]) (alive_some hb).2, putCells_eq _ _ _, rfl, rfl, fun j hj => by rw [h5, if_neg hj]⟩

def Wo.ver (S : Wo) (id v : Nat) (g : Sigma fun e : Ty => List e.den) : Wo := ⟨S.F, S.ρ, fun j w => if j = id ∧ w = v then some g else S.Γ j w⟩

theorem Wo.ver_le {S : Wo} {id v : Nat} {g : Sigma fun e : Ty => List e.den} (h : S.Γ id v = none) : S.le (S.ver id v g) :=
  ⟨fun _ _ h => h, fun _ _ h => h, fun j w x hx => by
    show (if j = id ∧ w = v then some g else S.Γ j w) = _
    by_cases hj : j = id ∧ w = v
    · obtain ⟨rfl, rfl⟩ := hj; rw [h] at hx; cases hx
    · rw [if_neg hj]; exact hx⟩

/-- A list's row is written: other elements, as many. -/
theorem Rel.rewrite {S : Wo} {E E' : Mem} (hr : Rel S H E) {id : Nat} {t : TypeId} {e : Ty} {l l' : List e.den} {ver : Nat} {ex : Bool} (hg : H.get id = some (.list t e l ver ex false)) {i cap : Nat} {b b' : Blk} {mid post : List Value}
    (hρ : S.ρ id = some (i, cap, e.size)) (hb : alive E i = some b) (hs : E'.size = E.size) (hlk : E'.lk = E.lk) (hE : ∀ j, j ≠ i → E'.get j = E.get j) (hb' : alive E' i = some b') (hel : b'.elem = b.elem) (hfix : b'.fix = b.fix) (hc : b'.cells = mid ++ post) (hlen : b'.cells.length = b.cells.length)
    (hC : CRL (CR S.F e) l' mid) (hl : l'.length = l.length) (hpost : ex = true → post = []) :
    S.le (S.ver id (ver + 1) ⟨e, l'⟩) ∧ Rel (S.ver id (ver + 1) ⟨e, l'⟩) (H.put id (.list t e l' (ver + 1) ex false)) E' ∧ St S H E (S.ver id (ver + 1) ⟨e, l'⟩) (H.put id (.list t e l' (ver + 1) ex false)) E' := by
  obtain ⟨g1, ⟨g0, g, g2, g2'⟩, g3⟩ := hr.row id _ hg
  have hle : S.le (S.ver id (ver + 1) ⟨e, l'⟩) := Wo.ver_le (g0 _ (by omega))
  rcases g3 with ⟨_, g5, _⟩ | ⟨i', cap', b0, mid0, post0, q1, q2, q3, q4, q5, q6, q7, q8, q9, q10⟩
  · rw [hρ] at g5; cases g5
  · rw [hρ] at q1; cases q1
    rw [hb] at q2; cases q2
    refine ⟨hle, hr.mod hg rfl hle rfl (fun j w hj => if_neg (by omega)) hs hlk (fun j hj => hE j (hj _ hρ)) (fun j cs h => .inl h) fun q hq => ?_⟩
    cases hq
    refine ⟨if_pos ⟨rfl, rfl⟩, ⟨fun v hv => ?_, g, hle.Γ _ _ _ g2, by omega⟩, .inr ⟨i, cap, b', mid, post, hρ, hb', by rw [hel, q3], hc, hC, by rw [hlen, q6], by omega, q8, fun hx => ⟨by rw [hfix]; exact (q9 hx).1, hpost hx, by have := (q9 hx).2.2; omega⟩, fun h => by cases h⟩⟩
    show (if id = id ∧ v = ver + 1 then some _ else S.Γ id v) = none
    rw [if_neg (by omega)]; exact g0 v (by omega)

theorem store_sim {t : TypeId} {p q : Operand} (hop : o.op = .store t p q) {k : AV → TMem → Option β} (h : storeT X H t (ev p) (ev q) (fun H' => k .unk H') = some r) : ∃ v H', k v H' = some r ∧ OpSim X cf o ev H v H' := by
  unfold storeT at h
  split at h
  · rename_i id off n vs hp hn hvs
    split at h
    · rename_i cs hg
      rw [pick2_eq] at h
      split at h
      · rename_i hc
        simp only [Bool.and_eq_true, Nat.beq_eq, Nat.ble_eq] at hc
        obtain ⟨⟨⟨hmay, hln⟩, hpl⟩, hof⟩ := hc
        refine ⟨_, _, h, fun S E evE hr hev => ?_⟩
        rw [hop] at hev
        have hx := hev p (by simp [Op.operands])
        have hy := hev q (by simp [Op.operands])
        rw [hp] at hx
        generalize hA : evE p = A at hx
        cases hx with
        | ptr _ _ i c s hρ =>
          obtain ⟨i', c', s', b, k1, k2, k3⟩ := hr.row id _ hg
          rw [hρ] at k1; cases k1
          have hcl := cells_sim hy hvs
          have hmay' : H.lk ≤ id := by simpa [TMem.mayB, Nat.ble_eq] using hmay
          have hlk := hr.lk id _ _ hg hmay' hρ
          have hof' : off + n ≤ cs.length := hof
          obtain ⟨E', w1, w2, w3, b', w4, w5, w6, w7, w8⟩ := writeCells_of (off := off) (vs := (evE q).cells.toList) k2 hlk (by rw [← hcl.1, ← k3.1]; omega) (all_plain hcl hpl)
          obtain ⟨m1, m2⟩ := hr.mod (S' := S) (E' := E') (r' := .cells (putL cs off vs)) hg rfl S.le_refl rfl (fun _ _ _ => rfl) w2 w3 (fun j hj => w8 j (hj _ hρ)) (fun j cs h => .inl h) (fun q hq => by
            cases hq
            refine ⟨i, c, s, b', hρ, w4, ?_⟩
            rw [w5, ← putCells_eq]
            exact LV.putL vs _ off hcl k3)
          refine ⟨S, undef, E', ⟨0, fun _ _ => ?_⟩, S.le_refl, .unk _, m1, m2⟩
          unfold opA; rw [hop]
          show Ev.opStore X.P t (evE p) (evE q) E = _
          have hsz : (evE q).cells.size = n := by
            have := hcl.1; simp at this; omega
          simp only [Ev.opStore, Ev.storeA, hA, hn, hsz, if_true, w1]
      · cases h
    · cases h
  · rename_i id j fo ver cur n vs hp hn hvs
    split at h
    · rename_i t' e l ver' ex ro hg
      rw [pick2_eq] at h
      split at h
      · rename_i hc
        simp only [Bool.and_eq_true, Nat.beq_eq, Nat.ble_eq, Bool.not_eq_true'] at hc
        obtain ⟨⟨⟨⟨⟨hmay, hln⟩, hpl⟩, hof⟩, rfl⟩, rfl⟩ := hc
        split at h
        · rename_i y hun
          refine ⟨_, _, h, fun S E evE hr hev => ?_⟩
          rw [hop] at hev
          have hx := hev p (by simp [Op.operands])
          have hy := hev q (by simp [Op.operands])
          rw [hp] at hx
          generalize hA : evE p = A at hx
          cases hx with
          | ept _ _ _ _ _ i c e' l2 y' hρ hΓ hy' hcur =>
            obtain ⟨g1, ⟨g0, g, g2, g2'⟩, g3⟩ := hr.row id _ hg
            rw [g1] at hΓ; cases hΓ
            rcases g3 with ⟨_, g5, _⟩ | ⟨i', cap, b, mid, post, q1, q2, q3, q4, q5, q6, q7, q8, q9, q10⟩
            · rw [hρ] at g5; cases g5
            · rw [hρ] at q1; cases q1
              obtain ⟨a, cc, bb, w1, w2, w3, w4, w5⟩ := q5.get (fun x c => CR.length e x c) hy'
              subst hcur
              have hcc := CR.length e _ _ w3
              have hfl := flat_length e y'
              have hcl := cells_sim hy hvs
              have hof' : fo + n ≤ e.size := by rw [← hfl]; exact hof
              have hmay' : H.lk ≤ id := by simpa [TMem.mayB, Nat.ble_eq] using hmay
              have hlk := hr.lk id _ _ hg hmay' hρ
              have hbc : b.cells = a ++ (cc ++ (bb ++ post)) := by rw [q4, w1]; simp
              have hxl : (evE q).cells.toList.length = n := by rw [← hcl.1]; exact hln
              obtain ⟨E', v1, v2, v3, b', v4, v5, v6, v7, v8⟩ := writeCells_of (off := j * e.size + fo) (vs := (evE q).cells.toList) q2 hlk (by rw [hbc]; simp at hxl ⊢; omega) (all_plain hcl hpl)
              have hnew : putL b.cells (j * e.size + fo) (evE q).cells.toList = a ++ (putL cc fo (evE q).cells.toList ++ (bb ++ post)) := by
                rw [hbc, ← w2]; exact putL_mid a cc (bb ++ post) _ fo (by omega)
              have hLV := LV.putL vs _ fo hcl (CR.flat e _ _ w3)
              rw [putCells_eq] at hLV
              obtain ⟨c1, m', e1, r1, r2⟩ := unflat_spec e hun hLV
              have hm' := r2.nil_inv
              subst hm'
              rw [List.append_nil] at e1
              have hjl := get_lt hy'
              have hC : CRL (CR S.F e) (l.set j y) (a ++ (c1 ++ bb)) := CRL.set hjl w4 r1 w5
              obtain ⟨z1, z2, z3⟩ := hr.rewrite hg hρ q2 v2 v3 v8 v4 v6 v7 (mid := a ++ (c1 ++ bb)) (post := post) (by rw [v5, hnew, e1]; simp) (by rw [v5, putL_length]) hC (by simp) (fun hx => (q9 hx).2.1)
              refine ⟨_, undef, E', ⟨0, fun _ _ => ?_⟩, z1, .unk _, z2, z3⟩
              unfold opA; rw [hop]
              show Ev.opStore X.P t (evE p) (evE q) E = _
              have hsz : (evE q).cells.size = n := by simpa using hxl
              simp only [Ev.opStore, Ev.storeA, hA, hn, hsz, if_true, v1]
        · cases h
      · cases h
    · cases h
  · cases h

end
end Go.Tv
