/- The layer's operations beside the evaluator's: append, copy, slices that go on owning. -/
import Derived.Test.YtcafcgiemdlobaaDoorTvT
namespace Go.Tv
open Go.Ev (Tr pick2 Leave Mem Blk alive pick2_eq alive_some semPure pureA opA addrFree withMem orElse)

section
variable {X : Cfg} {cf : Nat × Nat → Ev.CallF} {o : Oper} {ev : Operand → AV} {H : TMem} {β : Type} {r : β}

theorem nbeq {a b : Nat} (h : Nat.beq a b = false) : a ≠ b := fun e => by subst e; rw [Nat.beq_refl] at h; cases h

/-- A slice that is appended to. -/
inductive BaseAt (S : Wo) (H : TMem) (E : Mem) (te : TypeId) (e : Ty) (old : List e.den) : TMem → Value → Prop where
  | nil (h : old = []) : BaseAt S H E te e old H (.slice none 0 0)
  | nilRow (id r) (hg : H.get id = some r) (hro : r.roB = false) (h : old = []) : BaseAt S H E te e old (H.put id .dead) (.slice none 0 0)
  | row (id r i cap b mid post) (hg : H.get id = some r) (hro : r.roB = false) (hρ : S.ρ id = some (i, cap, e.size)) (hb : alive E i = some b) (hlk : E.lk ≤ i) (hc : b.cells = mid ++ post) (hC : CRL (CR S.F e) old mid) (hn : b.cells.length = cap * e.size) (hl : old.length ≤ cap) (hcap : cap ≤ 1000000) (hel : b.elem = te) : BaseAt S H E te e old (H.put id .dead) (.slice (some ⟨i, 0, none⟩) old.length cap)

theorem base_sim {S : Wo} {E : Mem} (hr : Rel S H E) {te : TypeId} {e : Ty} {s : AV} {old : List e.den} {H' : TMem} {x : Value} (h : baseT H te e s = some (old, H')) (hx : VR S s x) : BaseAt S H E te e old H' x := by
  unfold baseT at h
  split at h
  · cases h; cases hx; exact .nil rfl
  · rename_i id n
    split at h
    · rename_i t' e' l ver ex hg
      rw [pick2_eq] at h
      split at h
      · rename_i hmay
        simp only [Bool.and_eq_true, Nat.beq_eq] at hmay
        obtain ⟨hmay, rfl⟩ := hmay
        split at h
        · rename_i l' hcl
          cases h
          obtain ⟨he, hc⟩ := castL_spec hcl
          subst he
          have hc : l = old := hc
          subst hc
          obtain ⟨g1, ⟨g0, g, g2, g2'⟩, g3⟩ := hr.row id _ hg
          cases hx with
          | own _ _ i0 cap0 s0 hρ g' hg' hn' =>
            rw [g2] at hg'; cases hg'
            rcases g3 with ⟨_, g5, _⟩ | ⟨i', cap, b, mid, post, q1, q2, q3, q4, q5, q6, q7, q8, q9, q10⟩
            · rw [hρ] at g5; cases g5
            · rw [hρ] at q1; cases q1
              have := BaseAt.row (S := S) (H := H) (E := E) (te := t') (e := e') (old := l) id _ i0 cap0 b mid post hg rfl hρ q2 (hr.lk id _ _ hg (by simpa [TMem.mayB, Nat.ble_eq] using hmay) hρ) q4 q5 q6 q7 q8 q3
              rw [← g2', hn'] at this
              exact this
          | ownNil _ g' hg' hn' =>
            rw [g2] at hg'; cases hg'
            have h0 : l = [] := List.length_eq_zero_iff.1 (by omega)
            exact .nilRow id _ hg rfl h0
        · cases h
      · cases h
    · cases h
  · rename_i id len cap1
    split at h
    · rename_i t' e' l ver hg
      rw [pick2_eq] at h
      split at h
      · rename_i hmay
        simp only [Bool.and_eq_true, Nat.beq_eq] at hmay
        obtain ⟨hmay, rfl⟩ := hmay
        split at h
        · rename_i l' hcl
          cases h
          obtain ⟨he, hc⟩ := castL_spec hcl
          subst he
          have hc : l = l' := hc
          subst hc
          obtain ⟨g1, ⟨g0, g, g2, g2'⟩, g3⟩ := hr.row id _ hg
          cases hx with
          | osl _ _ _ _ i0 c0 s0 hρ g' hg' hcc hll =>
            rw [g2] at hg'; cases hg'
            rcases g3 with ⟨_, g5, _⟩ | ⟨i', cap, b, mid, post, q1, q2, q3, q4, q5, q6, q7, q8, q9, q10⟩
            · rw [hρ] at g5; cases g5
            · rw [hρ] at q1; cases q1
              obtain ⟨c1, c2, e1, k1, k2⟩ := q5.split (fun x c => CR.length e' x c) len
              have hlen : (l.take len).length = len := by simp; omega
              have hcap : cap1 = c0 := by have := (q9 rfl).2.2; omega
              subst hcap
              have := BaseAt.row (S := S) (H := H) (E := E) (te := t') (e := e') (old := l.take len) id _ i0 cap1 b c1 (c2 ++ post) hg rfl hρ q2 (hr.lk id _ _ hg (by simpa [TMem.mayB, Nat.ble_eq] using hmay) hρ) (by rw [q4, e1]; simp) k1 q6 (by omega) q8 q3
              rw [hlen] at this
              rw [Nat.zero_mul]
              exact this
        · cases h
      · cases h
    · cases h
  · cases h

theorem new_rowAt {S : Wo} {H : TMem} {E' : Mem} {te : TypeId} {e : Ty} {l : List e.den} {i cap : Nat} {b : Blk} {mid post : List Value} {fx : Bool} (hr : ∀ v, S.Γ H.next v = none) (hb : alive E' i = some b) (hel : b.elem = te) (hc : b.cells = mid ++ post) (hC : CRL (CR S.F e) l mid) (hn : b.cells.length = cap * e.size) (hl : l.length ≤ cap) (hcap : cap ≤ 1000000) (hx : fx = true → b.fix = true ∧ post = [] ∧ l.length = cap) :
    RowAt (S.new H.next (some (i, cap, e.size)) (some ⟨e, l⟩)) E' H.next (.list te e l 0 fx false) := by
  refine ⟨if_pos ⟨rfl, rfl⟩, ⟨fun v hv => ?_, ⟨e, l⟩, if_pos ⟨rfl, rfl⟩, rfl⟩, .inr ⟨i, cap, b, mid, post, if_pos rfl, hb, hel, hc, hC, hn, hl, hcap, hx, fun h => by cases h⟩⟩
  show (if H.next = H.next ∧ v = 0 then some _ else S.Γ H.next v) = none
  rw [if_neg (by omega)]; exact hr v

theorem nil_rowAt {S : Wo} {H : TMem} {E' : Mem} {te : TypeId} {e : Ty} (hr : ∀ v, S.Γ H.next v = none) : RowAt (S.new H.next none (some ⟨e, ([] : List e.den)⟩)) E' H.next (.list te e [] 0 false false) := by
  refine ⟨if_pos ⟨rfl, rfl⟩, ⟨fun v hv => ?_, ⟨e, []⟩, if_pos ⟨rfl, rfl⟩, rfl⟩, .inl ⟨rfl, if_pos rfl, rfl⟩⟩
  show (if H.next = H.next ∧ v = 0 then some _ else S.Γ H.next v) = none
  rw [if_neg (by omega)]; exact hr v

theorem append_core {S : Wo} {E : Mem} (hr : Rel S H E) {st xt te : TypeId} {inf : TypeInfo} {z : Value} {e : Ty} {old new : List e.den} {H' : TMem} {s' x' : Value} (hu : X.P.underlying st = some (.slice te)) (hxt : Ev.isSliceType X.P xt = true) (hi : X.P.info? te = some inf) (hz : Ev.zeroA X.P te = some z)
    (hsz : inf.size = e.size) (h0 : inf.size ≠ 0) (hb0 : inf.bytes ≠ 0) (hb1 : inf.bytes ≤ 100000) (hzc : z.cells.size = inf.size) (hlim : old.length + new.length ≤ 1000000)
    (hlen : Ev.lenA x' = some new.length) (hnew : ∃ c, Ev.firstA E e.size new.length x' = some c ∧ CRL (CR S.F e) new c) (hbase : BaseAt S H E te e old H' s') :
    ∃ S' vE E', Ev.appendA X.P E st xt s' x' = some (vE, E') ∧ S.le S' ∧ VR S' (.own H'.next (old.length + new.length)) vE ∧ Rel S' (H'.push (.list te e (old ++ new) 0 false false)) E' ∧ St S H E S' (H'.push (.list te e (old ++ new) 0 false false)) E' := by
  obtain ⟨nc, hn1, hn2⟩ := hnew
  have hR : ∀ x c, CR S.F e x c → c.length = e.size := fun x c => CR.length e x c
  have hncl := hn2.length hR
  have hgam : ∀ v, S.Γ H.next v = none := fun v => hr.gam _ _ (Nat.le_refl _)
  have hspos : 0 < e.size := by omega
  -- the evaluator's own tests
  have appA : ∀ (base : Option Addr) (sLen sCap : Nat) (oc : List Value), Ev.firstA E e.size sLen (.slice base sLen sCap) = some oc → sLen = old.length → sCap ≤ 1000000 →
      Ev.appendA X.P E st xt (.slice base sLen sCap) x' = (if sLen + new.length ≤ sCap then
          match base with
          | some ⟨b, off, none⟩ => (Ev.writeCells E b (off + sLen * inf.size) nc).map fun H' => (.slice base (sLen + new.length) sCap, H')
          | _ => if new.length = 0 then some (.slice base sLen sCap, E) else none
        else
          match base with
          | some ⟨b, off, none⟩ =>
            if off = 0 ∧ oc.length = sLen * inf.size ∧ (alive E b).any (fun k => decide (k.cells.length = sCap * inf.size) && (k.elem == te)) then
              match Ev.kill E b with
              | some H1 => Ev.newSlice H1 te (oc ++ nc) (sLen + new.length) (sLen + new.length)
              | none => none
            else none
          | none => Ev.newSlice E te (oc ++ nc) (sLen + new.length) (sLen + new.length)
          | _ => none) := by
    intro base sLen sCap oc hoc hsl hcap
    unfold Ev.appendA
    simp only [hu, hxt, hi, hz, hlen]
    rw [hsz, hn1, hoc]
    simp only
    have hcond : ¬ (e.size = 0 ∨ inf.bytes = 0 ∨ inf.bytes > 100000 ∨ sLen + new.length > 1000000 ∨ sCap > 1000000 ∨ z.cells.size ≠ e.size ∨ (!nc.all Ev.plainCell) = true) := by
      rw [hn2.plain]; simp; omega
    rw [if_neg hcond]
    rfl
  -- a new row of the evaluator's
  have fresh : ∀ (E1 : Mem), E1.size = E.size → E1.lk = E.lk → ∀ (oc : List Value), CRL (CR S.F e) old oc →
      ∃ E', Ev.newSlice E1 te (oc ++ nc) (old.length + new.length) (old.length + new.length) = some (.slice (some ⟨E.size, 0, none⟩) (old.length + new.length) (old.length + new.length), E') ∧ E.size ≤ E'.size ∧ E'.lk = E.lk ∧ (∀ j, j < E.size → E'.get j = E1.get j) ∧
        RowAt (S.new H.next (some (E.size, old.length + new.length, e.size)) (some ⟨e, old ++ new⟩)) E' H.next (.list te e (old ++ new) 0 false false) ∧ VR (S.new H.next (some (E.size, old.length + new.length, e.size)) (some ⟨e, old ++ new⟩)) (.own H.next (old.length + new.length)) (.slice (some ⟨E.size, 0, none⟩) (old.length + new.length) (old.length + new.length)) := by
    intro E1 h1 h2 oc hoc
    obtain ⟨E', hE⟩ := Mem.push_total E1 ⟨oc ++ nc, te, true, false⟩
    obtain ⟨p1, p2, p3⟩ := Ev.Mem.push_spec hE
    refine ⟨E', ?_, by omega, by omega, fun j hj => by rw [p3, if_neg (by omega)], ?_, ?_⟩
    · unfold Ev.newSlice; rw [hE]; simp only [h1]
    · refine new_rowAt (b := ⟨oc ++ nc, te, true, false⟩) (mid := oc ++ nc) (post := []) hgam (alive_eq (by rw [p3, if_pos h1.symm]) rfl) rfl (by simp) (hoc.append hn2) ?_ (by simp) hlim (fun h => by cases h)
      simp only [List.length_append, hncl, hoc.length hR, Nat.add_mul]
    · exact .own _ _ _ _ e.size (if_pos rfl) ⟨e, old ++ new⟩ (if_pos ⟨rfl, rfl⟩) (by simp)
  cases hbase with
  | nil ho =>
    subst ho
    rw [appA none 0 0 [] (by simp [Ev.firstA]) rfl (by omega)]
    by_cases hn : new.length = 0
    · have hnil : new = [] := List.length_eq_zero_iff.1 hn
      subst hnil
      obtain ⟨a1, a2, a3⟩ := hr.add (r := .list te e ([] ++ []) 0 false false) (x := none) (g := some ⟨e, []⟩) (Nat.le_refl _) rfl (fun _ _ => rfl) (fun r' h => by cases h; exact nil_rowAt hgam) (fun y h => by cases h) rfl
      exact ⟨_, _, E, by simp, a1, .ownNil _ ⟨e, []⟩ (if_pos ⟨rfl, rfl⟩) rfl, a2, a3⟩
    · obtain ⟨E', e1, e2, e3, e4, e5, e6⟩ := fresh E rfl rfl [] rfl
      obtain ⟨a1, a2, a3⟩ := hr.add (r := .list te e ([] ++ new) 0 false false) (x := some (E.size, ([] : List e.den).length + new.length, e.size)) (g := some ⟨e, [] ++ new⟩) e2 e3 e4 (fun r' h => by cases h; exact e5) (fun y h => by cases h; exact Nat.le_refl _) rfl
      refine ⟨_, _, E', ?_, a1, e6, a2, a3⟩
      rw [if_neg (by omega)]
      exact e1
  | nilRow id r0 hg hro ho =>
    subst ho
    have hnx : (H.put id .dead).next = H.next := (TMem.put_spec H id .dead).1
    rw [appA none 0 0 [] (by simp [Ev.firstA]) rfl (by omega), hnx]
    by_cases hn : new.length = 0
    · have hnil : new = [] := List.length_eq_zero_iff.1 hn
      subst hnil
      obtain ⟨a1, a2, a3⟩ := hr.move (E' := E) (r := .list te e ([] ++ []) 0 false false) (x := none) (g := some ⟨e, []⟩) hg hro (Nat.le_refl _) rfl (fun _ _ _ => rfl) (fun y h => by cases h) (fun r' h => by cases h; exact nil_rowAt hgam) rfl
      exact ⟨_, _, E, by simp, a1, .ownNil _ ⟨e, []⟩ (if_pos ⟨rfl, rfl⟩) rfl, a2, a3⟩
    · obtain ⟨E', e1, e2, e3, e4, e5, e6⟩ := fresh E rfl rfl [] rfl
      obtain ⟨a1, a2, a3⟩ := hr.move (E' := E') (r := .list te e ([] ++ new) 0 false false) (x := some (E.size, ([] : List e.den).length + new.length, e.size)) (g := some ⟨e, [] ++ new⟩) hg hro e2 e3 (fun j hj _ => e4 j hj) (fun y h => by cases h; exact .inl (Nat.le_refl _)) (fun r' h => by cases h; exact e5) rfl
      refine ⟨_, _, E', ?_, a1, e6, a2, a3⟩
      rw [if_neg (by omega)]
      exact e1
  | row id r0 i cap b mid post hg hro hρ hb hlk hc hC hn hl hcap hel =>
    have hnx : (H.put id .dead).next = H.next := (TMem.put_spec H id .dead).1
    have hml := hC.length hR
    obtain ⟨oc, ho1, ho2⟩ := row_read (pre := []) hR (fun _ _ h => h.noJunk) hb (by simpa using hc) hC 0 old.length (by omega)
    have hoc : Ev.firstA E e.size old.length (.slice (some ⟨i, 0, none⟩) old.length cap) = some oc := by simpa [Ev.firstA] using ho1
    have ho3 : CRL (CR S.F e) old oc := by simpa using ho2
    rw [appA _ _ _ oc hoc rfl hcap, hnx]
    by_cases hroom : old.length + new.length ≤ cap
    · rw [if_pos hroom]
      have hbound : 0 + old.length * inf.size + nc.length ≤ b.cells.length := by
        rw [hncl, hn, hsz, Nat.zero_add, ← Nat.add_mul]; exact Nat.mul_le_mul_right _ hroom
      obtain ⟨E', w1, w2, w3, b', w4, w5, w6, w7, w8⟩ := writeCells_of hb hlk hbound hn2.plain
      have hcells : b'.cells = (mid ++ nc) ++ post.drop nc.length := by
        rw [w5, hc]
        have hoff : 0 + old.length * inf.size = mid.length := by rw [hml, hsz]; omega
        rw [hoff]
        have hpl : nc.length ≤ post.length := by
          have : b.cells.length = mid.length + post.length := by rw [hc]; simp
          omega
        have := putL_mid mid post [] nc 0 (by omega)
        simp only [List.append_nil, Nat.add_zero] at this
        rw [this, putL_eq nc post 0 (by omega)]
        simp
      have hb'len : b'.cells.length = cap * e.size := by rw [w5, putL_length, hn]
      obtain ⟨a1, a2, a3⟩ := hr.move (E' := E') (r := .list te e (old ++ new) 0 false false) (x := some (i, cap, e.size)) (g := some ⟨e, old ++ new⟩) hg hro (by omega) w3 (fun j hj hne => w8 j (hne _ hρ)) (fun y h => by cases h; exact .inr ⟨_, hρ, rfl, hlk⟩)
        (fun r' h => by
          cases h
          exact new_rowAt hgam w4 (by rw [w6, hel]) hcells (hC.append hn2) hb'len (by simpa using hroom) hcap (fun h => by cases h)) rfl
      refine ⟨_, _, E', by simp only [w1, Option.map_some], a1, .own _ _ i cap e.size (if_pos rfl) ⟨e, old ++ new⟩ (if_pos ⟨rfl, rfl⟩) (by simp), a2, a3⟩
    · rw [if_neg hroom]
      have hcond : (True ∧ oc.length = old.length * inf.size ∧ (alive E i).any (fun k => decide (k.cells.length = cap * inf.size) && (k.elem == te)) = true) := by
        refine ⟨trivial, by rw [ho3.length hR, hsz], ?_⟩
        rw [hb]; simp [hn, hsz, hel]
      simp only
      rw [if_pos hcond]
      obtain ⟨hgi, hli⟩ := alive_some hb
      obtain ⟨E1, hE1⟩ := Mem.set_total (b := { b with live := false }) (alive_lt hb) hlk
      obtain ⟨_, _, s3, s4, s5⟩ := Ev.Mem.set_spec hE1
      have hkill : Ev.kill E i = some E1 := by unfold Ev.kill; rw [hgi]; exact hE1
      rw [hkill]
      obtain ⟨E', e1, e2, e3, e4, e5, e6⟩ := fresh E1 s3 s4 oc ho3
      obtain ⟨a1, a2, a3⟩ := hr.move (E' := E') (r := .list te e (old ++ new) 0 false false) (x := some (E.size, old.length + new.length, e.size)) (g := some ⟨e, old ++ new⟩) hg hro e2 e3 (fun j hj hne => by rw [e4 j hj, s5, if_neg (hne _ hρ)]) (fun y h => by cases h; exact .inl (Nat.le_refl _)) (fun r' h => by cases h; exact e5) rfl
      exact ⟨_, _, E', e1, a1, e6, a2, a3⟩

theorem append_sim {c : Call} {s x : Operand} {st xt : TypeId} (hop : o.op = .call c) (hc : c.callee = .builtin .append) (h0 : c.args[0]? = some s) (h1 : c.args[1]? = some x) (h2 : c.argTypes[0]? = some st) (h3 : c.argTypes[1]? = some xt) {k : AV → TMem → Option β} (h : appendT X H st xt (ev s) (ev x) k = some r) :
    ∃ v H', k v H' = some r ∧ OpSim X cf o ev H v H' := by
  unfold appendT at h
  split at h
  · rename_i te hu hxt
    split at h
    · rename_i inf z e hi hz hty
      rw [pick2_eq] at h
      split at h
      · rename_i hcs
        simp only [Bool.and_eq_true, Nat.beq_eq, Nat.ble_eq, Bool.not_eq_true'] at hcs
        obtain ⟨⟨⟨⟨c1, c2⟩, c3⟩, c4⟩, c5⟩ := hcs
        split at h
        · rename_i new old H' hv hb
          rw [pick2_eq] at h
          split at h
          · rename_i hlim
            have hlim := Nat.le_of_ble_eq_true hlim
            refine ⟨_, _, h, fun S E evE hr hev => ?_⟩
            rw [hop] at hev
            have mem : ∀ (y : Operand) (j : Nat), c.args[j]? = some y → y ∈ (Op.call c).operands := fun y j hy => by
              have := Array.mem_of_getElem? hy
              simp only [Op.operands, Call.operands, hc]
              simpa using this
            have hs := hev s (mem s 0 h0)
            have hx := hev x (mem x 1 h1)
            obtain ⟨l1, l2⟩ := view_sim hr hv hx
            obtain ⟨nc, n1, n2⟩ := l2 new.length (Nat.le_refl _)
            rw [List.take_length] at n2
            obtain ⟨S', vE, E', a1, a2, a3, a4, a5⟩ := append_core (X := X) hr hu hxt hi hz c1 (nbeq c2) (nbeq c3) c4 c5 hlim l1 ⟨nc, n1, n2⟩ (base_sim hr hb hs)
            refine ⟨S', vE, E', ⟨0, fun _ _ => ?_⟩, a2, a3, a4, a5⟩
            unfold opA; rw [hop]
            show Ev.opCalls X.P _ evE o c E = _
            unfold Ev.opCalls
            rw [hc]
            show Ev.opAppend X.P evE c.args c.argTypes E = _
            unfold Ev.opAppend
            rw [h0, h1, h2, h3]
            exact a1
          · cases h
        · cases h
      · cases h
    · cases h
  · cases h

theorem trunc_sim {t : TypeId} {x y : Operand} (hop : o.op = .slice t x none (some y) none) {k : AV → TMem → Option β} (h : truncT X H t (ev x) (ev y) k = some r) : ∃ v H', k v H' = some r ∧ OpSim X cf o ev H v H' := by
  unfold truncT at h
  split at h
  · rename_i te id n kb b hu hp hq
    split at h
    · rename_i t' e l ver ex hg
      rw [pick2_eq] at h
      split at h
      · rename_i hs
        simp only [Bool.and_eq_true] at hs
        obtain ⟨hs, hmay⟩ := hs
        have hs := sizeEq hs
        rw [pick2_eq] at h
        split at h
        · rename_i hb
          have hb := bnd1 hb
          refine ⟨_, _, h, fun S E evE hr hev => ?_⟩
          rw [hop] at hev
          obtain ⟨hx, hlo, hhi⟩ := slice_ops hev
          rw [hp] at hx
          have hgam : ∀ v, S.Γ H.next v = none := fun v => hr.gam _ _ (Nat.le_refl _)
          have hnx : (H.put id .dead).next = H.next := (TMem.put_spec H id .dead).1
          obtain ⟨g1, ⟨g0, g, g2, g2'⟩, g3⟩ := hr.row id _ hg
          generalize hA : evE x = A at hx
          have ha : BR ev 0 none 0 := .none
          have hbr : ∀ len : Nat, BR ev len (some y) b := fun len => .some y kb b hq
          cases hx with
          | own _ _ i0 cap0 s0 hρ g' hg' hn' =>
            rw [g2] at hg'; cases hg'
            rcases g3 with ⟨_, g5, _⟩ | ⟨i', cap, bk, mid, post, q1, q2, q3, q4, q5, q6, q7, q8, q9, q10⟩
            · rw [hρ] at g5; cases g5
            · rw [hρ] at q1; cases q1
              obtain ⟨c1, c2, e1, k1, k2⟩ := q5.split (fun x c => CR.length e x c) b.toNat
              have hlen : (l.take b.toNat).length = b.toNat := by simp; omega
              obtain ⟨a1, a2, a3⟩ := hr.move (E' := E) (r := .list t' e (l.take b.toNat) 0 false false) (x := some (i0, cap0, e.size)) (g := some ⟨e, l.take b.toNat⟩) hg rfl (Nat.le_refl _) rfl (fun _ _ _ => rfl) (fun y h => by cases h; exact .inr ⟨_, hρ, rfl, hr.lk id _ _ hg (by simpa [TMem.mayB, Nat.ble_eq] using hmay) hρ⟩)
                (fun r' h => by
                  cases h
                  exact new_rowAt (mid := c1) (post := c2 ++ post) hgam q2 q3 (by rw [q4, e1]; simp) k1 q6 (by omega) q8 (fun h => by cases h)) rfl
              refine ⟨_, .slice (some ⟨i0, 0, none⟩) b.toNat cap0, E, ⟨0, fun _ _ => opSlice_of hop hu ?_⟩, a1, .own _ _ i0 cap0 e.size (if_pos rfl) ⟨e, l.take b.toNat⟩ (if_pos ⟨rfl, rfl⟩) hlen, a2, a3⟩
              rw [hA]
              have := sliceA_of (S := S) (evE := evE) hu hs ha (hbr n) (by omega) hb.1 (show b ≤ cap0 by omega) hlo hhi (some ⟨i0, 0, none⟩) (.inr ⟨_, _, rfl⟩) (by omega)
              rw [this]; simp
          | ownNil _ g' hg' hn' =>
            rw [g2] at hg'; cases hg'
            have h0 : l = [] := List.length_eq_zero_iff.1 (by omega)
            subst h0
            have hb0 : b.toNat = 0 := by simp at hb; omega
            obtain ⟨a1, a2, a3⟩ := hr.move (E' := E) (r := .list t' e (([] : List e.den).take b.toNat) 0 false false) (x := none) (g := some ⟨e, []⟩) hg rfl (Nat.le_refl _) rfl (fun _ _ _ => rfl) (fun y h => by cases h) (fun r' h => by
              cases h
              rw [List.take_nil]; exact nil_rowAt hgam) rfl
            refine ⟨_, .slice none 0 0, E, ⟨0, fun _ _ => opSlice_of hop hu ?_⟩, a1, by rw [hb0]; exact .ownNil _ ⟨e, []⟩ (if_pos ⟨rfl, rfl⟩) rfl, a2, a3⟩
            rw [hA]
            have := sliceA_of (S := S) (evE := evE) hu hs ha (hbr 0) (by omega) hb.1 (show b ≤ (0 : Nat) by simp at hb; omega) hlo hhi none (.inl rfl) (by omega)
            rw [this]; simp [hb0]
        · cases h
      · cases h
    · cases h
  · cases h

theorem copy_sim {c : Call} {d x : Operand} {dt : TypeId} (hop : o.op = .call c) (hc : c.callee = .builtin .copy) (h0 : c.args[0]? = some d) (h1 : c.args[1]? = some x) (h2 : c.argTypes[0]? = some dt) {k : AV → TMem → Option β} (h : copyT X H dt (ev d) (ev x) k = some r) :
    ∃ v H', k v H' = some r ∧ OpSim X cf o ev H v H' := by
  unfold copyT at h
  split at h
  · rename_i te id off len cap1 hu hd
    split at h
    · rename_i t' e l ver s hg hs
      rw [pick2_eq] at h
      split at h
      · rename_i hcs
        simp only [Bool.and_eq_true, Nat.beq_eq] at hcs
        obtain ⟨hmay, rfl⟩ := hcs
        split at h
        · rename_i new hv
          refine ⟨_, _, h, fun S E evE hr hev => ?_⟩
          rw [hop] at hev
          have mem : ∀ (y : Operand) (j : Nat), c.args[j]? = some y → y ∈ (Op.call c).operands := fun y j hy => by
            have := Array.mem_of_getElem? hy
            simp only [Op.operands, Call.operands, hc]
            simpa using this
          have hdd := hev d (mem d 0 h0)
          have hx := hev x (mem x 1 h1)
          rw [hd] at hdd
          generalize hA : evE d = A at hdd
          obtain ⟨l1, l2⟩ := view_sim hr hv hx
          obtain ⟨nc, n1, n2⟩ := l2 (Nat.min new.length len) (Nat.min_le_left _ _)
          obtain ⟨g1, ⟨g0, g, g2, g2'⟩, g3⟩ := hr.row id _ hg
          cases hdd with
          | osl _ _ _ _ i0 c0 s0 hρ g' hg' hcc hll =>
            rw [g2] at hg'; cases hg'
            rcases g3 with ⟨_, g5, _⟩ | ⟨i', cap, b, mid, post, q1, q2, q3, q4, q5, q6, q7, q8, q9, q10⟩
            · rw [hρ] at g5; cases g5
            · rw [hρ] at q1; cases q1
              have hR : ∀ x c, CR S.F e x c → c.length = e.size := fun x c => CR.length e x c
              obtain ⟨_, hpost, hlc⟩ := q9 rfl
              subst hpost
              rw [List.append_nil] at q4
              have hncl := n2.length hR
              have hmin : (new.take (Nat.min new.length len)).length = Nat.min new.length len := by simp
              have hml : Nat.min new.length len ≤ len := Nat.min_le_right _ _
              have hlk := hr.lk id _ _ hg (by simpa [TMem.mayB, Nat.ble_eq] using hmay) hρ
              have hbound : off * e.size + nc.length ≤ b.cells.length := by
                rw [hncl, hmin, q6, ← Nat.add_mul]; exact Nat.mul_le_mul_right _ (by omega)
              obtain ⟨E', w1, w2, w3, b', w4, w5, w6, w7, w8⟩ := writeCells_of q2 hlk hbound n2.plain
              have hput := CRL.put hR q5 n2 (off := off) (by rw [hmin]; omega)
              obtain ⟨z1, z2, z3⟩ := hr.rewrite hg hρ q2 w2 w3 w8 w4 w6 w7 (mid := putL mid (off * e.size) nc) (post := []) (by rw [w5, q4]; simp) (by rw [w5, putL_length]) hput (putL_length _ _ _) (fun _ => rfl)
              refine ⟨_, goInt (Nat.min new.length len), E', ⟨0, fun _ _ => ?_⟩, z1, .int _ _, z2, z3⟩
              unfold opA; rw [hop]
              show Ev.opCalls X.P _ evE o c E = _
              unfold Ev.opCalls
              rw [hc]
              show Ev.opCopy X.P evE c.args c.argTypes E = _
              unfold Ev.opCopy
              rw [h0, h1, h2]
              show Ev.copyA X.P E dt (evE d) (evE x) = _
              rw [hA]
              simp only [Ev.copyA, hu, l1, hs, n1, w1, Option.map_some]
        · cases h
      · cases h
    · cases h
  · cases h

end
end Go.Tv
