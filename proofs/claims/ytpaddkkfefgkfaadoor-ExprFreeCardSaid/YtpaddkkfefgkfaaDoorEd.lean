/- Expressions: the contract of climb. -/
import Derived.Test.YtpaddkkfefgkfaaDoorEc
namespace Go.Proofs.YtpaddkkfefgkfaaDoor.ex
open Go.Tv Go.Ev Go.Px
noncomputable section

theorem getI_at? {α : Type} (l : List α) (i : Int) : getI l i = at? l i := by cases i <;> rfl

/-- Where a reading may stand. -/
structure BD (l : List Tok) (st : St) : Prop where
  len : l.length ≤ 1000000
  a0 : 0 ≤ st.a
  a1 : st.a ≤ (l.length : Int)
  d0 : 0 ≤ st.d
  d1 : st.d ≤ 50
  x : st.x.length ≤ 200

def toO (L : AV) : Res → OutC
  | some (b, st) => outR b L st st.x.length
  | none => none
def bindO (L : AV) (r : Res) (k : St → OutC) : OutC :=
  match r with
  | some (true, o) => k o
  | some (false, o) => outR false L o o.x.length
  | none => none
theorem toO_go (L : AV) (r : Res) (k : St → Res) : toO L (goS r k) = bindO L r fun o => toO L (k o) := by
  unfold goS bindO
  split <;> rfl
theorem bind_congr {L : AV} {r : Res} {k k' : St → OutC} (h : ∀ o, r = some (true, o) → k o = k' o) : bindO L r k = bindO L r k' := by
  unfold bindO
  split
  · exact h _ rfl
  · rfl
  · rfl

section
variable {rec : List Tok → Int → St → Res} {l : List Tok}

theorem callC_eq {L : AV} {s : Int} {st : St} {k : St → OutC} (h : BD l st) (h1 : 1 ≤ s) (h7 : s ≤ 7) : callC rec L l s st k = bindO L (rec l s st) k := by
  unfold callC okC outC bindO
  rw [bleT h.len, ltF (h.a0), ltF h.a1, ltF h.d0, ltF h.d1, bleT h.x, ltF h1, ltF h7]
  cases hr : rec l s st with
  | none => rfl
  | some q =>
    obtain ⟨b, o⟩ := q
    cases b <;> rfl

theorem nodeC_eq {L : AV} {st : St} {nd : Nd} {f : Int} {k : St → Nat → OutC} {k' : St → Res} (h : BD l st) (hk : st.x.length ≠ 200 → k { st with x := st.x ++ [nd] } (st.x.length + 1) = toO L (k' { st with x := st.x ++ [nd] })) : nodeC L st nd f k st.x.length = toO L (nodeS st nd f k') := by
  unfold nodeC nodeS
  by_cases h2 : st.x.length = 200
  · rw [if_pos h2, eqT (by omega)]; rfl
  · rw [if_neg h2, eqF (by omega), bleT (by have := h.x; omega)]
    exact hk h2
theorem deepC_eq {L : AV} {st : St} {k : St → OutC} {k' : St → Res} (h : BD l st) (ha : st.a < (l.length : Int)) (hk : st.d ≠ 50 → k { st with d := st.d + 1, a := st.a + 1 } = toO L (k' { st with d := st.d + 1, a := st.a + 1 })) : deepC L st k st.x.length = toO L (deepS st k') := by
  unfold deepC deepS
  have := h.len
  have := h.a0
  have := h.d0
  have := h.d1
  by_cases h2 : st.d = 50
  · rw [if_pos h2, eqT h2]; rfl
  · rw [if_neg h2, eqF h2, i64_in (n := st.d + 1) (by omega) (by omega), i64_in (n := st.a + 1) (by omega) (by omega)]
    exact hk h2

theorem sgT_is (t : Tok) (s : List UInt8) : sgT t s = isS t s := sgn_is t.1 t.2.1 t.2.2.2 t.2.2.1 s

/-- A reading that comes on stays where it may stand. -/
def Fine (rec : List Tok → Int → St → Res) (l : List Tok) : Prop := ∀ s st o, 1 ≤ s → BD l st → rec l s st = some (true, o) → Grown nameB l st o
theorem BD.grown {st o : St} (h : BD l st) (g : Grown nameB l st o) : BD l o := by
  obtain ⟨t, _, _, h3, h4, h5, _, _, h8⟩ := g
  exact ⟨h.len, by have := h.a0; omega, h4, by rw [h5]; exact h.d0, by rw [h5]; exact h.d1, h8⟩

theorem loopC (hf : Fine rec l) (s : Int) (hs : 1 ≤ s) (r : Nat) : ∀ (m : Nat) (st : St), BD l st → jCl rec (.lst tyTok l) s r m st.x.length st = toO (.lst tyTok l) (moreF l (rec l) s m st)
  | 0, st, _ => rfl
  | m + 1, ⟨a, d, x, e, f⟩, h => by
    have hlen := h.len
    have ha0 := h.a0
    simp only at ha0
    rw [show (⟨a, d, x, e, f⟩ : St).x.length = x.length from rfl, stepCl, getI_at?]
    unfold moreF
    cases hat : at? l a with
    | none =>
      have hge : (l.length : Int) ≤ a := by
        unfold at? at hat
        split at hat
        · rename_i n
          have := List.getElem?_eq_none_iff.1 hat
          simp; omega
        · omega
      rw [ltF hge]; rfl
    | some t =>
      have hlt := at_lt hat
      rw [ltT hlt.2]
      show pick2 (ltI (Px.bin t).2 s) _ _ = _
      simp only
      rw [pick_lt]
      by_cases hb : (Px.bin t).2 < s
      · rw [if_pos hb, if_pos hb]; rfl
      · rw [if_neg hb, if_neg hb]
        have hbo := bin_ok (t := t) (by omega)
        have hbd : BD l ⟨a + 1, d, x, e, f⟩ := ⟨hlen, by show 0 ≤ a + 1; omega, by show a + 1 ≤ _; omega, h.d0, h.d1, h.x⟩
        rw [i64_in (n := (Px.bin t).2 + 1) (by omega) (by omega), i64_in (n := a + 1) (by omega) (by omega), callC_eq hbd (by omega) (by omega), toO_go]
        refine bind_congr fun o ho => ?_
        have hg := hbd.grown (hf _ _ _ (by omega) hbd ho)
        have hx := h.x
        simp only at hx
        have hox := hg.x
        rw [i64_in (n := (x.length : Int) - 1) (by omega) (by omega), i64_in (n := (o.x.length : Int) - 1) (by omega) (by omega)]
        refine nodeC_eq (l := l) hg fun hne => ?_
        have := loopC hf s hs r m { o with x := o.x ++ [((Px.bin t).1, 0, [], (x.length : Int) - 1, (o.x.length : Int) - 1)] } ⟨hg.len, hg.a0, hg.a1, hg.d0, hg.d1, by show (o.x ++ [_]).length ≤ 200; simp; omega⟩
        rw [show ({ o with x := o.x ++ [((Px.bin t).1, 0, [], (x.length : Int) - 1, (o.x.length : Int) - 1)] } : St).x.length = o.x.length + 1 by simp] at this
        exact this

theorem headC_eq (hf : Fine rec l) {K : St → Nat → OutC} {K' : St → Res} (hK : ∀ o, BD l o → K o o.x.length = toO (.lst tyTok l) (K' o)) {st : St} (h : BD l st) {t : Tok} (hat : at? l st.a = some t) : headC rec l st K t = toO (.lst tyTok l) (headF nameB l (rec l) st K') := by
  have hlen := h.len
  have ha0 := h.a0
  have hlt := at_lt hat
  have hx := h.x
  have hd0 := h.d0
  have hd1 := h.d1
  unfold headC headF
  rw [hat]
  simp only
  cases ho : opnd nameB t with
  | some n =>
    show nodeC _ _ _ _ _ _ = _
    rw [i64_in (n := st.a + 1) (by omega) (by omega)]
    refine nodeC_eq (l := l) (st := { st with a := st.a + 1 }) ⟨hlen, by show 0 ≤ st.a + 1; omega, by show st.a + 1 ≤ _; omega, hd0, hd1, hx⟩ fun hne => ?_
    have hne : st.x.length ≠ 200 := hne
    have := hK { st with a := st.a + 1, x := st.x ++ [n] } ⟨hlen, by show 0 ≤ st.a + 1; omega, by show st.a + 1 ≤ _; omega, hd0, hd1, by show (st.x ++ [n]).length ≤ 200; simp; omega⟩
    rw [show ({ st with a := st.a + 1, x := st.x ++ [n] } : St).x.length = st.x.length + 1 by simp] at this
    exact this
  | none =>
    show pick2 (pref t).isSome _ _ = _
    simp only
    have inner : ∀ (s : Int), 1 ≤ s → s ≤ 7 → ∀ (q : St → OutC) (q' : St → Res), (∀ o, BD l o → o.d = st.d + 1 → q o = toO (.lst tyTok l) (q' o)) → deepC (.lst tyTok l) st (fun s1 => callC rec (.lst tyTok l) l s s1 q) st.x.length = toO (.lst tyTok l) (deepS st fun s1 => goS (rec l s s1) q') := fun s h1 h7 q q' hq => by
      refine deepC_eq (l := l) h hlt.2 fun hne => ?_
      have hbd : BD l { st with d := st.d + 1, a := st.a + 1 } := ⟨hlen, by show 0 ≤ st.a + 1; omega, by show st.a + 1 ≤ _; omega, by show 0 ≤ st.d + 1; omega, by show st.d + 1 ≤ 50; omega, hx⟩
      rw [callC_eq hbd h1 h7, toO_go]
      refine bind_congr fun o hr => ?_
      have hg := hf _ _ _ h1 hbd hr
      refine hq o (hbd.grown hg) ?_
      obtain ⟨_, _, _, _, _, h5, _⟩ := hg
      exact h5
    cases hp : pref t with
    | some op =>
      show deepC _ _ _ _ = _
      simp only
      refine inner 7 (by decide) (by decide) _ _ fun o hbo hod => ?_
      have hox := hbo.x
      have hbo2 : BD l { o with d := o.d - 1 } := ⟨hlen, hbo.a0, hbo.a1, by show 0 ≤ o.d - 1; omega, by show o.d - 1 ≤ 50; omega, hox⟩
      show pick2 (!eqI op 0) _ _ = _
      rw [pick_neq, i64_in (n := o.d - 1) (by omega) (by omega), i64_in (n := (o.x.length : Int) - 1) (by omega) (by omega)]
      by_cases h0 : op = 0
      · rw [if_pos h0, if_pos h0]
        exact hK _ hbo2
      · rw [if_neg h0, if_neg h0]
        refine nodeC_eq (l := l) (st := { o with d := o.d - 1 }) hbo2 fun hne => ?_
        have hne : o.x.length ≠ 200 := hne
        have := hK { o with d := o.d - 1, x := o.x ++ [(op, 0, [], (o.x.length : Int) - 1, 0)] } ⟨hlen, hbo2.a0, hbo2.a1, hbo2.d0, hbo2.d1, by show (o.x ++ [_]).length ≤ 200; simp; omega⟩
        rw [show ({ o with d := o.d - 1, x := o.x ++ [(op, 0, [], (o.x.length : Int) - 1, 0)] } : St).x.length = o.x.length + 1 by simp] at this
        exact this
    | none =>
      show pick2 (sgT t [40]) _ _ = _
      rw [sgT_is, pick2_eq]
      by_cases h40 : isS t [40] = true
      · rw [if_pos h40]
        simp only [h40, if_true]
        refine inner 1 (by decide) (by decide) _ _ fun o hbo hod => ?_
        have hoa := hbo.a0
        have hol := hbo.a1
        rw [getI_at?]
        cases hat2 : at? l o.a with
        | none =>
          have hge : (l.length : Int) ≤ o.a := by
            unfold at? at hat2
            split at hat2
            · rename_i n hn
              have := List.getElem?_eq_none_iff.1 hat2
              rw [hn]; simp; omega
            · rename_i hn; rw [hn] at hoa; omega
          rw [ltF hge]; rfl
        | some c =>
          have hlt2 := at_lt hat2
          rw [ltT hlt2.2]
          show pick2 (!sgT c [41]) _ _ = _
          simp only
          rw [sgT_is, i64_in (n := o.d - 1) (by omega) (by omega), i64_in (n := o.a + 1) (by omega) (by omega)]
          cases isS c [41] with
          | true => exact hK { o with d := o.d - 1, a := o.a + 1 } ⟨hlen, by show 0 ≤ o.a + 1; omega, by show o.a + 1 ≤ _; omega, by show 0 ≤ o.d - 1; omega, by show o.d - 1 ≤ 50; omega, hbo.x⟩
          | false => rfl
      · rw [if_neg h40]
        simp only [h40]
        rfl
end

/-- What climb does, whatever there is. -/
theorem runCl {rec : List Tok → Int → St → Res} {l : List Tok} (hf : Fine rec l) {st : St} (h : BD l st) {s : Int} (hs : 1 ≤ s) :
    enterT X0 (cC rec OutC2) anCl (l.length + 1) 22 [.ptr 0 0, .int .i64 s] (memIn 63 6 (inCl (.lst tyTok l) st.a st.d st.e st.f st.x s)) kR = toO (.lst tyTok l) (headF nameB l (rec l) st (moreF l (rec l) s (l.length + 1))) := by
  obtain ⟨a, d, x, e, f⟩ := st
  rw [enterCl, getI_at?]
  cases hat : at? l a with
  | none =>
    have ha0 := h.a0
    simp only at ha0
    have hge : (l.length : Int) ≤ a := by
      unfold at? at hat
      split at hat
      · rename_i n
        have := List.getElem?_eq_none_iff.1 hat
        simp; omega
      · omega
    rw [ltF hge]
    unfold headF
    simp only [hat]
    rfl
  | some t =>
    have hlt := at_lt hat
    rw [ltT hlt.2]
    exact headC_eq hf (fun o ho => loopC hf s hs _ _ o ho) h hat

set_option maxRecDepth 100000 in
theorem enterCl0 (rec : List Tok → Int → St → Res) (s : Int) (r : Nat) (a d e f : Int) (x : List Nd) :
    enterT X0 (cC rec OutC2) anCl r 22 [.ptr 0 0, .int .i64 s] (memIn 63 6 (inCl .nils a d e f x s)) kR = pick2 (!ltI a 0) (outR false .nils ⟨a, d, x, 4, a⟩ x.length) none := by kernel_rfl

/-- A run of climb as its contract has it. -/
theorem cl_of {rec : List Tok → Int → St → Res} {L : AV} (hL : fixB L = true) {a d e f s : Int} {x : List Nd} (hN : NConOk X0 cf0 22 (cCl rec)) {r : Nat} {b : Bool} {st : St}
    (h : enterT X0 (cC rec OutC2) anCl r 22 [.ptr 0 0, .int .i64 s] (memIn 63 6 (inCl L a d e f x s)) kR = outR b L st st.x.length) :
    ∃ vs M1 cs1, NRun X0 cf0 22 [.ptr 0 0, .int .i64 s] (memIn 63 6 (inCl L a d e f x s)) vs M1 ∧ M1.get 0 = some (.cells 63 cs1) ∧ cs1.length = 6 ∧
      nresAt M1 [0] (cs1 ++ vs) [.val L, .val (.int .i64 st.a), .val (.int .i64 st.d), .list 30 tyNd st.x, .val (.int .i64 st.e), .val (.int .i64 st.f), .val (.bool b)] := by
  obtain ⟨v, M1, h1, h2⟩ := nrun_obs (nk _) (cN_ok M5_ok (.cons hN .nil) OutC2) h
  unfold kR at h1
  split at h1
  · rename_i t c0 c1 c2 c3 c4 c5 hg
    split at h1
    · rename_i id n
      rw [pick2_eq] at h1
      split at h1
      · rename_i ht
        obtain rfl := Nat.eq_of_beq_eq_true ht
        simp only [Option.some.injEq, Prod.mk.injEq, List.cons.injEq, and_true] at h1
        obtain ⟨rfl, ⟨rfl, rfl, rfl, rfl, rfl⟩, rfl, hrow⟩ := h1
        refine ⟨[.bool b], M1, _, h2 [.bool b] rfl, hg, rfl, rfl, hL, rfl, rfl, rfl, rfl, .inl ⟨id, 0, false, rfl, hrow, ?_, rfl, rfl, rfl, rfl, rfl, rfl, trivial⟩⟩
        intro hm
        have : id = 0 := by simpa using hm
        subst this
        rw [hg] at hrow; cases hrow
      · cases h1
    · cases h1
  · cases h1

theorem fine_climb (k : Nat) (l : List Tok) : Fine (fun l => climbF nameB l k) l := fun s st o h1 hb hr => climb_grown l k s st o h1 hb.x hb.a1 hr

/-- **climb**, to any depth. -/
theorem con_cl : ∀ k : Nat, NConOk X0 cf0 22 (cCl fun l => climbF nameB l k)
  | 0 => by
    intro ins outs rs hg
    exfalso
    have hg : gCl (fun l => climbF nameB l 0) ins = some (true, outs, rs) := hg
    unfold gCl at hg
    split at hg
    · split at hg
      · simp [climbF] at hg
      · cases hg
    · cases hg
  | k + 1 => by
    intro ins outs rs hg
    have hg : gCl (fun l => climbF nameB l (k + 1)) ins = some (true, outs, rs) := hg
    unfold gCl at hg
    split at hg
    case h_2 => cases hg
    rename_i L a d t0 t x e f s _
    split at hg
    case h_2 => cases hg
    rename_i l x' hl hx
    obtain ⟨rfl, hx2⟩ := castL_spec hx
    have hx2 : x = x' := hx2
    subst hx2
    simp only [Option.some.injEq, Prod.mk.injEq, Bool.and_eq_true, Bool.not_eq_true'] at hg
    obtain ⟨⟨⟨⟨⟨⟨⟨⟨⟨⟨g0, g1⟩, g2⟩, g3⟩, g4⟩, g5⟩, g6⟩, g7⟩, g8⟩, g9⟩, rfl, rfl⟩ := hg
    obtain rfl := Nat.eq_of_beq_eq_true g0
    have lt0 : ∀ {p q : Int}, ltI p q = false → q ≤ p := fun {p q} h => by rw [ltI_spec] at h; simpa using h
    have hbd : BD l ⟨a, d, x, e, f⟩ := ⟨Nat.le_of_ble_eq_true g1, lt0 g2, lt0 g3, lt0 g4, lt0 g5, Nat.le_of_ble_eq_true g6⟩
    obtain ⟨⟨b, st⟩, hr⟩ := Option.isSome_iff_exists.1 g9
    rw [hr]
    have hc : climbF nameB l (k + 1) s ⟨a, d, x, e, f⟩ = headF nameB l (climbF nameB l k) ⟨a, d, x, e, f⟩ (moreF l (climbF nameB l k) s (l.length + 1)) := rfl
    cases L with
    | lst e' l0 =>
      obtain ⟨rfl, hl2⟩ := castL_spec hl
      have hl2 : l0 = l := hl2
      subst hl2
      have hrun := runCl (rec := fun l => climbF nameB l k) (fine_climb k l0) hbd (lt0 g7)
      rw [← hc, hr] at hrun
      exact fun _ _ => cl_of rfl (con_cl k) hrun
    | nils =>
      have hl : some [] = some l := hl
      cases hl
      have ha : a = 0 := by have := hbd.a0; have := hbd.a1; simp only [List.length_nil] at *; omega
      subst ha
      have hrun := enterCl0 (fun l => climbF nameB l k) s 5 0 d e f x
      have hr2 : (false, (⟨0, d, x, 4, 0⟩ : St)) = (b, st) := Option.some.inj (hc.symm.trans hr)
      cases hr2
      exact fun _ _ => cl_of rfl (con_cl k) hrun
    | _ => cases hl
end
end Go.Proofs.YtpaddkkfefgkfaaDoor.ex
