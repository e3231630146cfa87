/- A place laid, decoded, the law at it: told, from runs in lanes. -/
import Derived.Test.YtpenhcmahojifaaGreatDoorGj
import Derived.Test.YtpenhcmahojifaaGreatDoorGd
import Derived.Test.YtpenhcmahojifaaGreatDoorZc
set_option linter.unusedVariables false
set_option linter.unusedSimpArgs false
set_option linter.unusedSectionVars false
namespace Go.Ev.Tw
open Go.Proofs Go.RowKit
noncomputable section
set_option maxRecDepth 1000000
/-! lea's forms are as they may be. -/
def formFm (pre w : Nat) : Value := .agg ⟨[int64 12, sl 0 2 2, sl 1 2 2, int64 pre, int64 0, int64 141, .int .i64 (.negSucc 0), int64 w, .bool false, int64 0]⟩
def tabFm : List (List Value × List Blk × Value) := [([formFm 1 0], [iR 2051, iR 386], int64 0), ([formFm 0 0], [iR 2052, iR 386], int64 0), ([formFm 0 1], [iR 2053, iR 386], int64 0)]
def mFm : Memo := tabV 95 tabFm
theorem mFm_ok [TokE] (GR : List Blk) : MemoOk Tryz.prog GR mFm :=
  tabV_memo (rounds := 5000) (k := 40) (m := noM) (d := noD) (base := 65536) no_own mixed noKnown_ok.any (noMemo_ok _ _) noD_ok (by rfl) (fun h => by cases h) tabFm (by kernel_rfl)
def isCan (s : Sh) : Bool := Nat.beq s.bc 0 && (Nat.beq s.ic 5 && isOne s.S 1)
def mAllU (s : Sh) : Memo := orM (pick2 (isCan s) (canM s.I dT) noM) (orM (chkM (s.canon.mv dT)) (orM (chkM (s.mv dT)) (orM (laneM 14 false tabSc) (orM (laneM 423 true tabTz) (orM mFm mOf)))))
def okAll (b8 b0 : Bool) (s : Sh) : Bool := packX 1 (@callA (tdU b8 b0) Tryz.prog 0 noKnown 5000 60 (memosD (mAllU s) noD) 6 [leaV] ((Mem.ofRows Mem.empty [argsRow true (s.mv dT)]).getD Mem.empty)) (allVal (s.canon.encs b8 b0)) (allRows (s.canon.encs b8 b0))
def finds : Memo := orM (findM 3) (orM (findM 4) (orM (findM 5) (orM (findM 7) (findM 8))))
def mDecU (c : Enc) : Memo := orM (pick2 c.can (canM c.back.B c.disp) noM) (orM (chkM (c.back.mv c.disp)) (orM (laneM 14 false tabSc) (orM (laneM 423 true tabTz) finds)))
def okDec (b8 b0 : Bool) (c : Enc) : Bool := (fun L => packX 1 (@callA (tdU b8 b0) Tryz.prog 0 noKnown 5000 60 (memosD (mDecU c) noD) 7 [sl 0 L L] ((Mem.ofRows Mem.empty [⟨c.bytes, 5, true, false⟩]).getD Mem.empty)) (decVal c) (decRows c)) (lenL c.bytes)
def hidV : Value := .slice (some ⟨0, 0, some 1⟩) 16 0
def lawM (b8 b0 : Bool) (s : Sh) (n k : Nat) (c : Enc) : Memo := orM (toldM 4 [] (.bool true) []) (orM (chkM (s.mv dT)) (orM (viewM 6 [leaV] [argsRow true (s.mv dT)] (allVal (s.canon.encs b8 b0)) (allRows (s.canon.encs b8 b0)))
  (orM (pickM n k) (orM (viewM 7 [sl 0 (lenL c.bytes) (lenL c.bytes)] [⟨c.bytes, 5, true, false⟩] (decVal c) (decRows c)) (orM (addM (s.mv dT)) (addM (c.back.mv c.disp)))))))
def Sh.arg (s : Sh) (sz : Int) : Value := .agg ⟨[int64 s.bc, vI (s.lanes fun b _ _ => b), int64 s.ic, vI (s.lanes fun _ i _ => i), vI (s.lanes fun _ _ c => c), dT, .int .i64 sz]⟩
def okLaw (b8 b0 : Bool) (s : Sh) (n k : Nat) (c : Enc) (sz : Int) : Bool := packB 0 (@callA (tdU b8 b0) Tryz.prog 0 noKnown 5000 60 (memosD (lawM b8 b0 s n k c) noD) 3 [s.arg sz, tokVar .i64 1, hidV, tokVar .i64 3] Mem.empty) (.bool true) [] 0 0 65536
theorem pick2_memo {E : TokR} {P : Program} {GR : List Blk} {b : Bool} {m : Memo} (h : b = true → @MemoOk E P GR m) : @MemoOk E P GR (pick2 b m noM) := by
  cases b with
  | true => exact h rfl
  | false => letI : TokE := liftE' E; exact noMemo_ok _ _
theorem all_memo (e : EnvU) {b8 b0 : Bool} (h8 : e.b8 = b8) (h0 : e.b0 = b0) (q : Nat → TypeId) {s : Sh} (hcan : isCan s = true → s = ⟨0, [0], 5, s.I, [1]⟩ ∧ ∃ i, s.I[e.j]? = some i) (hk1 : okChk b8 b0 (s.mv dT) = true) (hk2 : okChk b8 b0 (s.canon.mv dT) = true) (hok : okAll b8 b0 s = true) :
    @MemoOk e.r Tryz.prog (GRq q) (viewM 6 [leaV] [argsRow true (s.mv dT)] (allVal (s.canon.encs b8 b0)) (allRows (s.canon.encs b8 b0))) := by
  letI E : TokE := e.t b8 b0 h8 h0
  obtain ⟨H0, hH⟩ := ofRows_total [argsRow true (s.mv dT)] Mem.empty
  have eH : H0 = (Mem.ofRows Mem.empty [argsRow true (s.mv dT)]).getD Mem.empty := by rw [hH]; rfl
  obtain ⟨n, lit, hp⟩ := packX_spec hok
  rw [← eH] at hp
  have hdT : IsN e dT e.d := ⟨rfl, rfl⟩
  refine view_memo (toldV_of (rounds := 5000) (k := 60) (m := mAllU s) (d := noD) no_own mixed noKnown_ok.any ?_ noD_ok hH rfl (fun h => by cases h) hp)
  refine or_memo (pick2_memo fun hc => ?_) (or_memo (chk_memo e h8 h0 _ hk2) (or_memo (chk_memo e h8 h0 _ hk1) (or_memo (sc_memo _) (or_memo (tz_memo _) (or_memo (mFm_ok _) (mOf_ok q))))))
  obtain ⟨h1, i, h2⟩ := hcan hc
  refine can_memo e h8 h0 _ h2 hdT ?_
  rw [← h1]; exact hk1
theorem finds_ok (E : TokR) (q : Nat → TypeId) (f3 : @MemoOk E Tryz.prog (GRq q) (findM 3)) (f4 : @MemoOk E Tryz.prog (GRq q) (findM 4)) (f5 : @MemoOk E Tryz.prog (GRq q) (findM 5)) (f7 : @MemoOk E Tryz.prog (GRq q) (findM 7)) (f8 : @MemoOk E Tryz.prog (GRq q) (findM 8)) : @MemoOk E Tryz.prog (GRq q) finds := by
  letI : TokE := liftE' E
  exact or_memo f3 (or_memo f4 (or_memo f5 (or_memo f7 f8)))
theorem dec_memo (e : EnvU) {b8 b0 : Bool} (h8 : e.b8 = b8) (h0 : e.b0 = b0) (q : Nat → TypeId) (hf : @MemoOk e.r Tryz.prog (GRq q) finds) {c : Enc} {d : Int} (hd : IsN e c.disp d) (hcan : c.can = true → (∃ i, c.back.B[e.j]? = some i) ∧ okChk b8 b0 ((⟨0, [0], 5, c.back.B, [1]⟩ : Sh).mv c.disp) = true)
    (hk : okChk b8 b0 (c.back.mv c.disp) = true) (hok : okDec b8 b0 c = true) : @MemoOk e.r Tryz.prog (GRq q) (viewM 7 [sl 0 (lenL c.bytes) (lenL c.bytes)] [⟨c.bytes, 5, true, false⟩] (decVal c) (decRows c)) := by
  letI E : TokE := e.t b8 b0 h8 h0
  obtain ⟨H0, hH⟩ := ofRows_total [⟨c.bytes, 5, true, false⟩] Mem.empty
  have eH : H0 = (Mem.ofRows Mem.empty [⟨c.bytes, 5, true, false⟩]).getD Mem.empty := by rw [hH]; rfl
  obtain ⟨n, lit, hp⟩ := packX_spec hok
  rw [← eH] at hp
  refine view_memo (toldV_of (rounds := 5000) (k := 60) (m := mDecU c) (d := noD) no_own mixed noKnown_ok.any ?_ noD_ok hH rfl (fun h => by cases h) hp)
  refine or_memo (pick2_memo fun hc => ?_) (or_memo (chk_memo e h8 h0 _ hk) (or_memo (sc_memo _) (or_memo (tz_memo _) hf)))
  obtain ⟨⟨i, h2⟩, h1⟩ := hcan hc
  exact can_memo e h8 h0 _ h2 hd h1
theorem memo_pre {E : TokR} {P : Program} {GR GR' : List Blk} (hpre : ∀ w, RowsAt GR' w → RowsAt GR w) {m : Memo} (h : @MemoOk E P GR m) : @MemoOk E P GR' m :=
  fun f a H v rows hm c hc ρ w args' hr he hl => h f a H v rows hm c hc ρ w args' (hpre w hr) he hl
/-- The law at a place of a shape, one way. -/
theorem law_run (e : EnvU) {b8 b0 : Bool} (h8 : e.b8 = b8) (h0 : e.b0 = b0) (q : Nat → TypeId) {GR' : List Blk} (hpre : ∀ w, RowsAt GR' w → RowsAt (GRq q) w) {r off cap : Nat} {R : Nat → Int} (hregs : ∀ w, RowsAt GR' w → RegsAt r off R w) (hhid : e.hid = some (⟨r, off, none⟩, 16, cap))
    (haw : @MemoOk e.r Tryz.prog (GRq q) (toldM 4 [] (.bool true) [])) {s : Sh} {c : Enc} {n k : Nat}
    (hall : @MemoOk e.r Tryz.prog (GRq q) (viewM 6 [leaV] [argsRow true (s.mv dT)] (allVal (s.canon.encs b8 b0)) (allRows (s.canon.encs b8 b0))))
    (hdec : @MemoOk e.r Tryz.prog (GRq q) (viewM 7 [sl 0 (lenL c.bytes) (lenL c.bytes)] [⟨c.bytes, 5, true, false⟩] (decVal c) (decRows c)))
    (hw : -9223372036854775808 ≤ e.wh ∧ e.wh ≤ 9223372036854775807) (hn : 1 ≤ n ∧ n ≤ 1000) (hk : e.wh % (n : Int) = k)
    {b i x : Nat} (hj : s.trip[e.j]? = some (b, i, x)) (hk1 : okChk b8 b0 (s.mv dT) = true) (ha1 : @MemoOk e.r Tryz.prog GR' (addM (s.mv dT))) (ha2 : @MemoOk e.r Tryz.prog GR' (addM (c.back.mv c.disp)))
    {sz : Int} (hlaw : okLaw b8 b0 s n k c sz = true) (w : World) (hr : RowsAt GR' w) :
    Calls Tryz.prog 3 #[.agg #[.int .i64 s.bc, .int .i64 b, .int .i64 s.ic, .int .i64 i, .int .i64 x, .int .i64 e.d, .int .i64 sz], .int .i64 e.wh, .slice (some ⟨r, off, none⟩) 16 cap, .int .i64 e.nx] w fun y w' => y = .returned (.bool true) ∧ Below w.heap.size w w' := by
  letI E : TokE := e.t b8 b0 h8 h0
  have hm : MemoOk Tryz.prog GR' (lawM b8 b0 s n k c) :=
    or_memo (memo_pre hpre haw) (or_memo (chk_memo e h8 h0 _ hk1) (or_memo (memo_pre hpre hall) (or_memo (pick_memo e _ hw hn hk) (or_memo (memo_pre hpre hdec) (or_memo ha1 ha2)))))
  have hdT : IsN e dT e.d := ⟨rfl, rfl⟩
  have hargs : LR (VRel fun _ => none) [s.arg sz, tokVar .i64 1, hidV, tokVar .i64 3] [.agg #[.int .i64 s.bc, .int .i64 b, .int .i64 s.ic, .int .i64 i, .int .i64 x, .int .i64 e.d, .int .i64 sz], .int .i64 e.wh, .slice (some ⟨r, off, none⟩) 16 cap, .int .i64 e.nx] := by
    refine LR.cons ?_ (LR.cons ?_ (LR.cons ?_ (LR.cons ?_ LR.nil)))
    · have h := LR.array (LR.cons ((isN_int e s.bc).rel fun _ => none) (LR.cons ((isN_vI (trip_get hj fun b _ _ => b)).rel fun _ => none) (LR.cons ((isN_int e s.ic).rel fun _ => none) (LR.cons ((isN_vI (trip_get hj fun _ i _ => i)).rel fun _ => none) (LR.cons ((isN_vI (trip_get hj fun _ _ c => c)).rel fun _ => none)
        (LR.cons (hdT.rel fun _ => none) (LR.cons (VRel.int .i64 sz) LR.nil)))))))
      exact @VRel.agg e.r _ _ _ h.1 h.2
    · exact (show IsN e (tokVar .i64 1) e.wh from ⟨rfl, rfl⟩).rel _
    · exact .hid _ _ _ hhid
    · exact (show IsN e (tokVar .i64 3) e.nx from ⟨rfl, rfl⟩).rel _
  refine (pack_run (G := 0) (w := w) (args := [.agg #[.int .i64 s.bc, .int .i64 b, .int .i64 s.ic, .int .i64 i, .int .i64 x, .int .i64 e.d, .int .i64 sz], .int .i64 e.wh, .slice (some ⟨r, off, none⟩) 16 cap, .int .i64 e.nx]) hlaw fun u H1 hr1 => (call_okD no_own mixed noKnown_ok.any hm noD_ok hr1 rfl (.inl fun h => by cases h)
    (c := ⟨Tryz.prog, w.heap.size, 0, 0, w, fun _ => none, fun _ => none, fun _ => none⟩) rfl rfl hr hr.1 (Emb.empty w) hargs).mono fun y w' h => ?_).mono ?_
  · obtain ⟨ρ', v', e1, _, e2, e3⟩ := h
    exact ⟨ρ', v', e1, e2, e3⟩
  · rintro y w' ⟨ρ, v', M, rfl, hv, _, _, hM⟩
    cases hv
    exact ⟨rfl, hM.below⟩
end
end Go.Ev.Tw
namespace Go.Ev.Tw
open Go.Proofs Go.RowKit
noncomputable section
set_option maxRecDepth 1000000
def encOK (b8 b0 : Bool) (c : Enc) : Bool := pick2 (okChk b8 b0 (c.back.mv c.disp)) (pick2 (pick2 c.can (okChk b8 b0 ((⟨0, [0], 5, c.back.B, [1]⟩ : Sh).mv c.disp)) true) (okDec b8 b0 c) false) false
def encsOK (b8 b0 : Bool) (l : List Enc) : Bool := List.rec (motive := fun _ => Bool) true (fun c _ ih => pick2 (encOK b8 b0 c) ih false) l
def chksOK (b8 b0 : Bool) (s : Sh) : Bool := pick2 (okChk b8 b0 (s.mv dT)) (okChk b8 b0 (s.canon.mv dT)) false
def lenE (l : List Enc) : Nat := List.rec (motive := fun _ => Nat) 0 (fun _ _ n => Nat.add n 1) l
def lawsOK (b8 b0 : Bool) (s : Sh) (sz : Int) : Bool := (fun l => (fun n => (List.rec (motive := fun _ => Nat → Bool) (fun _ => true) (fun c _ go k => pick2 (okLaw b8 b0 s n k c sz) (go (Nat.add k 1)) false) l) 0) (lenE l)) (s.canon.encs b8 b0)
def eqTr (a b : Nat × Nat × Nat) : Bool := Nat.beq a.1 b.1 && (Nat.beq a.2.1 b.2.1 && Nat.beq a.2.2 b.2.2)
def eqTrs (l : List (Nat × Nat × Nat)) : List (Nat × Nat × Nat) → Bool := List.rec (motive := fun _ => List (Nat × Nat × Nat) → Bool) (fun m => match m with
  | [] => true
  | _ => false) (fun a _ go m => match m with
  | [] => false
  | b :: m => pick2 (eqTr a b) (go m) false) l
/-- A case's canon. -/
def canTr (s : Sh) (t : Nat × Nat × Nat) : Nat × Nat × Nat := pick2 (!Nat.beq s.ic 0 && isOne s.S 1) (pick2 (Nat.beq s.bc 0) (t.2.1, 0, 0) (pick2 (isOne s.I 4) (4, t.1, 1) t)) t
def clsOK (s : Sh) : Bool := (Nat.beq s.bc 0 && Nat.beq s.ic 0) || ((Nat.beq s.bc 8 && Nat.beq s.ic 0) || ((Nat.beq s.bc 5 && Nat.beq s.ic 0) || ((Nat.beq s.bc 0 && Nat.beq s.ic 5) || (Nat.beq s.bc 5 && Nat.beq s.ic 5))))
/-- What is seen of the shape alone. -/
def shOK (s : Sh) : Bool := eqTrs s.canon.trip (mapN (canTr s) s.trip) && ((s.trip.all fun t => Nat.ble t.1 15 && Nat.ble t.2.1 15) && (clsOK s && (clsOK s.canon && (pick2 (isCan s) (match s.B with
  | [b] => Nat.beq b 0
  | _ => false) true))))
/-- All of it. -/
structure ShOK (s : Sh) : Prop where
  sh : shOK s = true
  chk : ∀ b8 b0, chksOK b8 b0 s = true
  enc : ∀ b8 b0, encsOK b8 b0 (s.canon.encs true true) = true
  all : ∀ b8 b0, (b8 = false → b0 = false) → okAll b8 b0 s = true
  law : ∀ b8 b0, (b8 = false → b0 = false) → ∀ sz, lawsOK b8 b0 s sz = true
theorem p2q' {a b : Bool} (h : pick2 a b false = true) : a = true ∧ b = true := by cases a <;> simp_all [pick2]
theorem by_cls {p : Bool → Bool → Prop} (h1 : p false false) (h2 : p true false) (h3 : p true true) : ∀ b8 b0, (b8 = false → b0 = false) → p b8 b0
  | false, false, _ => h1
  | true, false, _ => h2
  | true, true, _ => h3
  | false, true, h => by cases h rfl
end
end Go.Ev.Tw
