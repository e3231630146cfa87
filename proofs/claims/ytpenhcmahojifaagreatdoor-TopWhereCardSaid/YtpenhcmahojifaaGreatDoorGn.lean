/- The law at each place of a shape. -/
import Derived.Test.YtpenhcmahojifaaGreatDoorGl
import Derived.Test.YtpenhcmahojifaaGreatDoorGm
set_option linter.unusedVariables false
set_option linter.unusedSimpArgs false
set_option linter.unusedSectionVars false
namespace Go.Ev.Tw
open Go.Proofs Go.RowKit
set_option maxRecDepth 1000000
theorem p2' {a b : Bool} (h : pick2 a b false = true) : a = true ∧ b = true := by cases a <;> simp_all [pick2]
theorem pk {α : Type} (b : Bool) (x y : α) : pick2 b x y = if b = true then x else y := by cases b <;> rfl
theorem pick2_len {α : Type} (c : Bool) (x : α) : (pick2 c [x] []).length ≤ 1 := by cases c <;> simp [pick2]
theorem pick2_mem {α : Type} {c : Bool} {x y : α} : y ∈ pick2 c [x] [] ↔ c = true ∧ y = x := by cases c <;> simp [pick2]
/-- What the ways of a spread are. -/
theorem spread_all (s : Sh) (b8 b0 : Bool) (rm : Option Nat) (sib : Option Value) (back : Sh) : (1 ≤ (s.spread b8 b0 rm sib back).length ∧ (s.spread b8 b0 rm sib back).length ≤ 3) ∧
    ∀ c ∈ s.spread b8 b0 rm sib back, c ∈ s.spread true true rm sib back ∧ c.back = back ∧ c.can = false ∧ ((c.nd = 0 ∧ b0 = true) ∨ (c.nd = 1 ∧ b8 = true) ∨ c.nd = 4) := by
  unfold Sh.spread
  simp only [appN_eq, List.length_append, List.length_cons, List.length_nil]
  refine ⟨⟨by omega, ?_⟩, fun c hc => ?_⟩
  · exact Nat.le_trans (Nat.add_le_add (pick2_len _ _) (Nat.add_le_add (pick2_len _ _) (Nat.le_refl _))) (by decide)
  · simp only [List.mem_append, pick2_mem, List.mem_cons, List.not_mem_nil, or_false] at hc ⊢
    rcases hc with ⟨h1, rfl⟩ | ⟨h1, rfl⟩ | rfl
    · rw [Bool.and_eq_true] at h1
      refine ⟨?_, rfl, rfl, .inl ⟨rfl, h1.1⟩⟩
      simp [h1.2]
    · refine ⟨?_, rfl, rfl, .inr (.inl ⟨rfl, h1⟩)⟩
      simp
    · refine ⟨?_, rfl, rfl, .inr (.inr rfl)⟩
      simp
theorem encs_all (s : Sh) (b8 b0 : Bool) : (1 ≤ (s.encs b8 b0).length ∧ (s.encs b8 b0).length ≤ 1000) ∧
    ∀ c ∈ s.encs b8 b0, c ∈ s.encs true true ∧ c.back = s ∧ (c.can = true → s.ic = 0) ∧ ((c.nd = 0 ∧ b0 = true) ∨ (c.nd = 1 ∧ b8 = true) ∨ c.nd = 4) := by
  unfold Sh.encs
  simp only [pk]
  split
  · refine ⟨⟨by simp, by simp⟩, fun c hc => ?_⟩
    simp only [List.mem_cons, List.not_mem_nil, or_false] at hc
    subst hc
    exact ⟨by simp, rfl, (fun h => by cases h), .inr (.inr rfl)⟩
  split
  · refine ⟨⟨by simp, by simp⟩, fun c hc => ?_⟩
    simp only [List.mem_cons, List.not_mem_nil, or_false] at hc
    subst hc
    split
    · exact ⟨by simp, rfl, (fun h => by cases h), .inr (.inr rfl)⟩
    · exact ⟨by simp, rfl, (fun h => by cases h), .inr (.inr rfl)⟩
  split
  · obtain ⟨⟨h1, h2⟩, h3⟩ := spread_all s b8 b0 (some 4) (some (s.sib fun b i c => Nat.add (Nat.add (Nat.mul 64 (scN c)) (Nat.mul 8 (Nat.mod i 8))) (Nat.mod b 8))) s
    refine ⟨⟨h1, by omega⟩, fun c hc => ?_⟩
    obtain ⟨q1, q2, q3, q4⟩ := h3 c hc
    exact ⟨q1, q2, (fun h => by rw [q3] at h; cases h), q4⟩
  · rename_i hic
    have hic0 : s.ic = 0 := by
      simp only [Bool.not_eq_true', Bool.not_eq_false] at hic
      exact Nat.eq_of_beq_eq_true (by simpa using hic)
    obtain ⟨⟨h1, h2⟩, h3⟩ := spread_all s b8 b0 (some 4) (some (s.sib fun b _ _ => Nat.add 32 (Nat.mod b 8))) s
    obtain ⟨⟨g1, g2⟩, g3⟩ := spread_all s b8 b0 none none s
    simp only [appN_eq, List.length_append]
    refine ⟨⟨by omega, ?_⟩, fun c hc => ?_⟩
    · split <;> split <;> simp only [List.length_nil, List.length_cons] <;> omega
    · simp only [List.mem_append] at hc ⊢
      rcases hc with hc | hc | hc
      · split at hc
        · cases hc
        · obtain ⟨q1, q2, q3, q4⟩ := g3 c hc
          exact ⟨.inl (by split <;> first | (rename_i a b; exact absurd b a) | (rename_i a b; exact absurd a b) | exact q1), q2, (fun h => by rw [q3] at h; cases h), q4⟩
      · obtain ⟨q1, q2, q3, q4⟩ := h3 c hc
        exact ⟨.inr (.inl q1), q2, (fun h => by rw [q3] at h; cases h), q4⟩
      · split at hc
        · cases hc
        · rename_i hB
          simp only [List.mem_cons, List.not_mem_nil, or_false] at hc
          subst hc
          exact ⟨.inr (.inr (by rw [if_neg hB]; simp)), rfl, fun _ => hic0, .inr (.inr rfl)⟩
end Go.Ev.Tw
namespace Go.Ev.Tw
open Go.Proofs Go.RowKit
set_option maxRecDepth 1000000
theorem enc_mem {b8 b0 : Bool} : ∀ {l : List Enc}, encsOK b8 b0 l = true → ∀ {c : Enc}, c ∈ l → encOK b8 b0 c = true
  | [], _, c, hc => by cases hc
  | a :: l, h, c, hc => by
    have h : pick2 (encOK b8 b0 a) (encsOK b8 b0 l) false = true := h
    obtain ⟨h1, h2⟩ := p2' h
    rcases List.mem_cons.1 hc with rfl | hc
    · exact h1
    · exact enc_mem h2 hc
theorem lenE_eq : ∀ l : List Enc, lenE l = l.length
  | [] => rfl
  | a :: l => by rw [List.length_cons, ← lenE_eq l]; rfl
theorem law_mem0 {b8 b0 : Bool} {s : Sh} {n : Nat} {sz : Int} : ∀ (l : List Enc) (k0 : Nat), (List.rec (motive := fun _ => Nat → Bool) (fun _ => true) (fun c _ go k => pick2 (okLaw b8 b0 s n k c sz) (go (Nat.add k 1)) false) l) k0 = true → ∀ k c, l[k]? = some c → okLaw b8 b0 s n (k0 + k) c sz = true
  | [], k0, _, k, c, hc => by simp at hc
  | a :: l, k0, h, k, c, hc => by
    obtain ⟨h1, h2⟩ := p2' h
    cases k with
    | zero => simp at hc; subst hc; exact h1
    | succ k =>
      have := law_mem0 l (Nat.add k0 1) h2 k c (by simpa using hc)
      have e : Nat.add k0 1 + k = k0 + (k + 1) := by show k0 + 1 + k = _; omega
      rw [e] at this; exact this
theorem law_mem {b8 b0 : Bool} {s : Sh} {sz : Int} (h : lawsOK b8 b0 s sz = true) {k : Nat} {c : Enc} (hc : (s.canon.encs b8 b0)[k]? = some c) : okLaw b8 b0 s (s.canon.encs b8 b0).length k c sz = true := by
  have := law_mem0 (s.canon.encs b8 b0) 0 h k c hc
  rw [Nat.zero_add, lenE_eq] at this
  exact this
theorem eqTrs_eq : ∀ {l m : List (Nat × Nat × Nat)}, eqTrs l m = true → l = m
  | [], [], _ => rfl
  | [], _ :: _, h => by cases h
  | a :: l, [], h => by cases h
  | a :: l, b :: m, h => by
    have h : pick2 (eqTr a b) (eqTrs l m) false = true := h
    obtain ⟨h1, h2⟩ := p2' h
    simp only [eqTr, Bool.and_eq_true] at h1
    have e : a = b := Prod.ext (Nat.eq_of_beq_eq_true h1.1) (Prod.ext (Nat.eq_of_beq_eq_true h1.2.1) (Nat.eq_of_beq_eq_true h1.2.2))
    rw [e, eqTrs_eq h2]
theorem trip_mem {s : Sh} {b i x : Nat} : (b, i, x) ∈ s.trip ↔ b ∈ s.B ∧ i ∈ s.I ∧ x ∈ s.S := by
  unfold Sh.trip Sh.lanes
  simp only [bindN_eq, mapN_eq, List.mem_flatMap, List.mem_map, Prod.mk.injEq]
  constructor
  · rintro ⟨b', h1, i', h2, x', h3, rfl, rfl, rfl⟩; exact ⟨h1, h2, h3⟩
  · rintro ⟨h1, h2, h3⟩; exact ⟨b, h1, i, h2, x, h3, rfl, rfl, rfl⟩
theorem isOne_eq {l : List Nat} {n : Nat} (h : isOne l n = true) : l = [n] := by
  unfold isOne at h
  split at h
  · rename_i a; rw [Nat.eq_of_beq_eq_true h]
  · cases h
theorem cls_of {s : Sh} (h : clsOK s = true) : (s.bc = 0 ∧ s.ic = 0) ∨ (s.bc = 8 ∧ s.ic = 0) ∨ (s.bc = 5 ∧ s.ic = 0) ∨ (s.bc = 0 ∧ s.ic = 5) ∨ (s.bc = 5 ∧ s.ic = 5) := by
  simp only [clsOK, Bool.or_eq_true, Bool.and_eq_true, Nat.beq_eq] at h
  exact h
theorem trip_oneI {bc ic x y j b i c : Nat} {I : List Nat} (h : (⟨bc, [x], ic, I, [y]⟩ : Sh).trip[j]? = some (b, i, c)) : I[j]? = some i := by
  have : (⟨bc, [x], ic, I, [y]⟩ : Sh).trip = I.map fun i => (x, i, y) := by
    unfold Sh.trip Sh.lanes
    simp only [bindN_eq, mapN_eq, List.flatMap_cons, List.flatMap_nil, List.append_nil, List.map_cons, List.map_nil]
    exact flat_one _ _
  rw [this, List.getElem?_map] at h
  cases hI : I[j]? with
  | none => rw [hI] at h; cases h
  | some a => rw [hI] at h; simp at h; rw [h.2.1]
theorem trip_oneB {bc ic x y j b i c : Nat} {B : List Nat} (h : (⟨bc, B, ic, [x], [y]⟩ : Sh).trip[j]? = some (b, i, c)) : B[j]? = some b := by
  have : (⟨bc, B, ic, [x], [y]⟩ : Sh).trip = B.map fun b => (b, x, y) := by
    unfold Sh.trip Sh.lanes
    simp only [bindN_eq, mapN_eq, List.flatMap_cons, List.flatMap_nil, List.append_nil, List.map_cons, List.map_nil]
    exact flat_one _ _
  rw [this, List.getElem?_map] at h
  cases hB : B[j]? with
  | none => rw [hB] at h; cases h
  | some a => rw [hB] at h; simp at h; rw [h.1]
/-- The canon is the same place. -/
theorem canon_addr {s : Sh} {b i x : Nat} (hm : (b, i, x) ∈ s.trip) (hc : clsOK s = true) (d : Int) (R : Nat → Int) (nx : Int) :
    addrV s.canon.bc (canTr s (b, i, x)).1 s.canon.ic (canTr s (b, i, x)).2.1 (canTr s (b, i, x)).2.2 d R nx = addrV s.bc b s.ic i x d R nx := by
  obtain ⟨mb, mi, mx⟩ := trip_mem.1 hm
  have hcls := cls_of hc
  unfold Sh.canon canTr
  simp only [pk]
  by_cases hf : (!Nat.beq s.ic 0 && isOne s.S 1) = true
  · rw [if_pos hf, if_pos hf]
    rw [Bool.and_eq_true] at hf
    have hic : s.ic = 5 := by
      have : ¬ s.ic = 0 := fun e => by rw [e] at hf; simp at hf
      omega
    have hS := isOne_eq hf.2
    rw [hS] at mx
    simp only [List.mem_cons, List.not_mem_nil, or_false] at mx
    subst mx
    by_cases hb0 : Nat.beq s.bc 0 = true
    · rw [if_pos hb0, if_pos hb0]
      have hb0 := Nat.eq_of_beq_eq_true hb0
      unfold addrV
      rw [hb0, hic]
      simp only [sum3, w64, IntKind.wrap_i64, ← i64_wrap64]
      simp <;> omega
    · rw [if_neg hb0, if_neg hb0]
      by_cases h4 : isOne s.I 4 = true
      · rw [if_pos h4, if_pos h4]
        have hI := isOne_eq h4
        rw [hI] at mi
        simp only [List.mem_cons, List.not_mem_nil, or_false] at mi
        subst mi
        have hb5 : s.bc = 5 := by
          have : ¬ s.bc = 0 := fun e => hb0 (by rw [e]; rfl)
          omega
        unfold addrV
        rw [hb5, hic]
        simp only [sum3, w64, IntKind.wrap_i64, ← i64_wrap64]
        simp <;> omega
      · rw [if_neg h4, if_neg h4]
  · rw [if_neg hf, if_neg hf]
theorem sg0 : sg 56 0 = 0 := by rw [sg56]; decide
/-- **The law at each place of a shape.** -/
theorem law_shape {s : Sh} (h : ShOK s) (hnoidx : s.canon.ic = 0 → ∃ bc B, s.canon = ⟨bc, B, 0, [0], [0]⟩) {q : Nat → TypeId} (hfinds : ∀ E : TokR, @MemoOk E Tryz.prog (GRq q) finds) (haw : ∀ E : TokR, @MemoOk E Tryz.prog (GRq q) (toldM 4 [] (.bool true) []))
    {GR' : List Blk} (hpre : ∀ w, RowsAt GR' w → RowsAt (GRq q) w) {r off cap : Nat} {R : Nat → Int} (hregs : ∀ w, RowsAt GR' w → RegsAt r off R w) {d wh nx sz : Int} (hd : inD d) (hwh : -9223372036854775808 ≤ wh ∧ wh ≤ 9223372036854775807)
    {j b i x : Nat} (hj : s.trip[j]? = some (b, i, x)) (w : World) (hr : RowsAt GR' w) :
    Calls Tryz.prog 3 #[.agg #[.int .i64 s.bc, .int .i64 b, .int .i64 s.ic, .int .i64 i, .int .i64 x, .int .i64 d, .int .i64 sz], .int .i64 wh, .slice (some ⟨r, off, none⟩) 16 cap, .int .i64 nx] w fun y w' => y = .returned (.bool true) ∧ Below w.heap.size w w' := by
  have hsh := h.sh
  simp only [shOK, Bool.and_eq_true] at hsh
  obtain ⟨g1, g2, g3, g4, g5⟩ := hsh
  have htr := eqTrs_eq g1
  have hmem : (b, i, x) ∈ s.trip := List.mem_of_getElem? hj
  have hjc : s.canon.trip[j]? = some (canTr s (b, i, x)) := by rw [htr, mapN_eq, List.getElem?_map, hj]; rfl
  have hbd : b < 16 ∧ i < 16 := by
    have := List.all_eq_true.1 g2 _ hmem
    simp only [Bool.and_eq_true] at this
    have h1 := Nat.le_of_ble_eq_true this.1
    have h2 := Nat.le_of_ble_eq_true this.2
    exact ⟨by omega, by omega⟩
  have hbdc : (canTr s (b, i, x)).1 < 16 ∧ (canTr s (b, i, x)).2.1 < 16 := by
    unfold canTr
    simp only [pk]
    split
    · split
      · exact ⟨hbd.2, (by decide : (0 : Nat) < 16)⟩
      · split
        · exact ⟨(by decide : (4 : Nat) < 16), hbd.1⟩
        · exact hbd
    · exact hbd
  let e : EnvU := { j := j, d := d, wh := wh, nx := nx, ad := addrV s.bc b s.ic i x d R nx, hid := some (⟨r, off, none⟩, 16, cap), hd := hd }
  have hcls : e.b8 = false → e.b0 = false := fun h8 => by
    cases h0 : e.b0 with
    | false => rfl
    | true =>
      have : d = 0 := of_decide_eq_true h0
      have h8 : decide (sg 56 d = d) = false := h8
      rw [this, sg0] at h8
      cases h8
  obtain ⟨⟨hn1, hn2⟩, hall⟩ := encs_all s.canon e.b8 e.b0
  have hpos : (0 : Int) < ((s.canon.encs e.b8 e.b0).length : Int) := by omega
  have hk0 := Int.emod_nonneg wh (by omega : ((s.canon.encs e.b8 e.b0).length : Int) ≠ 0)
  have hk1 := Int.emod_lt_of_pos wh hpos
  obtain ⟨k, hk⟩ : ∃ k : Nat, wh % ((s.canon.encs e.b8 e.b0).length : Int) = k := ⟨(wh % ((s.canon.encs e.b8 e.b0).length : Int)).toNat, by omega⟩
  have hkl : k < (s.canon.encs e.b8 e.b0).length := by omega
  obtain ⟨c, hc⟩ : ∃ c, (s.canon.encs e.b8 e.b0)[k]? = some c := ⟨(s.canon.encs e.b8 e.b0)[k], by simp [hkl]⟩
  obtain ⟨c1, c2, c3, c4⟩ := hall c (List.mem_of_getElem? hc)
  have henc := enc_mem (h.enc e.b8 e.b0) c1
  unfold encOK at henc
  obtain ⟨e1, e2⟩ := p2' henc
  obtain ⟨e2, e3⟩ := p2' e2
  obtain ⟨k1, k2⟩ := p2' (h.chk e.b8 e.b0)
  have hdT : IsN e dT d := ⟨rfl, rfl⟩
  have hdisp : IsN e c.disp d := by
    unfold Enc.disp
    rcases c4 with ⟨hn, h0⟩ | ⟨hn, h8⟩ | hn
    · rw [hn]
      have : d = 0 := of_decide_eq_true h0
      rw [this]
      exact isN_int e 0
    · rw [hn]
      have h8 : sg 56 d = d := of_decide_eq_true h8
      refine ⟨?_, rfl⟩
      have := den_sgn e.j e.d e.wh e.nx e.ad dT e.d 8 rfl (by omega)
      have e56 : sg (64 - 8) e.d = e.d := h8
      rw [e56] at this
      exact this
    · rw [hn]; exact hdT
  have hAll := all_memo e rfl rfl q (s := s) (fun hcan => by
    have hi := hcan
    simp only [isCan, Bool.and_eq_true] at hi
    have b0 := Nat.eq_of_beq_eq_true hi.1
    have i5 := Nat.eq_of_beq_eq_true hi.2.1
    have sS := isOne_eq hi.2.2
    rw [hcan] at g5
    have g5 : (match s.B with
      | [b] => Nat.beq b 0
      | _ => false) = true := g5
    have sB : s.B = [0] := by
      split at g5
      · rename_i b' hb'; rw [hb', Nat.eq_of_beq_eq_true g5]
      · cases g5
    have es : s = ⟨0, [0], 5, s.I, [1]⟩ := by
      cases s
      simp only at b0 i5 sS sB
      subst b0 i5 sS sB
      rfl
    refine ⟨es, i, ?_⟩
    have hj2 := hj
    rw [es] at hj2
    exact trip_oneI hj2) k1 k2 (h.all e.b8 e.b0 hcls)
  have hDec := dec_memo e rfl rfl q (hfinds _) (c := c) hdisp (fun hcan => by
    refine ⟨?_, ?_⟩
    · obtain ⟨bc, B, hB⟩ := hnoidx (c3 hcan)
      rw [c2, hB]
      rw [hB] at hjc
      generalize canTr s (b, i, x) = t at hjc
      obtain ⟨t1, t2, t3⟩ := t
      exact ⟨t1, trip_oneB hjc⟩
    · rw [hcan] at e2; exact e2) e1 e3
  have hA1 := addM_ok e rfl rfl hregs rfl hj hdT k1 hbd.1 hbd.2 (cls_of g3) rfl
  have hA2 := addM_ok e rfl rfl (s := c.back) (disp := c.disp) (b := (canTr s (b, i, x)).1) (i := (canTr s (b, i, x)).2.1) (c := (canTr s (b, i, x)).2.2) hregs rfl (by rw [c2]; exact hjc) hdisp e1 hbdc.1 hbdc.2 (by rw [c2]; exact cls_of g4) (by rw [c2]; exact canon_addr hmem g3 d R nx)
  exact law_run e rfl rfl q hpre hregs rfl (haw _) hAll hDec hwh ⟨hn1, hn2⟩ hk hj k1 hA1 hA2 (law_mem (h.law e.b8 e.b0 hcls sz) hc) w hr
end Go.Ev.Tw
