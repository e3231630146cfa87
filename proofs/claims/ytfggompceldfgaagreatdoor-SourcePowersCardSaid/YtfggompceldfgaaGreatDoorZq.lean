/- name.Parse: the contract. -/
import Derived.Test.YtfggompceldfgaaGreatDoorZp
namespace Go.Proofs.YtfggompceldfgaaGreatDoor.nm
open Go.RowKit Go.Shelf Go.Lib
attribute [local go_sem] Oper.semAt_some

/-- Between two rounds of Parse. -/
structure PI (w : World) (s : ByteArray) (pre : List ByteArray) (W : World) : Prop where
  below : Below w.heap.size w W
  v0 : Var W w.heap.size (.string s)
  v1 : Var W (w.heap.size + 1) (.int .i64 0)
  v2 : Var W (w.heap.size + 1 + 1) (.bool false)
  v3 : Var W (w.heap.size + 1 + 1 + 1) (.int .i64 (pre.length : Int))
  no : s ∉ pre
/-- Where one has returned. -/
structure PX (w : World) (s : ByteArray) (pre : List ByteArray) (W : World) : Prop where
  below : Below w.heap.size w W
  v1 : Var W (w.heap.size + 1) (.int .i64 (pre.length : Int))
  v2 : Var W (w.heap.size + 1 + 1) (.bool true)
  is : ∃ l, pre = l ++ [s] ∧ s ∉ l

/-- What stands while the beginnings are tried. -/
structure TF (w : World) (s : ByteArray) (A : Nat) (W : World) : Prop where
  below : Below w.heap.size w W
  v0 : Var W w.heap.size (.string s)
  v1 : Var W (w.heap.size + 1) (.int .i64 0)
  v2 : Var W (w.heap.size + 1 + 1) (.bool false)
  df : W.heap[w.heap.size + 7]? = some (.deferred (some []))
  hA : w.heap.size + 7 < A
  a0 : W.cell? ⟨A, 0, none⟩ = some (.int .i64 68)
  a1 : W.cell? ⟨A, 1, none⟩ = some (.int .i64 84)
  a2 : W.cell? ⟨A, 2, none⟩ = some (.int .i64 100)
theorem TF.grow {w : World} {s : ByteArray} {A : Nat} {W W' : World} (h : TF w s A W) (hb : Below W.heap.size W W') : TF w s A W' := by
  have hlt : ∀ {b : Nat} {v : Value} {o : Nat}, W.cell? ⟨b, o, none⟩ = some v → b < W.heap.size := fun hc => World.block_lt_of_cell? _ _ hc
  have hd : w.heap.size + 7 < W.heap.size := (Array.getElem?_eq_some_iff.1 h.df).1
  exact ⟨h.below.trans (hb.mono h.below.size), h.v0.heap (hb.block _ (hlt h.v0.1)), h.v1.heap (hb.block _ (hlt h.v1.1)), h.v2.heap (hb.block _ (hlt h.v2.1)), (hb.block _ hd).trans h.df, h.hA,
    (cell_heap (hb.block _ (hlt h.a0))).trans h.a0, (cell_heap (hb.block _ (hlt h.a1))).trans h.a1, (cell_heap (hb.block _ (hlt h.a2))).trans h.a2⟩
theorem tf70 {w : World} {s p : ByteArray} {A : Nat} {W : World} (h : TF w s A W) {r : List UInt8} {b : Bool} (e : cutS s.data.toList p.data.toList = (r, b)) :
    CallsIn Fence.wide 9 Tryz.prog 91 #[.string s, .string p] W fun e W' => e = .returned (.tuple #[.string (mkB r), .bool b]) ∧ TF w s A W' := by
  refine (callsIn_wide (n := 9) |>.2 (calls70 s p W)).mono ?_
  rw [e]
  rintro e W' ⟨rfl, hb⟩
  exact ⟨rfl, h.grow hb⟩
theorem tf71 {w : World} {s : ByteArray} {A : Nat} {r : List UInt8} {c : Int} {b : Bool} (e : condS r = (c, b)) {W : World} (h : TF w s A W) :
    CallsIn Fence.wide 9 Tryz.prog 92 #[.string (mkB r)] W fun e W' => e = .returned (.tuple #[.int .i64 c, .bool b]) ∧ TF w s A W' := by
  refine (callsIn_wide (n := 9) |>.2 (calls71 (mkB r) W)).mono ?_
  have e' : condS (mkB r).data.toList = (c, b) := e
  rw [e']
  rintro e W' ⟨rfl, hb⟩
  exact ⟨rfl, h.grow hb⟩

theorem idx92_0 (w : World) : (Instr.index 141 (.agg #[.string ⟨#[106]⟩, .string ⟨#[115, 101, 116]⟩, .string ⟨#[99, 109, 111, 118]⟩]) (.int .i64 0)).run Tryz.prog w = .ok (.string ⟨#[106]⟩) w := by kernel_rfl
theorem idx92_1 (w : World) : (Instr.index 141 (.agg #[.string ⟨#[106]⟩, .string ⟨#[115, 101, 116]⟩, .string ⟨#[99, 109, 111, 118]⟩]) (.int .i64 1)).run Tryz.prog w = .ok (.string ⟨#[115, 101, 116]⟩) w := by kernel_rfl
theorem idx92_2 (w : World) : (Instr.index 141 (.agg #[.string ⟨#[106]⟩, .string ⟨#[115, 101, 116]⟩, .string ⟨#[99, 109, 111, 118]⟩]) (.int .i64 2)).run Tryz.prog w = .ok (.string ⟨#[99, 109, 111, 118]⟩) w := by kernel_rfl
/-- Which of some beginnings a text has, with a condition's name behind. -/
noncomputable def tryS (s : List UInt8) : List (List UInt8 × Int) → Int × Bool
  | [] => (0, false)
  | q :: l => if (cutS s q.1).2 = true ∧ (condS (cutS s q.1).1).2 = true then (q.2 + (condS (cutS s q.1).1).1, true) else tryS s l
def heads : List (List UInt8 × Int) := [([106], 68), ([115, 101, 116], 84), ([99, 109, 111, 118], 100)]
def findN (s : List UInt8) : List (List UInt8) → Int → Option Int
  | [], _ => none
  | p :: l, k => if p = s then some k else findN s l (k + 1)
noncomputable def parseS (s : List UInt8) : Int × Bool :=
  match findN s nms 1 with
  | some k => (k, true)
  | none => tryS s heads
theorem findN_no {s : List UInt8} : ∀ {l : List (List UInt8)} {k : Int}, s ∉ l → findN s l k = none
  | [], _, _ => rfl
  | p :: l, k, h => by
    rw [findN, if_neg (fun e => h (by rw [e]; exact List.mem_cons_self ..)), findN_no (fun hm => h (List.mem_cons_of_mem _ hm))]
theorem findN_at {s : List UInt8} : ∀ {l t : List (List UInt8)} {k : Int}, s ∉ l → findN s (l ++ s :: t) k = some (k + l.length)
  | [], t, k, _ => by rw [List.nil_append, findN, if_pos rfl]; simp
  | p :: l, t, k, h => by
    rw [List.cons_append, findN, if_neg (fun e => h (by rw [e]; exact List.mem_cons_self ..)), findN_at (fun hm => h (List.mem_cons_of_mem _ hm))]
    simp only [List.length_cons]; congr 1; omega
theorem condF_has (s : List UInt8) : ∀ l : List (List UInt8 × Int), (∀ q ∈ l, 0 ≤ q.2 ∧ q.2 ≤ 15) → 0 ≤ (condF s l).1 ∧ (condF s l).1 ≤ 15
  | [], _ => by simp [condF]
  | q :: l, h => by
    rw [condF]
    split
    · exact h q (List.mem_cons_self ..)
    · exact condF_has s l fun x hx => h x (List.mem_cons_of_mem _ hx)
theorem condS_has (s : List UInt8) : 0 ≤ (condS s).1 ∧ (condS s).1 ≤ 15 := condF_has s _ (by decide)
theorem mk_data (s : ByteArray) : mkB s.data.toList = s := by obtain ⟨d⟩ := s; simp
theorem mem_mk {s : ByteArray} {l : List (List UInt8)} : s ∈ l.map mkB ↔ s.data.toList ∈ l := by
  constructor
  · intro h
    obtain ⟨x, hx, rfl⟩ := List.mem_map.1 h
    exact hx
  · intro h
    exact List.mem_map.2 ⟨_, h, mk_data s⟩

set_option maxRecDepth 100000 in
set_option maxHeartbeats 2000000 in
theorem parse_in (s : ByteArray) (w : World)   : Calls Tryz.prog 52 #[.string s] w fun e w' => e = .returned (.tuple #[.int .i64 (parseS s.data.toList).1, .bool (parseS s.data.toList).2]) ∧ Below w.heap.size w w' := by
  refine callsIn_wide (n := 10) |>.1 ?_
  refine callsIn_of_wp_marks Tryz.func52 rfl trivial ?_ rfl
  simp only [Tryz.ntmps52, List.size_toArray, List.length_cons, List.length_nil, Nat.reduceAdd, Nat.reduceSub, Array.replicate_succ, Array.replicate_zero, List.push_toArray, List.append_toArray, List.nil_append, List.cons_append]
  gi_wp2_with (refine ⟨trivial, ?_⟩; gi_at_call 55; refine (callsIn_wide.2 (call69n _ (by kernel_rfl) _)).mono ?_; rintro e w' ⟨rfl, rfl⟩)
  have u0 := Var.new w (.string s) 9
  have u1 := Var.new (w.alloc (.cells #[.string s] 9)) (.int .i64 0) 3
  have u2 := Var.new ((w.alloc (.cells #[.string s] 9)).alloc (.cells #[.int .i64 0] 3)) (.bool false) 4
  have u3 := Var.new (((w.alloc (.cells #[.string s] 9)).alloc (.cells #[.int .i64 0] 3)).alloc (.cells #[.bool false] 4)) (.int .i64 0) 3
  have u4 := Var.new ((((w.alloc (.cells #[.string s] 9)).alloc (.cells #[.int .i64 0] 3)).alloc (.cells #[.bool false] 4)).alloc (.cells #[.int .i64 0] 3)) (.string nmText) 9
  have u5 := Var.new (((((w.alloc (.cells #[.string s] 9)).alloc (.cells #[.int .i64 0] 3)).alloc (.cells #[.bool false] 4)).alloc (.cells #[.int .i64 0] 3)).alloc (.cells #[.string nmText] 9)) (.string ⟨#[32]⟩) 9
  have u6 := Var.new ((((((w.alloc (.cells #[.string s] 9)).alloc (.cells #[.int .i64 0] 3)).alloc (.cells #[.bool false] 4)).alloc (.cells #[.int .i64 0] 3)).alloc (.cells #[.string nmText] 9)).alloc (.cells #[.string ⟨#[32]⟩] 9)) (.int .i64 0) 3
  have hb : Below w.heap.size w (((((((w.alloc (.cells #[.string s] 9)).alloc (.cells #[.int .i64 0] 3)).alloc (.cells #[.bool false] 4)).alloc (.cells #[.int .i64 0] 3)).alloc (.cells #[.string nmText] 9)).alloc (.cells #[.string ⟨#[32]⟩] 9)).alloc (.cells #[.int .i64 0] 3)) :=
    (((((((Below.refl _ w).alloc (Nat.le_refl _) _).alloc (by simp) _).alloc (by simp; omega) _).alloc (by simp; omega) _).alloc (by simp; omega) _).alloc (by simp; omega) _).alloc (by simp; omega) _
  simp only [World.size_alloc] at u1 u2 u3 u4 u5 u6
  have k0 := (((((u0.alloc (.cells #[.int .i64 0] 3)).alloc (.cells #[.bool false] 4)).alloc (.cells #[.int .i64 0] 3)).alloc (.cells #[.string nmText] 9)).alloc (.cells #[.string ⟨#[32]⟩] 9)).alloc (.cells #[.int .i64 0] 3)
  have k1 := ((((u1.alloc (.cells #[.bool false] 4)).alloc (.cells #[.int .i64 0] 3)).alloc (.cells #[.string nmText] 9)).alloc (.cells #[.string ⟨#[32]⟩] 9)).alloc (.cells #[.int .i64 0] 3)
  have k2 := (((u2.alloc (.cells #[.int .i64 0] 3)).alloc (.cells #[.string nmText] 9)).alloc (.cells #[.string ⟨#[32]⟩] 9)).alloc (.cells #[.int .i64 0] 3)
  have k3 := ((u3.alloc (.cells #[.string nmText] 9)).alloc (.cells #[.string ⟨#[32]⟩] 9)).alloc (.cells #[.int .i64 0] 3)
  have k4 := (u4.alloc (.cells #[.string ⟨#[32]⟩] 9)).alloc (.cells #[.int .i64 0] 3)
  have k5 := u5.alloc (.cells #[.int .i64 0] 3)
  have hsz : (((((((w.alloc (.cells #[.string s] 9)).alloc (.cells #[.int .i64 0] 3)).alloc (.cells #[.bool false] 4)).alloc (.cells #[.int .i64 0] 3)).alloc (.cells #[.string nmText] 9)).alloc (.cells #[.string ⟨#[32]⟩] 9)).alloc (.cells #[.int .i64 0] 3)).heap.size = w.heap.size + 7 := by simp
  refine range_law (m := w.heap.size + 7) (Bs := w.heap.size + 1 + 1 + 1 + 1) (Bp := w.heap.size + 1 + 1 + 1 + 1 + 1) (Bv := w.heap.size + 1 + 1 + 1 + 1 + 2) (by omega) hsz rfl (by omega) (by omega) (by omega) (by omega) (by omega) nm_parts nm_size k4.1 k4.2 k5.1 u6.1
    (PI w s) (PX w s)
    (fun pre W W' hl hi => ⟨hl.below hi.below (by omega) (by omega), hl.var hi.v0 (by omega) (by omega), hl.var hi.v1 (by omega) (by omega), hl.var hi.v2 (by omega) (by omega), hl.var hi.v3 (by omega) (by omega), hi.no⟩)
    (fun pre W W' hl hi => ⟨hl.below hi.below (by omega) (by omega), hl.var hi.v1 (by omega) (by omega), hl.var hi.v2 (by omega) (by omega), hi.is⟩)
    ⟨hb, k0, k1, k2, k3, by simp⟩
    (fun x => { tmps := #[.string s, .pointer (some ⟨w.heap.size, 0, none⟩), .pointer (some ⟨w.heap.size + 1, 0, none⟩), .pointer (some ⟨w.heap.size + 1 + 1, 0, none⟩), .pointer (some ⟨w.heap.size + 1 + 1 + 1, 0, none⟩), .string x, undef, undef, undef, undef, undef, undef, undef,
      .func (.func 136) #[] #[.pointer (some ⟨w.heap.size + 1 + 1 + 1 + 1 + 1, 0, none⟩), .pointer (some ⟨w.heap.size + 1 + 1 + 1 + 1, 0, none⟩), .pointer (some ⟨w.heap.size + 1 + 1 + 1 + 1 + 2, 0, none⟩)], .string x,
      undef, undef, undef, undef, undef, undef, undef, undef, undef, undef, undef, undef, undef, undef, undef, undef, undef, undef, undef, undef, undef, undef, undef, undef, undef, undef, undef, undef, undef, undef, undef, undef], defers := [] }) ?assign ?body ?done ?stop
  case assign =>
    intro l x W K hK
    gi_wp2
    exact hK
  case body =>
    rintro l pre x W ⟨hB, v0, v1, v2, v3, hno⟩ hpx
    have hlen : pre.length < 322 := by
      have := hpx.length_le
      rw [List.length_map, nms_len, List.length_append] at this
      simp at this; omega
    have c0 := v0.1; have c1 := v1.1; have f1 := v1.2; have c2 := v2.1; have f2 := v2.2; have c3 := v3.1; have f3 := v3.2
    gi_wp2
    · rename_i hx
      have hxs : x = s := by
        have := eq_of_beq hx
        rw [ByteArray.toList_eq, ByteArray.toList_eq] at this
        rw [← mk_data x, this, mk_data]
      refine ⟨fun r hr => ((setCell_block _ _ _ _ (by omega)).trans (setCell_block _ _ _ _ (by omega))).trans (setCell_block _ _ _ _ (by omega)), ?_, ?_, ?_, pre, by rw [hxs], hno⟩
      · exact ((hB.setCell (p := ⟨w.heap.size + 1 + 1 + 1, 0, none⟩) (by simp; omega) _).setCell (p := ⟨w.heap.size + 1, 0, none⟩) (by simp) _).setCell (p := ⟨w.heap.size + 1 + 1, 0, none⟩) (by simp; omega) _
      · have := (((v1.other (c := w.heap.size + 1 + 1 + 1) (by omega) (.int .i64 ((pre.length : Int) + 1))).set (.int .i64 ((pre.length : Int) + 1))).other (c := w.heap.size + 1 + 1) (by omega) (.bool true))
        simpa using this
      · exact (((v2.other (c := w.heap.size + 1 + 1 + 1) (by omega) (.int .i64 ((pre.length : Int) + 1))).other (c := w.heap.size + 1) (by omega) (.int .i64 ((pre.length : Int) + 1))).set (.bool true))
    · rename_i hx
      have hxs : s ≠ x := fun e => by subst e; simp at hx
      refine ⟨fun r hr => setCell_block _ _ _ _ (by omega), ?_, ?_, ?_, ?_, ?_, ?_⟩
      · exact hB.setCell (p := ⟨w.heap.size + 1 + 1 + 1, 0, none⟩) (by simp; omega) _
      · exact v0.other (by omega) _
      · exact v1.other (by omega) _
      · exact v2.other (by omega) _
      · have := v3.set (.int .i64 ((pre.length : Int) + 1))
        simpa using this
      · simp only [List.mem_append, List.mem_singleton, not_or]; exact ⟨hno, hxs⟩
  case done =>
    rintro W ⟨hB, v0, v1, v2, v3, hno⟩ hK
    have hno' : s.data.toList ∉ nms := fun hm => hno (mem_mk.2 hm)
    have hps : parseS s.data.toList = tryS s.data.toList heads := by unfold parseS; rw [findN_no hno']

    have c0 := v0.1; have c1 := v1.1; have f1 := v1.2; have c2 := v2.1; have f2 := v2.2
    have hd : w.heap.size + 7 < W.heap.size := (Array.getElem?_eq_some_iff.1 hK).1
    have hrow := World.alloc_heap_new W (.cells #[.int .i64 68, .int .i64 84, .int .i64 100] 140)
    have hT : TF w s W.heap.size (W.alloc (.cells #[.int .i64 68, .int .i64 84, .int .i64 100] 140)) := by
      refine ⟨hB.alloc hB.size _, v0.alloc _, v1.alloc _, v2.alloc _, (Below.heap_alloc _ _ _ hd).trans hK, hd, ?_, ?_, ?_⟩
      all_goals (unfold World.cell?; simp only [hrow]; rfl)
    obtain ⟨A, hAe⟩ : ∃ A, W.heap.size = A := ⟨_, rfl⟩
    rw [hAe] at hT
    gi_wp2
    gi_loopw [23] (fun v wr => ∃ k : Nat, ((k = 0 ∧ v = .int .i64 0) ∨ (k = 1 ∧ v = .int .i64 1) ∨ (k = 2 ∧ v = .int .i64 2) ∨ (k = 3 ∧ v = .int .i64 3)) ∧ TF w s A wr ∧ tryS s.data.toList heads = tryS s.data.toList (heads.drop k)) (fun v _ => 3 - (RowKit.intOf v).toNat)
    case atStart => exact ⟨0, .inl ⟨rfl, rfl⟩, hT, rfl⟩
    case round =>
      obtain ⟨k, hk, hT, htr⟩ := hrel
      rcases hk with ⟨rfl, rfl⟩ | ⟨rfl, rfl⟩ | ⟨rfl, rfl⟩ | ⟨rfl, rfl⟩
      · obtain ⟨r, b, hc⟩ : ∃ r b, cutS s.data.toList (⟨#[106]⟩ : ByteArray).data.toList = (r, b) := ⟨_, _, rfl⟩
        have hc' : cutS s.data.toList [106] = (r, b) := hc
        obtain ⟨c, t, hd⟩ : ∃ c t, condS r = (c, t) := ⟨_, _, rfl⟩
        have hhas := condS_has r
        rw [hd] at hhas
        have q0 := hT.v0.1
        have h70 := tf70 (p := ⟨#[106]⟩) hT hc
        have i92 := idx92_0
        have hstep : tryS s.data.toList (heads.drop 0) = if b = true ∧ t = true then (68 + c, true) else tryS s.data.toList (heads.drop 1) := by
          show tryS s.data.toList (([106], 68) :: heads.drop 1) = _
          rw [tryS, hc', hd]
        cases b with
        | false =>
          gi_wp2_with (refine ⟨trivial, ?_⟩; gi_at_call 91; refine h70.mono ?_; rintro e W2 ⟨rfl, hT2⟩)
          go_roundw
          case rel => exact ⟨1, .inr (.inl ⟨rfl, rfl⟩), hT2, by rw [htr, hstep]; simp⟩
          case measure => simp [RowKit.intOf]
        | true =>
          cases t with
          | false =>
            gi_wp2_with first | (refine ⟨trivial, ?_⟩; gi_at_call 91; refine h70.mono ?_; rintro e W2 ⟨rfl, hT2⟩) | (refine ⟨trivial, ?_⟩; gi_at_call 92; refine (tf71 hd hT2).mono ?_; rintro e W3 ⟨rfl, hT3⟩)
            go_roundw
            case rel => exact ⟨1, .inr (.inl ⟨rfl, rfl⟩), hT3, by rw [htr, hstep]; simp⟩
            case measure => simp [RowKit.intOf]
          | true =>
            gi_wp2_with first | (refine ⟨trivial, ?_⟩; gi_at_call 91; refine h70.mono ?_; rintro e W2 ⟨rfl, hT2⟩) | (refine ⟨trivial, ?_⟩; gi_at_call 92; refine (tf71 hd hT2).mono ?_; rintro e W3 ⟨rfl, hT3⟩; have b0 := hT3.a0; have b1 := hT3.a1; have b2 := hT3.a2; have b3 := hT3.v1.1; have b4 := hT3.v1.2; have b5 := hT3.v2.1; have b6 := hT3.v2.2)
            have hh := hT3.hA
            have hK3 : ((W3.setCell ⟨w.heap.size + 1, 0, none⟩ (.int .i64 (68 + c))).setCell ⟨w.heap.size + 1 + 1, 0, none⟩ (.bool true)).heap[w.heap.size + 7]? = some (.deferred (some [])) :=
              ((setCell_block _ _ _ _ (by omega)).trans (setCell_block _ _ _ _ (by omega))).trans hT3.df
            have g1 := (hT3.v1.set (.int .i64 (68 + c))).other (c := w.heap.size + 1 + 1) (by omega) (.bool true)
            have g2 := (hT3.v2.other (c := w.heap.size + 1) (by omega) (.int .i64 (68 + c))).set (.bool true)
            refine ⟨by simp, .inl ⟨_, _, rfl, run_takeDeferred hK3, ?_⟩⟩
            refine ⟨_, results_two (by rfl) (run_isAgg_plain Tryz.underlying3 rfl) (run_isAgg_plain Tryz.underlying4 rfl) (a := ⟨w.heap.size + 1, 0, none⟩) (b := ⟨w.heap.size + 1 + 1, 0, none⟩) (by rfl) (by rfl) (g1.heap (World.putObj_heap_other (by omega))).1 (g2.heap (World.putObj_heap_other (by omega))).1, ?_, ?_⟩
            · rw [hps, htr, hstep]; rfl
            · exact (Lo.putObj (m := w.heap.size + 7) (Bs := w.heap.size) _ (.deferred none) (Nat.le_refl _)).below ((hT3.below.setCell (p := ⟨w.heap.size + 1, 0, none⟩) (by simp) _).setCell (p := ⟨w.heap.size + 1 + 1, 0, none⟩) (by simp; omega) _) (by omega) (Nat.le_refl _)
      · obtain ⟨r, b, hc⟩ : ∃ r b, cutS s.data.toList (⟨#[115, 101, 116]⟩ : ByteArray).data.toList = (r, b) := ⟨_, _, rfl⟩
        have hc' : cutS s.data.toList [115, 101, 116] = (r, b) := hc
        obtain ⟨c, t, hd⟩ : ∃ c t, condS r = (c, t) := ⟨_, _, rfl⟩
        have hhas := condS_has r
        rw [hd] at hhas
        have q0 := hT.v0.1
        have h70 := tf70 (p := ⟨#[115, 101, 116]⟩) hT hc
        have i92 := idx92_1
        have hstep : tryS s.data.toList (heads.drop 1) = if b = true ∧ t = true then (84 + c, true) else tryS s.data.toList (heads.drop 2) := by
          show tryS s.data.toList (([115, 101, 116], 84) :: heads.drop 2) = _
          rw [tryS, hc', hd]
        cases b with
        | false =>
          gi_wp2_with (refine ⟨trivial, ?_⟩; gi_at_call 91; refine h70.mono ?_; rintro e W2 ⟨rfl, hT2⟩)
          go_roundw
          case rel => exact ⟨2, .inr (.inr (.inl ⟨rfl, rfl⟩)), hT2, by rw [htr, hstep]; simp⟩
          case measure => simp [RowKit.intOf]
        | true =>
          cases t with
          | false =>
            gi_wp2_with first | (refine ⟨trivial, ?_⟩; gi_at_call 91; refine h70.mono ?_; rintro e W2 ⟨rfl, hT2⟩) | (refine ⟨trivial, ?_⟩; gi_at_call 92; refine (tf71 hd hT2).mono ?_; rintro e W3 ⟨rfl, hT3⟩)
            go_roundw
            case rel => exact ⟨2, .inr (.inr (.inl ⟨rfl, rfl⟩)), hT3, by rw [htr, hstep]; simp⟩
            case measure => simp [RowKit.intOf]
          | true =>
            gi_wp2_with first | (refine ⟨trivial, ?_⟩; gi_at_call 91; refine h70.mono ?_; rintro e W2 ⟨rfl, hT2⟩) | (refine ⟨trivial, ?_⟩; gi_at_call 92; refine (tf71 hd hT2).mono ?_; rintro e W3 ⟨rfl, hT3⟩; have b0 := hT3.a0; have b1 := hT3.a1; have b2 := hT3.a2; have b3 := hT3.v1.1; have b4 := hT3.v1.2; have b5 := hT3.v2.1; have b6 := hT3.v2.2)
            have hh := hT3.hA
            have hK3 : ((W3.setCell ⟨w.heap.size + 1, 0, none⟩ (.int .i64 (84 + c))).setCell ⟨w.heap.size + 1 + 1, 0, none⟩ (.bool true)).heap[w.heap.size + 7]? = some (.deferred (some [])) :=
              ((setCell_block _ _ _ _ (by omega)).trans (setCell_block _ _ _ _ (by omega))).trans hT3.df
            have g1 := (hT3.v1.set (.int .i64 (84 + c))).other (c := w.heap.size + 1 + 1) (by omega) (.bool true)
            have g2 := (hT3.v2.other (c := w.heap.size + 1) (by omega) (.int .i64 (84 + c))).set (.bool true)
            refine ⟨by simp, .inl ⟨_, _, rfl, run_takeDeferred hK3, ?_⟩⟩
            refine ⟨_, results_two (by rfl) (run_isAgg_plain Tryz.underlying3 rfl) (run_isAgg_plain Tryz.underlying4 rfl) (a := ⟨w.heap.size + 1, 0, none⟩) (b := ⟨w.heap.size + 1 + 1, 0, none⟩) (by rfl) (by rfl) (g1.heap (World.putObj_heap_other (by omega))).1 (g2.heap (World.putObj_heap_other (by omega))).1, ?_, ?_⟩
            · rw [hps, htr, hstep]; rfl
            · exact (Lo.putObj (m := w.heap.size + 7) (Bs := w.heap.size) _ (.deferred none) (Nat.le_refl _)).below ((hT3.below.setCell (p := ⟨w.heap.size + 1, 0, none⟩) (by simp) _).setCell (p := ⟨w.heap.size + 1 + 1, 0, none⟩) (by simp; omega) _) (by omega) (Nat.le_refl _)
      · obtain ⟨r, b, hc⟩ : ∃ r b, cutS s.data.toList (⟨#[99, 109, 111, 118]⟩ : ByteArray).data.toList = (r, b) := ⟨_, _, rfl⟩
        have hc' : cutS s.data.toList [99, 109, 111, 118] = (r, b) := hc
        obtain ⟨c, t, hd⟩ : ∃ c t, condS r = (c, t) := ⟨_, _, rfl⟩
        have hhas := condS_has r
        rw [hd] at hhas
        have q0 := hT.v0.1
        have h70 := tf70 (p := ⟨#[99, 109, 111, 118]⟩) hT hc
        have i92 := idx92_2
        have hstep : tryS s.data.toList (heads.drop 2) = if b = true ∧ t = true then (100 + c, true) else tryS s.data.toList (heads.drop 3) := by
          show tryS s.data.toList (([99, 109, 111, 118], 100) :: heads.drop 3) = _
          rw [tryS, hc', hd]
        cases b with
        | false =>
          gi_wp2_with (refine ⟨trivial, ?_⟩; gi_at_call 91; refine h70.mono ?_; rintro e W2 ⟨rfl, hT2⟩)
          go_roundw
          case rel => exact ⟨3, .inr (.inr (.inr ⟨rfl, rfl⟩)), hT2, by rw [htr, hstep]; simp⟩
          case measure => simp [RowKit.intOf]
        | true =>
          cases t with
          | false =>
            gi_wp2_with first | (refine ⟨trivial, ?_⟩; gi_at_call 91; refine h70.mono ?_; rintro e W2 ⟨rfl, hT2⟩) | (refine ⟨trivial, ?_⟩; gi_at_call 92; refine (tf71 hd hT2).mono ?_; rintro e W3 ⟨rfl, hT3⟩)
            go_roundw
            case rel => exact ⟨3, .inr (.inr (.inr ⟨rfl, rfl⟩)), hT3, by rw [htr, hstep]; simp⟩
            case measure => simp [RowKit.intOf]
          | true =>
            gi_wp2_with first | (refine ⟨trivial, ?_⟩; gi_at_call 91; refine h70.mono ?_; rintro e W2 ⟨rfl, hT2⟩) | (refine ⟨trivial, ?_⟩; gi_at_call 92; refine (tf71 hd hT2).mono ?_; rintro e W3 ⟨rfl, hT3⟩; have b0 := hT3.a0; have b1 := hT3.a1; have b2 := hT3.a2; have b3 := hT3.v1.1; have b4 := hT3.v1.2; have b5 := hT3.v2.1; have b6 := hT3.v2.2)
            have hh := hT3.hA
            have hK3 : ((W3.setCell ⟨w.heap.size + 1, 0, none⟩ (.int .i64 (100 + c))).setCell ⟨w.heap.size + 1 + 1, 0, none⟩ (.bool true)).heap[w.heap.size + 7]? = some (.deferred (some [])) :=
              ((setCell_block _ _ _ _ (by omega)).trans (setCell_block _ _ _ _ (by omega))).trans hT3.df
            have g1 := (hT3.v1.set (.int .i64 (100 + c))).other (c := w.heap.size + 1 + 1) (by omega) (.bool true)
            have g2 := (hT3.v2.other (c := w.heap.size + 1) (by omega) (.int .i64 (100 + c))).set (.bool true)
            refine ⟨by simp, .inl ⟨_, _, rfl, run_takeDeferred hK3, ?_⟩⟩
            refine ⟨_, results_two (by rfl) (run_isAgg_plain Tryz.underlying3 rfl) (run_isAgg_plain Tryz.underlying4 rfl) (a := ⟨w.heap.size + 1, 0, none⟩) (b := ⟨w.heap.size + 1 + 1, 0, none⟩) (by rfl) (by rfl) (g1.heap (World.putObj_heap_other (by omega))).1 (g2.heap (World.putObj_heap_other (by omega))).1, ?_, ?_⟩
            · rw [hps, htr, hstep]; rfl
            · exact (Lo.putObj (m := w.heap.size + 7) (Bs := w.heap.size) _ (.deferred none) (Nat.le_refl _)).below ((hT3.below.setCell (p := ⟨w.heap.size + 1, 0, none⟩) (by simp) _).setCell (p := ⟨w.heap.size + 1 + 1, 0, none⟩) (by simp; omega) _) (by omega) (Nat.le_refl _)
      · have b3 := hT.v1.1; have b4 := hT.v1.2; have b5 := hT.v2.1; have b6 := hT.v2.2
        gi_wp2
        have hh := hT.hA
        have hK3 : ((wr.setCell ⟨w.heap.size + 1, 0, none⟩ (.int .i64 0)).setCell ⟨w.heap.size + 1 + 1, 0, none⟩ (.bool false)).heap[w.heap.size + 7]? = some (.deferred (some [])) :=
          ((setCell_block _ _ _ _ (by omega)).trans (setCell_block _ _ _ _ (by omega))).trans hT.df
        have g1 := (hT.v1.set (.int .i64 0)).other (c := w.heap.size + 1 + 1) (by omega) (.bool false)
        have g2 := (hT.v2.other (c := w.heap.size + 1) (by omega) (.int .i64 0)).set (.bool false)
        refine ⟨by simp, .inl ⟨_, _, rfl, run_takeDeferred hK3, ?_⟩⟩
        refine ⟨_, results_two (by rfl) (run_isAgg_plain Tryz.underlying3 rfl) (run_isAgg_plain Tryz.underlying4 rfl) (a := ⟨w.heap.size + 1, 0, none⟩) (b := ⟨w.heap.size + 1 + 1, 0, none⟩) (by rfl) (by rfl) (g1.heap (World.putObj_heap_other (by omega))).1 (g2.heap (World.putObj_heap_other (by omega))).1, ?_, ?_⟩
        · rw [hps, htr]; rfl
        · exact (Lo.putObj (m := w.heap.size + 7) (Bs := w.heap.size) _ (.deferred none) (Nat.le_refl _)).below ((hT.below.setCell (p := ⟨w.heap.size + 1, 0, none⟩) (by simp) _).setCell (p := ⟨w.heap.size + 1 + 1, 0, none⟩) (by simp; omega) _) (by omega) (Nat.le_refl _)
  case stop =>
    rintro pre W hpre ⟨hB, v1, v2, l, he, hno⟩ hK
    gi_wp2
    refine ⟨by simp, .inl ⟨_, _, rfl, run_takeDeferred hK, ?_⟩⟩
    refine ⟨_, results_two (by rfl) (run_isAgg_plain Tryz.underlying3 rfl) (run_isAgg_plain Tryz.underlying4 rfl) (a := ⟨w.heap.size + 1, 0, none⟩) (b := ⟨w.heap.size + 1 + 1, 0, none⟩) (by rfl) (by rfl) (v1.heap (World.putObj_heap_other (by omega))).1 (v2.heap (World.putObj_heap_other (by omega))).1, ?_, ?_⟩
    · obtain ⟨t, ht⟩ := hpre
      have hn : nms = l.map (fun x => x.data.toList) ++ s.data.toList :: t.map (fun x => x.data.toList) := by
        have h1 := congrArg (List.map (fun x : ByteArray => x.data.toList)) ht
        rw [List.map_map, he] at h1
        have h2 : ((fun x : ByteArray => x.data.toList) ∘ mkB) = id := funext fun _ => rfl
        rw [h2, List.map_id] at h1
        rw [← h1]; simp
      have hl : s.data.toList ∉ l.map (fun x => x.data.toList) := fun hm => by
        obtain ⟨x, hx, hxe⟩ := List.mem_map.1 hm
        exact hno (by rw [← mk_data s, ← hxe, mk_data]; exact hx)
      have hps : parseS s.data.toList = ((pre.length : Int), true) := by
        unfold parseS
        rw [hn, findN_at hl, he]
        simp; omega
      rw [hps]
    · exact (Lo.putObj (m := w.heap.size + 7) (Bs := w.heap.size) W (.deferred none) (Nat.le_refl _)).below hB (by omega) (Nat.le_refl _)
end Go.Proofs.YtfggompceldfgaaGreatDoor.nm
