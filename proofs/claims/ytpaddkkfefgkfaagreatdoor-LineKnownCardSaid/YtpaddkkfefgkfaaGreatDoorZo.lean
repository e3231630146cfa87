/- name.Name: the contract. -/
import Derived.Test.YtpaddkkfefgkfaaGreatDoorZn
import Derived.Lib.IndexLaws
import Derived.Test.YtpaddkkfefgkfaaGreatDoorLyg
namespace Go.Proofs.YtpaddkkfefgkfaaGreatDoor.nm
open Go.RowKit Go.Shelf Go.Lib
attribute [local go_sem] Oper.semAt_some

set_option maxRecDepth 100000 in
set_option maxHeartbeats 1000000 in
theorem call101 (s t : ByteArray) (w : World) : Calls Tryz.prog 85 #[.string s, .string t, .int .i64 0] w fun e w' => e = .returned (.func (.func 126) #[] #[.pointer (some ⟨w.heap.size + 1, 0, none⟩), .pointer (some ⟨w.heap.size, 0, none⟩), .pointer (some ⟨w.heap.size + 2, 0, none⟩)]) ∧
    w' = ((w.alloc (.cells #[.string s] 9)).alloc (.cells #[.string t] 9)).alloc (.cells #[.int .i64 0] 3) := by
  go_enter Tryz.func85, Tryz.ntmps85
  go_wp2
  go_ret
  exact ⟨rfl, rfl⟩
set_option maxRecDepth 100000 in
set_option maxHeartbeats 1000000 in
theorem call69 (s t : ByteArray) (w : World) : Calls Tryz.prog 45 #[.string s, .string t] w fun e w' => e = .returned (.func (.func 126) #[] #[.pointer (some ⟨w.heap.size + 1, 0, none⟩), .pointer (some ⟨w.heap.size, 0, none⟩), .pointer (some ⟨w.heap.size + 2, 0, none⟩)]) ∧
    w' = ((w.alloc (.cells #[.string s] 9)).alloc (.cells #[.string t] 9)).alloc (.cells #[.int .i64 0] 3) := by
  go_enter Tryz.func45, Tryz.ntmps45
  go_wp2_with (go_at_call 85; refine (call101 _ _ _).mono ?_; rintro e w' ⟨rfl, rfl⟩)
  go_ret
  exact ⟨rfl, rfl⟩
set_option maxRecDepth 100000 in
set_option maxHeartbeats 1000000 in
theorem call17 (n : Int) (w : World) : Calls Tryz.prog 31 #[.int .i64 n] w fun e w' => e = .returned (.bool (decide (1 ≤ n ∧ n ≤ 322))) ∧ w' = w := by
  go_enter Tryz.func31, Tryz.ntmps31
  go_wp2
  · rename_i h
    go_ret
    refine ⟨?_, rfl⟩
    show Ending.returned (.bool (decide (n ≤ 322))) = _
    simp [h]
  · rename_i h
    go_ret
    refine ⟨?_, rfl⟩
    show Ending.returned (.bool false) = _
    have : ¬ 1 ≤ n := by omega
    simp [this]

theorem results_one {fn : Func} {p : Tmp} {ty : TypeId} (h : fn.results = #[.cell p ty]) {P : Program} {w : World} {tmps : Array Value} {a : Addr} {v : Value} (ha : ∀ w, (isAgg ty).run P w = .ok false w) (hp : tmps.getD p undef = .pointer (some a)) (hc : w.cell? a = some v) :
    (results fn tmps).run P w = .ok v w := by
  have hp' : tmps[p]?.getD undef = .pointer (some a) := by simpa using hp
  simp [results, h, go_sem, hp', hc, ha]
theorem results_two {fn : Func} {p q : Tmp} {ty tz : TypeId} (h : fn.results = #[.cell p ty, .cell q tz]) {P : Program} {w : World} {tmps : Array Value} {a b : Addr} {v u : Value} (ha : ∀ w, (isAgg ty).run P w = .ok false w) (hb : ∀ w, (isAgg tz).run P w = .ok false w)
    (hp : tmps.getD p undef = .pointer (some a)) (hq : tmps.getD q undef = .pointer (some b)) (hc : w.cell? a = some v) (hd : w.cell? b = some u) :
    (results fn tmps).run P w = .ok (.tuple #[v, u]) w := by
  have hp' : tmps[p]?.getD undef = .pointer (some a) := by simpa using hp
  have hq' : tmps[q]?.getD undef = .pointer (some b) := by simpa using hq
  simp [results, h, go_sem, hp', hc, ha, hb, hq', hd]

/-- A new variable. -/
def Var (W : World) (b : Nat) (v : Value) : Prop := W.cell? ⟨b, 0, none⟩ = some v ∧ W.frozen? ⟨b, 0, none⟩ = false
theorem Var.new (W : World) (v : Value) (t : TypeId) : Var (W.alloc (.cells #[v] t)) W.heap.size v := by
  have h := World.alloc_heap_new W (.cells #[v] t)
  constructor
  · unfold World.cell?; simp only [h]; rfl
  · unfold World.frozen?; simp only [h]; rfl
theorem Var.heap {W W' : World} {b : Nat} {v : Value} (h : Var W b v) (e : W'.heap[b]? = W.heap[b]?) : Var W' b v := ⟨(cell_heap e).trans h.1, (frozen_heap e).trans h.2⟩
theorem Var.lt {W : World} {b : Nat} {v : Value} (h : Var W b v) : b < W.heap.size := World.block_lt_of_cell? _ _ h.1
theorem Var.alloc {W : World} {b : Nat} {v : Value} (h : Var W b v) (o : Obj) : Var (W.alloc o) b v := h.heap (Below.heap_alloc _ _ _ h.lt)
theorem Var.set {W : World} {b : Nat} {v : Value} (h : Var W b v) (u : Value) : Var (W.setCell ⟨b, 0, none⟩ u) b u := ⟨World.cell?_setCell_same' _ _ _ (by rw [h.1]; rfl), by rw [World.frozen?_setCell]; exact h.2⟩
theorem Var.other {W : World} {b c : Nat} {v : Value} (h : Var W b v) (hne : b ≠ c) (u : Value) : Var (W.setCell ⟨c, 0, none⟩ u) b v := h.heap (setCell_block W c b u hne)
theorem Lo.var {m Bs b : Nat} {W W' : World} {v : Value} (h : Lo m Bs W W') (hv : Var W b v) (hb : b < m) (hn : b ≠ Bs) : Var W' b v := hv.heap (h.block b hb hn)
theorem Lo.below {m Bs B : Nat} {w W W' : World} (h : Lo m Bs W W') (hb : Below B w W) (hB : B ≤ m) (hs : B ≤ Bs) : Below B w W' :=
  ⟨h.os.trans hb.os, h.tape.trans hb.tape, h.output.trans hb.output, Nat.le_trans hb.size h.size, fun k hk => (h.block k (by omega) (by omega)).trans (hb.block k hk)⟩

/-- The parts of a text. -/
def splitS : List UInt8 → List (List UInt8)
  | [] => [[]]
  | c :: r => if c = 32 then [] :: splitS r else match splitS r with
    | p :: ps => (c :: p) :: ps
    | [] => [[c]]
theorem splitS_ne : ∀ l, splitS l ≠ []
  | [] => by simp [splitS]
  | c :: r => by
    rw [splitS]
    split
    · simp
    · split <;> simp
theorem splitS_idx : ∀ l : List UInt8, (Lib.indexByte l 32 = -1 ∧ splitS l = [l]) ∨ ∃ o : Nat, Lib.indexByte l 32 = o ∧ o < l.length ∧ splitS l = l.take o :: splitS (l.drop (o + 1))
  | [] => .inl ⟨rfl, rfl⟩
  | c :: r => by
    rw [Lib.indexByte, splitS]
    by_cases hc : c = 32
    · subst hc
      exact .inr ⟨0, by simp, by simp, by simp⟩
    · rw [if_neg (by simpa using hc), if_neg hc]
      rcases splitS_idx r with ⟨h1, h2⟩ | ⟨o, h1, h2, h3⟩
      · left
        rw [h1, h2]; exact ⟨rfl, rfl⟩
      · right
        refine ⟨o + 1, ?_, by simp; omega, ?_⟩
        · rw [h1, if_neg (by simp)]; rfl
        · rw [h3]; simp
abbrev mkB (l : List UInt8) : ByteArray := ⟨l.toArray⟩
theorem extract_mk (l : List UInt8) (a b : Nat) : (mkB l).extract a b = mkB ((l.take b).drop a) := by
  apply ByteArray.ext
  apply Array.ext'
  simp [List.drop_take]
theorem parts_mk : ∀ (n : Nat) (l : List UInt8), l.length < n → Parts (mkB l) ((splitS l).map mkB)
  | 0, l, h => absurd h (Nat.not_lt_zero _)
  | n + 1, l, h => by
    rcases splitS_idx l with ⟨h1, h2⟩ | ⟨o, h1, h2, h3⟩
    · rw [h2]; exact .last _ (by simpa using h1)
    · rw [h3, List.map_cons]
      have e1 : mkB (l.take o) = (mkB l).extract 0 o := by rw [extract_mk]; simp
      have e2 : mkB (l.drop (o + 1)) = (mkB l).extract (o + 1) (mkB l).size := by rw [extract_mk]; simp [ByteArray.size, List.take_of_length_le]
      rw [e1]
      refine .cut _ o _ (by simpa using h1) (by simpa [ByteArray.size] using h2) ?_
      rw [← e2]
      exact parts_mk n _ (by rw [List.length_drop]; omega)
noncomputable def splitA (acc : List (List UInt8)) (cur : List UInt8) : List UInt8 → List (List UInt8)
  | [] => (cur.reverse :: acc).reverse
  | c :: r => Ev.pick2 (Nat.beq c.toNat 32) (splitA (cur.reverse :: acc) [] r) (splitA acc (c :: cur) r)
theorem splitA_eq : ∀ (l : List UInt8) (acc : List (List UInt8)) (cur : List UInt8), splitA acc cur l = acc.reverse ++ (match splitS l with | p :: ps => (cur.reverse ++ p) :: ps | [] => [])
  | [], acc, cur => by simp [splitA, splitS]
  | c :: r, acc, cur => by
    rw [splitA, Ev.pick2_eq, splitS, splitA_eq r, splitA_eq r]
    have hne := splitS_ne r
    by_cases hc : c = 32
    · subst hc
      rw [if_pos (by decide), if_pos rfl]
      cases hr : splitS r with
      | nil => exact absurd hr hne
      | cons p ps => simp
    · rw [if_neg (by simp only [Nat.beq_eq]; intro h; exact hc (UInt8.toNat_inj.1 h)), if_neg hc]
      cases hr : splitS r with
      | nil => exact absurd hr hne
      | cons p ps => simp
theorem splitA_S (l : List UInt8) : splitA [] [] l = splitS l := by
  rw [splitA_eq]
  cases hr : splitS l with
  | nil => exact absurd hr (splitS_ne l)
  | cons p ps => simp

/-- The text that a call hands over first. -/
def firstText : Code → ByteArray
  | .seq a _ => firstText a
  | .region _ ops _ => match ops.toList with
    | o :: _ => match o.op with
      | .call c => match c.args.toList with
        | .const (.string s) :: _ => s
        | _ => .empty
      | _ => .empty
    | _ => .empty
  | _ => .empty
def rest3 : Code → Code
  | .seq _ (.seq _ (.seq _ c)) => c
  | c => c
/-- The text of all names. -/
noncomputable def nmText : ByteArray := match Tryz.f13.body with | some c => firstText (rest3 c) | none => .empty
/-- All names. -/
noncomputable def nms : List (List UInt8) := splitA [] [] nmText.data.toList
theorem parts_self (s : ByteArray) : Parts s ((splitA [] [] s.data.toList).map mkB) := by
  have h := parts_mk (s.data.toList.length + 1) s.data.toList (Nat.lt_succ_self _)
  rw [splitA_S]
  have e : mkB s.data.toList = s := by obtain ⟨d⟩ := s; simp
  rw [e] at h
  exact h
theorem nm_parts : Parts nmText (nms.map mkB) := parts_self nmText
set_option maxRecDepth 100000 in
set_option maxHeartbeats 1000000 in
theorem name_no (op : Int) (h : ¬ (1 ≤ op ∧ op ≤ 322)) (w : World) : Calls Tryz.prog 13 #[.int .i64 op] w fun e w' => e = .returned (.string ⟨#[]⟩) ∧ Below w.heap.size w w' := by
  have h17 : ∀ w, Calls Tryz.prog 31 #[.int .i64 op] w fun e w' => e = .returned (.bool false) ∧ w' = w := fun w => by
    have := call17 op w; rwa [decide_eq_false h] at this
  go_enter Tryz.func13, Tryz.ntmps13
  go_wp2_with (go_at_call 31; refine (h17 _).mono ?_; rintro e w' ⟨rfl, rfl⟩)
  have c1 := Var.new (w.alloc (.cells #[.int .i64 op] 3)) (.string ⟨#[]⟩) 9
  rw [World.size_alloc] at c1
  refine bodyPost_ret_by (results_one (by rfl) (run_isAgg_plain Tryz.underlying9 rfl) (a := ⟨w.heap.size + 1, 0, none⟩) (by rfl) c1.1) rfl ⟨rfl, ?_⟩
  exact ((Below.refl _ w).alloc (Nat.le_refl _) _).alloc (by simp) _

theorem nms_len : nms.length = 322 := by kernel_rfl
noncomputable def lenA (l : List UInt8) : Nat → Nat := List.rec (motive := fun _ => Nat → Nat) (fun n => n) (fun _ _ go n => go (Nat.add n 1)) l
theorem lenA_eq : ∀ (l : List UInt8) (n : Nat), lenA l n = n + l.length
  | [], n => rfl
  | c :: r, n => by
    show lenA r (n + 1) = _
    rw [lenA_eq r]; simp; omega
theorem nm_ble : Nat.ble (lenA nmText.data.toList 0) 1000000 = true := by kernel_rfl
theorem size_of (s : ByteArray) (h : Nat.ble (lenA s.data.toList 0) 1000000 = true) : s.size ≤ 1000000 := by
  have := Nat.le_of_ble_eq_true h
  rw [lenA_eq, Nat.zero_add] at this
  exact this
theorem nm_size : nmText.size ≤ 1000000 := size_of nmText nm_ble


theorem call69n (s : ByteArray) (hs : s = nmText) (w : World) : Calls Tryz.prog 45 #[.string s, .string ⟨#[32]⟩] w fun e w' => e = .returned (.func (.func 126) #[] #[.pointer (some ⟨w.heap.size + 1, 0, none⟩), .pointer (some ⟨w.heap.size, 0, none⟩), .pointer (some ⟨w.heap.size + 2, 0, none⟩)]) ∧
    w' = ((w.alloc (.cells #[.string nmText] 9)).alloc (.cells #[.string ⟨#[32]⟩] 9)).alloc (.cells #[.int .i64 0] 3) := by
  subst hs; exact call69 _ _ _
/-- Between two rounds of Name. -/
structure NI (w : World) (op : Int) (pre : List ByteArray) (W : World) : Prop where
  below : Below w.heap.size w W
  v0 : Var W w.heap.size (.int .i64 op)
  v1 : Var W (w.heap.size + 1) (.string ⟨#[]⟩)
  v2 : Var W (w.heap.size + 1 + 1) (.int .i64 (pre.length : Int))
  lt : (pre.length : Int) < op
/-- Where one has returned. -/
structure NX (w : World) (op : Int) (pre : List ByteArray) (W : World) : Prop where
  below : Below w.heap.size w W
  v1 : Var W (w.heap.size + 1) (.string (pre.getLast?.getD ⟨#[]⟩))
  eq : (pre.length : Int) = op
set_option maxRecDepth 100000 in
set_option maxHeartbeats 1000000 in
theorem name_yes (op : Int) (h : 1 ≤ op ∧ op ≤ 322) (w : World) : Calls Tryz.prog 13 #[.int .i64 op] w fun e w' => e = .returned (.string (mkB (nms.getD (op.toNat - 1) []))) ∧ Below w.heap.size w w' := by
  have h17 : ∀ w, CallsIn Fence.wide 9 Tryz.prog 31 #[.int .i64 op] w fun e w' => e = .returned (.bool true) ∧ w' = w := fun w => by
    have := callsIn_wide (n := 9) |>.2 (call17 op w); rwa [decide_eq_true h] at this
  refine callsIn_wide (n := 10) |>.1 ?_
  refine callsIn_of_wp_marks Tryz.func13 rfl trivial ?_ rfl
  simp only [Tryz.ntmps13, List.size_toArray, List.length_cons, List.length_nil, Nat.reduceAdd, Nat.reduceSub, Array.replicate_succ, Array.replicate_zero, List.push_toArray, List.append_toArray, List.nil_append, List.cons_append]
  gi_wp2_with first | (refine ⟨trivial, ?_⟩; gi_at_call 31; refine (h17 _).mono ?_; rintro e w' ⟨rfl, rfl⟩) | (refine ⟨trivial, ?_⟩; gi_at_call 45; refine (callsIn_wide.2 (call69n _ (by kernel_rfl) _)).mono ?_; rintro e w' ⟨rfl, rfl⟩)
  have u0 := Var.new w (.int .i64 op) 3
  have u1 := Var.new (w.alloc (.cells #[.int .i64 op] 3)) (.string ⟨#[]⟩) 9
  have u2 := Var.new ((w.alloc (.cells #[.int .i64 op] 3)).alloc (.cells #[.string ⟨#[]⟩] 9)) (.int .i64 0) 3
  have u3 := Var.new (((w.alloc (.cells #[.int .i64 op] 3)).alloc (.cells #[.string ⟨#[]⟩] 9)).alloc (.cells #[.int .i64 0] 3)) (.string nmText) 9
  have u4 := Var.new ((((w.alloc (.cells #[.int .i64 op] 3)).alloc (.cells #[.string ⟨#[]⟩] 9)).alloc (.cells #[.int .i64 0] 3)).alloc (.cells #[.string nmText] 9)) (.string ⟨#[32]⟩) 9
  have u5 := Var.new (((((w.alloc (.cells #[.int .i64 op] 3)).alloc (.cells #[.string ⟨#[]⟩] 9)).alloc (.cells #[.int .i64 0] 3)).alloc (.cells #[.string nmText] 9)).alloc (.cells #[.string ⟨#[32]⟩] 9)) (.int .i64 0) 3
  have hb : Below w.heap.size w ((((((w.alloc (.cells #[.int .i64 op] 3)).alloc (.cells #[.string ⟨#[]⟩] 9)).alloc (.cells #[.int .i64 0] 3)).alloc (.cells #[.string nmText] 9)).alloc (.cells #[.string ⟨#[32]⟩] 9)).alloc (.cells #[.int .i64 0] 3)) :=
    ((((((Below.refl _ w).alloc (Nat.le_refl _) _).alloc (by simp) _).alloc (by simp; omega) _).alloc (by simp; omega) _).alloc (by simp; omega) _).alloc (by simp; omega) _
  simp only [World.size_alloc] at u1 u2 u3 u4 u5
  have k0 := ((((u0.alloc (.cells #[.string ⟨#[]⟩] 9)).alloc (.cells #[.int .i64 0] 3)).alloc (.cells #[.string nmText] 9)).alloc (.cells #[.string ⟨#[32]⟩] 9)).alloc (.cells #[.int .i64 0] 3)
  have k1 := (((u1.alloc (.cells #[.int .i64 0] 3)).alloc (.cells #[.string nmText] 9)).alloc (.cells #[.string ⟨#[32]⟩] 9)).alloc (.cells #[.int .i64 0] 3)
  have k2 := ((u2.alloc (.cells #[.string nmText] 9)).alloc (.cells #[.string ⟨#[32]⟩] 9)).alloc (.cells #[.int .i64 0] 3)
  have k3 := (u3.alloc (.cells #[.string ⟨#[32]⟩] 9)).alloc (.cells #[.int .i64 0] 3)
  have k4 := u4.alloc (.cells #[.int .i64 0] 3)
  have hsz : ((((((w.alloc (.cells #[.int .i64 op] 3)).alloc (.cells #[.string ⟨#[]⟩] 9)).alloc (.cells #[.int .i64 0] 3)).alloc (.cells #[.string nmText] 9)).alloc (.cells #[.string ⟨#[32]⟩] 9)).alloc (.cells #[.int .i64 0] 3)).heap.size = w.heap.size + 6 := by simp
  refine range_law (m := w.heap.size + 6) (Bs := w.heap.size + 1 + 1 + 1) (Bp := w.heap.size + 1 + 1 + 1 + 1) (Bv := w.heap.size + 1 + 1 + 1 + 2) (by omega) hsz rfl (by omega) (by omega) (by omega) (by omega) (by omega) nm_parts nm_size k3.1 k3.2 k4.1 u5.1
    (NI w op) (NX w op)
    (fun pre W W' hl hi => ⟨hl.below hi.below (by omega) (by omega), hl.var hi.v0 (by omega) (by omega), hl.var hi.v1 (by omega) (by omega), hl.var hi.v2 (by omega) (by omega), hi.lt⟩)
    (fun pre W W' hl hi => ⟨hl.below hi.below (by omega) (by omega), hl.var hi.v1 (by omega) (by omega), hi.eq⟩)
    ⟨hb, k0, k1, k2, by simp; omega⟩
    (fun x => { tmps := #[.int .i64 op, .pointer (some ⟨w.heap.size, 0, none⟩), .pointer (some ⟨w.heap.size + 1, 0, none⟩), .pointer (some ⟨w.heap.size + 1 + 1, 0, none⟩), .string x, .int .i64 op, .bool true, .bool false,
      .func (.func 126) #[] #[.pointer (some ⟨w.heap.size + 1 + 1 + 1 + 1, 0, none⟩), .pointer (some ⟨w.heap.size + 1 + 1 + 1, 0, none⟩), .pointer (some ⟨w.heap.size + 1 + 1 + 1 + 2, 0, none⟩)], .string x, undef, undef, undef, undef, undef, undef], defers := [] }) ?assign ?body ?done ?stop
  case assign =>
    intro l x W K hK
    gi_wp2
    exact hK
  case body =>
    rintro l pre x W ⟨hB, v0, v1, v2, hlt⟩ _
    have c0 := v0.1; have c1 := v1.1; have f1 := v1.2; have c2 := v2.1; have f2 := v2.2
    gi_wp2
    · rename_i hx
      have v2' := v2.set (.int .i64 ((pre.length : Int) + 1))
      have v1' := v1.other (c := w.heap.size + 1 + 1) (by omega) (.int .i64 ((pre.length : Int) + 1))
      refine ⟨fun r hr => (setCell_block _ _ _ _ (by omega)).trans (setCell_block _ _ _ _ (by omega)), ?_, ?_, ?_⟩
      · exact (hB.setCell (p := ⟨w.heap.size + 1 + 1, 0, none⟩) (by simp; omega) _).setCell (p := ⟨w.heap.size + 1, 0, none⟩) (by simp) _
      · have := v1'.set (.string x)
        simpa using this
      · have := eq_of_beq hx
        simp only [List.length_append, List.length_cons, List.length_nil]
        omega
    · rename_i hx
      refine ⟨fun r hr => setCell_block _ _ _ _ (by omega), ?_, ?_, ?_, ?_, ?_⟩
      · exact hB.setCell (p := ⟨w.heap.size + 1 + 1, 0, none⟩) (by simp; omega) _
      · exact v0.other (by omega) _
      · exact v1.other (by omega) _
      · have := v2.set (.int .i64 ((pre.length : Int) + 1))
        simpa using this
      · have : (pre.length : Int) + 1 ≠ op := fun e => by simp [e] at hx
        simp only [List.length_append, List.length_cons, List.length_nil]
        omega
  case done =>
    rintro W ⟨_, _, _, _, hlt⟩ _
    rw [List.length_map, nms_len] at hlt
    omega
  case stop =>
    rintro pre W hpre ⟨hB, v1, he⟩ hK
    gi_wp2
    refine ⟨by simp, .inl ⟨_, _, rfl, run_takeDeferred hK, ?_⟩⟩
    have v1' : Var (W.putObj (w.heap.size + 6) (.deferred none)) (w.heap.size + 1) (.string (pre.getLast?.getD ⟨#[]⟩)) := v1.heap (World.putObj_heap_other (by omega))
    refine ⟨_, results_one (by rfl) (run_isAgg_plain Tryz.underlying9 rfl) (a := ⟨w.heap.size + 1, 0, none⟩) (by rfl) v1'.1, ?_, ?_⟩
    · have hlen : pre.length = op.toNat := by omega
      obtain ⟨t, ht⟩ := hpre
      have hl : pre.getLast? = (nms.map mkB)[op.toNat - 1]? := by
        rw [← ht, List.getElem?_append_left (by omega), List.getLast?_eq_getElem?, hlen]
      rw [hl, List.getElem?_map]
      have hlt : op.toNat - 1 < nms.length := by rw [nms_len]; omega
      rw [List.getElem?_eq_getElem hlt, List.getD_eq_getElem?_getD, List.getElem?_eq_getElem hlt]
      rfl
    · exact (Lo.putObj (m := w.heap.size + 6) (Bs := w.heap.size) W (.deferred none) (Nat.le_refl _)).below hB (by omega) (Nat.le_refl _)
end Go.Proofs.YtpaddkkfefgkfaaGreatDoor.nm
