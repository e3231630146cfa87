/- name.Name: the contract. -/
import Derived.Test.YtfggompceldfgaaGreatDoorZn
import Derived.Lib.IndexLaws
import Derived.Test.YtfggompceldfgaaGreatDoorLyg
namespace Go.Proofs.YtfggompceldfgaaGreatDoor.nm
open Go.RowKit Go.Shelf Go.Lib
attribute [local go_sem] Oper.semAt_some

set_option maxRecDepth 100000 in
set_option maxHeartbeats 1000000 in
theorem call101 (s t : ByteArray) (w : World) : Calls Tryz.prog 94 #[.string s, .string t, .int .i64 0] w fun e w' => e = .returned (.func (.func 136) #[] #[.pointer (some ⟨w.heap.size + 1, 0, none⟩), .pointer (some ⟨w.heap.size, 0, none⟩), .pointer (some ⟨w.heap.size + 2, 0, none⟩)]) ∧
    w' = ((w.alloc (.cells #[.string s] 9)).alloc (.cells #[.string t] 9)).alloc (.cells #[.int .i64 0] 3) := by
  go_enter Tryz.func94, Tryz.ntmps94
  go_wp2
  go_ret
  exact ⟨rfl, rfl⟩
set_option maxRecDepth 100000 in
set_option maxHeartbeats 1000000 in
theorem call69 (s t : ByteArray) (w : World) : Calls Tryz.prog 55 #[.string s, .string t] w fun e w' => e = .returned (.func (.func 136) #[] #[.pointer (some ⟨w.heap.size + 1, 0, none⟩), .pointer (some ⟨w.heap.size, 0, none⟩), .pointer (some ⟨w.heap.size + 2, 0, none⟩)]) ∧
    w' = ((w.alloc (.cells #[.string s] 9)).alloc (.cells #[.string t] 9)).alloc (.cells #[.int .i64 0] 3) := by
  go_enter Tryz.func55, Tryz.ntmps55
  go_wp2_with (go_at_call 94; refine (call101 _ _ _).mono ?_; rintro e w' ⟨rfl, rfl⟩)
  go_ret
  exact ⟨rfl, rfl⟩
theorem results_one {fn : Func} {p : Tmp} {ty : TypeId} (h : fn.results = #[.cell p ty]) {P : Program} {w : World} {tmps : Array Value} {a : Addr} {v : Value} (ha : ∀ w, (isAgg ty).run P w = .ok false w) (hp : tmps.getD p undef = .pointer (some a)) (hc : w.cell? a = some v) :
    (results fn tmps).run P w = .ok v w := by
  have hp' : tmps[p]?.getD undef = .pointer (some a) := by simpa using hp
  simp [results, h, go_sem, hp', hc, ha]
theorem results_two {fn : Func} {p q : Tmp} {ty tz : TypeId} (h : fn.results = #[.cell p ty, .cell q tz]) {P : Program} {w : World} {tmps : Array Value} {a b : Addr} {v u : Value} (ha : ∀ w, (isAgg ty).run P w = .ok false w) (hb : ∀ w, (isAgg tz).run P w = .ok false w)
    (hp : tmps.getD p undef = .pointer (some a)) (hq : tmps.getD q undef = .pointer (some b)) (hc : w.cell? a = some v) (hd : w.cell? b = some u) :
    (results fn tmps).run P w = .ok (.tuple #[v, u]) w := by
  have hp' : tmps[p]?.getD undef = .pointer (some a) := by simpa using hp
  have hq' : tmps[q]?.getD undef = .pointer (some b) := by simpa using hq
  simp [results, h, go_sem, hp', hc, ha, hb, hq', hd]

/-- A new variable. -/
def Var (W : World) (b : Nat) (v : Value) : Prop := W.cell? ⟨b, 0, none⟩ = some v ∧ W.frozen? ⟨b, 0, none⟩ = false
theorem Var.new (W : World) (v : Value) (t : TypeId) : Var (W.alloc (.cells #[v] t)) W.heap.size v := by
  have h := World.alloc_heap_new W (.cells #[v] t)
  constructor
  · unfold World.cell?; simp only [h]; rfl
  · unfold World.frozen?; simp only [h]; rfl
theorem Var.heap {W W' : World} {b : Nat} {v : Value} (h : Var W b v) (e : W'.heap[b]? = W.heap[b]?) : Var W' b v := ⟨(cell_heap e).trans h.1, (frozen_heap e).trans h.2⟩
theorem Var.lt {W : World} {b : Nat} {v : Value} (h : Var W b v) : b < W.heap.size := World.block_lt_of_cell? _ _ h.1
theorem Var.alloc {W : World} {b : Nat} {v : Value} (h : Var W b v) (o : Obj) : Var (W.alloc o) b v := h.heap (Below.heap_alloc _ _ _ h.lt)
theorem Var.set {W : World} {b : Nat} {v : Value} (h : Var W b v) (u : Value) : Var (W.setCell ⟨b, 0, none⟩ u) b u := ⟨World.cell?_setCell_same' _ _ _ (by rw [h.1]; rfl), by rw [World.frozen?_setCell]; exact h.2⟩
theorem Var.other {W : World} {b c : Nat} {v : Value} (h : Var W b v) (hne : b ≠ c) (u : Value) : Var (W.setCell ⟨c, 0, none⟩ u) b v := h.heap (setCell_block W c b u hne)
theorem Lo.var {m Bs b : Nat} {W W' : World} {v : Value} (h : Lo m Bs W W') (hv : Var W b v) (hb : b < m) (hn : b ≠ Bs) : Var W' b v := hv.heap (h.block b hb hn)
theorem Lo.below {m Bs B : Nat} {w W W' : World} (h : Lo m Bs W W') (hb : Below B w W) (hB : B ≤ m) (hs : B ≤ Bs) : Below B w W' :=
  ⟨h.os.trans hb.os, h.tape.trans hb.tape, h.output.trans hb.output, Nat.le_trans hb.size h.size, fun k hk => (h.block k (by omega) (by omega)).trans (hb.block k hk)⟩

/-- The parts of a text. -/
def splitS : List UInt8 → List (List UInt8)
  | [] => [[]]
  | c :: r => if c = 32 then [] :: splitS r else match splitS r with
    | p :: ps => (c :: p) :: ps
    | [] => [[c]]
theorem splitS_ne : ∀ l, splitS l ≠ []
  | [] => by simp [splitS]
  | c :: r => by
    rw [splitS]
    split
    · simp
    · split <;> simp
theorem splitS_idx : ∀ l : List UInt8, (Lib.indexByte l 32 = -1 ∧ splitS l = [l]) ∨ ∃ o : Nat, Lib.indexByte l 32 = o ∧ o < l.length ∧ splitS l = l.take o :: splitS (l.drop (o + 1))
  | [] => .inl ⟨rfl, rfl⟩
  | c :: r => by
    rw [Lib.indexByte, splitS]
    by_cases hc : c = 32
    · subst hc
      exact .inr ⟨0, by simp, by simp, by simp⟩
    · rw [if_neg (by simpa using hc), if_neg hc]
      rcases splitS_idx r with ⟨h1, h2⟩ | ⟨o, h1, h2, h3⟩
      · left
        rw [h1, h2]; exact ⟨rfl, rfl⟩
      · right
        refine ⟨o + 1, ?_, by simp; omega, ?_⟩
        · rw [h1, if_neg (by simp)]; rfl
        · rw [h3]; simp
abbrev mkB (l : List UInt8) : ByteArray := ⟨l.toArray⟩
theorem extract_mk (l : List UInt8) (a b : Nat) : (mkB l).extract a b = mkB ((l.take b).drop a) := by
  apply ByteArray.ext
  apply Array.ext'
  simp [List.drop_take]
theorem parts_mk : ∀ (n : Nat) (l : List UInt8), l.length < n → Parts (mkB l) ((splitS l).map mkB)
  | 0, l, h => absurd h (Nat.not_lt_zero _)
  | n + 1, l, h => by
    rcases splitS_idx l with ⟨h1, h2⟩ | ⟨o, h1, h2, h3⟩
    · rw [h2]; exact .last _ (by simpa using h1)
    · rw [h3, List.map_cons]
      have e1 : mkB (l.take o) = (mkB l).extract 0 o := by rw [extract_mk]; simp
      have e2 : mkB (l.drop (o + 1)) = (mkB l).extract (o + 1) (mkB l).size := by rw [extract_mk]; simp [ByteArray.size, List.take_of_length_le]
      rw [e1]
      refine .cut _ o _ (by simpa using h1) (by simpa [ByteArray.size] using h2) ?_
      rw [← e2]
      exact parts_mk n _ (by rw [List.length_drop]; omega)
noncomputable def splitA (acc : List (List UInt8)) (cur : List UInt8) : List UInt8 → List (List UInt8)
  | [] => (cur.reverse :: acc).reverse
  | c :: r => Ev.pick2 (Nat.beq c.toNat 32) (splitA (cur.reverse :: acc) [] r) (splitA acc (c :: cur) r)
theorem splitA_eq : ∀ (l : List UInt8) (acc : List (List UInt8)) (cur : List UInt8), splitA acc cur l = acc.reverse ++ (match splitS l with | p :: ps => (cur.reverse ++ p) :: ps | [] => [])
  | [], acc, cur => by simp [splitA, splitS]
  | c :: r, acc, cur => by
    rw [splitA, Ev.pick2_eq, splitS, splitA_eq r, splitA_eq r]
    have hne := splitS_ne r
    by_cases hc : c = 32
    · subst hc
      rw [if_pos (by decide), if_pos rfl]
      cases hr : splitS r with
      | nil => exact absurd hr hne
      | cons p ps => simp
    · rw [if_neg (by simp only [Nat.beq_eq]; intro h; exact hc (UInt8.toNat_inj.1 h)), if_neg hc]
      cases hr : splitS r with
      | nil => exact absurd hr hne
      | cons p ps => simp
theorem splitA_S (l : List UInt8) : splitA [] [] l = splitS l := by
  rw [splitA_eq]
  cases hr : splitS l with
  | nil => exact absurd hr (splitS_ne l)
  | cons p ps => simp

/-- The text that is handed over first, with another one. -/
def textOps : List Oper → Option ByteArray
  | [] => none
  | o :: l => match o.op with
    | .call c => match c.args.toList with
      | [.const (.string s), .const (.string _)] => some s
      | _ => textOps l
    | _ => textOps l
def orText : Option ByteArray → Option ByteArray → Option ByteArray
  | some s, _ => some s
  | none, r => r
noncomputable def textIn (c : Code) : Option ByteArray :=
  Code.rec (motive := fun _ => Option ByteArray) none (fun _ ops _ => textOps ops.toList) (fun _ _ x y => orText x y) (fun _ _ _ x y => orText x y) (fun _ _ b => b) (fun _ b => b)
    (fun _ _ _ _ x y => orText x y) (fun _ => none) (fun _ b => b) (fun _ => none) (fun _ => none) none (fun _ => none) c
/-- The text of all names. -/
noncomputable def nmText : ByteArray := match Tryz.f52.body with | some c => (textIn c).getD .empty | none => .empty
/-- All names. -/
noncomputable def nms : List (List UInt8) := splitA [] [] nmText.data.toList
theorem parts_self (s : ByteArray) : Parts s ((splitA [] [] s.data.toList).map mkB) := by
  have h := parts_mk (s.data.toList.length + 1) s.data.toList (Nat.lt_succ_self _)
  rw [splitA_S]
  have e : mkB s.data.toList = s := by obtain ⟨d⟩ := s; simp
  rw [e] at h
  exact h
theorem nm_parts : Parts nmText (nms.map mkB) := parts_self nmText
theorem nms_len : nms.length = 322 := by kernel_rfl
noncomputable def lenA (l : List UInt8) : Nat → Nat := List.rec (motive := fun _ => Nat → Nat) (fun n => n) (fun _ _ go n => go (Nat.add n 1)) l
theorem lenA_eq : ∀ (l : List UInt8) (n : Nat), lenA l n = n + l.length
  | [], n => rfl
  | c :: r, n => by
    show lenA r (n + 1) = _
    rw [lenA_eq r]; simp; omega
theorem nm_ble : Nat.ble (lenA nmText.data.toList 0) 1000000 = true := by kernel_rfl
theorem size_of (s : ByteArray) (h : Nat.ble (lenA s.data.toList 0) 1000000 = true) : s.size ≤ 1000000 := by
  have := Nat.le_of_ble_eq_true h
  rw [lenA_eq, Nat.zero_add] at this
  exact this
theorem nm_size : nmText.size ≤ 1000000 := size_of nmText nm_ble


theorem call69n (s : ByteArray) (hs : s = nmText) (w : World) : Calls Tryz.prog 55 #[.string s, .string ⟨#[32]⟩] w fun e w' => e = .returned (.func (.func 136) #[] #[.pointer (some ⟨w.heap.size + 1, 0, none⟩), .pointer (some ⟨w.heap.size, 0, none⟩), .pointer (some ⟨w.heap.size + 2, 0, none⟩)]) ∧
    w' = ((w.alloc (.cells #[.string nmText] 9)).alloc (.cells #[.string ⟨#[32]⟩] 9)).alloc (.cells #[.int .i64 0] 3) := by
  subst hs; exact call69 _ _ _
end Go.Proofs.YtfggompceldfgaaGreatDoor.nm
