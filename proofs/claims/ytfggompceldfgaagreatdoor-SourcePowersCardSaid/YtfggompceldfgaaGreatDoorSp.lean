/- source.lines: what it hands on. -/
import Derived.Test.YtfggompceldfgaaGreatDoorSn
import Derived.Test.YtfggompceldfgaaGreatDoorLyc
import Derived.Lib.IndexLaws
namespace Go.Proofs.YtfggompceldfgaaGreatDoor.sl
open Go.RowKit Go.Shelf Go.Lib
attribute [local go_sem] Oper.semAt_some

/-- The parts of a text. -/
def splitS : List UInt8 → List (List UInt8)
  | [] => [[]]
  | c :: r => if c = 10 then [] :: splitS r else match splitS r with
    | p :: ps => (c :: p) :: ps
    | [] => [[c]]
theorem splitS_ne : ∀ l, splitS l ≠ []
  | [] => by simp [splitS]
  | c :: r => by
    rw [splitS]
    split
    · simp
    · split <;> simp
theorem splitS_idx : ∀ l : List UInt8, (Lib.indexByte l 10 = -1 ∧ splitS l = [l]) ∨ ∃ o : Nat, Lib.indexByte l 10 = o ∧ o < l.length ∧ splitS l = l.take o :: splitS (l.drop (o + 1))
  | [] => .inl ⟨rfl, rfl⟩
  | c :: r => by
    rw [Lib.indexByte, splitS]
    by_cases hc : c = 10
    · subst hc
      exact .inr ⟨0, by simp, by simp, by simp⟩
    · rw [if_neg (by simpa using hc), if_neg hc]
      rcases splitS_idx r with ⟨h1, h2⟩ | ⟨o, h1, h2, h3⟩
      · left
        rw [h1, h2]; exact ⟨rfl, rfl⟩
      · right
        refine ⟨o + 1, ?_, by simp; omega, ?_⟩
        · rw [h1, if_neg (by simp)]; rfl
        · rw [h3]; simp
abbrev mkB (l : List UInt8) : ByteArray := ⟨l.toArray⟩
theorem extract_mk (l : List UInt8) (a b : Nat) : (mkB l).extract a b = mkB ((l.take b).drop a) := by
  apply ByteArray.ext
  apply Array.ext'
  simp [List.drop_take]
theorem parts_mk : ∀ (n : Nat) (l : List UInt8), l.length < n → Parts (mkB l) ((splitS l).map mkB)
  | 0, l, h => absurd h (Nat.not_lt_zero _)
  | n + 1, l, h => by
    rcases splitS_idx l with ⟨h1, h2⟩ | ⟨o, h1, h2, h3⟩
    · rw [h2]; exact .last _ (by simpa using h1)
    · rw [h3, List.map_cons]
      have e1 : mkB (l.take o) = (mkB l).extract 0 o := by rw [extract_mk]; simp
      have e2 : mkB (l.drop (o + 1)) = (mkB l).extract (o + 1) (mkB l).size := by rw [extract_mk]; simp [ByteArray.size, List.take_of_length_le]
      rw [e1]
      refine .cut _ o _ (by simpa using h1) (by simpa [ByteArray.size] using h2) ?_
      rw [← e2]
      exact parts_mk n _ (by rw [List.length_drop]; omega)
noncomputable def splitA (acc : List (List UInt8)) (cur : List UInt8) : List UInt8 → List (List UInt8)
  | [] => (cur.reverse :: acc).reverse
  | c :: r => Ev.pick2 (Nat.beq c.toNat 10) (splitA (cur.reverse :: acc) [] r) (splitA acc (c :: cur) r)
theorem splitA_eq : ∀ (l : List UInt8) (acc : List (List UInt8)) (cur : List UInt8), splitA acc cur l = acc.reverse ++ (match splitS l with | p :: ps => (cur.reverse ++ p) :: ps | [] => [])
  | [], acc, cur => by simp [splitA, splitS]
  | c :: r, acc, cur => by
    rw [splitA, Ev.pick2_eq, splitS, splitA_eq r, splitA_eq r]
    have hne := splitS_ne r
    by_cases hc : c = 10
    · subst hc
      rw [if_pos (by decide), if_pos rfl]
      cases hr : splitS r with
      | nil => exact absurd hr hne
      | cons p ps => simp
    · rw [if_neg (by simp only [Nat.beq_eq]; intro h; exact hc (UInt8.toNat_inj.1 h)), if_neg hc]
      cases hr : splitS r with
      | nil => exact absurd hr hne
      | cons p ps => simp
theorem splitA_S (l : List UInt8) : splitA [] [] l = splitS l := by
  rw [splitA_eq]
  cases hr : splitS l with
  | nil => exact absurd hr (splitS_ne l)
  | cons p ps => simp

theorem parts_self (s : ByteArray) : Parts s ((splitA [] [] s.data.toList).map mkB) := by
  have h := parts_mk (s.data.toList.length + 1) s.data.toList (Nat.lt_succ_self _)
  rw [splitA_S]
  have e : mkB s.data.toList = s := by obtain ⟨d⟩ := s; simp
  rw [e] at h
  exact h

set_option maxRecDepth 100000 in
set_option maxHeartbeats 1000000 in
theorem call101 (s t : ByteArray) (w : World) : Calls Tryz.prog 94 #[.string s, .string t, .int .i64 0] w fun e w' => e = .returned (.func (.func 136) #[] #[.pointer (some ⟨w.heap.size + 1, 0, none⟩), .pointer (some ⟨w.heap.size, 0, none⟩), .pointer (some ⟨w.heap.size + 2, 0, none⟩)]) ∧
    w' = ((w.alloc (.cells #[.string s] 9)).alloc (.cells #[.string t] 9)).alloc (.cells #[.int .i64 0] 3) := by
  go_enter Tryz.func94, Tryz.ntmps94
  go_wp2
  go_ret
  exact ⟨rfl, rfl⟩
set_option maxRecDepth 100000 in
set_option maxHeartbeats 1000000 in
theorem call69 (s t : ByteArray) (w : World) : Calls Tryz.prog 55 #[.string s, .string t] w fun e w' => e = .returned (.func (.func 136) #[] #[.pointer (some ⟨w.heap.size + 1, 0, none⟩), .pointer (some ⟨w.heap.size, 0, none⟩), .pointer (some ⟨w.heap.size + 2, 0, none⟩)]) ∧
    w' = ((w.alloc (.cells #[.string s] 9)).alloc (.cells #[.string t] 9)).alloc (.cells #[.int .i64 0] 3) := by
  go_enter Tryz.func55, Tryz.ntmps55
  go_wp2_with (go_at_call 94; refine (call101 _ _ _).mono ?_; rintro e w' ⟨rfl, rfl⟩)
  go_ret
  exact ⟨rfl, rfl⟩

/-! ### A region of five operations, in three orders -/
theorem go_step (md : Region.Mode) (ops : Array Oper) (fuel t : Nat) (listed : Array Bool) (acc : List Nat) : Region.linearise.go md ops (fuel + 1) t listed acc =
    match (Region.ready md ops listed)[t % (Region.ready md ops listed).length]? with
    | some i => Region.linearise.go md ops fuel (t / (Region.ready md ops listed).length) (listed.setIfInBounds i true) (i :: acc)
    | none => acc.reverse := rfl

theorem orders {ops : Array Oper} (hsz : ops.size = 5) (r0 : Region.ready .any ops #[false, false, false, false, false] = [0, 1]) (r1 : Region.ready .any ops #[true, false, false, false, false] = [1])
    (r2 : Region.ready .any ops #[false, true, false, false, false] = [0, 2]) (r3 : Region.ready .any ops #[true, true, false, false, false] = [2]) (r4 : Region.ready .any ops #[false, true, true, false, false] = [0])
    (r5 : Region.ready .any ops #[true, true, true, false, false] = [3]) (r6 : Region.ready .any ops #[true, true, true, true, false] = [4]) (t : Nat) :
    Region.linearise .any ops t = [0, 1, 2, 3, 4] ∨ Region.linearise .any ops t = [1, 0, 2, 3, 4] ∨ Region.linearise .any ops t = [1, 2, 0, 3, 4] := by
  have e : Region.linearise .any ops t = Region.linearise.go .any ops 5 t #[false, false, false, false, false] [] := by
    unfold Region.linearise; rw [hsz]; rfl
  have two : ∀ t : Nat, t % 2 = 0 ∨ t % 2 = 1 := fun t => by omega
  rw [e, go_step, r0]
  rcases two t with h | h
  · left
    simp only [List.length_cons, List.length_nil, Nat.zero_add, Nat.reduceAdd, h]
    show Region.linearise.go .any ops 4 (t / 2) #[true, false, false, false, false] [0] = _
    rw [go_step, r1]
    simp only [List.length_cons, List.length_nil, Nat.zero_add, Nat.mod_one]
    show Region.linearise.go .any ops 3 (t / 2 / 1) #[true, true, false, false, false] [1, 0] = _
    rw [go_step, r3]
    simp only [List.length_cons, List.length_nil, Nat.zero_add, Nat.mod_one]
    show Region.linearise.go .any ops 2 (t / 2 / 1 / 1) #[true, true, true, false, false] [2, 1, 0] = _
    rw [go_step, r5]
    simp only [List.length_cons, List.length_nil, Nat.zero_add, Nat.mod_one]
    show Region.linearise.go .any ops 1 (t / 2 / 1 / 1 / 1) #[true, true, true, true, false] [3, 2, 1, 0] = _
    rw [go_step, r6]
    simp only [List.length_cons, List.length_nil, Nat.zero_add, Nat.mod_one]
    rfl
  · right
    simp only [List.length_cons, List.length_nil, Nat.zero_add, Nat.reduceAdd, h]
    show (Region.linearise.go .any ops 4 (t / 2) #[false, true, false, false, false] [1] = _ ∨ Region.linearise.go .any ops 4 (t / 2) #[false, true, false, false, false] [1] = _)
    rw [go_step, r2]
    rcases two (t / 2) with h2 | h2
    · left
      simp only [List.length_cons, List.length_nil, Nat.zero_add, Nat.reduceAdd, h2]
      show Region.linearise.go .any ops 3 (t / 2 / 2) #[true, true, false, false, false] [0, 1] = _
      rw [go_step, r3]
      simp only [List.length_cons, List.length_nil, Nat.zero_add, Nat.mod_one]
      show Region.linearise.go .any ops 2 (t / 2 / 2 / 1) #[true, true, true, false, false] [2, 0, 1] = _
      rw [go_step, r5]
      simp only [List.length_cons, List.length_nil, Nat.zero_add, Nat.mod_one]
      show Region.linearise.go .any ops 1 (t / 2 / 2 / 1 / 1) #[true, true, true, true, false] [3, 2, 0, 1] = _
      rw [go_step, r6]
      simp only [List.length_cons, List.length_nil, Nat.zero_add, Nat.mod_one]
      rfl
    · right
      simp only [List.length_cons, List.length_nil, Nat.zero_add, Nat.reduceAdd, h2]
      show Region.linearise.go .any ops 3 (t / 2 / 2) #[false, true, true, false, false] [2, 1] = _
      rw [go_step, r4]
      simp only [List.length_cons, List.length_nil, Nat.zero_add, Nat.mod_one]
      show Region.linearise.go .any ops 2 (t / 2 / 2 / 1) #[true, true, true, false, false] [0, 2, 1] = _
      rw [go_step, r5]
      simp only [List.length_cons, List.length_nil, Nat.zero_add, Nat.mod_one]
      show Region.linearise.go .any ops 1 (t / 2 / 2 / 1 / 1) #[true, true, true, true, false] [3, 0, 2, 1] = _
      rw [go_step, r6]
      simp only [List.length_cons, List.length_nil, Nat.zero_add, Nat.mod_one]
      rfl

theorem region5 {F : Fence} {n : Nat} {P : Program} {id : Nat} {o0 o1 o2 o3 o4 : Oper} {Q : Exit → Act → World → Prop} {a : Act} {w : World} (hm : P.follows .mixedOrders = true)
    (hord : ∀ t, Region.linearise .any [o0, o1, o2, o3, o4].toArray t = [0, 1, 2, 3, 4] ∨ Region.linearise .any [o0, o1, o2, o3, o4].toArray t = [1, 0, 2, 3, 4] ∨ Region.linearise .any [o0, o1, o2, o3, o4].toArray t = [1, 2, 0, 3, 4])
    (h1 : wpListIn F n P [o0, o1, o2, o3, o4].toArray Q [o0, o1, o2, o3, o4] a { w with drawn := w.drawn + 1 }) (h2 : wpListIn F n P [o0, o1, o2, o3, o4].toArray Q [o1, o0, o2, o3, o4] a { w with drawn := w.drawn + 1 })
    (h3 : wpListIn F n P [o0, o1, o2, o3, o4].toArray Q [o1, o2, o0, o3, o4] a { w with drawn := w.drawn + 1 }) : (Code.region id [o0, o1, o2, o3, o4].toArray true).wpIn F n P Q a w := by
  refine wpIn_region_draw fun t => ?_
  simp only [Region.schedule, hm, Bool.true_or, if_true]
  rcases hord t with e | e | e <;> rw [e]
  · exact h1
  · exact h2
  · exact h3
end Go.Proofs.YtfggompceldfgaaGreatDoor.sl
