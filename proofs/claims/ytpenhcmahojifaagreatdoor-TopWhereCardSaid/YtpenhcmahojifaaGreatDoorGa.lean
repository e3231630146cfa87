/- The table's forms, told by numbers: rows of cells from short texts. -/
import Derived.Test.YtpenhcmahojifaaGreatDoorChecked
import Derived.Test.YtpenhcmahojifaaGreatDoorLye
import Derived.Tactics
import Derived.Tactics2
set_option linter.unusedVariables false
set_option linter.unusedSimpArgs false
set_option linter.unusedSectionVars false
namespace Go.Ev.Tw
open Go.Proofs
noncomputable section
abbrev int64 (n : Nat) : Value := .int .i64 (.ofNat n)
/-- Small numbers, 7 bits each, one more than they are. -/
def digs (x : Nat) : List Value := Nat.rec (motive := fun _ => Nat → List Value) (fun _ => []) (fun _ go x => pick2 (Nat.beq x 0) [] (int64 (Nat.sub (Nat.land x 127) 1) :: go (Nat.shiftRight x 7))) 12 x
/-- A row of numbers. -/
def iR (x : Nat) : Blk := ⟨digs x, 3, true, true⟩
/-- A list that a form holds: none is 4095. -/
def subL (i n : Nat) : Value := pick2 (Nat.beq i 4095) (.slice none 0 0) (.slice (some ⟨i, 0, none⟩) n n)
/-- A number from -1 on, one more than it is. -/
def lowI (n : Nat) : Value := pick2 (Nat.beq n 0) (.int .i64 (.negSucc 0)) (int64 (Nat.sub n 1))
def bitsN (x at' mask : Nat) : Nat := Nat.land (Nat.shiftRight x at') mask
/-- A form's cells, ahead of others. -/
def formV (x : Nat) (t : List Value) : List Value :=
  int64 (bitsN x 0 1023) :: subL (bitsN x 10 4095) (bitsN x 34 7) :: subL (bitsN x 22 4095) (bitsN x 34 7) :: int64 (bitsN x 37 7) :: int64 (bitsN x 40 7) :: int64 (bitsN x 43 255) ::
    lowI (bitsN x 51 15) :: lowI (bitsN x 55 3) :: .bool (Nat.beq (bitsN x 57 1) 1) :: int64 (bitsN x 58 1) :: t
def formsV (n x : Nat) : List Value := Nat.rec (motive := fun _ => Nat → List Value) (fun _ => []) (fun _ go x => formV (Nat.land x 1152921504606846975) (go (Nat.shiftRight x 60))) n x
/-- A row of forms. -/
def fR (n x : Nat) (fx : Bool) : Blk := ⟨formsV n x, 57, true, fx⟩
/-- A row of lists: number, length, room. -/
def listsV (n x : Nat) : List Value := Nat.rec (motive := fun _ => Nat → List Value) (fun _ => []) (fun _ go x => .slice (some ⟨bitsN x 0 4095, 0, none⟩) (bitsN x 12 4095) (bitsN x 24 4095) :: go (Nat.shiftRight x 36)) n x
def sR (t n x : Nat) (fx : Bool) : Blk := ⟨listsV n x, t, true, fx⟩
def sl (i n c : Nat) : Value := .slice (some ⟨i, 0, none⟩) n c
theorem no_own [TokE] : noOwn Tryz.prog := noOwn_of (by kernel_rfl)
theorem mixed [TokE] : Tryz.prog.follows .mixedOrders = true := by kernel_rfl
def noD : FuncId → Bool := fun _ => false
theorem noD_ok [TokE] : ∀ f, noD f = true → Harm Tryz.prog f := fun _ h => by cases h
abbrev noM : Memo := fun _ _ _ => none
end
end Go.Ev.Tw
namespace Go.Ev.Tw
open Go.Proofs
noncomputable section
def rAscii (t : TypeId) : Blk := ⟨[.int .u8 0, .int .u8 0, .int .u8 0, .int .u8 0, .int .u8 0, .int .u8 0, .int .u8 0, .int .u8 0, .int .u8 0, .int .u8 1, .int .u8 1, .int .u8 1, .int .u8 1, .int .u8 1, .int .u8 0, .int .u8 0, .int .u8 0, .int .u8 0, .int .u8 0, .int .u8 0, .int .u8 0, .int .u8 0, .int .u8 0, .int .u8 0, .int .u8 0, .int .u8 0, .int .u8 0, .int .u8 0, .int .u8 0, .int .u8 0, .int .u8 0, .int .u8 0, .int .u8 1, .int .u8 0, .int .u8 0, .int .u8 0, .int .u8 0, .int .u8 0, .int .u8 0, .int .u8 0, .int .u8 0, .int .u8 0, .int .u8 0, .int .u8 0, .int .u8 0, .int .u8 0, .int .u8 0, .int .u8 0, .int .u8 0, .int .u8 0, .int .u8 0, .int .u8 0, .int .u8 0, .int .u8 0, .int .u8 0, .int .u8 0, .int .u8 0, .int .u8 0, .int .u8 0, .int .u8 0, .int .u8 0, .int .u8 0, .int .u8 0, .int .u8 0, .int .u8 0, .int .u8 0, .int .u8 0, .int .u8 0, .int .u8 0, .int .u8 0, .int .u8 0, .int .u8 0, .int .u8 0, .int .u8 0, .int .u8 0, .int .u8 0, .int .u8 0, .int .u8 0, .int .u8 0, .int .u8 0, .int .u8 0, .int .u8 0, .int .u8 0, .int .u8 0, .int .u8 0, .int .u8 0, .int .u8 0, .int .u8 0, .int .u8 0, .int .u8 0, .int .u8 0, .int .u8 0, .int .u8 0, .int .u8 0, .int .u8 0, .int .u8 0, .int .u8 0, .int .u8 0, .int .u8 0, .int .u8 0, .int .u8 0, .int .u8 0, .int .u8 0, .int .u8 0, .int .u8 0, .int .u8 0, .int .u8 0, .int .u8 0, .int .u8 0, .int .u8 0, .int .u8 0, .int .u8 0, .int .u8 0, .int .u8 0, .int .u8 0, .int .u8 0, .int .u8 0, .int .u8 0, .int .u8 0, .int .u8 0, .int .u8 0, .int .u8 0, .int .u8 0, .int .u8 0, .int .u8 0, .int .u8 0, .int .u8 0, .int .u8 0, .int .u8 0, .int .u8 0, .int .u8 0, .int .u8 0, .int .u8 0, .int .u8 0, .int .u8 0, .int .u8 0, .int .u8 0, .int .u8 0, .int .u8 0, .int .u8 0, .int .u8 0, .int .u8 0, .int .u8 0, .int .u8 0, .int .u8 0, .int .u8 0, .int .u8 0, .int .u8 0, .int .u8 0, .int .u8 0, .int .u8 0, .int .u8 0, .int .u8 0, .int .u8 0, .int .u8 0, .int .u8 0, .int .u8 0, .int .u8 0, .int .u8 0, .int .u8 0, .int .u8 0, .int .u8 0, .int .u8 0, .int .u8 0, .int .u8 0, .int .u8 0, .int .u8 0, .int .u8 0, .int .u8 0, .int .u8 0, .int .u8 0, .int .u8 0, .int .u8 0, .int .u8 0, .int .u8 0, .int .u8 0, .int .u8 0, .int .u8 0, .int .u8 0, .int .u8 0, .int .u8 0, .int .u8 0, .int .u8 0, .int .u8 0, .int .u8 0, .int .u8 0, .int .u8 0, .int .u8 0, .int .u8 0, .int .u8 0, .int .u8 0, .int .u8 0, .int .u8 0, .int .u8 0, .int .u8 0, .int .u8 0, .int .u8 0, .int .u8 0, .int .u8 0, .int .u8 0, .int .u8 0, .int .u8 0, .int .u8 0, .int .u8 0, .int .u8 0, .int .u8 0, .int .u8 0, .int .u8 0, .int .u8 0, .int .u8 0, .int .u8 0, .int .u8 0, .int .u8 0, .int .u8 0, .int .u8 0, .int .u8 0, .int .u8 0, .int .u8 0, .int .u8 0, .int .u8 0, .int .u8 0, .int .u8 0, .int .u8 0, .int .u8 0, .int .u8 0, .int .u8 0, .int .u8 0, .int .u8 0, .int .u8 0, .int .u8 0, .int .u8 0, .int .u8 0, .int .u8 0, .int .u8 0, .int .u8 0, .int .u8 0, .int .u8 0, .int .u8 0, .int .u8 0, .int .u8 0, .int .u8 0, .int .u8 0, .int .u8 0, .int .u8 0, .int .u8 0, .int .u8 0, .int .u8 0, .int .u8 0, .int .u8 0, .int .u8 0, .int .u8 0, .int .u8 0, .int .u8 0, .int .u8 0, .int .u8 0, .int .u8 0], t, true, true⟩
def rSigns (t : TypeId) : Blk := ⟨[.string ⟨#[36, 36]⟩, .string ⟨#[60, 60]⟩, .string ⟨#[62, 62]⟩, .string ⟨#[43]⟩, .string ⟨#[45]⟩, .string ⟨#[42]⟩, .string ⟨#[47]⟩, .string ⟨#[37]⟩, .string ⟨#[38]⟩, .string ⟨#[124]⟩, .string ⟨#[94]⟩, .string ⟨#[126]⟩, .string ⟨#[40]⟩, .string ⟨#[41]⟩, .string ⟨#[91]⟩, .string ⟨#[93]⟩, .string ⟨#[44]⟩, .string ⟨#[58]⟩, .string ⟨#[36]⟩], t, true, true⟩
def rPow (t : TypeId) : Blk := ⟨[.int .u64 1, .int .u64 10, .int .u64 100, .int .u64 1000, .int .u64 10000, .int .u64 100000, .int .u64 1000000, .int .u64 10000000, .int .u64 100000000, .int .u64 1000000000, .int .u64 10000000000, .int .u64 100000000000, .int .u64 1000000000000, .int .u64 10000000000000, .int .u64 100000000000000, .int .u64 1000000000000000, .int .u64 10000000000000000, .int .u64 100000000000000000, .int .u64 1000000000000000000, .int .u64 10000000000000000000], t, true, true⟩
def rB32 (t : TypeId) : Blk := ⟨[.int .u8 0, .int .u8 1, .int .u8 28, .int .u8 2, .int .u8 29, .int .u8 14, .int .u8 24, .int .u8 3, .int .u8 30, .int .u8 22, .int .u8 20, .int .u8 15, .int .u8 25, .int .u8 17, .int .u8 4, .int .u8 8, .int .u8 31, .int .u8 27, .int .u8 13, .int .u8 23, .int .u8 21, .int .u8 19, .int .u8 16, .int .u8 7, .int .u8 26, .int .u8 12, .int .u8 18, .int .u8 6, .int .u8 11, .int .u8 5, .int .u8 10, .int .u8 9], t, true, true⟩
def rB64 (t : TypeId) : Blk := ⟨[.int .u8 0, .int .u8 1, .int .u8 56, .int .u8 2, .int .u8 57, .int .u8 49, .int .u8 28, .int .u8 3, .int .u8 61, .int .u8 58, .int .u8 42, .int .u8 50, .int .u8 38, .int .u8 29, .int .u8 17, .int .u8 4, .int .u8 62, .int .u8 47, .int .u8 59, .int .u8 36, .int .u8 45, .int .u8 43, .int .u8 51, .int .u8 22, .int .u8 53, .int .u8 39, .int .u8 33, .int .u8 30, .int .u8 24, .int .u8 18, .int .u8 12, .int .u8 5, .int .u8 63, .int .u8 55, .int .u8 48, .int .u8 27, .int .u8 60, .int .u8 41, .int .u8 37, .int .u8 16, .int .u8 46, .int .u8 35, .int .u8 44, .int .u8 21, .int .u8 52, .int .u8 32, .int .u8 23, .int .u8 11, .int .u8 54, .int .u8 26, .int .u8 40, .int .u8 15, .int .u8 34, .int .u8 20, .int .u8 31, .int .u8 10, .int .u8 25, .int .u8 14, .int .u8 19, .int .u8 9, .int .u8 13, .int .u8 8, .int .u8 7, .int .u8 6], t, true, true⟩
def dead : Blk := ⟨[], 0, false, false⟩
/-- The given variables, whatever their types' numbers. -/
def GRq (q : Nat → TypeId) : List Blk := [rAscii (q 0), rSigns (q 1), dead, dead, dead, dead, dead, dead, dead, rPow (q 9), rB32 (q 10), rB64 (q 11), dead]
def HGq (q : Nat → TypeId) : Mem := (Mem.ofRows Mem.empty (GRq q)).getD Mem.empty
theorem HGq_ok [TokE] (q : Nat → TypeId) : Mem.ofRows Mem.empty (GRq q) = some (HGq q) := by
  obtain ⟨H, h⟩ := ofRows_total (GRq q) Mem.empty
  unfold HGq
  rw [h]; rfl
theorem GRq_free [TokE] (q : Nat → TypeId) : ∀ b ∈ GRq q, addrFreeL b.cells = true ∧ isMapB b = false := by
  have h : (List.rec (motive := fun _ => Bool) true (fun b _ ih => pick2 (addrFreeL b.cells) (pick2 (isMapB b) false ih) false) (GRq q)) = true := by kernel_rfl
  revert h
  generalize GRq q = l
  intro h
  induction l with
  | nil => intro b hb; cases hb
  | cons c l ih =>
    obtain ⟨h1, h2⟩ := p2 h
    intro b hb
    rcases List.mem_cons.1 hb with rfl | hb
    · refine ⟨h1, ?_⟩
      cases hm : isMapB b with
      | false => rfl
      | true => rw [hm] at h2; cases h2
    · refine ih ?_ b hb
      cases hm : isMapB c with
      | false => rw [hm] at h2; exact h2
      | true => rw [hm] at h2; cases h2
end
end Go.Ev.Tw
namespace Go.Ev.Tw
open Go.Proofs
noncomputable section
set_option maxRecDepth 1000000
def tabNum : List (List Value × Value) := [([.string ⟨#[48]⟩, .int .i64 10], .int .i64 0), ([.string ⟨#[49]⟩, .int .i64 10], .int .i64 1), ([.string ⟨#[50]⟩, .int .i64 10], .int .i64 2), ([.string ⟨#[51]⟩, .int .i64 10], .int .i64 3), ([.string ⟨#[52]⟩, .int .i64 10], .int .i64 4), ([.string ⟨#[53]⟩, .int .i64 10], .int .i64 5), ([.string ⟨#[54]⟩, .int .i64 10], .int .i64 6), ([.string ⟨#[55]⟩, .int .i64 10], .int .i64 7), ([.string ⟨#[56]⟩, .int .i64 10], .int .i64 8), ([.string ⟨#[57]⟩, .int .i64 10], .int .i64 9), ([.string ⟨#[49, 48]⟩, .int .i64 10], .int .i64 10), ([.string ⟨#[49, 49]⟩, .int .i64 10], .int .i64 11), ([.string ⟨#[49, 50]⟩, .int .i64 10], .int .i64 12), ([.string ⟨#[49, 51]⟩, .int .i64 10], .int .i64 13), ([.string ⟨#[49, 52]⟩, .int .i64 10], .int .i64 14), ([.string ⟨#[49, 53]⟩, .int .i64 10], .int .i64 15), ([.string ⟨#[49, 54]⟩, .int .i64 10], .int .i64 16), ([.string ⟨#[49, 55]⟩, .int .i64 10], .int .i64 17), ([.string ⟨#[49, 56]⟩, .int .i64 10], .int .i64 18), ([.string ⟨#[49, 57]⟩, .int .i64 10], .int .i64 19), ([.string ⟨#[66, 56]⟩, .int .i64 16], .int .i64 184), ([.string ⟨#[66, 67]⟩, .int .i64 16], .int .i64 188), ([.string ⟨#[66, 68]⟩, .int .i64 16], .int .i64 189), ([.string ⟨#[70, 48]⟩, .int .i64 16], .int .i64 240), ([.string ⟨#[70, 49]⟩, .int .i64 16], .int .i64 241), ([.string ⟨#[70, 50]⟩, .int .i64 16], .int .i64 242), ([.string ⟨#[70, 51]⟩, .int .i64 16], .int .i64 243), ([.string ⟨#[70, 53]⟩, .int .i64 16], .int .i64 245), ([.string ⟨#[70, 54]⟩, .int .i64 16], .int .i64 246), ([.string ⟨#[70, 55]⟩, .int .i64 16], .int .i64 247)]
def mNum : Memo := tabM 321 tabNum
theorem mNum_ok [TokE] (GR : List Blk) : MemoOk Tryz.prog GR mNum := tab_memo (rounds := 5000) (k := 40) (m := noM) (d := noD) (base := 65536) no_own mixed noKnown_ok.any (noMemo_ok _ _) noD_ok (by rfl) (fun h => by cases h) tabNum (by kernel_rfl)
end
end Go.Ev.Tw
namespace Go.Ev.Tw
open Go.Proofs Go.RowKit
noncomputable section
set_option maxRecDepth 1000000
variable [TokE]
/-- Where a byte stands first. -/
def idxU (c : Nat) (l : List UInt8) : Nat → Option Nat := List.rec (motive := fun _ => Nat → Option Nat) (fun _ => none) (fun b _ go i => pick2 (Nat.beq b.toNat c) (some i) (go (Nat.succ i))) l
theorem x458 (s : ByteArray) (c : UInt8) (w : World) : (callFunc 458 #[.string s, .int .u8 c.toNat]).run Tryz.prog w = .ok (.value (match (List.range s.size).find? fun i => s[i]! == c with | some i => goInt i | none => goInt (-1))) w := by
  have hfn : Tryz.prog.funcs[458]? = some Tryz.f458 := by kernel_rfl
  have hb : Tryz.f458.body = none := by rfl
  have e1 : Extern.findNext Tryz.f458 = none := by kernel_rfl
  have e2 : Extern.find Tryz.f458 = some Extern.BytealgIndexByte.indexByte := by kernel_rfl
  have hn : ¬ (Tryz.f458.name = "runtime.NumGoroutine") := by decide
  have e3 : (Extern.BytealgIndexByte.indexByte #[.string s, .int .u8 c.toNat]).run Tryz.prog w = .ok (match (List.range s.size).find? fun i => s[i]! == c with | some i => goInt i | none => goInt (-1)) w := by
    have e0 : Extern.BytealgIndexByte.indexByte #[.string s, .int .u8 c.toNat] = (Extern.Bytes.bytesOf (.string s) >>= fun b => Extern.Bytes.asByte (.int .u8 c.toNat) >>= fun c => match (List.range b.size).find? fun i => b[i]! == c with | some i => pure (goInt i) | none => pure (goInt (-1))) := rfl
    rw [e0]
    have e4 : Extern.Bytes.asByte (.int .u8 c.toNat) = pure c := by simp [Extern.Bytes.asByte]
    have e5 : Extern.Bytes.bytesOf (.string s) = pure s := rfl
    rw [e4, e5]
    cases h : (List.range s.size).find? fun i => s[i]! == c <;> simp [h]
  simp only [callFunc]
  simp [hfn, hn, hb, e1, e2, e3]
theorem k431 (s : ByteArray) (c : UInt8) (w : World) : Calls Tryz.prog 431 #[.string s, .int .u8 c.toNat] w fun e w' => e = .returned (match (List.range s.size).find? fun i => s[i]! == c with | some i => goInt i | none => goInt (-1)) ∧ w' = w := by
  have hx := fun w => x458 s c w
  revert hx
  generalize (match (List.range s.size).find? fun i => s[i]! == c with | some i => goInt i | none => goInt (-1) : Value) = r
  intro hx
  go_enter Tryz.func431, Tryz.ntmps431
  go_wp2
  simp [bodyPost, results, Tryz.results431]
theorem idxU_eq (c : UInt8) : ∀ (l : List UInt8) (i : Nat), idxU c.toNat l i = (l.findIdx? (· == c)).map (· + i)
  | [], i => rfl
  | b :: l, i => by
    have h : idxU c.toNat (b :: l) i = pick2 (Nat.beq b.toNat c.toNat) (some i) (idxU c.toNat l (Nat.succ i)) := rfl
    rw [h, pick2_eq, List.findIdx?_cons, idxU_eq c l]
    by_cases hb : b = c
    · subst hb
      simp
    · have h1 : ¬ Nat.beq b.toNat c.toNat = true := fun h => hb (UInt8.toNat_inj.1 (Nat.eq_of_beq_eq_true h))
      rw [if_neg h1]
      simp only [beq_iff_eq, hb, if_false]
      cases l.findIdx? (· == c) with
      | none => rfl
      | some j => simp; omega
theorem find_eq (s : ByteArray) (c : UInt8) : ((List.range s.size).find? fun i => s[i]! == c) = idxU c.toNat s.data.toList 0 := by
  rw [idxU_eq]
  have e : (s.data.toList.findIdx? (· == c)).map (· + 0) = s.data.toList.findIdx? (· == c) := by simp
  rw [e]
  have hl : s.data.toList.length = s.size := by simp
  have hget : ∀ i (h : i < s.data.toList.length), s[i]! = s.data.toList[i] := fun i h => by
    have h' : i < s.size := by rw [← hl]; exact h
    rw [getElem!_pos s i h', Array.getElem_toList]
    rfl
  cases h : s.data.toList.findIdx? (· == c) with
  | none =>
    rw [List.findIdx?_eq_none_iff] at h
    rw [List.find?_eq_none]
    intro i hi
    have hi' : i < s.data.toList.length := by rw [hl]; exact List.mem_range.1 hi
    rw [hget i hi', h _ (List.getElem_mem hi')]
    simp
  | some j =>
    rw [List.findIdx?_eq_some_iff_getElem] at h
    obtain ⟨hj, h1, h2⟩ := h
    rw [List.find?_range_eq_some]
    refine ⟨by rw [hget j hj]; exact h1, by rw [List.mem_range, ← hl]; exact hj, fun k hk => ?_⟩
    have := h2 k hk
    rw [hget k (by omega)]
    simpa using this
/-- The search for a byte, by a short road. -/
def kIdx : Known := fun f args => match args with
  | [.string s, .int .u8 (.ofNat n)] => pick2 (Nat.beq f 431) (pick2 (Nat.ble n 255) (some (match idxU n s.data.toList 0 with | some i => .int .i64 (.ofNat i) | none => .int .i64 (.negSucc 0))) none) none
  | _ => none
theorem kIdx_ok : KnownOk Tryz.prog kIdx := .of (fun _ => rfl) (fun _ _ => rfl) fun f args v h w => by
  unfold kIdx at h
  split at h
  case h_2 => cases h
  rename_i s n
  rw [pick2_eq, pick2_eq] at h
  split at h
  case isFalse => cases h
  rename_i hf
  split at h
  case isFalse => cases h
  rename_i hn
  have := Nat.eq_of_beq_eq_true hf
  subst this
  have hn := Nat.le_of_ble_eq_true hn
  have hc : (UInt8.ofNat n).toNat = n := by rw [UInt8.toNat_ofNat']; omega
  have := k431 s (UInt8.ofNat n) w
  rw [find_eq, hc] at this
  refine this.mono ?_
  rintro e w' ⟨rfl, rfl⟩
  refine ⟨?_, Below.refl _ _⟩
  simp only [Option.some.injEq] at h
  rw [← h]
  cases idxU n s.data.toList 0 <;> rfl
end
end Go.Ev.Tw
