/- A source read, two instructions encoded: told. -/
import Derived.Test.YtpenhcmahojifaaGreatDoorZr
import Derived.Test.YtpenhcmahojifaaGreatDoorGb
import Derived.Test.YtpenhcmahojifaaGreatDoorGd
set_option linter.unusedVariables false
set_option linter.unusedSimpArgs false
set_option linter.unusedSectionVars false
namespace Go.Ev.Tw
open Go.Proofs
noncomputable section
set_option maxRecDepth 1000000
/-- a: add eax, 5, and jmp a. -/
def srcT : ByteArray := ⟨#[97, 58, 32, 97, 100, 100, 32, 101, 97, 120, 44, 32, 53, 10, 106, 109, 112, 32, 97]⟩
def valRead : Value := .tuple #[.agg #[.int .i64 0, .slice none 0 0, sl 4 3 3], .agg #[.int .i64 0, .int .i64 0]]
def rowsRead : List Blk := [⟨[.int .i64 1, .int .i64 4, .int .i64 0, .int .i64 0, .int .i64 0, .int .i64 0, .int .i64 0, .int .i64 0, .int .i64 0, .int .i64 0, .slice none 0 0, .bool false, .int .i64 3, .int .i64 0, .int .i64 0, .int .i64 0, .int .i64 0, .int .i64 0, .int .i64 0, .int .i64 0, .int .i64 0, .int .i64 0, sl 1 1 1, .bool false], 257, true, false⟩, ⟨[.int .i64 1, .int .i64 5, .string ⟨#[]⟩, .int .i64 0, .int .i64 0], 262, true, false⟩, ⟨[.int .i64 4, .int .i64 0, .int .i64 0, .int .i64 0, .int .i64 0, .int .i64 0, .int .i64 0, .int .i64 0, .int .i64 0, .int .i64 0, sl 3 1 1, .bool false], 257, true, false⟩, ⟨[.int .i64 2, .int .i64 0, .string ⟨#[97]⟩, .int .i64 0, .int .i64 0], 262, true, false⟩, ⟨[.int .i64 1, .int .i64 1, .string ⟨#[97]⟩, .int .i64 0, .int .i64 0, .slice none 0 0, .slice none 0 0, .slice none 0 0, .int .i64 0, .int .i64 1, .int .i64 2, .string ⟨#[]⟩, .int .i64 1, .int .i64 0, sl 0 2 2, .slice none 0 0, .slice none 0 0, .int .i64 0, .int .i64 2, .int .i64 2, .string ⟨#[]⟩, .int .i64 54, .int .i64 0, sl 2 1 1, .slice none 0 0, .slice none 0 0, .int .i64 0], 173, true, false⟩]
theorem toldRead [TokE] (q : Nat → TypeId) : Told Tryz.prog (GRq q) 41 [.string srcT] valRead rowsRead :=
  told_of (rounds := 5000) (k := 60) no_own mixed kTop_ok.any (mRegs_ok q) noD_ok (HGq_ok q) (GRq_free q) (by rfl) (by rfl) (fun h => by cases h) (n := 5) (lit := 0xf800f300f0009b0097) (base := 65536) (by kernel_rfl)
def rowArg (c n : Nat) : List Value := [int64 1, int64 c, int64 n, int64 0, int64 0, int64 0, int64 0, int64 0, int64 0, int64 0, int64 0]
def rowImm (n : Nat) : List Value := [int64 3, int64 0, int64 0, int64 0, int64 0, int64 0, int64 0, int64 0, int64 0, int64 0, int64 n]
def rowRel (n : Int) : List Value := [int64 4, int64 0, int64 0, int64 0, int64 0, int64 0, int64 0, int64 0, int64 0, int64 0, .int .i64 n]
def vAdd : List Blk := [⟨List.append (rowArg 4 0) (rowImm 5), 31, true, true⟩]
def rowsAdd : List Blk := [⟨[.int .u8 131, .int .u8 192, .int .u8 5], 5, true, false⟩]
theorem toldAdd [TokE] (q : Nat → TypeId) : ToldV Tryz.prog (GRq q) 145 [.agg #[int64 1, sl 0 2 2], int64 0] vAdd (.tuple #[sl 0 3 3, .int .i64 0]) rowsAdd := by
  obtain ⟨H0, h0⟩ : ∃ H0, Mem.ofRows Mem.empty vAdd = some H0 := ⟨_, rfl⟩
  have e : H0 = (Mem.ofRows Mem.empty vAdd).getD Mem.empty := by rw [h0]; rfl
  subst e
  exact toldV_of (rounds := 5000) (k := 60) no_own mixed kTop_ok.any (mOf_ok q) noD_ok h0 (by rfl) (fun h => by cases h) (n := 1) (lit := 0x38c) (base := 65536) (by kernel_rfl)
def vJmp : List Blk := [⟨rowRel (.negSucc 4), 31, true, true⟩]
def rowsJmp : List Blk := [⟨[.int .u8 235, .int .u8 251], 5, true, false⟩]
theorem toldJmp [TokE] (q : Nat → TypeId) : ToldV Tryz.prog (GRq q) 145 [.agg #[int64 54, sl 0 1 1], int64 1] vJmp (.tuple #[sl 0 2 2, .int .i64 0]) rowsJmp := by
  obtain ⟨H0, h0⟩ : ∃ H0, Mem.ofRows Mem.empty vJmp = some H0 := ⟨_, rfl⟩
  have e : H0 = (Mem.ofRows Mem.empty vJmp).getD Mem.empty := by rw [h0]; rfl
  subst e
  exact toldV_of (rounds := 5000) (k := 60) no_own mixed kTop_ok.any (mOf_ok q) noD_ok h0 (by rfl) (fun h => by cases h) (n := 1) (lit := 0x7f) (base := 65536) (by kernel_rfl)
def mAsm : Memo := orM (toldM 41 [.string srcT] valRead rowsRead) (orM (viewM 145 [.agg #[int64 1, sl 0 2 2], int64 0] vAdd (.tuple #[sl 0 3 3, .int .i64 0]) rowsAdd) (orM (viewM 145 [.agg #[int64 54, sl 0 1 1], int64 1] vJmp (.tuple #[sl 0 2 2, .int .i64 0]) rowsJmp) (orM mRegs mOf)))
theorem mAsm_ok [TokE] (q : Nat → TypeId) : MemoOk Tryz.prog (GRq q) mAsm := or_memo (told_memo (toldRead q) rfl) (or_memo (view_memo (toldAdd q)) (or_memo (view_memo (toldJmp q)) (or_memo (mRegs_ok q) (mOf_ok q))))
end
end Go.Ev.Tw
