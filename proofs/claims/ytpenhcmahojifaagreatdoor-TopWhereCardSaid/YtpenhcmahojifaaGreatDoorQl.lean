/- awake31 holds. -/
import Derived.Test.YtpenhcmahojifaaGreatDoorQk
import Derived.Test.YtpenhcmahojifaaGreatDoorQf
import Derived.Test.YtpenhcmahojifaaGreatDoorQh
set_option linter.unusedVariables false
set_option linter.unusedSimpArgs false
set_option linter.unusedSectionVars false
namespace Go.Ev.Tw
open Go.Proofs
noncomputable section
set_option maxRecDepth 1000000
def mDec : Memo := orM (viewM 18 [.slice (some ⟨0, 0, none⟩) 3 3] vF83 valF83 rowsF83) mOf
theorem mDec_ok [TokE] (q : Nat → TypeId) : MemoOk Tryz.prog (GRq q) mDec := or_memo (view_memo (toldF83 q)) (mOf_ok q)
def rowsDec : List Blk := [⟨[.int .i64 1, .int .i64 4, .int .i64 0, .int .i64 0, .int .i64 0, .int .i64 0, .int .i64 0, .int .i64 0, .int .i64 0, .int .i64 0, .int .i64 0, .int .i64 3, .int .i64 0, .int .i64 0, .int .i64 0, .int .i64 0, .int .i64 0, .int .i64 0, .int .i64 0, .int .i64 0, .int .i64 0, .int .i64 5], 31, true, false⟩]
def valDec : Value := .tuple #[.agg #[.int .i64 1, sl 0 2 2], .int .i64 3, .int .i64 0]
theorem toldDec [TokE] (q : Nat → TypeId) : ToldV Tryz.prog (GRq q) 7 [.slice (some ⟨0, 0, none⟩) 3 3] vF83 valDec rowsDec := by
  obtain ⟨H0, h0⟩ : ∃ H0, Mem.ofRows Mem.empty vF83 = some H0 := ⟨_, rfl⟩
  have e : H0 = (Mem.ofRows Mem.empty vF83).getD Mem.empty := by rw [h0]; rfl
  subst e
  exact toldV_of (rounds := 5000) (k := 60) no_own mixed kTop_ok.any (mDec_ok q) noD_ok h0 (by rfl) (fun h => by cases h) (n := 1) (lit := 0x56) (base := 65536) (by kernel_rfl)
def rowsAsm : List Blk := [⟨[.int .u8 131, .int .u8 192, .int .u8 5, .int .u8 235, .int .u8 251], 5, true, false⟩, ⟨[.int .i64 1, .int .i64 0, .int .i64 3, .int .i64 2, .int .i64 3, .int .i64 2], 195, true, false⟩, ⟨[.string ⟨#[97]⟩, .int .i64 0, .bool true], 171, true, false⟩]
def valAsm : Value := .tuple #[.agg #[.int .i64 0, sl 0 5 5, sl 2 1 1, sl 1 2 2], .agg #[.int .i64 0, .int .i64 0]]
def only40 (i : FuncId) : Bool := Nat.beq i 40
theorem only40_ok [TokE] (f : FuncId) (h : only40 f = true) : Harm Tryz.prog f := by
  have := Nat.eq_of_beq_eq_true h
  subst this
  exact harm40
theorem toldAsm [TokE] (q : Nat → TypeId) : Told Tryz.prog (GRq q) 22 [.string srcT] valAsm rowsAsm :=
  told_of (rounds := 5000) (k := 60) no_own mixed kTop_ok.any (mAsm_ok q) only40_ok (HGq_ok q) (GRq_free q) (by rfl) (by rfl) (fun h => by cases h) (n := 3) (lit := 0x170016c016a) (base := 65536) (by kernel_rfl)
def mAwake : Memo := orM (viewM 7 [.slice (some ⟨0, 0, none⟩) 3 3] vF83 valDec rowsDec) (toldM 22 [.string srcT] valAsm rowsAsm)
theorem mAwake_ok [TokE] (q : Nat → TypeId) : MemoOk Tryz.prog (GRq q) mAwake := or_memo (view_memo (toldDec q)) (told_memo (toldAsm q) rfl)
/-- **The program answers awake31's examples as they are told.** -/
theorem toldAwake [TokE] (q : Nat → TypeId) : Told Tryz.prog (GRq q) 4 [] (.bool true) [] :=
  told_of (rounds := 5000) (k := 60) no_own mixed kTop_ok.any (mAwake_ok q) noD_ok (HGq_ok q) (GRq_free q) (by rfl) (by rfl) (fun h => by cases h) (n := 0) (lit := 0) (base := 65536) (by kernel_rfl)
end
end Go.Ev.Tw
