/- decode.find for lea of 4 bytes: told. -/
import Derived.Test.YtpenhcmahojifaaGreatDoorZc
set_option linter.unusedVariables false
set_option linter.unusedSimpArgs false
set_option linter.unusedSectionVars false
namespace Go.Ev.Tw
open Go.Proofs
set_option maxRecDepth 1000000
theorem find4 (E : TokR) (q : Nat → TypeId) : @MemoOk E Tryz.prog (GRq q) (findM 4) :=
  find_memo E q (n := 5) (lit := 0x7d50176017501740173) (by decide) (by decide) (by kernel_rfl)
end Go.Ev.Tw
