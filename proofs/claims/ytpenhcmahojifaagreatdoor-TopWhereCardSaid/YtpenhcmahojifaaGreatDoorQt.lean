/- The six layers together. -/
import Derived.Test.YtpenhcmahojifaaGreatDoorQ101
import Derived.Test.YtpenhcmahojifaaGreatDoorQ102
import Derived.Test.YtpenhcmahojifaaGreatDoorQ103
import Derived.Test.YtpenhcmahojifaaGreatDoorQ104
import Derived.Test.YtpenhcmahojifaaGreatDoorQ105
import Derived.Test.YtpenhcmahojifaaGreatDoorQ106
set_option linter.unusedVariables false
set_option linter.unusedSimpArgs false
set_option linter.unusedSectionVars false
namespace Go.Ev.Tw
open Go.Proofs
noncomputable section
def mLayers : Memo := orM (toldM 101 [] val101 rows101) (orM (toldM 102 [] val102 rows102) (orM (toldM 103 [] val103 rows103) (orM (toldM 104 [] val104 rows104) (orM (toldM 105 [] val105 rows105) (toldM 106 [] val106 rows106)))))
theorem mLayers_ok [TokE] (q : Nat → TypeId) : MemoOk Tryz.prog (GRq q) mLayers :=
  or_memo (told_memo (told101 _) rfl) (or_memo (told_memo (told102 _) rfl) (or_memo (told_memo (told103 _) rfl) (or_memo (told_memo (told104 q) rfl) (or_memo (told_memo (told105 _) rfl) (told_memo (told106 _) rfl)))))
end
end Go.Ev.Tw
