/- Shapes of places: what is reckoned, 2. -/
import Derived.Test.YtpenhcmahojifaaGreatDoorGl
set_option linter.unusedVariables false
set_option linter.unusedSimpArgs false
set_option linter.unusedSectionVars false
namespace Go.Ev.Tw
open Go.Proofs
set_option maxRecDepth 1000000
noncomputable def sh1 : Sh := ⟨5, [12], 0, [0], [0]⟩
theorem shC1 (b8 b0 : Bool) : chksOK b8 b0 sh1 = true := by kernel_rfl
theorem shE1 (b8 b0 : Bool) : encsOK b8 b0 (sh1.canon.encs true true) = true := by kernel_rfl
theorem shA1 : pick2 (okAll false false sh1) (pick2 (okAll true false sh1) (okAll true true sh1) false) false = true := by kernel_rfl
theorem shL1 (sz : Int) : pick2 (lawsOK false false sh1 sz) (pick2 (lawsOK true false sh1 sz) (lawsOK true true sh1 sz) false) false = true := by kernel_rfl
theorem shK1 : ShOK sh1 := ⟨by kernel_rfl, shC1, shE1, by_cls (p2q' shA1).1 (p2q' (p2q' shA1).2).1 (p2q' (p2q' shA1).2).2, by_cls (fun sz => (p2q' (shL1 sz)).1) (fun sz => (p2q' (p2q' (shL1 sz)).2).1) (fun sz => (p2q' (p2q' (shL1 sz)).2).2)⟩
noncomputable def sh7 : Sh := ⟨0, [0], 5, [12], [1]⟩
theorem shC7 (b8 b0 : Bool) : chksOK b8 b0 sh7 = true := by kernel_rfl
theorem shE7 (b8 b0 : Bool) : encsOK b8 b0 (sh7.canon.encs true true) = true := shE1 b8 b0
theorem shA7 : pick2 (okAll false false sh7) (pick2 (okAll true false sh7) (okAll true true sh7) false) false = true := by kernel_rfl
theorem shL7 (sz : Int) : pick2 (lawsOK false false sh7 sz) (pick2 (lawsOK true false sh7 sz) (lawsOK true true sh7 sz) false) false = true := by kernel_rfl
theorem shK7 : ShOK sh7 := ⟨by kernel_rfl, shC7, shE7, by_cls (p2q' shA7).1 (p2q' (p2q' shA7).2).1 (p2q' (p2q' shA7).2).2, by_cls (fun sz => (p2q' (shL7 sz)).1) (fun sz => (p2q' (p2q' (shL7 sz)).2).1) (fun sz => (p2q' (p2q' (shL7 sz)).2).2)⟩
noncomputable def sh31 : Sh := ⟨5, [0, 1, 2, 3, 4, 6, 7], 5, [8, 9, 10, 11, 13, 14, 15], [1]⟩
theorem shC31 (b8 b0 : Bool) : chksOK b8 b0 sh31 = true := by kernel_rfl
theorem shE31 (b8 b0 : Bool) : encsOK b8 b0 (sh31.canon.encs true true) = true := by kernel_rfl
theorem shA31 : pick2 (okAll false false sh31) (pick2 (okAll true false sh31) (okAll true true sh31) false) false = true := by kernel_rfl
theorem shL31 (sz : Int) : pick2 (lawsOK false false sh31 sz) (pick2 (lawsOK true false sh31 sz) (lawsOK true true sh31 sz) false) false = true := by kernel_rfl
theorem shK31 : ShOK sh31 := ⟨by kernel_rfl, shC31, shE31, by_cls (p2q' shA31).1 (p2q' (p2q' shA31).2).1 (p2q' (p2q' shA31).2).2, by_cls (fun sz => (p2q' (shL31 sz)).1) (fun sz => (p2q' (p2q' (shL31 sz)).2).1) (fun sz => (p2q' (p2q' (shL31 sz)).2).2)⟩
noncomputable def sh43 : Sh := ⟨5, [0, 1, 2, 3, 6, 7], 5, [4], [1]⟩
theorem shC43 (b8 b0 : Bool) : chksOK b8 b0 sh43 = true := by kernel_rfl
theorem shE43 (b8 b0 : Bool) : encsOK b8 b0 (sh43.canon.encs true true) = true := by kernel_rfl
theorem shA43 : pick2 (okAll false false sh43) (pick2 (okAll true false sh43) (okAll true true sh43) false) false = true := by kernel_rfl
theorem shL43 (sz : Int) : pick2 (lawsOK false false sh43 sz) (pick2 (lawsOK true false sh43 sz) (lawsOK true true sh43 sz) false) false = true := by kernel_rfl
theorem shK43 : ShOK sh43 := ⟨by kernel_rfl, shC43, shE43, by_cls (p2q' shA43).1 (p2q' (p2q' shA43).2).1 (p2q' (p2q' shA43).2).2, by_cls (fun sz => (p2q' (shL43 sz)).1) (fun sz => (p2q' (p2q' (shL43 sz)).2).1) (fun sz => (p2q' (p2q' (shL43 sz)).2).2)⟩
end Go.Ev.Tw
