/- Shapes of places: what is reckoned, 3. -/
import Derived.Test.YtpenhcmahojifaaGreatDoorGl
set_option linter.unusedVariables false
set_option linter.unusedSimpArgs false
set_option linter.unusedSectionVars false
namespace Go.Ev.Tw
open Go.Proofs
set_option maxRecDepth 1000000
noncomputable def sh2 : Sh := ⟨5, [5], 0, [0], [0]⟩
theorem shC2 (b8 b0 : Bool) : chksOK b8 b0 sh2 = true := by kernel_rfl
theorem shE2 (b8 b0 : Bool) : encsOK b8 b0 (sh2.canon.encs true true) = true := by kernel_rfl
theorem shA2 : pick2 (okAll false false sh2) (pick2 (okAll true false sh2) (okAll true true sh2) false) false = true := by kernel_rfl
theorem shL2 (sz : Int) : pick2 (lawsOK false false sh2 sz) (pick2 (lawsOK true false sh2 sz) (lawsOK true true sh2 sz) false) false = true := by kernel_rfl
theorem shK2 : ShOK sh2 := ⟨by kernel_rfl, shC2, shE2, by_cls (p2q' shA2).1 (p2q' (p2q' shA2).2).1 (p2q' (p2q' shA2).2).2, by_cls (fun sz => (p2q' (shL2 sz)).1) (fun sz => (p2q' (p2q' (shL2 sz)).2).1) (fun sz => (p2q' (p2q' (shL2 sz)).2).2)⟩
noncomputable def sh8 : Sh := ⟨0, [0], 5, [5], [1]⟩
theorem shC8 (b8 b0 : Bool) : chksOK b8 b0 sh8 = true := by kernel_rfl
theorem shE8 (b8 b0 : Bool) : encsOK b8 b0 (sh8.canon.encs true true) = true := shE2 b8 b0
theorem shA8 : pick2 (okAll false false sh8) (pick2 (okAll true false sh8) (okAll true true sh8) false) false = true := by kernel_rfl
theorem shL8 (sz : Int) : pick2 (lawsOK false false sh8 sz) (pick2 (lawsOK true false sh8 sz) (lawsOK true true sh8 sz) false) false = true := by kernel_rfl
theorem shK8 : ShOK sh8 := ⟨by kernel_rfl, shC8, shE8, by_cls (p2q' shA8).1 (p2q' (p2q' shA8).2).1 (p2q' (p2q' shA8).2).2, by_cls (fun sz => (p2q' (shL8 sz)).1) (fun sz => (p2q' (p2q' (shL8 sz)).2).1) (fun sz => (p2q' (p2q' (shL8 sz)).2).2)⟩
noncomputable def sh32 : Sh := ⟨5, [0, 1, 2, 3, 4, 6, 7], 5, [8, 9, 10, 11, 13, 14, 15], [2, 4, 8]⟩
theorem shC32 (b8 b0 : Bool) : chksOK b8 b0 sh32 = true := by kernel_rfl
theorem shE32 (b8 b0 : Bool) : encsOK b8 b0 (sh32.canon.encs true true) = true := by kernel_rfl
theorem shA32 : pick2 (okAll false false sh32) (pick2 (okAll true false sh32) (okAll true true sh32) false) false = true := by kernel_rfl
theorem shL32 (sz : Int) : pick2 (lawsOK false false sh32 sz) (pick2 (lawsOK true false sh32 sz) (lawsOK true true sh32 sz) false) false = true := by kernel_rfl
theorem shK32 : ShOK sh32 := ⟨by kernel_rfl, shC32, shE32, by_cls (p2q' shA32).1 (p2q' (p2q' shA32).2).1 (p2q' (p2q' shA32).2).2, by_cls (fun sz => (p2q' (shL32 sz)).1) (fun sz => (p2q' (p2q' (shL32 sz)).2).1) (fun sz => (p2q' (p2q' (shL32 sz)).2).2)⟩
noncomputable def sh44 : Sh := ⟨5, [8, 9, 10, 11, 14, 15], 5, [4], [1]⟩
theorem shC44 (b8 b0 : Bool) : chksOK b8 b0 sh44 = true := by kernel_rfl
theorem shE44 (b8 b0 : Bool) : encsOK b8 b0 (sh44.canon.encs true true) = true := by kernel_rfl
theorem shA44 : pick2 (okAll false false sh44) (pick2 (okAll true false sh44) (okAll true true sh44) false) false = true := by kernel_rfl
theorem shL44 (sz : Int) : pick2 (lawsOK false false sh44 sz) (pick2 (lawsOK true false sh44 sz) (lawsOK true true sh44 sz) false) false = true := by kernel_rfl
theorem shK44 : ShOK sh44 := ⟨by kernel_rfl, shC44, shE44, by_cls (p2q' shA44).1 (p2q' (p2q' shA44).2).1 (p2q' (p2q' shA44).2).2, by_cls (fun sz => (p2q' (shL44 sz)).1) (fun sz => (p2q' (p2q' (shL44 sz)).2).1) (fun sz => (p2q' (p2q' (shL44 sz)).2).2)⟩
end Go.Ev.Tw
