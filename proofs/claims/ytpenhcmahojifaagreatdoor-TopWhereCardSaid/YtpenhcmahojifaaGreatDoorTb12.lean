/- Shapes of places: what is reckoned, 12. -/
import Derived.Test.YtpenhcmahojifaaGreatDoorGl
set_option linter.unusedVariables false
set_option linter.unusedSimpArgs false
set_option linter.unusedSectionVars false
namespace Go.Ev.Tw
open Go.Proofs
set_option maxRecDepth 1000000
noncomputable def sh17 : Sh := ⟨5, [5], 5, [0, 1, 2, 3, 5, 6, 7], [1]⟩
theorem shC17 (b8 b0 : Bool) : chksOK b8 b0 sh17 = true := by kernel_rfl
theorem shE17 (b8 b0 : Bool) : encsOK b8 b0 (sh17.canon.encs true true) = true := by kernel_rfl
theorem shA17 : pick2 (okAll false false sh17) (pick2 (okAll true false sh17) (okAll true true sh17) false) false = true := by kernel_rfl
theorem shL17 (sz : Int) : pick2 (lawsOK false false sh17 sz) (pick2 (lawsOK true false sh17 sz) (lawsOK true true sh17 sz) false) false = true := by kernel_rfl
theorem shK17 : ShOK sh17 := ⟨by kernel_rfl, shC17, shE17, by_cls (p2q' shA17).1 (p2q' (p2q' shA17).2).1 (p2q' (p2q' shA17).2).2, by_cls (fun sz => (p2q' (shL17 sz)).1) (fun sz => (p2q' (p2q' (shL17 sz)).2).1) (fun sz => (p2q' (p2q' (shL17 sz)).2).2)⟩
noncomputable def sh23 : Sh := ⟨5, [13], 5, [0, 1, 2, 3, 5, 6, 7], [1]⟩
theorem shC23 (b8 b0 : Bool) : chksOK b8 b0 sh23 = true := by kernel_rfl
theorem shE23 (b8 b0 : Bool) : encsOK b8 b0 (sh23.canon.encs true true) = true := by kernel_rfl
theorem shA23 : pick2 (okAll false false sh23) (pick2 (okAll true false sh23) (okAll true true sh23) false) false = true := by kernel_rfl
theorem shL23 (sz : Int) : pick2 (lawsOK false false sh23 sz) (pick2 (lawsOK true false sh23 sz) (lawsOK true true sh23 sz) false) false = true := by kernel_rfl
theorem shK23 : ShOK sh23 := ⟨by kernel_rfl, shC23, shE23, by_cls (p2q' shA23).1 (p2q' (p2q' shA23).2).1 (p2q' (p2q' shA23).2).2, by_cls (fun sz => (p2q' (shL23 sz)).1) (fun sz => (p2q' (p2q' (shL23 sz)).2).1) (fun sz => (p2q' (p2q' (shL23 sz)).2).2)⟩
noncomputable def sh29 : Sh := ⟨5, [0, 1, 2, 3, 4, 6, 7], 5, [0, 1, 2, 3, 5, 6, 7], [1]⟩
theorem shC29 (b8 b0 : Bool) : chksOK b8 b0 sh29 = true := by kernel_rfl
theorem shE29 (b8 b0 : Bool) : encsOK b8 b0 (sh29.canon.encs true true) = true := by kernel_rfl
theorem shA29 : pick2 (okAll false false sh29) (pick2 (okAll true false sh29) (okAll true true sh29) false) false = true := by kernel_rfl
theorem shL29 (sz : Int) : pick2 (lawsOK false false sh29 sz) (pick2 (lawsOK true false sh29 sz) (lawsOK true true sh29 sz) false) false = true := by kernel_rfl
theorem shK29 : ShOK sh29 := ⟨by kernel_rfl, shC29, shE29, by_cls (p2q' shA29).1 (p2q' (p2q' shA29).2).1 (p2q' (p2q' shA29).2).2, by_cls (fun sz => (p2q' (shL29 sz)).1) (fun sz => (p2q' (p2q' (shL29 sz)).2).1) (fun sz => (p2q' (p2q' (shL29 sz)).2).2)⟩
noncomputable def sh41 : Sh := ⟨5, [5], 5, [4], [1]⟩
theorem shC41 (b8 b0 : Bool) : chksOK b8 b0 sh41 = true := by kernel_rfl
theorem shE41 (b8 b0 : Bool) : encsOK b8 b0 (sh41.canon.encs true true) = true := by kernel_rfl
theorem shA41 : pick2 (okAll false false sh41) (pick2 (okAll true false sh41) (okAll true true sh41) false) false = true := by kernel_rfl
theorem shL41 (sz : Int) : pick2 (lawsOK false false sh41 sz) (pick2 (lawsOK true false sh41 sz) (lawsOK true true sh41 sz) false) false = true := by kernel_rfl
theorem shK41 : ShOK sh41 := ⟨by kernel_rfl, shC41, shE41, by_cls (p2q' shA41).1 (p2q' (p2q' shA41).2).1 (p2q' (p2q' shA41).2).2, by_cls (fun sz => (p2q' (shL41 sz)).1) (fun sz => (p2q' (p2q' (shL41 sz)).2).1) (fun sz => (p2q' (p2q' (shL41 sz)).2).2)⟩
end Go.Ev.Tw
