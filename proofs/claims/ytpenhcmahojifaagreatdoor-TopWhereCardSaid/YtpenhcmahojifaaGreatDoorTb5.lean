/- Shapes of places: what is reckoned, 5. -/
import Derived.Test.YtpenhcmahojifaaGreatDoorGl
set_option linter.unusedVariables false
set_option linter.unusedSimpArgs false
set_option linter.unusedSectionVars false
namespace Go.Ev.Tw
open Go.Proofs
set_option maxRecDepth 1000000
noncomputable def sh4 : Sh := ⟨5, [0, 1, 2, 3, 6, 7], 0, [0], [0]⟩
theorem shC4 (b8 b0 : Bool) : chksOK b8 b0 sh4 = true := by kernel_rfl
theorem shE4 (b8 b0 : Bool) : encsOK b8 b0 (sh4.canon.encs true true) = true := by kernel_rfl
theorem shA4 : pick2 (okAll false false sh4) (pick2 (okAll true false sh4) (okAll true true sh4) false) false = true := by kernel_rfl
theorem shL4 (sz : Int) : pick2 (lawsOK false false sh4 sz) (pick2 (lawsOK true false sh4 sz) (lawsOK true true sh4 sz) false) false = true := by kernel_rfl
theorem shK4 : ShOK sh4 := ⟨by kernel_rfl, shC4, shE4, by_cls (p2q' shA4).1 (p2q' (p2q' shA4).2).1 (p2q' (p2q' shA4).2).2, by_cls (fun sz => (p2q' (shL4 sz)).1) (fun sz => (p2q' (p2q' (shL4 sz)).2).1) (fun sz => (p2q' (p2q' (shL4 sz)).2).2)⟩
noncomputable def sh10 : Sh := ⟨0, [0], 5, [0, 1, 2, 3, 6, 7], [1]⟩
theorem shC10 (b8 b0 : Bool) : chksOK b8 b0 sh10 = true := by kernel_rfl
theorem shE10 (b8 b0 : Bool) : encsOK b8 b0 (sh10.canon.encs true true) = true := shE4 b8 b0
theorem shA10 : pick2 (okAll false false sh10) (pick2 (okAll true false sh10) (okAll true true sh10) false) false = true := by kernel_rfl
theorem shL10 (sz : Int) : pick2 (lawsOK false false sh10 sz) (pick2 (lawsOK true false sh10 sz) (lawsOK true true sh10 sz) false) false = true := by kernel_rfl
theorem shK10 : ShOK sh10 := ⟨by kernel_rfl, shC10, shE10, by_cls (p2q' shA10).1 (p2q' (p2q' shA10).2).1 (p2q' (p2q' shA10).2).2, by_cls (fun sz => (p2q' (shL10 sz)).1) (fun sz => (p2q' (p2q' (shL10 sz)).2).1) (fun sz => (p2q' (p2q' (shL10 sz)).2).2)⟩
noncomputable def sh34 : Sh := ⟨5, [0, 1, 2, 3, 4, 6, 7], 5, [12], [2, 4, 8]⟩
theorem shC34 (b8 b0 : Bool) : chksOK b8 b0 sh34 = true := by kernel_rfl
theorem shE34 (b8 b0 : Bool) : encsOK b8 b0 (sh34.canon.encs true true) = true := by kernel_rfl
theorem shA34 : pick2 (okAll false false sh34) (pick2 (okAll true false sh34) (okAll true true sh34) false) false = true := by kernel_rfl
theorem shL34 (sz : Int) : pick2 (lawsOK false false sh34 sz) (pick2 (lawsOK true false sh34 sz) (lawsOK true true sh34 sz) false) false = true := by kernel_rfl
theorem shK34 : ShOK sh34 := ⟨by kernel_rfl, shC34, shE34, by_cls (p2q' shA34).1 (p2q' (p2q' shA34).2).1 (p2q' (p2q' shA34).2).2, by_cls (fun sz => (p2q' (shL34 sz)).1) (fun sz => (p2q' (p2q' (shL34 sz)).2).1) (fun sz => (p2q' (p2q' (shL34 sz)).2).2)⟩
end Go.Ev.Tw
