/- Shapes of places: what is reckoned, 11. -/
import Derived.Test.YtpenhcmahojifaaGreatDoorGl
set_option linter.unusedVariables false
set_option linter.unusedSimpArgs false
set_option linter.unusedSectionVars false
namespace Go.Ev.Tw
open Go.Proofs
set_option maxRecDepth 1000000
noncomputable def sh16 : Sh := ⟨0, [0], 5, [12], [2, 4, 8]⟩
theorem shC16 (b8 b0 : Bool) : chksOK b8 b0 sh16 = true := by kernel_rfl
theorem shE16 (b8 b0 : Bool) : encsOK b8 b0 (sh16.canon.encs true true) = true := by kernel_rfl
theorem shA16 (b8 b0 : Bool) : okAll b8 b0 sh16 = true := by kernel_rfl
theorem shL16 (b8 b0 : Bool) (sz : Int) : lawsOK b8 b0 sh16 sz = true := by kernel_rfl
theorem shK16 : ShOK sh16 := ⟨by kernel_rfl, shC16, shE16, fun b8 b0 _ => shA16 b8 b0, fun b8 b0 _ => shL16 b8 b0⟩
noncomputable def sh22 : Sh := ⟨5, [5], 5, [12], [2, 4, 8]⟩
theorem shC22 (b8 b0 : Bool) : chksOK b8 b0 sh22 = true := by kernel_rfl
theorem shE22 (b8 b0 : Bool) : encsOK b8 b0 (sh22.canon.encs true true) = true := by kernel_rfl
theorem shA22 : pick2 (okAll false false sh22) (pick2 (okAll true false sh22) (okAll true true sh22) false) false = true := by kernel_rfl
theorem shL22 (sz : Int) : pick2 (lawsOK false false sh22 sz) (pick2 (lawsOK true false sh22 sz) (lawsOK true true sh22 sz) false) false = true := by kernel_rfl
theorem shK22 : ShOK sh22 := ⟨by kernel_rfl, shC22, shE22, by_cls (p2q' shA22).1 (p2q' (p2q' shA22).2).1 (p2q' (p2q' shA22).2).2, by_cls (fun sz => (p2q' (shL22 sz)).1) (fun sz => (p2q' (p2q' (shL22 sz)).2).1) (fun sz => (p2q' (p2q' (shL22 sz)).2).2)⟩
noncomputable def sh28 : Sh := ⟨5, [13], 5, [12], [2, 4, 8]⟩
theorem shC28 (b8 b0 : Bool) : chksOK b8 b0 sh28 = true := by kernel_rfl
theorem shE28 (b8 b0 : Bool) : encsOK b8 b0 (sh28.canon.encs true true) = true := by kernel_rfl
theorem shA28 : pick2 (okAll false false sh28) (pick2 (okAll true false sh28) (okAll true true sh28) false) false = true := by kernel_rfl
theorem shL28 (sz : Int) : pick2 (lawsOK false false sh28 sz) (pick2 (lawsOK true false sh28 sz) (lawsOK true true sh28 sz) false) false = true := by kernel_rfl
theorem shK28 : ShOK sh28 := ⟨by kernel_rfl, shC28, shE28, by_cls (p2q' shA28).1 (p2q' (p2q' shA28).2).1 (p2q' (p2q' shA28).2).2, by_cls (fun sz => (p2q' (shL28 sz)).1) (fun sz => (p2q' (p2q' (shL28 sz)).2).1) (fun sz => (p2q' (p2q' (shL28 sz)).2).2)⟩
noncomputable def sh40 : Sh := ⟨5, [8, 9, 10, 11, 12, 14, 15], 5, [12], [2, 4, 8]⟩
theorem shC40 (b8 b0 : Bool) : chksOK b8 b0 sh40 = true := by kernel_rfl
theorem shE40 (b8 b0 : Bool) : encsOK b8 b0 (sh40.canon.encs true true) = true := by kernel_rfl
theorem shA40 : pick2 (okAll false false sh40) (pick2 (okAll true false sh40) (okAll true true sh40) false) false = true := by kernel_rfl
theorem shL40 (sz : Int) : pick2 (lawsOK false false sh40 sz) (pick2 (lawsOK true false sh40 sz) (lawsOK true true sh40 sz) false) false = true := by kernel_rfl
theorem shK40 : ShOK sh40 := ⟨by kernel_rfl, shC40, shE40, by_cls (p2q' shA40).1 (p2q' (p2q' shA40).2).1 (p2q' (p2q' shA40).2).2, by_cls (fun sz => (p2q' (shL40 sz)).1) (fun sz => (p2q' (p2q' (shL40 sz)).2).1) (fun sz => (p2q' (p2q' (shL40 sz)).2).2)⟩
end Go.Ev.Tw
