/- Shapes of places: what is reckoned, 1. -/
import Derived.Test.YtpenhcmahojifaaGreatDoorGl
set_option linter.unusedVariables false
set_option linter.unusedSimpArgs false
set_option linter.unusedSectionVars false
namespace Go.Ev.Tw
open Go.Proofs
set_option maxRecDepth 1000000
noncomputable def sh0 : Sh := ⟨5, [4], 0, [0], [0]⟩
theorem shC0 (b8 b0 : Bool) : chksOK b8 b0 sh0 = true := by kernel_rfl
theorem shE0 (b8 b0 : Bool) : encsOK b8 b0 (sh0.canon.encs true true) = true := by kernel_rfl
theorem shA0 : pick2 (okAll false false sh0) (pick2 (okAll true false sh0) (okAll true true sh0) false) false = true := by kernel_rfl
theorem shL0 (sz : Int) : pick2 (lawsOK false false sh0 sz) (pick2 (lawsOK true false sh0 sz) (lawsOK true true sh0 sz) false) false = true := by kernel_rfl
theorem shK0 : ShOK sh0 := ⟨by kernel_rfl, shC0, shE0, by_cls (p2q' shA0).1 (p2q' (p2q' shA0).2).1 (p2q' (p2q' shA0).2).2, by_cls (fun sz => (p2q' (shL0 sz)).1) (fun sz => (p2q' (p2q' (shL0 sz)).2).1) (fun sz => (p2q' (p2q' (shL0 sz)).2).2)⟩
noncomputable def sh6 : Sh := ⟨0, [0], 5, [4], [1]⟩
theorem shC6 (b8 b0 : Bool) : chksOK b8 b0 sh6 = true := by kernel_rfl
theorem shE6 (b8 b0 : Bool) : encsOK b8 b0 (sh6.canon.encs true true) = true := shE0 b8 b0
theorem shA6 : pick2 (okAll false false sh6) (pick2 (okAll true false sh6) (okAll true true sh6) false) false = true := by kernel_rfl
theorem shL6 (sz : Int) : pick2 (lawsOK false false sh6 sz) (pick2 (lawsOK true false sh6 sz) (lawsOK true true sh6 sz) false) false = true := by kernel_rfl
theorem shK6 : ShOK sh6 := ⟨by kernel_rfl, shC6, shE6, by_cls (p2q' shA6).1 (p2q' (p2q' shA6).2).1 (p2q' (p2q' shA6).2).2, by_cls (fun sz => (p2q' (shL6 sz)).1) (fun sz => (p2q' (p2q' (shL6 sz)).2).1) (fun sz => (p2q' (p2q' (shL6 sz)).2).2)⟩
noncomputable def sh30 : Sh := ⟨5, [0, 1, 2, 3, 4, 6, 7], 5, [0, 1, 2, 3, 5, 6, 7], [2, 4, 8]⟩
theorem shC30 (b8 b0 : Bool) : chksOK b8 b0 sh30 = true := by kernel_rfl
theorem shE30 (b8 b0 : Bool) : encsOK b8 b0 (sh30.canon.encs true true) = true := by kernel_rfl
theorem shA30 : pick2 (okAll false false sh30) (pick2 (okAll true false sh30) (okAll true true sh30) false) false = true := by kernel_rfl
theorem shL30 (sz : Int) : pick2 (lawsOK false false sh30 sz) (pick2 (lawsOK true false sh30 sz) (lawsOK true true sh30 sz) false) false = true := by kernel_rfl
theorem shK30 : ShOK sh30 := ⟨by kernel_rfl, shC30, shE30, by_cls (p2q' shA30).1 (p2q' (p2q' shA30).2).1 (p2q' (p2q' shA30).2).2, by_cls (fun sz => (p2q' (shL30 sz)).1) (fun sz => (p2q' (p2q' (shL30 sz)).2).1) (fun sz => (p2q' (p2q' (shL30 sz)).2).2)⟩
noncomputable def sh42 : Sh := ⟨5, [13], 5, [4], [1]⟩
theorem shC42 (b8 b0 : Bool) : chksOK b8 b0 sh42 = true := by kernel_rfl
theorem shE42 (b8 b0 : Bool) : encsOK b8 b0 (sh42.canon.encs true true) = true := by kernel_rfl
theorem shA42 : pick2 (okAll false false sh42) (pick2 (okAll true false sh42) (okAll true true sh42) false) false = true := by kernel_rfl
theorem shL42 (sz : Int) : pick2 (lawsOK false false sh42 sz) (pick2 (lawsOK true false sh42 sz) (lawsOK true true sh42 sz) false) false = true := by kernel_rfl
theorem shK42 : ShOK sh42 := ⟨by kernel_rfl, shC42, shE42, by_cls (p2q' shA42).1 (p2q' (p2q' shA42).2).1 (p2q' (p2q' shA42).2).2, by_cls (fun sz => (p2q' (shL42 sz)).1) (fun sz => (p2q' (p2q' (shL42 sz)).2).1) (fun sz => (p2q' (p2q' (shL42 sz)).2).2)⟩
end Go.Ev.Tw
