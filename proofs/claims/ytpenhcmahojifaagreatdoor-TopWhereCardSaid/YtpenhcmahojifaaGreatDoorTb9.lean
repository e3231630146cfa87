/- Shapes of places: what is reckoned, 9. -/
import Derived.Test.YtpenhcmahojifaaGreatDoorGl
set_option linter.unusedVariables false
set_option linter.unusedSimpArgs false
set_option linter.unusedSectionVars false
namespace Go.Ev.Tw
open Go.Proofs
set_option maxRecDepth 1000000
noncomputable def sh14 : Sh := ⟨0, [0], 5, [0, 1, 2, 3, 5, 6, 7], [2, 4, 8]⟩
theorem shC14 (b8 b0 : Bool) : chksOK b8 b0 sh14 = true := by kernel_rfl
theorem shE14 (b8 b0 : Bool) : encsOK b8 b0 (sh14.canon.encs true true) = true := by kernel_rfl
theorem shA14 (b8 b0 : Bool) : okAll b8 b0 sh14 = true := by kernel_rfl
theorem shL14 (b8 b0 : Bool) (sz : Int) : lawsOK b8 b0 sh14 sz = true := by kernel_rfl
theorem shK14 : ShOK sh14 := ⟨by kernel_rfl, shC14, shE14, fun b8 b0 _ => shA14 b8 b0, fun b8 b0 _ => shL14 b8 b0⟩
noncomputable def sh20 : Sh := ⟨5, [5], 5, [8, 9, 10, 11, 13, 14, 15], [2, 4, 8]⟩
theorem shC20 (b8 b0 : Bool) : chksOK b8 b0 sh20 = true := by kernel_rfl
theorem shE20 (b8 b0 : Bool) : encsOK b8 b0 (sh20.canon.encs true true) = true := by kernel_rfl
theorem shA20 : pick2 (okAll false false sh20) (pick2 (okAll true false sh20) (okAll true true sh20) false) false = true := by kernel_rfl
theorem shL20 (sz : Int) : pick2 (lawsOK false false sh20 sz) (pick2 (lawsOK true false sh20 sz) (lawsOK true true sh20 sz) false) false = true := by kernel_rfl
theorem shK20 : ShOK sh20 := ⟨by kernel_rfl, shC20, shE20, by_cls (p2q' shA20).1 (p2q' (p2q' shA20).2).1 (p2q' (p2q' shA20).2).2, by_cls (fun sz => (p2q' (shL20 sz)).1) (fun sz => (p2q' (p2q' (shL20 sz)).2).1) (fun sz => (p2q' (p2q' (shL20 sz)).2).2)⟩
noncomputable def sh26 : Sh := ⟨5, [13], 5, [8, 9, 10, 11, 13, 14, 15], [2, 4, 8]⟩
theorem shC26 (b8 b0 : Bool) : chksOK b8 b0 sh26 = true := by kernel_rfl
theorem shE26 (b8 b0 : Bool) : encsOK b8 b0 (sh26.canon.encs true true) = true := by kernel_rfl
theorem shA26 : pick2 (okAll false false sh26) (pick2 (okAll true false sh26) (okAll true true sh26) false) false = true := by kernel_rfl
theorem shL26 (sz : Int) : pick2 (lawsOK false false sh26 sz) (pick2 (lawsOK true false sh26 sz) (lawsOK true true sh26 sz) false) false = true := by kernel_rfl
theorem shK26 : ShOK sh26 := ⟨by kernel_rfl, shC26, shE26, by_cls (p2q' shA26).1 (p2q' (p2q' shA26).2).1 (p2q' (p2q' shA26).2).2, by_cls (fun sz => (p2q' (shL26 sz)).1) (fun sz => (p2q' (p2q' (shL26 sz)).2).1) (fun sz => (p2q' (p2q' (shL26 sz)).2).2)⟩
noncomputable def sh38 : Sh := ⟨5, [8, 9, 10, 11, 12, 14, 15], 5, [8, 9, 10, 11, 13, 14, 15], [2, 4, 8]⟩
theorem shC38 (b8 b0 : Bool) : chksOK b8 b0 sh38 = true := by kernel_rfl
theorem shE38 (b8 b0 : Bool) : encsOK b8 b0 (sh38.canon.encs true true) = true := by kernel_rfl
theorem shA38 : pick2 (okAll false false sh38) (pick2 (okAll true false sh38) (okAll true true sh38) false) false = true := by kernel_rfl
theorem shL38 (sz : Int) : pick2 (lawsOK false false sh38 sz) (pick2 (lawsOK true false sh38 sz) (lawsOK true true sh38 sz) false) false = true := by kernel_rfl
theorem shK38 : ShOK sh38 := ⟨by kernel_rfl, shC38, shE38, by_cls (p2q' shA38).1 (p2q' (p2q' shA38).2).1 (p2q' (p2q' shA38).2).2, by_cls (fun sz => (p2q' (shL38 sz)).1) (fun sz => (p2q' (p2q' (shL38 sz)).2).1) (fun sz => (p2q' (p2q' (shL38 sz)).2).2)⟩
end Go.Ev.Tw
