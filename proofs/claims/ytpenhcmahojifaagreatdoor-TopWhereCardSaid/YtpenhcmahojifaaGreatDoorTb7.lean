/- Shapes of places: what is reckoned, 7. -/
import Derived.Test.YtpenhcmahojifaaGreatDoorGl
set_option linter.unusedVariables false
set_option linter.unusedSimpArgs false
set_option linter.unusedSectionVars false
namespace Go.Ev.Tw
open Go.Proofs
set_option maxRecDepth 1000000
noncomputable def sh12 : Sh := ⟨0, [0], 0, [0], [0]⟩
theorem shC12 (b8 b0 : Bool) : chksOK b8 b0 sh12 = true := by kernel_rfl
theorem shE12 (b8 b0 : Bool) : encsOK b8 b0 (sh12.canon.encs true true) = true := by kernel_rfl
theorem shA12 (b8 b0 : Bool) : okAll b8 b0 sh12 = true := by kernel_rfl
theorem shL12 (b8 b0 : Bool) (sz : Int) : lawsOK b8 b0 sh12 sz = true := by kernel_rfl
theorem shK12 : ShOK sh12 := ⟨by kernel_rfl, shC12, shE12, fun b8 b0 _ => shA12 b8 b0, fun b8 b0 _ => shL12 b8 b0⟩
noncomputable def sh18 : Sh := ⟨5, [5], 5, [0, 1, 2, 3, 5, 6, 7], [2, 4, 8]⟩
theorem shC18 (b8 b0 : Bool) : chksOK b8 b0 sh18 = true := by kernel_rfl
theorem shE18 (b8 b0 : Bool) : encsOK b8 b0 (sh18.canon.encs true true) = true := by kernel_rfl
theorem shA18 : pick2 (okAll false false sh18) (pick2 (okAll true false sh18) (okAll true true sh18) false) false = true := by kernel_rfl
theorem shL18 (sz : Int) : pick2 (lawsOK false false sh18 sz) (pick2 (lawsOK true false sh18 sz) (lawsOK true true sh18 sz) false) false = true := by kernel_rfl
theorem shK18 : ShOK sh18 := ⟨by kernel_rfl, shC18, shE18, by_cls (p2q' shA18).1 (p2q' (p2q' shA18).2).1 (p2q' (p2q' shA18).2).2, by_cls (fun sz => (p2q' (shL18 sz)).1) (fun sz => (p2q' (p2q' (shL18 sz)).2).1) (fun sz => (p2q' (p2q' (shL18 sz)).2).2)⟩
noncomputable def sh24 : Sh := ⟨5, [13], 5, [0, 1, 2, 3, 5, 6, 7], [2, 4, 8]⟩
theorem shC24 (b8 b0 : Bool) : chksOK b8 b0 sh24 = true := by kernel_rfl
theorem shE24 (b8 b0 : Bool) : encsOK b8 b0 (sh24.canon.encs true true) = true := by kernel_rfl
theorem shA24 : pick2 (okAll false false sh24) (pick2 (okAll true false sh24) (okAll true true sh24) false) false = true := by kernel_rfl
theorem shL24 (sz : Int) : pick2 (lawsOK false false sh24 sz) (pick2 (lawsOK true false sh24 sz) (lawsOK true true sh24 sz) false) false = true := by kernel_rfl
theorem shK24 : ShOK sh24 := ⟨by kernel_rfl, shC24, shE24, by_cls (p2q' shA24).1 (p2q' (p2q' shA24).2).1 (p2q' (p2q' shA24).2).2, by_cls (fun sz => (p2q' (shL24 sz)).1) (fun sz => (p2q' (p2q' (shL24 sz)).2).1) (fun sz => (p2q' (p2q' (shL24 sz)).2).2)⟩
noncomputable def sh36 : Sh := ⟨5, [8, 9, 10, 11, 12, 14, 15], 5, [0, 1, 2, 3, 5, 6, 7], [2, 4, 8]⟩
theorem shC36 (b8 b0 : Bool) : chksOK b8 b0 sh36 = true := by kernel_rfl
theorem shE36 (b8 b0 : Bool) : encsOK b8 b0 (sh36.canon.encs true true) = true := by kernel_rfl
theorem shA36 : pick2 (okAll false false sh36) (pick2 (okAll true false sh36) (okAll true true sh36) false) false = true := by kernel_rfl
theorem shL36 (sz : Int) : pick2 (lawsOK false false sh36 sz) (pick2 (lawsOK true false sh36 sz) (lawsOK true true sh36 sz) false) false = true := by kernel_rfl
theorem shK36 : ShOK sh36 := ⟨by kernel_rfl, shC36, shE36, by_cls (p2q' shA36).1 (p2q' (p2q' shA36).2).1 (p2q' (p2q' shA36).2).2, by_cls (fun sz => (p2q' (shL36 sz)).1) (fun sz => (p2q' (p2q' (shL36 sz)).2).1) (fun sz => (p2q' (p2q' (shL36 sz)).2).2)⟩
end Go.Ev.Tw
