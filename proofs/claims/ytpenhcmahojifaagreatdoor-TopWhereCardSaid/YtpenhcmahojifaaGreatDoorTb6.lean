/- Shapes of places: what is reckoned, 6. -/
import Derived.Test.YtpenhcmahojifaaGreatDoorGl
set_option linter.unusedVariables false
set_option linter.unusedSimpArgs false
set_option linter.unusedSectionVars false
namespace Go.Ev.Tw
open Go.Proofs
set_option maxRecDepth 1000000
noncomputable def sh5 : Sh := ⟨5, [8, 9, 10, 11, 14, 15], 0, [0], [0]⟩
theorem shC5 (b8 b0 : Bool) : chksOK b8 b0 sh5 = true := by kernel_rfl
theorem shE5 (b8 b0 : Bool) : encsOK b8 b0 (sh5.canon.encs true true) = true := by kernel_rfl
theorem shA5 : pick2 (okAll false false sh5) (pick2 (okAll true false sh5) (okAll true true sh5) false) false = true := by kernel_rfl
theorem shL5 (sz : Int) : pick2 (lawsOK false false sh5 sz) (pick2 (lawsOK true false sh5 sz) (lawsOK true true sh5 sz) false) false = true := by kernel_rfl
theorem shK5 : ShOK sh5 := ⟨by kernel_rfl, shC5, shE5, by_cls (p2q' shA5).1 (p2q' (p2q' shA5).2).1 (p2q' (p2q' shA5).2).2, by_cls (fun sz => (p2q' (shL5 sz)).1) (fun sz => (p2q' (p2q' (shL5 sz)).2).1) (fun sz => (p2q' (p2q' (shL5 sz)).2).2)⟩
noncomputable def sh11 : Sh := ⟨0, [0], 5, [8, 9, 10, 11, 14, 15], [1]⟩
theorem shC11 (b8 b0 : Bool) : chksOK b8 b0 sh11 = true := by kernel_rfl
theorem shE11 (b8 b0 : Bool) : encsOK b8 b0 (sh11.canon.encs true true) = true := shE5 b8 b0
theorem shA11 : pick2 (okAll false false sh11) (pick2 (okAll true false sh11) (okAll true true sh11) false) false = true := by kernel_rfl
theorem shL11 (sz : Int) : pick2 (lawsOK false false sh11 sz) (pick2 (lawsOK true false sh11 sz) (lawsOK true true sh11 sz) false) false = true := by kernel_rfl
theorem shK11 : ShOK sh11 := ⟨by kernel_rfl, shC11, shE11, by_cls (p2q' shA11).1 (p2q' (p2q' shA11).2).1 (p2q' (p2q' shA11).2).2, by_cls (fun sz => (p2q' (shL11 sz)).1) (fun sz => (p2q' (p2q' (shL11 sz)).2).1) (fun sz => (p2q' (p2q' (shL11 sz)).2).2)⟩
noncomputable def sh35 : Sh := ⟨5, [8, 9, 10, 11, 12, 14, 15], 5, [0, 1, 2, 3, 5, 6, 7], [1]⟩
theorem shC35 (b8 b0 : Bool) : chksOK b8 b0 sh35 = true := by kernel_rfl
theorem shE35 (b8 b0 : Bool) : encsOK b8 b0 (sh35.canon.encs true true) = true := by kernel_rfl
theorem shA35 : pick2 (okAll false false sh35) (pick2 (okAll true false sh35) (okAll true true sh35) false) false = true := by kernel_rfl
theorem shL35 (sz : Int) : pick2 (lawsOK false false sh35 sz) (pick2 (lawsOK true false sh35 sz) (lawsOK true true sh35 sz) false) false = true := by kernel_rfl
theorem shK35 : ShOK sh35 := ⟨by kernel_rfl, shC35, shE35, by_cls (p2q' shA35).1 (p2q' (p2q' shA35).2).1 (p2q' (p2q' shA35).2).2, by_cls (fun sz => (p2q' (shL35 sz)).1) (fun sz => (p2q' (p2q' (shL35 sz)).2).1) (fun sz => (p2q' (p2q' (shL35 sz)).2).2)⟩
end Go.Ev.Tw
