/- Shapes of places: what is reckoned, 4. -/
import Derived.Test.YtpenhcmahojifaaGreatDoorGl
set_option linter.unusedVariables false
set_option linter.unusedSimpArgs false
set_option linter.unusedSectionVars false
namespace Go.Ev.Tw
open Go.Proofs
set_option maxRecDepth 1000000
noncomputable def sh3 : Sh := ⟨5, [13], 0, [0], [0]⟩
theorem shC3 (b8 b0 : Bool) : chksOK b8 b0 sh3 = true := by kernel_rfl
theorem shE3 (b8 b0 : Bool) : encsOK b8 b0 (sh3.canon.encs true true) = true := by kernel_rfl
theorem shA3 : pick2 (okAll false false sh3) (pick2 (okAll true false sh3) (okAll true true sh3) false) false = true := by kernel_rfl
theorem shL3 (sz : Int) : pick2 (lawsOK false false sh3 sz) (pick2 (lawsOK true false sh3 sz) (lawsOK true true sh3 sz) false) false = true := by kernel_rfl
theorem shK3 : ShOK sh3 := ⟨by kernel_rfl, shC3, shE3, by_cls (p2q' shA3).1 (p2q' (p2q' shA3).2).1 (p2q' (p2q' shA3).2).2, by_cls (fun sz => (p2q' (shL3 sz)).1) (fun sz => (p2q' (p2q' (shL3 sz)).2).1) (fun sz => (p2q' (p2q' (shL3 sz)).2).2)⟩
noncomputable def sh9 : Sh := ⟨0, [0], 5, [13], [1]⟩
theorem shC9 (b8 b0 : Bool) : chksOK b8 b0 sh9 = true := by kernel_rfl
theorem shE9 (b8 b0 : Bool) : encsOK b8 b0 (sh9.canon.encs true true) = true := shE3 b8 b0
theorem shA9 : pick2 (okAll false false sh9) (pick2 (okAll true false sh9) (okAll true true sh9) false) false = true := by kernel_rfl
theorem shL9 (sz : Int) : pick2 (lawsOK false false sh9 sz) (pick2 (lawsOK true false sh9 sz) (lawsOK true true sh9 sz) false) false = true := by kernel_rfl
theorem shK9 : ShOK sh9 := ⟨by kernel_rfl, shC9, shE9, by_cls (p2q' shA9).1 (p2q' (p2q' shA9).2).1 (p2q' (p2q' shA9).2).2, by_cls (fun sz => (p2q' (shL9 sz)).1) (fun sz => (p2q' (p2q' (shL9 sz)).2).1) (fun sz => (p2q' (p2q' (shL9 sz)).2).2)⟩
noncomputable def sh33 : Sh := ⟨5, [0, 1, 2, 3, 4, 6, 7], 5, [12], [1]⟩
theorem shC33 (b8 b0 : Bool) : chksOK b8 b0 sh33 = true := by kernel_rfl
theorem shE33 (b8 b0 : Bool) : encsOK b8 b0 (sh33.canon.encs true true) = true := by kernel_rfl
theorem shA33 : pick2 (okAll false false sh33) (pick2 (okAll true false sh33) (okAll true true sh33) false) false = true := by kernel_rfl
theorem shL33 (sz : Int) : pick2 (lawsOK false false sh33 sz) (pick2 (lawsOK true false sh33 sz) (lawsOK true true sh33 sz) false) false = true := by kernel_rfl
theorem shK33 : ShOK sh33 := ⟨by kernel_rfl, shC33, shE33, by_cls (p2q' shA33).1 (p2q' (p2q' shA33).2).1 (p2q' (p2q' shA33).2).2, by_cls (fun sz => (p2q' (shL33 sz)).1) (fun sz => (p2q' (p2q' (shL33 sz)).2).1) (fun sz => (p2q' (p2q' (shL33 sz)).2).2)⟩
noncomputable def sh45 : Sh := ⟨5, [12], 5, [4], [1]⟩
theorem shC45 (b8 b0 : Bool) : chksOK b8 b0 sh45 = true := by kernel_rfl
theorem shE45 (b8 b0 : Bool) : encsOK b8 b0 (sh45.canon.encs true true) = true := by kernel_rfl
theorem shA45 : pick2 (okAll false false sh45) (pick2 (okAll true false sh45) (okAll true true sh45) false) false = true := by kernel_rfl
theorem shL45 (sz : Int) : pick2 (lawsOK false false sh45 sz) (pick2 (lawsOK true false sh45 sz) (lawsOK true true sh45 sz) false) false = true := by kernel_rfl
theorem shK45 : ShOK sh45 := ⟨by kernel_rfl, shC45, shE45, by_cls (p2q' shA45).1 (p2q' (p2q' shA45).2).1 (p2q' (p2q' shA45).2).2, by_cls (fun sz => (p2q' (shL45 sz)).1) (fun sz => (p2q' (p2q' (shL45 sz)).2).1) (fun sz => (p2q' (p2q' (shL45 sz)).2).2)⟩
end Go.Ev.Tw
