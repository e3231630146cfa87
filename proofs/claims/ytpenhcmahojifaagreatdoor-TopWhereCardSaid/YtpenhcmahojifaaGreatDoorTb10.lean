/- Shapes of places: what is reckoned, 10. -/
import Derived.Test.YtpenhcmahojifaaGreatDoorGl
set_option linter.unusedVariables false
set_option linter.unusedSimpArgs false
set_option linter.unusedSectionVars false
namespace Go.Ev.Tw
open Go.Proofs
set_option maxRecDepth 1000000
noncomputable def sh15 : Sh := ⟨0, [0], 5, [8, 9, 10, 11, 13, 14, 15], [2, 4, 8]⟩
theorem shC15 (b8 b0 : Bool) : chksOK b8 b0 sh15 = true := by kernel_rfl
theorem shE15 (b8 b0 : Bool) : encsOK b8 b0 (sh15.canon.encs true true) = true := by kernel_rfl
theorem shA15 (b8 b0 : Bool) : okAll b8 b0 sh15 = true := by kernel_rfl
theorem shL15 (b8 b0 : Bool) (sz : Int) : lawsOK b8 b0 sh15 sz = true := by kernel_rfl
theorem shK15 : ShOK sh15 := ⟨by kernel_rfl, shC15, shE15, fun b8 b0 _ => shA15 b8 b0, fun b8 b0 _ => shL15 b8 b0⟩
noncomputable def sh21 : Sh := ⟨5, [5], 5, [12], [1]⟩
theorem shC21 (b8 b0 : Bool) : chksOK b8 b0 sh21 = true := by kernel_rfl
theorem shE21 (b8 b0 : Bool) : encsOK b8 b0 (sh21.canon.encs true true) = true := by kernel_rfl
theorem shA21 : pick2 (okAll false false sh21) (pick2 (okAll true false sh21) (okAll true true sh21) false) false = true := by kernel_rfl
theorem shL21 (sz : Int) : pick2 (lawsOK false false sh21 sz) (pick2 (lawsOK true false sh21 sz) (lawsOK true true sh21 sz) false) false = true := by kernel_rfl
theorem shK21 : ShOK sh21 := ⟨by kernel_rfl, shC21, shE21, by_cls (p2q' shA21).1 (p2q' (p2q' shA21).2).1 (p2q' (p2q' shA21).2).2, by_cls (fun sz => (p2q' (shL21 sz)).1) (fun sz => (p2q' (p2q' (shL21 sz)).2).1) (fun sz => (p2q' (p2q' (shL21 sz)).2).2)⟩
noncomputable def sh27 : Sh := ⟨5, [13], 5, [12], [1]⟩
theorem shC27 (b8 b0 : Bool) : chksOK b8 b0 sh27 = true := by kernel_rfl
theorem shE27 (b8 b0 : Bool) : encsOK b8 b0 (sh27.canon.encs true true) = true := by kernel_rfl
theorem shA27 : pick2 (okAll false false sh27) (pick2 (okAll true false sh27) (okAll true true sh27) false) false = true := by kernel_rfl
theorem shL27 (sz : Int) : pick2 (lawsOK false false sh27 sz) (pick2 (lawsOK true false sh27 sz) (lawsOK true true sh27 sz) false) false = true := by kernel_rfl
theorem shK27 : ShOK sh27 := ⟨by kernel_rfl, shC27, shE27, by_cls (p2q' shA27).1 (p2q' (p2q' shA27).2).1 (p2q' (p2q' shA27).2).2, by_cls (fun sz => (p2q' (shL27 sz)).1) (fun sz => (p2q' (p2q' (shL27 sz)).2).1) (fun sz => (p2q' (p2q' (shL27 sz)).2).2)⟩
noncomputable def sh39 : Sh := ⟨5, [8, 9, 10, 11, 12, 14, 15], 5, [12], [1]⟩
theorem shC39 (b8 b0 : Bool) : chksOK b8 b0 sh39 = true := by kernel_rfl
theorem shE39 (b8 b0 : Bool) : encsOK b8 b0 (sh39.canon.encs true true) = true := by kernel_rfl
theorem shA39 : pick2 (okAll false false sh39) (pick2 (okAll true false sh39) (okAll true true sh39) false) false = true := by kernel_rfl
theorem shL39 (sz : Int) : pick2 (lawsOK false false sh39 sz) (pick2 (lawsOK true false sh39 sz) (lawsOK true true sh39 sz) false) false = true := by kernel_rfl
theorem shK39 : ShOK sh39 := ⟨by kernel_rfl, shC39, shE39, by_cls (p2q' shA39).1 (p2q' (p2q' shA39).2).1 (p2q' (p2q' shA39).2).2, by_cls (fun sz => (p2q' (shL39 sz)).1) (fun sz => (p2q' (p2q' (shL39 sz)).2).1) (fun sz => (p2q' (p2q' (shL39 sz)).2).2)⟩
end Go.Ev.Tw
