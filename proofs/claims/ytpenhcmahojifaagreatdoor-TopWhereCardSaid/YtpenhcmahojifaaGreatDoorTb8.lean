/- Shapes of places: what is reckoned, 8. -/
import Derived.Test.YtpenhcmahojifaaGreatDoorGl
set_option linter.unusedVariables false
set_option linter.unusedSimpArgs false
set_option linter.unusedSectionVars false
namespace Go.Ev.Tw
open Go.Proofs
set_option maxRecDepth 1000000
noncomputable def sh13 : Sh := ⟨8, [0], 0, [0], [0]⟩
theorem shC13 (b8 b0 : Bool) : chksOK b8 b0 sh13 = true := by kernel_rfl
theorem shE13 (b8 b0 : Bool) : encsOK b8 b0 (sh13.canon.encs true true) = true := by kernel_rfl
theorem shA13 (b8 b0 : Bool) : okAll b8 b0 sh13 = true := by kernel_rfl
theorem shL13 (b8 b0 : Bool) (sz : Int) : lawsOK b8 b0 sh13 sz = true := by kernel_rfl
theorem shK13 : ShOK sh13 := ⟨by kernel_rfl, shC13, shE13, fun b8 b0 _ => shA13 b8 b0, fun b8 b0 _ => shL13 b8 b0⟩
noncomputable def sh19 : Sh := ⟨5, [5], 5, [8, 9, 10, 11, 13, 14, 15], [1]⟩
theorem shC19 (b8 b0 : Bool) : chksOK b8 b0 sh19 = true := by kernel_rfl
theorem shE19 (b8 b0 : Bool) : encsOK b8 b0 (sh19.canon.encs true true) = true := by kernel_rfl
theorem shA19 : pick2 (okAll false false sh19) (pick2 (okAll true false sh19) (okAll true true sh19) false) false = true := by kernel_rfl
theorem shL19 (sz : Int) : pick2 (lawsOK false false sh19 sz) (pick2 (lawsOK true false sh19 sz) (lawsOK true true sh19 sz) false) false = true := by kernel_rfl
theorem shK19 : ShOK sh19 := ⟨by kernel_rfl, shC19, shE19, by_cls (p2q' shA19).1 (p2q' (p2q' shA19).2).1 (p2q' (p2q' shA19).2).2, by_cls (fun sz => (p2q' (shL19 sz)).1) (fun sz => (p2q' (p2q' (shL19 sz)).2).1) (fun sz => (p2q' (p2q' (shL19 sz)).2).2)⟩
noncomputable def sh25 : Sh := ⟨5, [13], 5, [8, 9, 10, 11, 13, 14, 15], [1]⟩
theorem shC25 (b8 b0 : Bool) : chksOK b8 b0 sh25 = true := by kernel_rfl
theorem shE25 (b8 b0 : Bool) : encsOK b8 b0 (sh25.canon.encs true true) = true := by kernel_rfl
theorem shA25 : pick2 (okAll false false sh25) (pick2 (okAll true false sh25) (okAll true true sh25) false) false = true := by kernel_rfl
theorem shL25 (sz : Int) : pick2 (lawsOK false false sh25 sz) (pick2 (lawsOK true false sh25 sz) (lawsOK true true sh25 sz) false) false = true := by kernel_rfl
theorem shK25 : ShOK sh25 := ⟨by kernel_rfl, shC25, shE25, by_cls (p2q' shA25).1 (p2q' (p2q' shA25).2).1 (p2q' (p2q' shA25).2).2, by_cls (fun sz => (p2q' (shL25 sz)).1) (fun sz => (p2q' (p2q' (shL25 sz)).2).1) (fun sz => (p2q' (p2q' (shL25 sz)).2).2)⟩
noncomputable def sh37 : Sh := ⟨5, [8, 9, 10, 11, 12, 14, 15], 5, [8, 9, 10, 11, 13, 14, 15], [1]⟩
theorem shC37 (b8 b0 : Bool) : chksOK b8 b0 sh37 = true := by kernel_rfl
theorem shE37 (b8 b0 : Bool) : encsOK b8 b0 (sh37.canon.encs true true) = true := by kernel_rfl
theorem shA37 : pick2 (okAll false false sh37) (pick2 (okAll true false sh37) (okAll true true sh37) false) false = true := by kernel_rfl
theorem shL37 (sz : Int) : pick2 (lawsOK false false sh37 sz) (pick2 (lawsOK true false sh37 sz) (lawsOK true true sh37 sz) false) false = true := by kernel_rfl
theorem shK37 : ShOK sh37 := ⟨by kernel_rfl, shC37, shE37, by_cls (p2q' shA37).1 (p2q' (p2q' shA37).2).1 (p2q' (p2q' shA37).2).2, by_cls (fun sz => (p2q' (shL37 sz)).1) (fun sz => (p2q' (p2q' (shL37 sz)).2).1) (fun sz => (p2q' (p2q' (shL37 sz)).2).2)⟩
end Go.Ev.Tw
