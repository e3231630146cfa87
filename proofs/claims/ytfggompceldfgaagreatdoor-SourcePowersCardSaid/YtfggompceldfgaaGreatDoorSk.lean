/- What is known of names, registers and the lines of a source, for the evaluator. -/
import Derived.Test.YtfggompceldfgaaGreatDoorZg
import Derived.Test.YtfggompceldfgaaGreatDoorSl
import Derived.Test.YtfggompceldfgaaGreatDoorSt
namespace Go.Proofs.YtfggompceldfgaaGreatDoor.rg
open Go.Tv Go.Ev
noncomputable section
/-- The lines of a source. -/
def linesV (s : ByteArray) : List Value := (sl.splitA [] [] s.data.toList).map fun x => .string ⟨(sl.trimS x).toArray⟩
def isId (f : FuncId) : Bool := Nat.beq f (iterId 54)
def kS (f : FuncId) (args : List Value) : Option Value :=
  pick2 (Nat.beq f (iterId 54)) (match args with
    | [.pointer (some ⟨_, _, some _⟩), .string s] => pick2 (Nat.ble (nm.lenA s.data.toList 0) 1000000) (some (.tuple (linesV s).toArray)) none
    | _ => none) (kR f args)
theorem linesV_eq (s : ByteArray) : linesV s = ((sl.splitA [] [] s.data.toList).map sl.mkB).map fun x => Value.string ⟨(sl.trimS x.data.toList).toArray⟩ := by
  unfold linesV
  rw [List.map_map]
  rfl
theorem kS_ok {GR : List Blk} {b1 : Blk} (hb : GR[8]? = some b1) (hl : b1.live = true) (hc : b1.cells = space) : KnownOkR Tryz.prog GR kS := by
  have hR := kR_ok hb hl hc
  refine ⟨fun f args v h hfree w hw => ?_, fun f u h => ?_, fun f s items h hfr => ?_⟩
  · unfold kS at h
    rw [pick2_eq] at h
    split at h
    · split at h
      · cases hfree
      · cases h
    · exact hR.calls f args v h hfree w hw
  · unfold kS at h
    rw [pick2_eq] at h
    split at h
    · cases h
    · exact hR.kills f u h
  · unfold kS at h
    rw [pick2_eq] at h
    split at h
    · rename_i hf
      have hf := Nat.eq_of_beq_eq_true hf
      have hf : f = 54 := by
        exact Nat.add_left_cancel (n := 4294967296) hf
      subst hf
      simp only [iterMark] at h
      rw [pick2_eq] at h
      split at h
      · rename_i hz
        cases h
        have e : (linesV s).toArray.toList = linesV s := rfl
        rw [e, linesV_eq]
        exact sl.lines_in (fun x => ⟨(sl.trimS x.data.toList).toArray⟩) (fun x w hx => sl.calls_trim x hx w) nm.mixed s (nm.size_of s hz)
      · cases h
    · exact hR.iters f s items h hfr
end
end Go.Proofs.YtfggompceldfgaaGreatDoor.rg
