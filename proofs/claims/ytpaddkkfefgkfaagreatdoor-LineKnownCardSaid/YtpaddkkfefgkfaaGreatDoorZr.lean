/- What is known of name.Name and name.Parse, for the evaluator. -/
import Derived.Test.YtpaddkkfefgkfaaGreatDoorZq
namespace Go.Proofs.YtpaddkkfefgkfaaGreatDoor.nm
open Go.RowKit
noncomputable section
/-- The name of a number. -/
def nameS (op : Int) : List UInt8 := Ev.pick2 (!Ev.ltI op 1 && !Ev.ltI 322 op) (nms.getD (op.toNat - 1) []) []
theorem nameS_eq (op : Int) : nameS op = if 1 ≤ op ∧ op ≤ 322 then nms.getD (op.toNat - 1) [] else [] := by
  unfold nameS
  rw [Ev.pick2_eq, Ev.ltI_spec, Ev.ltI_spec]
  by_cases h : 1 ≤ op ∧ op ≤ 322
  · rw [if_pos h, if_pos (by simp; omega)]
  · rw [if_neg h, if_neg (by simp; omega)]
theorem name_in (op : Int) (w : World) : Calls Tryz.prog 13 #[.int .i64 op] w fun e w' => e = .returned (.string (mkB (nameS op))) ∧ Below w.heap.size w w' := by
  rw [nameS_eq]
  by_cases h : 1 ≤ op ∧ op ≤ 322
  · rw [if_pos h]; exact name_yes op h w
  · rw [if_neg h]; exact name_no op h w
def knN (f : FuncId) (args : List Value) : Option Value :=
  Ev.pick2 (Nat.beq f 13) (match args with | [.int .i64 op] => some (.string (mkB (nameS op))) | _ => none)
    (Ev.pick2 (Nat.beq f 51) (match args with | [.string s] => some (.tuple #[.int .i64 (parseS s.data.toList).1, .bool (parseS s.data.toList).2]) | _ => none) none)
theorem knN_mark (f : FuncId) : knN f Ev.killMark = none := by
  unfold knN
  rw [Ev.pick2_eq, Ev.pick2_eq]
  split
  · rfl
  · split <;> rfl
theorem knN_iter (f : FuncId) (s : ByteArray) : knN f [Ev.iterMark, .string s] = none := by
  unfold knN
  rw [Ev.pick2_eq, Ev.pick2_eq]
  split
  · rfl
  · split <;> rfl
theorem knN_ok : Ev.KnownOk Tryz.prog knN := by
  refine Ev.KnownOk.of knN_mark (fun f s => knN_iter _ s) ?_
  intro f args v h w
  unfold knN at h
  rw [Ev.pick2_eq] at h
  split at h
  · rename_i hf
    obtain rfl := Nat.eq_of_beq_eq_true hf
    split at h
    · cases h; exact name_in _ w
    · cases h
  · rw [Ev.pick2_eq] at h
    split at h
    · rename_i hf
      obtain rfl := Nat.eq_of_beq_eq_true hf
      split at h
      · cases h; exact parse_in _ w
      · cases h
    · cases h
end
end Go.Proofs.YtpaddkkfefgkfaaGreatDoor.nm
