/- What is known of name.Name and name.Parse, for the evaluator. -/
import Derived.Test.YtfggompceldfgaaGreatDoorZq
namespace Go.Proofs.YtfggompceldfgaaGreatDoor.nm
open Go.RowKit
noncomputable section
def knN (f : FuncId) (args : List Value) : Option Value :=
  Ev.pick2 (Nat.beq f 52) (match args with | [.string s] => some (.tuple #[.int .i64 (parseS s.data.toList).1, .bool (parseS s.data.toList).2]) | _ => none) none
theorem knN_mark (f : FuncId) : knN f Ev.killMark = none := by
  unfold knN
  rw [Ev.pick2_eq]
  split <;> rfl
theorem knN_iter (f : FuncId) (s : ByteArray) : knN f [Ev.iterMark, .string s] = none := by
  unfold knN
  rw [Ev.pick2_eq]
  split <;> rfl
theorem knN_ok : Ev.KnownOk Tryz.prog knN := by
  refine Ev.KnownOk.of knN_mark (fun f s => knN_iter _ s) ?_
  intro f args v h w
  unfold knN at h
  rw [Ev.pick2_eq] at h
  split at h
  · rename_i hf
    obtain rfl := Nat.eq_of_beq_eq_true hf
    split at h
    · cases h; exact parse_in _ w
    · cases h
  · cases h
end
end Go.Proofs.YtfggompceldfgaaGreatDoor.nm
