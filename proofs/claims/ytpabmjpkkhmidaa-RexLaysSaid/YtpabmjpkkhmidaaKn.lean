/- What the statements' own examples come to, for the evaluator. -/
import Derived.Test.YtpabmjpkkhmidaaRows
import Derived.Test.YtpabmjpkkhmidaaEc
namespace Go.Proofs.Ytpabmjpkkhmidaa

theorem noOwn : Ev.noOwn Try.prog := Ev.noOwn_of (by kernel_rfl)
theorem mixed : Try.prog.follows .mixedOrders = true := by kernel_rfl
theorem awake04 : Ev.answer Try.prog Ev.noKnown 1000 50 31 [] = some (.bool true) := by kernel_rfl
theorem awake10 : Ev.answer Try.prog Ev.noKnown 1000 50 15 [] = some (.bool true) := by kernel_rfl
theorem awake11 : Ev.answer Try.prog Ev.noKnown 1000 50 47 [] = some (.bool true) := by kernel_rfl

/-- The three functions 'awake' return true. -/
noncomputable def kn : Ev.Known := fun f args => match args with
  | [] => Ev.pick2 (Nat.beq f 31 || Nat.beq f 15 || Nat.beq f 47) (some (.bool true)) none
  | _ => none

theorem kn_ok : Ev.KnownOk Try.prog kn := by
  refine Ev.KnownOk.of (fun _ => rfl) ?_
  intro f args v h w
  unfold kn at h
  split at h
  · rw [Ev.pick2_eq] at h
    split at h
    · rename_i hf
      cases h
      simp only [Bool.or_eq_true, Nat.beq_eq] at hf
      rcases hf with (rfl | rfl) | rfl
      · exact Ev.answer_ok noOwn mixed Ev.noKnown_ok awake04 w
      · exact Ev.answer_ok noOwn mixed Ev.noKnown_ok awake10 w
      · exact Ev.answer_ok noOwn mixed Ev.noKnown_ok awake11 w
    · cases h
  · cases h

def isT : Option Value → Bool
  | some (.bool b) => b
  | _ => false

theorem isT_spec {x : Option Value} (h : isT x = true) : x = some (.bool true) := by
  unfold isT at h
  split at h
  · rw [h]
  · cases h

def both (f : Bool → Bool) : Bool := f false && f true
theorem both_spec {f : Bool → Bool} (h : both f = true) (b : Bool) : f b = true := by
  simp only [both, Bool.and_eq_true] at h
  cases b
  · exact h.1
  · exact h.2

def upto (n : Nat) (f : Nat → Bool) : Bool := (List.range n).all f
theorem upto_spec {n : Nat} {f : Nat → Bool} (h : upto n f = true) {k : Nat} (hk : k < n) : f k = true := List.all_eq_true.1 h k (List.mem_range.2 hk)

/-- An int is below 0, one of the first n numbers, or beyond them. -/
theorem int_parts (n : Nat) (a : Int) : (∃ m, a = Int.negSucc m) ∨ (∃ k, k < n ∧ a = Int.ofNat k) ∨ ∃ m, a = Int.ofNat (m + n) := by
  cases a with
  | ofNat k =>
    by_cases h : k < n
    · exact .inr (.inl ⟨k, h, rfl⟩)
    · exact .inr (.inr ⟨k - n, by rw [Nat.sub_add_cancel (by omega)]⟩)
  | negSucc m => exact .inl ⟨m, rfl⟩

end Go.Proofs.Ytpabmjpkkhmidaa
