/- name.Parse on the four texts of a source, as a known call. -/
import Derived.Test.YtpenhcmahojifaaGreatDoorGf
import Derived.Test.YtpenhcmahojifaaGreatDoorGa
set_option linter.unusedVariables false
set_option linter.unusedSimpArgs false
set_option linter.unusedSectionVars false
namespace Go.Ev.Tw
open Go.Proofs Go.RowKit
noncomputable section
set_option maxRecDepth 1000000
variable [TokE]
theorem cut_run {s p : ByteArray} (h : answer Tryz.prog kIdx 200 40 369 [.string s, .string p] = some (.tuple #[.string s, .bool false])) (W : World) :
    Calls Tryz.prog 369 #[.string s, .string p] W fun e W' => e = .returned (.tuple #[.string s, .bool false]) ∧ RowKit.Below W.heap.size W W' :=
  answer_ok no_own mixed kIdx_ok h W
theorem noCut_a : Go.Proofs.YtpenhcmahojifaaGreatDoor.nm.NoCut ⟨#[97]⟩ := by
  intro p hp
  simp only [List.mem_cons, List.not_mem_nil, or_false] at hp
  rcases hp with rfl | rfl | rfl
  · exact fun W => cut_run (by kernel_rfl) W
  · exact fun W => cut_run (by kernel_rfl) W
  · exact fun W => cut_run (by kernel_rfl) W
theorem noCut_eax : Go.Proofs.YtpenhcmahojifaaGreatDoor.nm.NoCut ⟨#[101, 97, 120]⟩ := by
  intro p hp
  simp only [List.mem_cons, List.not_mem_nil, or_false] at hp
  rcases hp with rfl | rfl | rfl
  · exact fun W => cut_run (by kernel_rfl) W
  · exact fun W => cut_run (by kernel_rfl) W
  · exact fun W => cut_run (by kernel_rfl) W
/-- Whether a list holds a text. -/
def hasL (s : List UInt8) (l : List (List UInt8)) : Bool := List.rec (motive := fun _ => Bool) false (fun q _ ih => pick2 (decide (q = s)) true ih) l
theorem hasL_mem {s : List UInt8} : ∀ {l : List (List UInt8)}, hasL s l = true → s ∈ l
  | [], h => by cases h
  | q :: l, h => by
    have h : pick2 (decide (q = s)) true (hasL s l) = true := h
    rw [pick2_eq] at h
    split at h
    · rename_i hd
      rw [of_decide_eq_true hd]; exact List.mem_cons_self ..
    · exact List.mem_cons_of_mem _ (hasL_mem h)
/-- The four texts, and what they are. -/
def namesT : List (ByteArray × Value) := [(⟨#[97]⟩, .tuple #[int64 0, .bool false]), (⟨#[97, 100, 100]⟩, .tuple #[int64 1, .bool true]), (⟨#[101, 97, 120]⟩, .tuple #[int64 0, .bool false]), (⟨#[106, 109, 112]⟩, .tuple #[int64 54, .bool true])]
theorem names_ok : ∀ q ∈ namesT, ∀ w : World, Calls Tryz.prog 251 #[.string q.1] w fun e w' => e = .returned q.2 ∧ Below w.heap.size w w' := by
  intro q hq w
  simp only [namesT, List.mem_cons, List.not_mem_nil, or_false] at hq
  rcases hq with rfl | rfl | rfl | rfl
  · refine (Go.Proofs.YtpenhcmahojifaaGreatDoor.nm.parse_in _ (.inr noCut_a) w).mono ?_
    rintro e w' ⟨rfl, hb⟩
    exact ⟨congrArg Ending.returned (by kernel_rfl), hb⟩
  · refine (Go.Proofs.YtpenhcmahojifaaGreatDoor.nm.parse_in _ (.inl (hasL_mem (by kernel_rfl))) w).mono ?_
    rintro e w' ⟨rfl, hb⟩
    exact ⟨congrArg Ending.returned (by kernel_rfl), hb⟩
  · refine (Go.Proofs.YtpenhcmahojifaaGreatDoor.nm.parse_in _ (.inr noCut_eax) w).mono ?_
    rintro e w' ⟨rfl, hb⟩
    exact ⟨congrArg Ending.returned (by kernel_rfl), hb⟩
  · refine (Go.Proofs.YtpenhcmahojifaaGreatDoor.nm.parse_in _ (.inl (hasL_mem (by kernel_rfl))) w).mono ?_
    rintro e w' ⟨rfl, hb⟩
    exact ⟨congrArg Ending.returned (by kernel_rfl), hb⟩
/-- The search for a byte, and the mnemonics of the four texts. -/
def kTop : Known := fun f args => pick2 (Nat.beq f 251)
  (match args with
    | [.string s] => List.rec (motive := fun _ => Option Value) none (fun q _ ih => pick2 (decide (q.1 = s)) (some q.2) ih) namesT
    | _ => none)
  (kIdx f args)
theorem kTop_ok : KnownOk Tryz.prog kTop := .of (fun f => by
    unfold kTop
    rw [pick2_eq]
    split
    · rfl
    · rfl) (fun f s => by
    unfold kTop
    rw [pick2_eq]
    split
    · rfl
    · rfl) fun f args v h w => by
  unfold kTop at h
  rw [pick2_eq] at h
  split at h
  · rename_i hf
    have := Nat.eq_of_beq_eq_true hf
    subst this
    split at h
    case h_2 => cases h
    rename_i s
    have hall := names_ok
    revert h hall
    generalize namesT = l
    intro h hall
    induction l with
    | nil => cases h
    | cons q l ih =>
      simp only [] at h
      rw [pick2_eq] at h
      split at h
      · rename_i hd
        cases h
        rw [← of_decide_eq_true hd]
        exact hall q (List.mem_cons_self ..) w
      · exact ih h fun q' hq' => hall q' (List.mem_cons_of_mem _ hq')
  · exact kIdx_ok.calls f args v h (by
      unfold kIdx at h
      split at h
      · rfl
      · cases h) w (RowsAt.nil w)
end
end Go.Ev.Tw
