/- RexLays: OverBytes writes over its slice, and does nothing else. -/
import Derived.Test.YtpabmjpkkhmidaaKn
import Derived.WalkKit
import Derived.Below
namespace Go.Proofs.Ytpabmjpkkhmidaa.rexLays
open Go.RowKit
/-- The rows of bytes. -/
def Bytes (C : Array Value) : Prop := ∀ (j : Nat) v, C[j]? = some v → ∃ k : Int, v = .int .u8 k
set_option maxHeartbeats 800000 in
theorem over23 (w : World) (r n : Nat) (t : TypeId) (fr : Nat × Nat) (C : Array Value) (hw : w.heap[r]? = some (.cells C t fr)) (hf : Ev.unfrozen C fr) (hn : n ≤ C.size) (h63 : C.size < 9223372036854775808) (hb : Bytes C) :
    Calls Try.prog 23 #[.slice (some ⟨r, 0, none⟩) n C.size] w fun e w' => e = .returned (.tuple #[]) ∧ ∃ C', w' = Ev.withBlk w r (.cells C' t fr) ∧ C'.size = C.size ∧ Bytes C' := by
  go_enter Try.func23, Try.ntmps23
  go_wp2
  go_loopw [3] (fun i wr => ∃ (k : Nat) (D : Array Value), k ≤ C.size ∧ i = .int .i64 k ∧ wr = Ev.withBlk w r (.cells D t fr) ∧ D.size = C.size ∧ Bytes D)
    (fun i _ => C.size - (intOf i).toNat)
  case atStart => exact ⟨0, C, Nat.zero_le _, rfl, (Ev.withBlk_self w r _ hw).symm, rfl, hb⟩
  case round =>
    obtain ⟨k, D, hk, rfl, rfl, hD, hbD⟩ := hrel
    have hrs : r < w.heap.size := (Array.getElem?_eq_some_iff.1 hw).1
    by_cases hlt : k < C.size
    · obtain ⟨x, hx⟩ : ∃ x : Int, D[k]? = some (.int .u8 x) := by
        have h1 : k < D.size := by omega
        obtain ⟨x, h2⟩ := hbD k D[k] (by simp [h1])
        exact ⟨x, by rw [← h2]; simp [h1]⟩
      have hD2 : (Ev.withBlk w r (.cells D t fr)).heap[r]? = some (.cells D t fr) := Ev.withBlk_same _ _ _ hrs
      have hcell : (Ev.withBlk w r (.cells D t fr)).cell? ⟨r, k, none⟩ = some (.int .u8 x) := by
        simp only [World.cell?, hD2]; exact hx
      have hfz : (Ev.withBlk w r (.cells D t fr)).frozen? ⟨r, k, none⟩ = false := by
        simp only [World.frozen?, hD2]
        rw [← Bool.not_eq_true]; intro hh
        simp at hh
        exact hf.2 k hlt hh
      have hset : ∀ v, (Ev.withBlk w r (.cells D t fr)).setCell ⟨r, k, none⟩ v = Ev.withBlk w r (.cells (D.setIfInBounds k v) t fr) := fun v => by
        rw [Ev.setCell_withBlk v hD2, Ev.withBlk_twice]
      clear hD2
      go_wp2
      refine ⟨⟨k + 1, D.setIfInBounds k (.int .u8 (bits BinOp.xor IntKind.u8 x 90)), by omega, by simp, rfl, by simp [hD], fun j v hj => ?_⟩, by simp [intOf]; omega⟩
      rw [Array.getElem?_setIfInBounds] at hj
      split at hj
      · split at hj
        · cases hj; exact ⟨_, rfl⟩
        · cases hj
      · exact hbD j v hj
    · go_wp2
      go_end0
      exact ⟨rfl, D, rfl, hD, hbD⟩
/-- OverBytes is one that writes over its slice, and does nothing else. -/
theorem killer23 : Ev.Killer Try.prog 23 (.tuple #[]) := fun w r n t fr C h1 h2 h3 h4 _ h6 =>
  (over23 w r n t fr C h1 h2 h3 h4 h6).mono fun e w' ⟨he, C', hw', _, _⟩ => ⟨he, by
    subst hw'
    exact ⟨fun B hB => ⟨rfl, rfl, rfl, by simp [Ev.withBlk], fun k hk => Ev.withBlk_heap _ _ _ _ (by omega)⟩, fun k hk _ => Ev.withBlk_heap _ _ _ _ hk, by simp [Ev.withBlk]⟩⟩
theorem over0 : Ev.answer Try.prog Ev.noKnown 100 20 23 [.slice none 0 0] = some (.tuple #[]) := by kernel_rfl
/-- What is known: the awake functions, and OverBytes. -/
noncomputable def kn2 : Ev.Known := fun f args => Ev.pick2 (Nat.beq f 23) (match args with | [.slice none 0 0] => some (.tuple #[]) | [.pointer (some _)] => some (.tuple #[]) | _ => none) (kn f args)
theorem kn2_23 (args : List Value) : kn2 23 args = (match args with | [.slice none 0 0] => some (.tuple #[]) | [.pointer (some _)] => some (.tuple #[]) | _ => none) := rfl
theorem kn2_else {f : FuncId} (h : f ≠ 23) (args : List Value) : kn2 f args = kn f args := by
  unfold kn2
  rw [Ev.pick2_eq, if_neg (by rw [Nat.beq_eq]; exact h)]
theorem kn2_ok : Ev.KnownOk Try.prog kn2 := by
  refine ⟨fun f args v h hfree w => ?_, fun f u h => ?_⟩
  · by_cases hf : f = 23
    · subst hf
      rw [kn2_23] at h
      split at h
      · cases h; exact Ev.answer_ok noOwn mixed Ev.noKnown_ok over0 w
      · cases hfree
      · cases h
    · rw [kn2_else hf] at h
      exact kn_ok.calls f args v h hfree w
  · by_cases hf : f = 23
    · subst hf
      cases h
      exact killer23
    · rw [kn2_else hf] at h
      cases h
end Go.Proofs.Ytpabmjpkkhmidaa.rexLays
