/- mem.Address: what it comes to at a place that may be. -/
import Derived.Test.YtpenhcmahojifaaGreatDoorGa
import Derived.Tactics
import Derived.Tactics2
set_option linter.unusedVariables false
set_option linter.unusedSimpArgs false
set_option linter.unusedSectionVars false
namespace Go.Ev.Tw
open Go.Proofs Go.RowKit
noncomputable section
set_option maxRecDepth 1000000
theorem Emb.one [TokE] {P : Program} {w : World} {A : Nat} {l : List Value} {C : Array Value} {t : TypeId} {fr : Nat × Nat} (h : w.heap[A]? = some (.cells C t fr)) (hl : LR (VRel fun i => if i = 0 then some (A, 0) else none) l C.toList) {H : Mem} (h0 : Mem.ofRows Mem.empty [⟨l, t, true, true⟩] = some H) :
    Emb ⟨P, w.heap.size, 1, 0, w, fun _ => none, fun _ => none, fun _ => none⟩ (fun i => if i = 0 then some (A, 0) else none) H w := by
  obtain ⟨e1, e2, e3⟩ := ofRows_spec _ h0
  have es : H.size = 1 := by rw [e1]; simp [Mem.empty]
  have eg : ∀ i, H.get i = [(⟨l, t, true, true⟩ : Blk)][i]? := fun i => by rw [e3, if_neg (by simp [Mem.empty])]; simp [Mem.empty]
  have one : ∀ i b, H.get i = some b → i = 0 ∧ b = ⟨l, t, true, true⟩ := fun i b hb => by
    rw [eg] at hb
    cases i with
    | zero => simp at hb; exact ⟨rfl, hb.symm⟩
    | succ i => simp at hb
  have hlen : l.length = C.size := by simpa using hl.1
  refine ⟨⟨Below.refl _ _, fun r o h => (by cases h), fun r o h => (by cases h)⟩, Nat.le_refl _, fun i x hx => ?_, by rw [e2, es]; exact Nat.le_refl _, by rw [es]; exact Nat.le_refl _, fun g hg => absurd hg (Nat.not_lt_zero _), fun i b hi _ => ?_, fun i j bi bj r x y hi hli hj hlj hr hr' => ?_, fun i b hi hm => ?_, fun i j bi bj r x y hi hm => ?_, fun i x hx => (by cases hx)⟩
  · rw [es]
    split at hx
    · omega
    · cases hx
  · obtain ⟨rfl, rfl⟩ := one i b hi
    refine ⟨A, 0, C, fr, 0, rfl, .inl ⟨Nat.one_pos, rfl⟩, h, .inl Nat.one_pos, ⟨.inl Nat.one_pos, fun _ => rfl⟩, ⟨0, by simp [hlen], fun _ => rfl⟩, ⟨by simp [hlen], fun j v hv hj => ?_⟩, .inl Nat.one_pos⟩
    have hjl : j < C.size := by rw [← hlen]; exact (List.getElem?_eq_some_iff.1 hv).1
    exact ⟨C[j], by simp [hjl], hl.2 j v C[j] hv (by simp [hjl])⟩
  · rw [(one i bi hi).1, (one j bj hj).1]
  · rw [(one i b hi).2] at hm; cases hm
  · rw [(one i bi hi).2] at hm; cases hm
def w64 (x : Int) : Int := IntKind.i64.wrap x
/-- The sum of three numbers, as the program makes it. -/
def sum3 (a b c : Int) : Int := w64 (w64 (w64 (0 + a) + b) + c)
def env3 (a b c : Int) (k : IntKind) (i : Nat) : Int := match i with
  | 0 => a
  | 1 => b
  | _ => c
@[reducible] def tok3 (a b c : Int) : TokE := { facts := [], rews := [], env := env3 a b c, hid := none, factsOk := fun q hq => (by cases hq), rewsOk := fun q hq => (by cases hq) }
def tv (i : Nat) : Value := tokVar .i64 i
theorem sum_calls (a b c : Int) (w : World) (A : Nat) (fr : Nat × Nat) (h : w.heap[A]? = some (.cells #[.int .i64 a, .int .i64 b, .int .i64 c] 3 fr)) :
    Calls Tryz.prog 20 #[.slice (some ⟨A, 0, none⟩) 3 3] w fun e w' => e = .returned (.int .i64 (sum3 a b c)) ∧ Below w.heap.size w w' := by
  letI : TokE := tok3 a b c
  obtain ⟨H0, h0⟩ : ∃ H0, Mem.ofRows Mem.empty [⟨[tv 0, tv 1, tv 2], 3, true, true⟩] = some H0 := ⟨_, rfl⟩
  have e : H0 = (Mem.ofRows Mem.empty [⟨[tv 0, tv 1, tv 2], 3, true, true⟩]).getD Mem.empty := by rw [h0]; rfl
  have he : Emb ⟨Tryz.prog, w.heap.size, 1, 0, w, fun _ => none, fun _ => none, fun _ => none⟩ (fun i => if i = 0 then some (A, 0) else none) H0 w :=
    Emb.one h (LR.cons (.tok _ _ _ _ _ rfl) (LR.cons (.tok _ _ _ _ _ rfl) (LR.cons (.tok _ _ _ _ _ rfl) LR.nil))) h0
  subst e
  have hp : packB 1 (callA Tryz.prog 0 noKnown 100 20 (memosD noM noD) 20 [.slice (some ⟨0, 0, none⟩) 3 3] ((Mem.ofRows Mem.empty [⟨[tv 0, tv 1, tv 2], 3, true, true⟩]).getD Mem.empty)) (tokBin 1 .i64 (tokBin 1 .i64 (tokBin 1 .i64 (int64 0) (tv 0)) (tv 1)) (tv 2)) [] 0 0 65536 = true := by kernel_rfl
  refine (pack_run (G := 0) (w := w) (args := [.slice (some ⟨A, 0, none⟩) 3 3]) hp fun u H1 hr => (call_okD no_own mixed noKnown_ok.any (noMemo_ok _ []) noD_ok hr rfl (.inl fun h => by cases h)
    (c := ⟨Tryz.prog, w.heap.size, 1, 0, w, fun _ => none, fun _ => none, fun _ => none⟩) rfl rfl (RowsAt.nil w) (Nat.zero_le _) he (LR.cons (.slice 0 0 3 3 A 0 rfl) LR.nil)).mono fun e w' h => ?_).mono ?_
  · obtain ⟨ρ', v', e1, _, e2, e3⟩ := h
    exact ⟨ρ', v', e1, e2, e3⟩
  · rintro e w' ⟨ρ, v', M, rfl, hv, _, _, hM⟩
    refine ⟨?_, hM.below⟩
    have hd : den TokR.env (tokBin 1 .i64 (tokBin 1 .i64 (tokBin 1 .i64 (int64 0) (tv 0)) (tv 1)) (tv 2)) = some (.i64, sum3 a b c) := by rfl
    obtain ⟨n, rfl, h2⟩ := num_rel (k := .i64) rfl hv
    rw [hd] at h2
    cases h2
    rfl
end
end Go.Ev.Tw
