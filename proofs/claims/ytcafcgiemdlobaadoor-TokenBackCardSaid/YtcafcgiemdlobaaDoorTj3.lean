/- Tokens that may be; how a token is written. -/
import Derived.Test.YtcafcgiemdlobaaDoorTj2
namespace Go.Proofs.YtcafcgiemdlobaaDoor.lt
open Go.Tv Go.Ev

def pV1 : List Bool := [true, false, true, false, true, true, true, true, true, false, false, true, false]
def pV2 : List Bool := [true, true, true, false, true, false]
noncomputable def anV1 : FnAnn := ⟨annOf [1, 27, 28] pV1, .none, []⟩
noncomputable def anV2 : FnAnn := ⟨annOf [1, 3] pV2, .none, []⟩
noncomputable def tokA (y : Piece) : AV := .agg [.int .i64 y.1, .int .i64 y.2.1, .str y.2.2.1, .int .i64 y.2.2.2]
noncomputable def tokM (y : Piece) : TMem := memOf [.cells 32 [.int .i64 y.1, .int .i64 y.2.1, .str y.2.2.1, .int .i64 y.2.2.2]]
noncomputable def jV1 (gv : Nat → List AV) (y : Piece) (r m : Nat) (i : Int) : Option AV := loopN (Xg gv) (d6' gv AV) anV1 r 53 pV1 (fun v _ => some v) m (frOf 62 [(1, .ptr 0 0), (27, .int .i64 y.2.2.1.length), (28, .int .i64 i)]) (tokM y)
noncomputable def jV2 (gv : Nat → List AV) (y : Piece) (r m : Nat) (i : Int) : Option AV := loopN (Xg gv) (d6' gv AV) anV2 r 59 pV2 (fun v _ => some v) m (frOf 73 [(1, .ptr 0 0), (3, .int .i64 i)]) (tokM y)
def plainB (c : UInt8) : Bool := plainI (u8I c) && !eqI (u8I c) 34
noncomputable def fV : Option AV := some (.bool false)
theorem stepV1 (gv : Nat → List AV) (y : Piece) (r m : Nat) (i : Int) : jV1 gv y r (m + 1) i =
    pick2 (ltI i ↑y.2.2.1.length) (Option.rec (motive := fun _ => Option AV) none (fun c => pick2 (eqI (u8I c) 34) fV (Option.rec (motive := fun _ => Option AV) none (fun c => pick2 (!plainI (u8I c)) fV (jV1 gv y r m (IntKind.wrap .i64 (i + 1)))) (getI y.2.2.1 i))) (getI y.2.2.1 i))
      (some (.bool (eqI y.2.1 0))) := by kernel_rfl
theorem stepV2 (gv : Nat → List AV) (y : Piece) (r m : Nat) (i : Int) : jV2 gv y r (m + 1) i =
    pick2 (ltI i ↑y.2.2.1.length) (Option.rec (motive := fun _ => Option AV) none (fun c => pick2 (ltI (u8I c) 32) fV (Option.rec (motive := fun _ => Option AV) none (fun c => pick2 (ltI 126 (u8I c)) fV (Option.rec (motive := fun _ => Option AV) none (fun c => pick2 (eqI (u8I c) 34) fV (jV2 gv y r m (IntKind.wrap .i64 (i + 1)))) (getI y.2.2.1 i))) (getI y.2.2.1 i))) (getI y.2.2.1 i))
      (some (.bool true)) := by kernel_rfl
theorem plain_lt (n : Int) : plainI n = (!ltI n 32 && !ltI 126 n) := by
  unfold plainI
  rw [ltI_spec, ltI_spec, Bool.eq_iff_iff]
  simp
theorem stepV1' (gv : Nat → List AV) (y : Piece) (r m : Nat) (i : Int) : jV1 gv y r (m + 1) i =
    pick2 (ltI i ↑y.2.2.1.length) (Option.rec (motive := fun _ => Option AV) none (fun c => pick2 (!plainB c) fV (jV1 gv y r m (IntKind.wrap .i64 (i + 1)))) (getI y.2.2.1 i)) (some (.bool (eqI y.2.1 0))) := by
  rw [stepV1]
  cases getI y.2.2.1 i with
  | none => rfl
  | some c =>
    show pick2 _ (pick2 (eqI (u8I c) 34) fV (pick2 (!plainI (u8I c)) fV _)) _ = pick2 _ (pick2 (!plainB c) fV _) _
    unfold plainB
    cases eqI (u8I c) 34 <;> cases plainI (u8I c) <;> rfl
theorem stepV2' (gv : Nat → List AV) (y : Piece) (r m : Nat) (i : Int) : jV2 gv y r (m + 1) i =
    pick2 (ltI i ↑y.2.2.1.length) (Option.rec (motive := fun _ => Option AV) none (fun c => pick2 (!plainB c) fV (jV2 gv y r m (IntKind.wrap .i64 (i + 1)))) (getI y.2.2.1 i)) (some (.bool true)) := by
  rw [stepV2]
  cases getI y.2.2.1 i with
  | none => rfl
  | some c =>
    show pick2 _ (pick2 (ltI (u8I c) 32) fV (pick2 (ltI 126 (u8I c)) fV (pick2 (eqI (u8I c) 34) fV _))) _ = pick2 _ (pick2 (!plainB c) fV _) _
    unfold plainB
    rw [plain_lt]
    cases ltI (u8I c) 32 <;> cases ltI 126 (u8I c) <;> cases eqI (u8I c) 34 <;> rfl
/-- May a token be? -/
noncomputable def validB (y : Piece) : Bool := pick2 (eqI y.1 1) (eqI y.2.1 0 && nameB y.2.2.1) (pick2 (eqI y.1 2) (decide (y.2.2.1 = [])) (pick2 (eqI y.1 3) (y.2.2.1.all plainB && eqI y.2.1 0) (pick2 (eqI y.1 4) (sgns.any (fun p => decide (y.2.2.1 = p)) && eqI y.2.1 0) false)))
noncomputable def sgV (s : List UInt8) (n : Int) (l : List (List UInt8)) : Option AV := List.rec (motive := fun _ => Option AV) fV (fun p _ r => pick2 (decide (s = p)) (some (.bool (eqI n 0))) r) l
theorem sgV_eq (s : List UInt8) (n : Int) : ∀ l, sgV s n l = some (.bool (l.any (fun p => decide (s = p)) && eqI n 0))
  | [] => rfl
  | p :: l => by
    show pick2 (decide (s = p)) (some (AV.bool (eqI n 0))) (sgV s n l) = _
    rw [sgV_eq s n l, List.any_cons]
    cases decide (s = p) <;> rfl
noncomputable def treeV (y : Piece) (a b : Option AV) : Option AV :=
  pick2 (eqI y.1 1) (pick2 (eqI y.2.1 0) (some (.bool (nameB y.2.2.1))) fV) (pick2 (eqI y.1 2) (some (.bool (decide (y.2.2.1 = [])))) (pick2 (eqI y.1 3) a (pick2 (eqI y.1 4) b fV)))
theorem enterV1 (y : Piece) (k : Nat) : enterT (Xg gvT) (d6' gvT AV) anV1 (k + 21) 53 [tokA y] TMem.empty (fun v _ => some v) = treeV y (jV1 gvT y (k + 21) (k + 21) 0) (sgV y.2.2.1 y.2.1 sgns) := by kernel_rfl
noncomputable def treeM (y : Piece) (a : Option AV) : Option AV :=
  pick2 (eqI y.1 1) (pick2 (eqI y.2.1 0) (some (.bool (nameB y.2.2.1))) fV) (pick2 (eqI y.1 2) (some (.bool (decide (y.2.2.1 = [])))) (pick2 (eqI y.1 4) (pick2 (eqI y.2.1 0) (pick2 (!decide (y.2.2.1 = [])) (some (.bool (decide (headL y.2.2.1 sgns = y.2.2.1)))) fV) fV)
    (pick2 (!eqI y.1 3) fV (pick2 (!eqI y.2.1 0) fV a))))
theorem enterV2 (gv : Nat → List AV) (y : Piece) (k : Nat) : enterT (Xg gv) (d6' gv AV) anV2 k 59 [tokA y] TMem.empty (fun v _ => some v) = treeM y (jV2 gv y k k 0) := by kernel_rfl
theorem headL_mem {s : List UInt8} : ∀ {l : List (List UInt8)}, headL s l ≠ [] → headL s l ∈ l
  | [], h => absurd rfl h
  | p :: l, h => by
    rw [headL] at h ⊢
    split
    · exact List.mem_cons_self ..
    · rename_i hp
      rw [if_neg hp] at h
      exact List.mem_cons_of_mem _ (headL_mem h)
theorem sgns_head : ∀ s ∈ sgns, s ≠ [] ∧ headL s sgns = s := by decide
theorem signs_same (s : List UInt8) : (!decide (s = []) && decide (headL s sgns = s)) = sgns.any (fun p => decide (s = p)) := by
  rw [Bool.eq_iff_iff]
  simp only [Bool.and_eq_true, Bool.not_eq_true', decide_eq_false_iff_not, decide_eq_true_eq, List.any_eq_true]
  constructor
  · rintro ⟨h1, h2⟩
    exact ⟨s, by have := headL_mem (s := s) (l := sgns) (by rw [h2]; exact h1); rwa [h2] at this, rfl⟩
  · rintro ⟨p, hp, rfl⟩
    exact sgns_head _ hp
theorem runV1 (y : Piece) (k : Nat) (hs : y.2.2.1.length ≤ k) (hk : k ≤ 100000) : enterT (Xg gvT) (d6' gvT AV) anV1 (k + 21) 53 [tokA y] TMem.empty (fun v _ => some v) = some (.bool (validB y)) := by
  have hl := all_loop (s := y.2.2.1) (by omega) (stepV1' gvT y (k + 21)) y.2.2.1 [] (k + 21) rfl (by omega)
  have hl : jV1 gvT y (k + 21) (k + 21) 0 = _ := hl
  rw [enterV1, hl, sgV_eq]
  unfold treeV validB fV
  cases eqI y.1 1 <;> cases eqI y.1 2 <;> cases eqI y.1 3 <;> cases eqI y.1 4 <;> cases eqI y.2.1 0 <;> cases y.2.2.1.all plainB <;> rfl
theorem runV2 (gv : Nat → List AV) (y : Piece) (k : Nat) (hs : y.2.2.1.length ≤ k) (hk : k ≤ 100000) : enterT (Xg gv) (d6' gv AV) anV2 (k + 21) 59 [tokA y] TMem.empty (fun v _ => some v) = some (.bool (validB y)) := by
  have hl := all_loop (s := y.2.2.1) (by omega) (stepV2' gv y (k + 21)) y.2.2.1 [] (k + 21) rfl (by omega)
  have hl : jV2 gv y (k + 21) (k + 21) 0 = _ := hl
  have h4 : eqI y.1 3 = true → eqI y.1 4 = false := fun h => by rw [eqI_spec] at h ⊢; simp at h; rw [h]; rfl
  rw [enterV2, hl]
  unfold treeM validB fV
  rw [← signs_same]
  cases h3 : eqI y.1 3
  · cases eqI y.1 1 <;> cases eqI y.1 2 <;> cases eqI y.1 4 <;> cases eqI y.2.1 0 <;> cases decide (y.2.2.1 = []) <;> cases decide (headL y.2.2.1 sgns = y.2.2.1) <;> rfl
  · rw [h4 h3]
    cases eqI y.1 1 <;> cases eqI y.1 2 <;> cases eqI y.2.1 0 <;> cases y.2.2.1.all plainB <;> rfl
noncomputable def gVal (args : List AV) : Option (Bool × List PRes) :=
  match args with
  | [.agg [.int .i64 k, .int .i64 n, .str s, .int .i64 a]] => some (Nat.ble s.length 1100, [.val (.bool (validB (k, n, s, a)))])
  | _ => none
theorem con_val {gv : Nat → List AV} {an : FnAnn} {f : FuncId} (h : ∀ (y : Piece) (k : Nat), y.2.2.1.length ≤ k → k ≤ 100000 → enterT (Xg gv) (d6' gv AV) an (k + 21) f [tokA y] TMem.empty (fun v _ => some v) = some (.bool (validB y))) : ConOk (Xg gv) (cfOf (Xg gv) noKnown) f gVal :=
  con_vals (nk f) (d6'_ok gv) fun args rs hg => by
    unfold gVal at hg
    split at hg
    · rename_i k n s a
      simp only [Option.some.injEq, Prod.mk.injEq, Nat.ble_eq] at hg
      obtain ⟨h1, rfl⟩ := hg
      exact ⟨[.bool (validB (k, n, s, a))], an, 1100 + 21, h (k, n, s, a) 1100 h1 (by omega), rfl, rfl⟩
    · cases hg
theorem con53 : ConOk (Xg gvT) (cfOf (Xg gvT) noKnown) 53 gVal := con_val runV1
theorem con59 : ConOk (Xg gvT) (cfOf (Xg gvT) noKnown) 59 gVal := con_val (runV2 gvT)
end Go.Proofs.YtcafcgiemdlobaaDoor.lt
