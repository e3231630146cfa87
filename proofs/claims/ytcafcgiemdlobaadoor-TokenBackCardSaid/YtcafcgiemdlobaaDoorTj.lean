/- Tokens that may be: names. -/
import Derived.Test.YtcafcgiemdlobaaDoorTk6
namespace Go.Proofs.YtcafcgiemdlobaaDoor.lt
open Go.Tv Go.Ev

theorem run82 (gv : Nat → List AV) (n : Int) : enterT (Xg gv) (c0 gv AV) an0 5 82 [.int .u8 n] TMem.empty (fun v _ => some v) = some (.bool (firstI n)) := by
  have h : enterT (Xg gv) (c0 gv AV) an0 5 82 [.int .u8 n] TMem.empty (fun v _ => some v) = pickR n 97 122 (some (.bool true)) (pickR n 65 90 (some (.bool true)) (pick2 (eqI n 95) (some (.bool true)) (some (.bool (eqI n 46))))) := by kernel_rfl
  rw [h]
  simp only [pickR_eq, pick_eq]
  unfold firstI
  split
  · rw [decide_eq_true (by omega)]
  · split
    · rw [decide_eq_true (by omega)]
    · split
      · rw [decide_eq_true (by omega)]
      · refine congrArg (fun x => some (AV.bool x)) ?_
        rw [eqI_spec, Bool.eq_iff_iff, beq_iff_eq, decide_eq_true_eq]; omega
theorem con82 (gv : Nat → List AV) : ConOk (Xg gv) (cfOf (Xg gv) noKnown) 82 (gBy firstI) := con_by (c0_ok gv) (run82 gv)
noncomputable def M4' : List Con := (82, [none], gBy firstI) :: M3
theorem M4'_ok (gv : Nat → List AV) : TabOk (Xg gv) (cfOf (Xg gv) noKnown) M4' := .cons (con82 gv) (M3_ok gv)
noncomputable def d4' (gv : Nat → List AV) (β : Type) : CallT β := callT (Xg gv) (tab M4') inl 200 β 20
theorem d4'_ok (gv : Nat → List AV) (β : Type) : CallTOk (Xg gv) (cfOf (Xg gv) noKnown) (d4' gv β) := callT_ok (M4'_ok gv) (fun _ _ _ => rfl) 200 20 β
theorem run83 (gv : Nat → List AV) (n : Int) : enterT (Xg gv) (d4' gv AV) an0 5 83 [.int .u8 n] TMem.empty (fun v _ => some v) = some (.bool (moreI n)) := by
  have h : enterT (Xg gv) (d4' gv AV) an0 5 83 [.int .u8 n] TMem.empty (fun v _ => some v) = pick2 (firstI n) (some (.bool true)) (pick2 (!ltI n 48) (some (.bool (!ltI 57 n))) (some (.bool false))) := by kernel_rfl
  rw [h, pick2_eq, pick_nlt]
  unfold moreI
  split
  · rename_i hf; rw [hf]; rfl
  · rename_i hf
    have hf : firstI n = false := by simpa using hf
    rw [hf, Bool.false_or]
    split
    · refine congrArg (fun x => some (AV.bool x)) ?_
      rw [ltI_spec, Bool.eq_iff_iff, Bool.not_eq_true', decide_eq_false_iff_not, decide_eq_true_eq]; omega
    · rw [decide_eq_false (by omega)]
theorem con83 (gv : Nat → List AV) : ConOk (Xg gv) (cfOf (Xg gv) noKnown) 83 (gBy moreI) := con_by (d4'_ok gv) (run83 gv)
noncomputable def M5' : List Con := (83, [none], gBy moreI) :: M4'
theorem M5'_ok (gv : Nat → List AV) : TabOk (Xg gv) (cfOf (Xg gv) noKnown) M5' := .cons (con83 gv) (M4'_ok gv)
noncomputable def d5' (gv : Nat → List AV) (β : Type) : CallT β := callT (Xg gv) (tab M5') inl 200 β 20
theorem d5'_ok (gv : Nat → List AV) (β : Type) : CallTOk (Xg gv) (cfOf (Xg gv) noKnown) (d5' gv β) := callT_ok (M5'_ok gv) (fun _ _ _ => rfl) 200 20 β

def pN1 : List Bool := [true, true, false, true, false]
noncomputable def anN1 : FnAnn := ⟨annOf [0, 19, 20] pN1, .none, []⟩
noncomputable def anN2 : FnAnn := ⟨annOf [0, 3] pN1, .none, []⟩
noncomputable def jN1 (gv : Nat → List AV) (s : List UInt8) (r m : Nat) (i : Int) : Option AV := loopN (Xg gv) (d5' gv AV) anN1 r 37 pN1 (fun v _ => some v) m (frOf 29 [(0, .str s), (19, .int .i64 s.length), (20, .int .i64 i)]) TMem.empty
noncomputable def jN2 (gv : Nat → List AV) (s : List UInt8) (r m : Nat) (i : Int) : Option AV := loopN (Xg gv) (d5' gv AV) anN2 r 72 pN1 (fun v _ => some v) m (frOf 29 [(0, .str s), (3, .int .i64 i)]) TMem.empty
theorem all_loop {s : List UInt8} (hs : s.length < 1000000) {p : UInt8 → Bool} {j : Nat → Int → Option AV} {A B : Option AV} (step : ∀ m i, j (m + 1) i = pick2 (ltI i ↑s.length) (Option.rec (motive := fun _ => Option AV) none (fun c => pick2 (!p c) A (j m (IntKind.wrap .i64 (i + 1)))) (getI s i)) B) :
    ∀ (rest pre : List UInt8) (m : Nat), s = pre ++ rest → rest.length < m → j m pre.length = if rest.all p = true then B else A := by
  intro rest
  induction rest with
  | nil =>
    intro pre m he hm
    obtain ⟨m, rfl⟩ : ∃ m', m = m' + 1 := ⟨m - 1, by simp at hm; omega⟩
    have hl : s.length = pre.length := by rw [he]; simp
    rw [step, ltF (by omega)]; rfl
  | cons c rest ih =>
    intro pre m he hm
    obtain ⟨m, rfl⟩ : ∃ m', m = m' + 1 := ⟨m - 1, by simp at hm; omega⟩
    have hl : s.length = pre.length + (rest.length + 1) := by rw [he]; simp
    have hg : getI s (pre.length : Int) = some c := by rw [he]; exact getI_at pre rest c
    have hin := ih (pre ++ [c]) m (by rw [he]; simp) (by simp at hm; omega)
    rw [List.length_append] at hin
    have hin : j m ((pre.length : Int) + 1) = if rest.all p = true then B else A := hin
    rw [step, ltT (by omega), hg, i64_in (n := (pre.length : Int) + 1) (by omega) (by omega)]
    show pick2 (!p c) A (j m ((pre.length : Int) + 1)) = _
    rw [hin]
    cases hp : p c
    · simp [hp]
    · simp [hp]
def moreB (c : UInt8) : Bool := moreI (u8I c)
/-- May a text be a name? -/
def nameB (s : List UInt8) : Bool := match s with
  | [] => false
  | c :: r => decide (r.length < 60) && firstI (u8I c) && (c :: r).all moreB
theorem stepN1 (gv : Nat → List AV) (s : List UInt8) (r m : Nat) (i : Int) : jN1 gv s r (m + 1) i = pick2 (ltI i ↑s.length) (Option.rec (motive := fun _ => Option AV) none (fun c => pick2 (!moreB c) (some (.bool false)) (jN1 gv s r m (IntKind.wrap .i64 (i + 1)))) (getI s i)) (some (.bool true)) := by kernel_rfl
theorem stepN2 (gv : Nat → List AV) (s : List UInt8) (r m : Nat) (i : Int) : jN2 gv s r (m + 1) i = pick2 (ltI i ↑s.length) (Option.rec (motive := fun _ => Option AV) none (fun c => pick2 (!moreB c) (some (.bool false)) (jN2 gv s r m (IntKind.wrap .i64 (i + 1)))) (getI s i)) (some (.bool true)) := by kernel_rfl
theorem enterN1 (gv : Nat → List AV) (s : List UInt8) (r : Nat) : enterT (Xg gv) (d5' gv AV) anN1 r 37 [.str s] TMem.empty (fun v _ => some v) =
    pick2 (eqI ↑s.length 0) (some (.bool false)) (pick2 (ltI 60 ↑s.length) (some (.bool false)) (Option.rec (motive := fun _ => Option AV) none (fun c => pick2 (!firstI (u8I c)) (some (.bool false)) (jN1 gv s r r 0)) (getI s 0))) := by kernel_rfl
theorem enterN2 (gv : Nat → List AV) (s : List UInt8) (r : Nat) : enterT (Xg gv) (d5' gv AV) anN2 r 72 [.str s] TMem.empty (fun v _ => some v) =
    pick2 (ltI ↑s.length 1) (some (.bool false)) (pick2 (ltI 60 ↑s.length) (some (.bool false)) (Option.rec (motive := fun _ => Option AV) none (fun c => pick2 (!firstI (u8I c)) (some (.bool false)) (jN2 gv s r r 1)) (getI s 0))) := by kernel_rfl
theorem first_more {n : Int} (h : firstI n = true) : moreI n = true := by unfold moreI; rw [h]; rfl
theorem runN1 (gv : Nat → List AV) (s : List UInt8) : enterT (Xg gv) (d5' gv AV) anN1 100 37 [.str s] TMem.empty (fun v _ => some v) = some (.bool (nameB s)) := by
  rw [enterN1]
  cases s with
  | nil => rfl
  | cons c r =>
    show _ = some (AV.bool (decide (r.length < 60) && firstI (u8I c) && (c :: r).all moreB))
    rw [eqF (by simp; omega)]
    by_cases h : r.length < 60
    · rw [ltF (by simp; omega), decide_eq_true h]
      have hl := all_loop (s := c :: r) (by simp; omega) (stepN1 gv (c :: r) 100) (c :: r) [] 100 rfl (by simp; omega)
      have hl : jN1 gv (c :: r) 100 100 0 = _ := hl
      rw [hl]
      show pick2 (!firstI (u8I c)) _ _ = _
      cases firstI (u8I c)
      · rfl
      · cases (c :: r).all moreB <;> rfl
    · rw [ltT (by simp; omega), decide_eq_false h]; rfl
theorem runN2 (gv : Nat → List AV) (s : List UInt8) : enterT (Xg gv) (d5' gv AV) anN2 100 72 [.str s] TMem.empty (fun v _ => some v) = some (.bool (nameB s)) := by
  rw [enterN2]
  cases s with
  | nil => rfl
  | cons c r =>
    show _ = some (AV.bool (decide (r.length < 60) && firstI (u8I c) && (c :: r).all moreB))
    rw [ltF (by simp; omega)]
    by_cases h : r.length < 60
    · rw [ltF (by simp; omega), decide_eq_true h]
      have hl := all_loop (s := c :: r) (by simp; omega) (stepN2 gv (c :: r) 100) r [c] 100 rfl (by omega)
      have hl : jN2 gv (c :: r) 100 100 1 = _ := hl
      rw [hl]
      show pick2 (!firstI (u8I c)) _ _ = _
      cases hf : firstI (u8I c)
      · rfl
      · have hm : moreB c = true := first_more hf
        rw [List.all_cons, hm]
        cases r.all moreB <;> rfl
    · rw [ltT (by simp; omega), decide_eq_false h]; rfl
noncomputable def gTx (p : List UInt8 → Bool) (args : List AV) : Option (Bool × List PRes) :=
  match args with
  | [.str s] => some (true, [.val (.bool (p s))])
  | _ => none
theorem con_tx {gv : Nat → List AV} {call : ∀ β, CallT β} (hcall : ∀ β, CallTOk (Xg gv) (cfOf (Xg gv) noKnown) (call β)) {an : FnAnn} {f : FuncId} {p : List UInt8 → Bool} (h : ∀ s, enterT (Xg gv) (call AV) an 100 f [.str s] TMem.empty (fun v _ => some v) = some (.bool (p s))) : ConOk (Xg gv) (cfOf (Xg gv) noKnown) f (gTx p) :=
  con_vals (nk f) hcall fun args rs hg => by
    unfold gTx at hg
    split at hg
    · rename_i s
      simp only [Option.some.injEq, Prod.mk.injEq] at hg
      obtain ⟨h1, rfl⟩ := hg
      exact ⟨[.bool (p s)], an, 100, h s, rfl, rfl⟩
    · cases hg
theorem con37 (gv : Nat → List AV) : ConOk (Xg gv) (cfOf (Xg gv) noKnown) 37 (gTx nameB) := con_tx (d5'_ok gv) (runN1 gv)
theorem con72 (gv : Nat → List AV) : ConOk (Xg gv) (cfOf (Xg gv) noKnown) 72 (gTx nameB) := con_tx (d5'_ok gv) (runN2 gv)
end Go.Proofs.YtcafcgiemdlobaaDoor.lt
