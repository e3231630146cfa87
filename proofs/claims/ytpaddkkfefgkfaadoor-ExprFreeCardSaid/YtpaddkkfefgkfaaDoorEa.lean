/- Expressions: the setting; bytes of names; whether a text may be a name. -/
import Derived.Test.YtpaddkkfefgkfaaDoorLyh
import Derived.Test.YtpaddkkfefgkfaaDoorLyg
import Derived.Test.YtpaddkkfefgkfaaDoorRows
import Derived.Test.YtpaddkkfefgkfaaDoorPx
namespace Go.Proofs.YtpaddkkfefgkfaaDoor.ex
open Go.Tv Go.Ev
noncomputable section
def cells0 : List Value := [.string ⟨#[36, 36]⟩, .string ⟨#[60, 60]⟩, .string ⟨#[62, 62]⟩, .string ⟨#[43]⟩, .string ⟨#[45]⟩, .string ⟨#[42]⟩, .string ⟨#[47]⟩, .string ⟨#[37]⟩, .string ⟨#[38]⟩, .string ⟨#[124]⟩, .string ⟨#[94]⟩, .string ⟨#[126]⟩, .string ⟨#[40]⟩, .string ⟨#[41]⟩, .string ⟨#[91]⟩, .string ⟨#[93]⟩, .string ⟨#[44]⟩, .string ⟨#[58]⟩, .string ⟨#[36]⟩]
def gv (g : Nat) : List AV := pick2 (Nat.beq g 0) (cells0.map ofC) []
/-- Slice expressions that go on owning. -/
def trS (f : FuncId) : List Tmp := pick2 (Nat.beq f 8) [71, 47] []
def X0 : Cfg := { P := Tryd.prog, G := 1, gv := gv, trs := trS, ar := fun t => Nat.beq t 53 }
abbrev cf0 := cfOf X0 noKnown
def an0 : FnAnn := ⟨.none, .none, []⟩
def inl : FuncId → Bool := fun _ => true
theorem nk (f : FuncId) (args : List Value) : noKnown f args = none := rfl
theorem noOwn : Ev.noOwn Tryd.prog := Ev.noOwn_of (by kernel_rfl)
theorem mixed : Tryd.prog.follows .mixedOrders = true := by kernel_rfl

/-- Calls by tables of contracts. -/
def cN (M : List Con) (N : List ConN) (β : Type) : CallT β := callU X0 (tab M) (tabN N) inl 400 β 40
theorem cN_ok {M : List Con} {N : List ConN} (hM : TabOk X0 cf0 M) (hN : TabNOk X0 cf0 N) (β : Type) : CallTOk X0 cf0 (cN M N β) := callU_ok hM hN (fun _ _ _ => rfl) 400 40 β
theorem k0 : TabOk X0 cf0 [] := .nil
theorem n0 : TabNOk X0 cf0 [] := .nil

theorem glob {w : World} {rows : List Blk} (h0 : ∃ b, rows[0]? = some b ∧ b.live = true ∧ b.cells = cells0) (hr : RowsAt rows w) : GlobOk X0 (woOf w) := by
  refine glob_rows hr fun g hg he => ?_
  match g, hg, he with
  | 0, _, _ => obtain ⟨b, e1, e2, e3⟩ := h0; exact ⟨b, e1, e2, by rw [e3]; rfl, by rw [e3]; kernel_rfl⟩
  | g + 1, hg, _ => exact absurd hg (by show ¬ g + 1 < 1; omega)

/-! ### Names -/
def firstI (n : Int) : Bool := decide (97 ≤ n ∧ n ≤ 122 ∨ 65 ≤ n ∧ n ≤ 90 ∨ n = 95 ∨ n = 46)
def moreI (n : Int) : Bool := firstI n || decide (48 ≤ n ∧ n ≤ 57)
def gBy (p : Int → Bool) (args : List AV) : Option (Bool × List PRes) :=
  match args with
  | [.int .u8 n] => some (true, [.val (.bool (p n))])
  | _ => none
theorem con_by {call : ∀ β, CallT β} (hcall : ∀ β, CallTOk X0 cf0 (call β)) {f : FuncId} {p : Int → Bool} (h : ∀ n, enterT X0 (call AV) an0 5 f [.int .u8 n] TMem.empty (fun v _ => some v) = some (.bool (p n))) : ConOk X0 cf0 f (gBy p) :=
  con_vals (nk f) hcall fun args rs hg => by
    unfold gBy at hg
    split at hg
    · rename_i n
      simp only [Option.some.injEq, Prod.mk.injEq] at hg
      obtain ⟨h1, rfl⟩ := hg
      exact ⟨[.bool (p n)], an0, 5, h n, rfl, rfl⟩
    · cases hg
theorem run_first (n : Int) : enterT X0 (cN [] [] AV) an0 5 33 [.int .u8 n] TMem.empty (fun v _ => some v) = some (.bool (firstI n)) := by
  have h : enterT X0 (cN [] [] AV) an0 5 33 [.int .u8 n] TMem.empty (fun v _ => some v) = pickR n 97 122 (some (.bool true)) (pickR n 65 90 (some (.bool true)) (pick2 (eqI n 95) (some (.bool true)) (some (.bool (eqI n 46))))) := by kernel_rfl
  rw [h]
  simp only [pickR_eq, pick_eq]
  unfold firstI
  split
  · rw [decide_eq_true (by omega)]
  · split
    · rw [decide_eq_true (by omega)]
    · split
      · rw [decide_eq_true (by omega)]
      · refine congrArg (fun x => some (AV.bool x)) ?_
        rw [eqI_spec, Bool.eq_iff_iff, beq_iff_eq, decide_eq_true_eq]; omega
theorem con_first : ConOk X0 cf0 33 (gBy firstI) := con_by (cN_ok k0 n0) run_first
def M1 : List Con := [(33, [none], gBy firstI)]
theorem M1_ok : TabOk X0 cf0 M1 := .cons con_first .nil
theorem run_more (n : Int) : enterT X0 (cN M1 [] AV) an0 5 38 [.int .u8 n] TMem.empty (fun v _ => some v) = some (.bool (moreI n)) := by
  have h : enterT X0 (cN M1 [] AV) an0 5 38 [.int .u8 n] TMem.empty (fun v _ => some v) = pick2 (firstI n) (some (.bool true)) (pick2 (!ltI n 48) (some (.bool (!ltI 57 n))) (some (.bool false))) := by kernel_rfl
  rw [h, pick2_eq, pick_nlt]
  unfold moreI
  split
  · rename_i hf; rw [hf]; rfl
  · rename_i hf
    have hf : firstI n = false := by simpa using hf
    rw [hf, Bool.false_or]
    split
    · refine congrArg (fun x => some (AV.bool x)) ?_
      rw [ltI_spec, Bool.eq_iff_iff, Bool.not_eq_true', decide_eq_false_iff_not, decide_eq_true_eq]; omega
    · rw [decide_eq_false (by omega)]
theorem con_more : ConOk X0 cf0 38 (gBy moreI) := con_by (cN_ok M1_ok n0) run_more
def M2 : List Con := (38, [none], gBy moreI) :: M1
theorem M2_ok : TabOk X0 cf0 M2 := .cons con_more M1_ok

def pN1 : List Bool := [true, true, false, true, false]
def anN1 : FnAnn := ⟨annOf [0, 19, 20] pN1, .none, []⟩
def jN1 (s : List UInt8) (r m : Nat) (i : Int) : Option AV := loopN X0 (cN M2 [] AV) anN1 r 24 pN1 (fun v _ => some v) m (frOf 29 [(0, .str s), (19, .int .i64 s.length), (20, .int .i64 i)]) TMem.empty
theorem all_loop {s : List UInt8} (hs : s.length < 1000000) {p : UInt8 → Bool} {j : Nat → Int → Option AV} {A B : Option AV} (step : ∀ m i, j (m + 1) i = pick2 (ltI i ↑s.length) (Option.rec (motive := fun _ => Option AV) none (fun c => pick2 (!p c) A (j m (IntKind.wrap .i64 (i + 1)))) (getI s i)) B) :
    ∀ (rest pre : List UInt8) (m : Nat), s = pre ++ rest → rest.length < m → j m pre.length = if rest.all p = true then B else A := by
  intro rest
  induction rest with
  | nil =>
    intro pre m he hm
    obtain ⟨m, rfl⟩ : ∃ m', m = m' + 1 := ⟨m - 1, by simp at hm; omega⟩
    have hl : s.length = pre.length := by rw [he]; simp
    rw [step, ltF (by omega)]; rfl
  | cons c rest ih =>
    intro pre m he hm
    obtain ⟨m, rfl⟩ : ∃ m', m = m' + 1 := ⟨m - 1, by simp at hm; omega⟩
    have hl : s.length = pre.length + (rest.length + 1) := by rw [he]; simp
    have hg : getI s (pre.length : Int) = some c := by rw [he]; exact getI_at pre rest c
    have hin := ih (pre ++ [c]) m (by rw [he]; simp) (by simp at hm; omega)
    rw [List.length_append] at hin
    have hin : j m ((pre.length : Int) + 1) = if rest.all p = true then B else A := hin
    rw [step, ltT (by omega), hg, i64_in (n := (pre.length : Int) + 1) (by omega) (by omega)]
    show pick2 (!p c) A (j m ((pre.length : Int) + 1)) = _
    rw [hin]
    cases hp : p c
    · simp [hp]
    · simp [hp]
def moreB (c : UInt8) : Bool := moreI (u8I c)
/-- May a text be a name? -/
def nameB (s : List UInt8) : Bool := match s with
  | [] => false
  | c :: r => decide (r.length < 60) && firstI (u8I c) && (c :: r).all moreB
theorem stepN1 (s : List UInt8) (r m : Nat) (i : Int) : jN1 s r (m + 1) i = pick2 (ltI i ↑s.length) (Option.rec (motive := fun _ => Option AV) none (fun c => pick2 (!moreB c) (some (.bool false)) (jN1 s r m (IntKind.wrap .i64 (i + 1)))) (getI s i)) (some (.bool true)) := by kernel_rfl
theorem enterN1 (s : List UInt8) (r : Nat) : enterT X0 (cN M2 [] AV) anN1 r 24 [.str s] TMem.empty (fun v _ => some v) =
    pick2 (eqI ↑s.length 0) (some (.bool false)) (pick2 (ltI 60 ↑s.length) (some (.bool false)) (Option.rec (motive := fun _ => Option AV) none (fun c => pick2 (!firstI (u8I c)) (some (.bool false)) (jN1 s r r 0)) (getI s 0))) := by kernel_rfl
theorem runN1 (s : List UInt8) : enterT X0 (cN M2 [] AV) anN1 100 24 [.str s] TMem.empty (fun v _ => some v) = some (.bool (nameB s)) := by
  rw [enterN1]
  cases s with
  | nil => rfl
  | cons c r =>
    show _ = some (AV.bool (decide (r.length < 60) && firstI (u8I c) && (c :: r).all moreB))
    rw [eqF (by simp; omega)]
    by_cases h : r.length < 60
    · rw [ltF (by simp; omega), decide_eq_true h]
      have hl := all_loop (s := c :: r) (by simp; omega) (stepN1 (c :: r) 100) (c :: r) [] 100 rfl (by simp; omega)
      have hl : jN1 (c :: r) 100 100 0 = _ := hl
      rw [hl]
      show pick2 (!firstI (u8I c)) _ _ = _
      cases firstI (u8I c)
      · rfl
      · cases (c :: r).all moreB <;> rfl
    · rw [ltT (by simp; omega), decide_eq_false h]; rfl
def gTx (p : List UInt8 → Bool) (args : List AV) : Option (Bool × List PRes) :=
  match args with
  | [.str s] => some (true, [.val (.bool (p s))])
  | _ => none
theorem con_name : ConOk X0 cf0 24 (gTx nameB) :=
  con_vals (nk 24) (cN_ok M2_ok n0) fun args rs hg => by
    unfold gTx at hg
    split at hg
    · rename_i s
      simp only [Option.some.injEq, Prod.mk.injEq] at hg
      obtain ⟨h1, rfl⟩ := hg
      exact ⟨[.bool (nameB s)], anN1, 100, runN1 s, rfl, rfl⟩
    · cases hg
def M3 : List Con := (24, [none], gTx nameB) :: M2
theorem M3_ok : TabOk X0 cf0 M3 := .cons con_name M2_ok
end
end Go.Proofs.YtpaddkkfefgkfaaDoor.ex
