/- Registers: contracts of Parse, Name, Valid, Low, High, Size, All. -/
import Derived.Test.YtpajehginfbamaaDoorRg
namespace Go.Proofs.YtpajehginfbamaaDoor.rg
open Go.Tv Go.Ev
noncomputable section

def fnd (s : List UInt8) : List (List UInt8 × Int × Int) → Int × Int × Bool
  | [] => (0, 0, false)
  | e :: l => pick2 (sameB s e.1) (e.2.1, e.2.2, true) (fnd s l)
/-- What Parse answers. -/
def pR (s : List UInt8) : Int × Int × Bool := fnd s tbl

theorem trP_eq {β : Type} (s : List UInt8) (k : Int → Int → Bool → Option β) : ∀ l, trP s k l = k (fnd s l).1 (fnd s l).2.1 (fnd s l).2.2
  | [] => rfl
  | e :: l => by
    simp only [trP, fnd, trP_eq s k l, pick2_eq]
    split <;> rfl

def gParse (args : List AV) : Option (Bool × List PRes) :=
  match args with
  | [.str s] => some (true, [.val (.agg [.int .i64 (pR s).1, .int .i64 (pR s).2.1]), .val (.bool (pR s).2.2)])
  | _ => none
theorem con30 : ConOk X0 (cfOf X0 noKnown) 30 gParse :=
  con_vals (nk 30) c1_ok fun args rs hg => by
    unfold gParse at hg
    split at hg
    · rename_i s
      simp only [Option.some.injEq, Prod.mk.injEq] at hg
      obtain ⟨h1, rfl⟩ := hg
      exact ⟨[.agg [.int .i64 (pR s).1, .int .i64 (pR s).2.1], .bool (pR s).2.2], an0, 20, (parse_tree s some).trans (trP_eq s _ tbl), rfl, rfl⟩
    · cases hg

/-! By classes and numbers -/
def allN (p : Nat → Bool) (lo : Nat) (n : Nat) : Bool := Nat.rec (motive := fun _ => Nat → Bool) (fun _ => true) (fun _ go lo => pick2 (p lo) (go (lo + 1)) false) n lo

theorem allN_spec {p : Nat → Bool} : ∀ {n lo : Nat}, allN p lo n = true → ∀ i, lo ≤ i → i < lo + n → p i = true
  | 0, lo, _, i, h1, h2 => by omega
  | n + 1, lo, h, i, h1, h2 => by
    have h : pick2 (p lo) (allN p (lo + 1) n) false = true := h
    rw [pick2_eq] at h
    split at h
    · rename_i hp
      by_cases hi : i = lo
      · rw [hi]; exact hp
      · exact allN_spec h i (by omega) (by omega)
    · cases h

/-- A reckoning over all registers and whatever is none. -/
structure Each (p : Int → Int → Bool) : Prop where
  a : ∀ m n : Nat, (p (Int.negSucc m) (Int.negSucc n) && p (Int.negSucc m) (Int.ofNat n) && p 0 (Int.negSucc n) && p 0 (Int.ofNat n) && p (Int.ofNat (m + 9)) (Int.negSucc n) && p (Int.ofNat (m + 9)) (Int.ofNat n)) = true
  b : ∀ n : Nat, allN (fun c => p (Int.ofNat c) (Int.negSucc n) && p (Int.ofNat c) (Int.ofNat (n + 16))) 1 8 = true
  c1 : allN (fun n => p 1 (Int.ofNat n)) 0 16 = true
  c2 : allN (fun n => p 2 (Int.ofNat n)) 0 16 = true
  c3 : allN (fun n => p 3 (Int.ofNat n)) 0 16 = true
  c4 : allN (fun n => p 4 (Int.ofNat n)) 0 16 = true
  c5 : allN (fun n => p 5 (Int.ofNat n)) 0 16 = true
  c6 : allN (fun n => p 6 (Int.ofNat n)) 0 16 = true
  c7 : allN (fun n => p 7 (Int.ofNat n)) 0 16 = true
  c8 : allN (fun n => p 8 (Int.ofNat n)) 0 16 = true

theorem Each.all {p : Int → Int → Bool} (h : Each p) (c n : Int) : p c n = true := by
  have ha := h.a
  have hb := h.b
  simp only [Bool.and_eq_true] at ha
  cases c with
  | negSucc m =>
    cases n with
    | negSucc n => exact (ha m n).1.1.1.1.1
    | ofNat n => exact (ha m n).1.1.1.1.2
  | ofNat c =>
    by_cases h9 : 9 ≤ c
    · obtain ⟨m, rfl⟩ : ∃ m, c = m + 9 := ⟨c - 9, by omega⟩
      cases n with
      | negSucc n => exact (ha m n).1.2
      | ofNat n => exact (ha m n).2
    · by_cases h0 : c = 0
      · subst h0
        cases n with
        | negSucc n => exact (ha 0 n).1.1.1.2
        | ofNat n => exact (ha 0 n).1.1.2
      · cases n with
        | negSucc n =>
          have := allN_spec (hb n) c (by omega) (by omega)
          simp only [Bool.and_eq_true] at this
          exact this.1
        | ofNat n =>
          by_cases h16 : 16 ≤ n
          · obtain ⟨m, rfl⟩ : ∃ m, n = m + 16 := ⟨n - 16, by omega⟩
            have := allN_spec (hb m) c (by omega) (by omega)
            simp only [Bool.and_eq_true] at this
            exact this.2
          · have : c = 1 ∨ c = 2 ∨ c = 3 ∨ c = 4 ∨ c = 5 ∨ c = 6 ∨ c = 7 ∨ c = 8 := by omega
            rcases this with rfl | rfl | rfl | rfl | rfl | rfl | rfl | rfl
            · exact allN_spec h.c1 n (by omega) (by omega)
            · exact allN_spec h.c2 n (by omega) (by omega)
            · exact allN_spec h.c3 n (by omega) (by omega)
            · exact allN_spec h.c4 n (by omega) (by omega)
            · exact allN_spec h.c5 n (by omega) (by omega)
            · exact allN_spec h.c6 n (by omega) (by omega)
            · exact allN_spec h.c7 n (by omega) (by omega)
            · exact allN_spec h.c8 n (by omega) (by omega)

def firstR (c : Int) : Int := pick2 (eqI c 2) 4 0
def countR (c : Int) : Int := pick2 (eqI c 2) 4 (pick2 (eqI c 8) 1 (pick2 (!ltI c 1 && !ltI 7 c) 16 0))
def validR (c n : Int) : Bool := !ltI n (firstR c) && ltI n (firstR c + countR c)
def nthS (l : List (List UInt8)) (i : Int) : List UInt8 := Option.rec (motive := fun _ => List UInt8) [] (fun s => s) (getI l i)
def nameR (c n : Int) : List UInt8 := pick2 (validR c n) (nthS (namesL c) (n - firstR c)) []
def lowR (c n : Int) : Int := pick2 (validR c n) (Int.ofNat (Nat.mod n.toNat 8)) 0
def highR (c n : Int) : Int := pick2 (validR c n) (Int.ofNat (Nat.div n.toNat 8)) 0
def sizeR (c n : Int) : Int := pick2 (validR c n) (pick2 (eqI c 7) 32 (pick2 (eqI c 6) 16 (pick2 (eqI c 5 || eqI c 8) 8 (pick2 (eqI c 4) 4 (pick2 (eqI c 3) 2 1))))) 0

def run1 (f : FuncId) (c n : Int) : Option (AV × TMem) := enterT X0 (c1 (AV × TMem)) an0 20 f [.agg [.int .i64 c, .int .i64 n]] TMem.empty (fun v H => some (v, H))
def ok32 (c n : Int) : Bool := leaves [.val (.str (nameR c n))] (run1 32 c n)
def ok40 (c n : Int) : Bool := leaves [.val (.bool (validR c n))] (run1 40 c n)
def ok35 (c n : Int) : Bool := leaves [.val (.int .i64 (lowR c n))] (run1 35 c n)
def ok36 (c n : Int) : Bool := leaves [.val (.int .i64 (highR c n))] (run1 36 c n)
def ok42 (c n : Int) : Bool := leaves [.val (.int .i64 (sizeR c n))] (run1 42 c n)
theorem ok32a : ∀ m n : Nat, (ok32 (Int.negSucc m) (Int.negSucc n) && ok32 (Int.negSucc m) (Int.ofNat n) && ok32 0 (Int.negSucc n) && ok32 0 (Int.ofNat n) && ok32 (Int.ofNat (m + 9)) (Int.negSucc n) && ok32 (Int.ofNat (m + 9)) (Int.ofNat n)) = true := by intros; kernel_rfl
theorem ok32b : ∀ n : Nat, allN (fun c => ok32 (Int.ofNat c) (Int.negSucc n) && ok32 (Int.ofNat c) (Int.ofNat (n + 16))) 1 8 = true := by intros; kernel_rfl
theorem ok32c1 : allN (fun n => ok32 1 (Int.ofNat n)) 0 16 = true := by kernel_rfl
theorem ok32c2 : allN (fun n => ok32 2 (Int.ofNat n)) 0 16 = true := by kernel_rfl
theorem ok32c3 : allN (fun n => ok32 3 (Int.ofNat n)) 0 16 = true := by kernel_rfl
theorem ok32c4 : allN (fun n => ok32 4 (Int.ofNat n)) 0 16 = true := by kernel_rfl
theorem ok32c5 : allN (fun n => ok32 5 (Int.ofNat n)) 0 16 = true := by kernel_rfl
theorem ok32c6 : allN (fun n => ok32 6 (Int.ofNat n)) 0 16 = true := by kernel_rfl
theorem ok32c7 : allN (fun n => ok32 7 (Int.ofNat n)) 0 16 = true := by kernel_rfl
theorem ok32c8 : allN (fun n => ok32 8 (Int.ofNat n)) 0 16 = true := by kernel_rfl
theorem each32 : Each ok32 := ⟨ok32a, ok32b, ok32c1, ok32c2, ok32c3, ok32c4, ok32c5, ok32c6, ok32c7, ok32c8⟩

theorem ok40a : ∀ m n : Nat, (ok40 (Int.negSucc m) (Int.negSucc n) && ok40 (Int.negSucc m) (Int.ofNat n) && ok40 0 (Int.negSucc n) && ok40 0 (Int.ofNat n) && ok40 (Int.ofNat (m + 9)) (Int.negSucc n) && ok40 (Int.ofNat (m + 9)) (Int.ofNat n)) = true := by intros; kernel_rfl
theorem ok40b : ∀ n : Nat, allN (fun c => ok40 (Int.ofNat c) (Int.negSucc n) && ok40 (Int.ofNat c) (Int.ofNat (n + 16))) 1 8 = true := by intros; kernel_rfl
theorem ok40c1 : allN (fun n => ok40 1 (Int.ofNat n)) 0 16 = true := by kernel_rfl
theorem ok40c2 : allN (fun n => ok40 2 (Int.ofNat n)) 0 16 = true := by kernel_rfl
theorem ok40c3 : allN (fun n => ok40 3 (Int.ofNat n)) 0 16 = true := by kernel_rfl
theorem ok40c4 : allN (fun n => ok40 4 (Int.ofNat n)) 0 16 = true := by kernel_rfl
theorem ok40c5 : allN (fun n => ok40 5 (Int.ofNat n)) 0 16 = true := by kernel_rfl
theorem ok40c6 : allN (fun n => ok40 6 (Int.ofNat n)) 0 16 = true := by kernel_rfl
theorem ok40c7 : allN (fun n => ok40 7 (Int.ofNat n)) 0 16 = true := by kernel_rfl
theorem ok40c8 : allN (fun n => ok40 8 (Int.ofNat n)) 0 16 = true := by kernel_rfl
theorem each40 : Each ok40 := ⟨ok40a, ok40b, ok40c1, ok40c2, ok40c3, ok40c4, ok40c5, ok40c6, ok40c7, ok40c8⟩

theorem ok35a : ∀ m n : Nat, (ok35 (Int.negSucc m) (Int.negSucc n) && ok35 (Int.negSucc m) (Int.ofNat n) && ok35 0 (Int.negSucc n) && ok35 0 (Int.ofNat n) && ok35 (Int.ofNat (m + 9)) (Int.negSucc n) && ok35 (Int.ofNat (m + 9)) (Int.ofNat n)) = true := by intros; kernel_rfl
theorem ok35b : ∀ n : Nat, allN (fun c => ok35 (Int.ofNat c) (Int.negSucc n) && ok35 (Int.ofNat c) (Int.ofNat (n + 16))) 1 8 = true := by intros; kernel_rfl
theorem ok35c1 : allN (fun n => ok35 1 (Int.ofNat n)) 0 16 = true := by kernel_rfl
theorem ok35c2 : allN (fun n => ok35 2 (Int.ofNat n)) 0 16 = true := by kernel_rfl
theorem ok35c3 : allN (fun n => ok35 3 (Int.ofNat n)) 0 16 = true := by kernel_rfl
theorem ok35c4 : allN (fun n => ok35 4 (Int.ofNat n)) 0 16 = true := by kernel_rfl
theorem ok35c5 : allN (fun n => ok35 5 (Int.ofNat n)) 0 16 = true := by kernel_rfl
theorem ok35c6 : allN (fun n => ok35 6 (Int.ofNat n)) 0 16 = true := by kernel_rfl
theorem ok35c7 : allN (fun n => ok35 7 (Int.ofNat n)) 0 16 = true := by kernel_rfl
theorem ok35c8 : allN (fun n => ok35 8 (Int.ofNat n)) 0 16 = true := by kernel_rfl
theorem each35 : Each ok35 := ⟨ok35a, ok35b, ok35c1, ok35c2, ok35c3, ok35c4, ok35c5, ok35c6, ok35c7, ok35c8⟩

theorem ok36a : ∀ m n : Nat, (ok36 (Int.negSucc m) (Int.negSucc n) && ok36 (Int.negSucc m) (Int.ofNat n) && ok36 0 (Int.negSucc n) && ok36 0 (Int.ofNat n) && ok36 (Int.ofNat (m + 9)) (Int.negSucc n) && ok36 (Int.ofNat (m + 9)) (Int.ofNat n)) = true := by intros; kernel_rfl
theorem ok36b : ∀ n : Nat, allN (fun c => ok36 (Int.ofNat c) (Int.negSucc n) && ok36 (Int.ofNat c) (Int.ofNat (n + 16))) 1 8 = true := by intros; kernel_rfl
theorem ok36c1 : allN (fun n => ok36 1 (Int.ofNat n)) 0 16 = true := by kernel_rfl
theorem ok36c2 : allN (fun n => ok36 2 (Int.ofNat n)) 0 16 = true := by kernel_rfl
theorem ok36c3 : allN (fun n => ok36 3 (Int.ofNat n)) 0 16 = true := by kernel_rfl
theorem ok36c4 : allN (fun n => ok36 4 (Int.ofNat n)) 0 16 = true := by kernel_rfl
theorem ok36c5 : allN (fun n => ok36 5 (Int.ofNat n)) 0 16 = true := by kernel_rfl
theorem ok36c6 : allN (fun n => ok36 6 (Int.ofNat n)) 0 16 = true := by kernel_rfl
theorem ok36c7 : allN (fun n => ok36 7 (Int.ofNat n)) 0 16 = true := by kernel_rfl
theorem ok36c8 : allN (fun n => ok36 8 (Int.ofNat n)) 0 16 = true := by kernel_rfl
theorem each36 : Each ok36 := ⟨ok36a, ok36b, ok36c1, ok36c2, ok36c3, ok36c4, ok36c5, ok36c6, ok36c7, ok36c8⟩

theorem ok42a : ∀ m n : Nat, (ok42 (Int.negSucc m) (Int.negSucc n) && ok42 (Int.negSucc m) (Int.ofNat n) && ok42 0 (Int.negSucc n) && ok42 0 (Int.ofNat n) && ok42 (Int.ofNat (m + 9)) (Int.negSucc n) && ok42 (Int.ofNat (m + 9)) (Int.ofNat n)) = true := by intros; kernel_rfl
theorem ok42b : ∀ n : Nat, allN (fun c => ok42 (Int.ofNat c) (Int.negSucc n) && ok42 (Int.ofNat c) (Int.ofNat (n + 16))) 1 8 = true := by intros; kernel_rfl
theorem ok42c1 : allN (fun n => ok42 1 (Int.ofNat n)) 0 16 = true := by kernel_rfl
theorem ok42c2 : allN (fun n => ok42 2 (Int.ofNat n)) 0 16 = true := by kernel_rfl
theorem ok42c3 : allN (fun n => ok42 3 (Int.ofNat n)) 0 16 = true := by kernel_rfl
theorem ok42c4 : allN (fun n => ok42 4 (Int.ofNat n)) 0 16 = true := by kernel_rfl
theorem ok42c5 : allN (fun n => ok42 5 (Int.ofNat n)) 0 16 = true := by kernel_rfl
theorem ok42c6 : allN (fun n => ok42 6 (Int.ofNat n)) 0 16 = true := by kernel_rfl
theorem ok42c7 : allN (fun n => ok42 7 (Int.ofNat n)) 0 16 = true := by kernel_rfl
theorem ok42c8 : allN (fun n => ok42 8 (Int.ofNat n)) 0 16 = true := by kernel_rfl
theorem each42 : Each ok42 := ⟨ok42a, ok42b, ok42c1, ok42c2, ok42c3, ok42c4, ok42c5, ok42c6, ok42c7, ok42c8⟩

def gName (args : List AV) : Option (Bool × List PRes) :=
  match args with
  | [.agg [.int .i64 c, .int .i64 n]] => some (true, [.val (.str (nameR c n))])
  | _ => none
theorem con32 : ConOk X0 (cfOf X0 noKnown) 32 gName :=
  con_runs (nk 32) c1_ok an0 20 fun args rs hg => by
    unfold gName at hg
    split at hg
    · rename_i c n
      simp only [Option.some.injEq, Prod.mk.injEq] at hg
      obtain ⟨h1, rfl⟩ := hg
      have h := each32.all c n
      unfold ok32 run1 at h
      exact h
    · cases hg

def gValid (args : List AV) : Option (Bool × List PRes) :=
  match args with
  | [.agg [.int .i64 c, .int .i64 n]] => some (true, [.val (.bool (validR c n))])
  | _ => none
theorem con40 : ConOk X0 (cfOf X0 noKnown) 40 gValid :=
  con_runs (nk 40) c1_ok an0 20 fun args rs hg => by
    unfold gValid at hg
    split at hg
    · rename_i c n
      simp only [Option.some.injEq, Prod.mk.injEq] at hg
      obtain ⟨h1, rfl⟩ := hg
      have h := each40.all c n
      unfold ok40 run1 at h
      exact h
    · cases hg

def gLow (args : List AV) : Option (Bool × List PRes) :=
  match args with
  | [.agg [.int .i64 c, .int .i64 n]] => some (true, [.val (.int .i64 (lowR c n))])
  | _ => none
theorem con35 : ConOk X0 (cfOf X0 noKnown) 35 gLow :=
  con_runs (nk 35) c1_ok an0 20 fun args rs hg => by
    unfold gLow at hg
    split at hg
    · rename_i c n
      simp only [Option.some.injEq, Prod.mk.injEq] at hg
      obtain ⟨h1, rfl⟩ := hg
      have h := each35.all c n
      unfold ok35 run1 at h
      exact h
    · cases hg

def gHigh (args : List AV) : Option (Bool × List PRes) :=
  match args with
  | [.agg [.int .i64 c, .int .i64 n]] => some (true, [.val (.int .i64 (highR c n))])
  | _ => none
theorem con36 : ConOk X0 (cfOf X0 noKnown) 36 gHigh :=
  con_runs (nk 36) c1_ok an0 20 fun args rs hg => by
    unfold gHigh at hg
    split at hg
    · rename_i c n
      simp only [Option.some.injEq, Prod.mk.injEq] at hg
      obtain ⟨h1, rfl⟩ := hg
      have h := each36.all c n
      unfold ok36 run1 at h
      exact h
    · cases hg

def gSize (args : List AV) : Option (Bool × List PRes) :=
  match args with
  | [.agg [.int .i64 c, .int .i64 n]] => some (true, [.val (.int .i64 (sizeR c n))])
  | _ => none
theorem con42 : ConOk X0 (cfOf X0 noKnown) 42 gSize :=
  con_runs (nk 42) c1_ok an0 20 fun args rs hg => by
    unfold gSize at hg
    split at hg
    · rename_i c n
      simp only [Option.some.injEq, Prod.mk.injEq] at hg
      obtain ⟨h1, rfl⟩ := hg
      have h := each42.all c n
      unfold ok42 run1 at h
      exact h
    · cases hg


def K2 : KT2 := fun f => pick2 (Nat.beq f 30) (some ([none], gParse)) <| pick2 (Nat.beq f 32) (some ([none], gName)) <| pick2 (Nat.beq f 40) (some ([none], gValid)) <| pick2 (Nat.beq f 35) (some ([none], gLow)) <| pick2 (Nat.beq f 36) (some ([none], gHigh)) <| pick2 (Nat.beq f 42) (some ([none], gSize)) none
def c2 (β : Type) : CallT β := callT X0 K2 inl 200 β 20
theorem K2_ok (id : FuncId) (sig : List (Option Ty)) (g : List AV → Option (Bool × List PRes)) (h : K2 id = some (sig, g)) : ConOk X0 (cfOf X0 noKnown) id g := by
  simp only [K2, pick2_eq, Nat.beq_eq] at h
  by_cases h30 : id = 30
  · rw [if_pos h30] at h; cases h; subst h30; exact con30
  rw [if_neg h30] at h
  by_cases h32 : id = 32
  · rw [if_pos h32] at h; cases h; subst h32; exact con32
  rw [if_neg h32] at h
  by_cases h40 : id = 40
  · rw [if_pos h40] at h; cases h; subst h40; exact con40
  rw [if_neg h40] at h
  by_cases h35 : id = 35
  · rw [if_pos h35] at h; cases h; subst h35; exact con35
  rw [if_neg h35] at h
  by_cases h36 : id = 36
  · rw [if_pos h36] at h; cases h; subst h36; exact con36
  rw [if_neg h36] at h
  by_cases h42 : id = 42
  · rw [if_pos h42] at h; cases h; subst h42; exact con42
  rw [if_neg h42] at h
  cases h
theorem c2_ok (β : Type) : CallTOk X0 (cfOf X0 noKnown) (c2 β) := callT_ok K2_ok (fun _ _ _ => rfl) 200 20 β

/-! The examples -/
theorem awake_run : leaves [.val (.bool true)] (enterT X0 (c2 (AV × TMem)) an0 20 34 [] TMem.empty (fun v H => some (v, H))) = true := by kernel_rfl
theorem known_run : leaves [.val (.bool true)] (enterT X0 (c2 (AV × TMem)) an0 20 7 [] TMem.empty (fun v H => some (v, H))) = true := by kernel_rfl
theorem con_closed {f : FuncId} (h : leaves [.val (.bool true)] (enterT X0 (c2 (AV × TMem)) an0 20 f [] TMem.empty (fun v H => some (v, H))) = true) : ConOk X0 (cfOf X0 noKnown) f gYes :=
  con_runs (nk f) c2_ok an0 20 fun args rs hg => by
    unfold gYes at hg
    split at hg
    · simp only [Option.some.injEq, Prod.mk.injEq] at hg
      obtain ⟨h1, rfl⟩ := hg
      exact h
    · cases hg
theorem con34 : ConOk X0 (cfOf X0 noKnown) 34 gYes := con_closed awake_run
theorem con7 : ConOk X0 (cfOf X0 noKnown) 7 gYes := con_closed known_run
end
end Go.Proofs.YtpajehginfbamaaDoor.rg
