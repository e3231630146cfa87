/- What the two functions Read of VEX come to. -/
import Derived.Test.YtpabmjpkkhmidaaRx
namespace Go.Proofs.Ytpabmjpkkhmidaa
open Go.Tv Go.Ev

noncomputable section

def w64 (n : Int) : Int := IntKind.wrap .i64 n
def andI (x y : Int) : Int := IntKind.wrap .i64 (↑(BitVec.toNat (BitVec.ofInt 64 x &&& BitVec.ofInt 64 y)))
def xorI (x y : Int) : Int := IntKind.wrap .i64 (↑(BitVec.toNat (BitVec.ofInt 64 x ^^^ BitVec.ofInt 64 y)))

/-! The document's fields of a byte, and the program's (two: of the byte behind 197; else of the last byte). -/
def rR (b : Int) : Int := w64 (1 - w64 (Int.tdiv (w64 b) 128))
def rX (b : Int) : Int := w64 (1 - Int.tmod (w64 (Int.tdiv (w64 b) 64)) 2)
def rB (b : Int) : Int := w64 (1 - Int.tmod (w64 (Int.tdiv (w64 b) 32)) 2)
def rM (b : Int) : Int := Int.tmod (w64 b) 32
def rW (c : Int) : Int := w64 (Int.tdiv (w64 c) 128)
def rV (c : Int) : Int := w64 (15 - Int.tmod (w64 (Int.tdiv (w64 c) 8)) 16)
def rL (c : Int) : Int := Int.tmod (w64 (Int.tdiv (w64 c) 4)) 2
def rq (c : Int) : Int := Int.tmod (w64 c) 4
def rP (c : Int) : Int := pick2 (eqI (rq c) 1) 1 (pick2 (eqI (rq c) 2) 4 (pick2 (eqI (rq c) 3) 2 0))
def pm (b : Int) : Int := xorI (w64 b) 224
def p1 (b : Int) : Int := xorI (w64 b) 248
def pn (c : Int) : Int := xorI (w64 c) 120

/-- Ten numbers: the fields; how many bytes; the failure. -/
def none9 : List Int := [0, 0, 0, 0, 0, 0, 0, 0, 0, 9]
def none4 : List Int := [0, 0, 0, 0, 0, 0, 0, 0, 0, 4]
def vr4 (b : Int) : List Int → List Int
  | [] => none9
  | c :: _ => [rR b, rX b, rB b, rM b, rW c, rV c, rL c, rP c, 3, 0]
def vr3 : List Int → List Int
  | [] => none9
  | b :: t => pick2 (ltI (rM b) 1) none4 (pick2 (ltI 3 (rM b)) none4 (vr4 b t))
def vr2 : List Int → List Int
  | [] => none9
  | b :: _ => [rR b, 0, 0, 1, 0, rV b, rL b, rP b, 2, 0]
/-- What Read answers. -/
def vr : List Int → List Int
  | [] => none9
  | a :: t => pick2 (eqI a 197) (vr2 t) (pick2 (eqI a 196) (vr3 t) none4)

def nth (l : List Int) (i : Nat) : Int := l.getD i 0
def vx (l : List Int) : AV := .agg [.int .i64 (nth l 0), .int .i64 (nth l 1), .int .i64 (nth l 2), .int .i64 (nth l 3), .int .i64 (nth l 4), .int .i64 (nth l 5), .int .i64 (nth l 6), .int .i64 (nth l 7)]
def vt (l : List Int) : AV := .tup [vx l, .int .i64 (nth l 8), .int .i64 (nth l 9)]
/-- A leaf. -/
def lf {β : Type} (k : AV → TMem → Option β) (l : List Int) : Option β := k (vt l) ⟨1, 0, 0, (.n .e (some (.cells 59 [.int .i64 (nth l 0), .int .i64 (nth l 1), .int .i64 (nth l 2), .int .i64 (nth l 3), .int .i64 (nth l 4), .int .i64 (nth l 5), .int .i64 (nth l 6), .int .i64 (nth l 7)])) .e)⟩

/-- Four ways, by a number. -/
def by4 {β : Type} (q : Int) (f : Int → β) : β := pick2 (eqI q 1) (f 1) (pick2 (eqI q 2) (f 4) (pick2 (eqI q 3) (f 2) (f 0)))

def runV {β : Type} (f : FuncId) (l : List Int) (k : AV → TMem → Option β) : Option β := enterT X0 (c0 β) an0 5 f [.lst (.int .u8) l] TMem.empty k
end

theorem t49e {β : Type} (k : AV → TMem → Option β) : runV 49 [] k = lf k none9 := by kernel_rfl
theorem t48e {β : Type} (k : AV → TMem → Option β) : runV 48 [] k = lf k none9 := by kernel_rfl
theorem t49two {β : Type} (b : Int) (t : List Int) (k : AV → TMem → Option β) : runV 49 (197 :: b :: t) k = by4 (rq b) fun p => lf k [rR b, 0, 0, 1, 0, rV b, rL b, p, 2, 0] := by kernel_rfl
theorem t48two {β : Type} (b : Int) (t : List Int) (k : AV → TMem → Option β) : runV 48 (197 :: b :: t) k = by4 (andI (p1 b) 3) fun p => lf k [Int.fdiv (p1 b) 128, 0, 0, 1, 0, andI (Int.fdiv (p1 b) 8) 15, andI (Int.fdiv (p1 b) 4) 1, p, 2, 0] := by kernel_rfl
theorem t49one {β : Type} (k : AV → TMem → Option β) : runV 49 [197] k = lf k none9 := by kernel_rfl
theorem t48one {β : Type} (k : AV → TMem → Option β) : runV 48 [197] k = lf k none9 := by kernel_rfl
theorem t49one' {β : Type} (k : AV → TMem → Option β) : runV 49 [196] k = lf k none9 := by kernel_rfl
theorem t48one' {β : Type} (k : AV → TMem → Option β) : runV 48 [196] k = lf k none9 := by kernel_rfl
theorem t49cut {β : Type} (b : Int) (k : AV → TMem → Option β) : runV 49 [196, b] k = pick2 (ltI (rM b) 1) (lf k none4) (pick2 (ltI 3 (rM b)) (lf k none4) (lf k none9)) := by kernel_rfl
theorem t48cut {β : Type} (b : Int) (k : AV → TMem → Option β) : runV 48 [196, b] k = pick2 (ltI (andI (pm b) 31) 1) (lf k none4) (pick2 (ltI 3 (andI (pm b) 31)) (lf k none4) (lf k none9)) := by kernel_rfl
theorem t49three {β : Type} (b c : Int) (t : List Int) (k : AV → TMem → Option β) : runV 49 (196 :: b :: c :: t) k = pick2 (ltI (rM b) 1) (lf k none4) (pick2 (ltI 3 (rM b)) (lf k none4)
    (by4 (rq c) fun p => lf k [rR b, rX b, rB b, rM b, rW c, rV c, rL c, p, 3, 0])) := by kernel_rfl
theorem t48three {β : Type} (b c : Int) (t : List Int) (k : AV → TMem → Option β) : runV 48 (196 :: b :: c :: t) k = pick2 (ltI (andI (pm b) 31) 1) (lf k none4) (pick2 (ltI 3 (andI (pm b) 31)) (lf k none4)
    (by4 (andI (pn c) 3) fun p => lf k [Int.fdiv (pm b) 128, andI (Int.fdiv (pm b) 64) 1, andI (Int.fdiv (pm b) 32) 1, andI (pm b) 31, Int.fdiv (pn c) 128, andI (Int.fdiv (pn c) 8) 15, andI (Int.fdiv (pn c) 4) 1, p, 3, 0])) := by kernel_rfl

theorem by4_app {β : Type} (q : Int) (F : Int → β) : by4 q F = F (by4 q fun p => p) := by
  unfold by4
  cases eqI q 1 <;> cases eqI q 2 <;> cases eqI q 3 <;> rfl

/-! The fields are the same, byte by byte. -/
noncomputable def f1 (b : Int) : Bool := eqI (Int.fdiv (pm b) 128) (rR b) && eqI (andI (Int.fdiv (pm b) 64) 1) (rX b) && eqI (andI (Int.fdiv (pm b) 32) 1) (rB b) && eqI (andI (pm b) 31) (rM b)
noncomputable def f2 (c : Int) : Bool := eqI (Int.fdiv (pn c) 128) (rW c) && eqI (andI (Int.fdiv (pn c) 8) 15) (rV c) && eqI (andI (Int.fdiv (pn c) 4) 1) (rL c) && eqI (by4 (andI (pn c) 3) fun p => p) (rP c)
noncomputable def f3 (b : Int) : Bool := eqI (Int.fdiv (p1 b) 128) (rR b) && eqI (andI (Int.fdiv (p1 b) 8) 15) (rV b) && eqI (andI (Int.fdiv (p1 b) 4) 1) (rL b) && eqI (by4 (andI (p1 b) 3) fun p => p) (rP b)
theorem f1_all : allN (fun i => f1 (Int.ofNat i)) 0 256 = true := by kernel_rfl
theorem f2_all : allN (fun i => f2 (Int.ofNat i)) 0 256 = true := by kernel_rfl
theorem f3_all : allN (fun i => f3 (Int.ofNat i)) 0 256 = true := by kernel_rfl

theorem f1_of {i : Nat} (h : i < 256) : Int.fdiv (pm (Int.ofNat i)) 128 = rR (Int.ofNat i) ∧ andI (Int.fdiv (pm (Int.ofNat i)) 64) 1 = rX (Int.ofNat i) ∧ andI (Int.fdiv (pm (Int.ofNat i)) 32) 1 = rB (Int.ofNat i) ∧ andI (pm (Int.ofNat i)) 31 = rM (Int.ofNat i) := by
  have := allN_spec f1_all i (Nat.zero_le _) (by omega)
  simp only [f1, eqI_spec, Bool.and_eq_true, beq_iff_eq] at this
  exact ⟨this.1.1.1, this.1.1.2, this.1.2, this.2⟩
theorem f2_of {i : Nat} (h : i < 256) : Int.fdiv (pn (Int.ofNat i)) 128 = rW (Int.ofNat i) ∧ andI (Int.fdiv (pn (Int.ofNat i)) 8) 15 = rV (Int.ofNat i) ∧ andI (Int.fdiv (pn (Int.ofNat i)) 4) 1 = rL (Int.ofNat i) ∧ (by4 (andI (pn (Int.ofNat i)) 3) fun p => p) = rP (Int.ofNat i) := by
  have := allN_spec f2_all i (Nat.zero_le _) (by omega)
  simp only [f2, eqI_spec, Bool.and_eq_true, beq_iff_eq] at this
  exact ⟨this.1.1.1, this.1.1.2, this.1.2, this.2⟩
theorem f3_of {i : Nat} (h : i < 256) : Int.fdiv (p1 (Int.ofNat i)) 128 = rR (Int.ofNat i) ∧ andI (Int.fdiv (p1 (Int.ofNat i)) 8) 15 = rV (Int.ofNat i) ∧ andI (Int.fdiv (p1 (Int.ofNat i)) 4) 1 = rL (Int.ofNat i) ∧ (by4 (andI (p1 (Int.ofNat i)) 3) fun p => p) = rP (Int.ofNat i) := by
  have := allN_spec f3_all i (Nat.zero_le _) (by omega)
  simp only [f3, eqI_spec, Bool.and_eq_true, beq_iff_eq] at this
  exact ⟨this.1.1.1, this.1.1.2, this.1.2, this.2⟩

/-! Another first byte. -/
noncomputable def eqs : List AV → List Int → Bool
  | [], [] => true
  | .int .i64 a :: l, b :: m => pick2 (eqI a b) (eqs l m) false
  | _, _ => false
noncomputable def is10 : Option (AV × TMem) → Bool
  | some (.tup [.agg l, .int .i64 n, .int .i64 e], _) => eqs l [0, 0, 0, 0, 0, 0, 0, 0] && eqI n 0 && eqI e 4
  | _ => false

theorem eqs_spec : ∀ {l : List AV} {m : List Int}, eqs l m = true → l = m.map fun n => AV.int .i64 n
  | [], [], _ => rfl
  | [], _ :: _, h => by simp [eqs] at h
  | a :: l, [], h => by simp [eqs] at h
  | a :: l, b :: m, h => by
    unfold eqs at h
    split at h
    · rename_i h1 h2; cases h1
    · rename_i x l' y m' h1 h2
      cases h1; cases h2
      rw [pick2_eq] at h
      split at h
      · rename_i hx
        rw [eqI_spec, beq_iff_eq] at hx
        rw [eqs_spec h, hx]; rfl
      · cases h
    · cases h

theorem is10_spec {r : Option (AV × TMem)} (h : is10 r = true) : ∃ H, r = some (vt none4, H) := by
  unfold is10 at h
  split at h
  · simp only [Bool.and_eq_true, eqI_spec, beq_iff_eq] at h
    obtain ⟨⟨h1, rfl⟩, rfl⟩ := h
    rw [eqs_spec h1]
    exact ⟨_, rfl⟩
  · cases h

def endv (i : Nat) : Bool := Nat.beq i 196 || Nat.beq i 197
theorem o48a (t : List Int) : allN (fun i => pick2 (endv i) true (is10 (runV 48 (Int.ofNat i :: t) fun v H => some (v, H)))) 0 128 = true := by kernel_rfl
theorem o48b (t : List Int) : allN (fun i => pick2 (endv i) true (is10 (runV 48 (Int.ofNat i :: t) fun v H => some (v, H)))) 128 128 = true := by kernel_rfl
theorem o49a (t : List Int) : allN (fun i => pick2 (endv i) true (is10 (runV 49 (Int.ofNat i :: t) fun v H => some (v, H)))) 0 128 = true := by kernel_rfl
theorem o49b (t : List Int) : allN (fun i => pick2 (endv i) true (is10 (runV 49 (Int.ofNat i :: t) fun v H => some (v, H)))) 128 128 = true := by kernel_rfl

theorem vread {f : FuncId} (he : ∀ k : AV → TMem → Option (AV × TMem), runV f [] k = lf k none9) (h7 : ∀ k : AV → TMem → Option (AV × TMem), runV f [197] k = lf k none9) (h6 : ∀ k : AV → TMem → Option (AV × TMem), runV f [196] k = lf k none9)
    (h2 : ∀ (i : Nat), i < 256 → ∀ (t : List Int) (k : AV → TMem → Option (AV × TMem)), runV f (197 :: Int.ofNat i :: t) k = lf k (vr2 (Int.ofNat i :: t)))
    (h3 : ∀ (i : Nat), i < 256 → ∀ (t : List Int), (∀ n ∈ t, ∃ i : Nat, n = Int.ofNat i ∧ i < 256) → ∀ (k : AV → TMem → Option (AV × TMem)), runV f (196 :: Int.ofNat i :: t) k = lf k (vr3 (Int.ofNat i :: t)))
    (ho : ∀ (i : Nat), i < 256 → ∀ t : List Int, pick2 (endv i) true (is10 (runV f (Int.ofNat i :: t) fun v H => some (v, H))) = true)
    (l : List Int) (h : ∀ n ∈ l, ∃ i : Nat, n = Int.ofNat i ∧ i < 256) : ∃ H, (runV f l fun v H => some (v, H)) = some (vt (vr l), H) := by
  cases l with
  | nil => rw [he]; exact ⟨_, rfl⟩
  | cons a t =>
    obtain ⟨i, rfl, hi⟩ := h a (by simp)
    have h0 := ho i hi t
    rw [pick2_eq] at h0
    split at h0
    · rename_i hend
      simp only [endv, Bool.or_eq_true, Nat.beq_eq] at hend
      cases t with
      | nil =>
        rcases hend with rfl | rfl
        · exact ⟨_, h6 _⟩
        · exact ⟨_, h7 _⟩
      | cons b t =>
        obtain ⟨j, rfl, hj⟩ := h b (by simp)
        rcases hend with rfl | rfl
        · exact ⟨_, h3 j hj t (fun n hn => h n (by simp [hn])) _⟩
        · exact ⟨_, h2 j hj t _⟩
    · rename_i hend
      obtain ⟨H, hH⟩ := is10_spec h0
      refine ⟨H, ?_⟩
      rw [hH]
      have e7 : eqI (Int.ofNat i) 197 = false := by
        rw [eqI_spec, beq_eq_false_iff_ne]
        intro e
        have : i = 197 := Int.ofNat.inj e
        subst this; exact hend rfl
      have e6 : eqI (Int.ofNat i) 196 = false := by
        rw [eqI_spec, beq_eq_false_iff_ne]
        intro e
        have : i = 196 := Int.ofNat.inj e
        subst this; exact hend rfl
      show _ = some (vt (pick2 (eqI (Int.ofNat i) 197) (vr2 t) (pick2 (eqI (Int.ofNat i) 196) (vr3 t) none4)), H)
      rw [e7, e6, pick2_eq, pick2_eq]
      rfl

theorem other {p : Nat → Bool} (a : allN p 0 128 = true) (b : allN p 128 128 = true) (i : Nat) (hi : i < 256) : p i = true := by
  by_cases h : i < 128
  · exact allN_spec a i (by omega) (by omega)
  · exact allN_spec b i (by omega) (by omega)

theorem lf_pick {β : Type} (k : AV → TMem → Option β) (c : Bool) (a b : List Int) : lf k (pick2 c a b) = pick2 c (lf k a) (lf k b) := by cases c <;> rfl

theorem vread49 (l : List Int) (h : ∀ n ∈ l, ∃ i : Nat, n = Int.ofNat i ∧ i < 256) : ∃ H, (runV 49 l fun v H => some (v, H)) = some (vt (vr l), H) := by
  refine vread t49e t49one t49one' (fun i hi t k => ?_) (fun i hi t ht k => ?_) (fun i hi t => other (o49a t) (o49b t) i hi) l h
  · rw [t49two, by4_app]; rfl
  · cases t with
    | nil => rw [t49cut]; unfold vr3; rw [lf_pick, lf_pick]; rfl
    | cons c t => rw [t49three, by4_app]; unfold vr3; rw [lf_pick, lf_pick]; rfl

theorem vread48 (l : List Int) (h : ∀ n ∈ l, ∃ i : Nat, n = Int.ofNat i ∧ i < 256) : ∃ H, (runV 48 l fun v H => some (v, H)) = some (vt (vr l), H) := by
  refine vread t48e t48one t48one' (fun i hi t k => ?_) (fun i hi t ht k => ?_) (fun i hi t => other (o48a t) (o48b t) i hi) l h
  · obtain ⟨e1, e2, e3, e4⟩ := f3_of hi
    rw [t48two, by4_app, e1, e2, e3, e4]; rfl
  · obtain ⟨e1, e2, e3, e4⟩ := f1_of hi
    cases t with
    | nil => rw [t48cut, e4]; unfold vr3; rw [lf_pick, lf_pick]; rfl
    | cons c t =>
      obtain ⟨j, rfl, hj⟩ := ht c (by simp)
      obtain ⟨g1, g2, g3, g4⟩ := f2_of hj
      rw [t48three, by4_app, e1, e2, e3, e4, g1, g2, g3, g4]; unfold vr3; rw [lf_pick, lf_pick]; rfl
end Go.Proofs.Ytpabmjpkkhmidaa
