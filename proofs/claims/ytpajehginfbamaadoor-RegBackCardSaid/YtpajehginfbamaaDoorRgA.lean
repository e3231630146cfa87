/- RegApart comes to true. -/
import Derived.Test.YtpajehginfbamaaDoorRgT
namespace Go.Proofs.YtpajehginfbamaaDoor.rg
open Go.Tv Go.Ev
noncomputable section
def K4 : KT2 := fun f => pick2 (Nat.beq f 34) (some ([], gYes)) <| K2 f
def c4 (β : Type) : CallT β := callT X0 K4 inl 200 β 20
theorem K4_ok (id : FuncId) (sig : List (Option Ty)) (g : List AV → Option (Bool × List PRes)) (h : K4 id = some (sig, g)) : ConOk X0 (cfOf X0 noKnown) id g := by
  unfold K4 at h
  rw [pick2_eq] at h
  split at h
  · rename_i hf
    simp only [Nat.beq_eq] at hf
    cases h; subst hf; exact con34
  · exact K2_ok id sig g h
theorem c4_ok (β : Type) : CallTOk X0 (cfOf X0 noKnown) (c4 β) := callT_ok K4_ok (fun _ _ _ => rfl) 200 20 β

variable {β : Type}
def fin9 (a x : Int) (k : AV → Option β) : Option β :=
  pick2 (validR a x) (pick2 (!eqI (IntKind.wrap .i64 (IntKind.wrap .i64 (8 * highR a x) + lowR a x)) x) (k (.bool false)) (k (.bool true))) (k (.bool true))
def size9 (a x b y : Int) (k : AV → Option β) : Option β := pick2 (!eqI (sizeR a x) (sizeR b y)) (k (.bool false)) (fin9 a x k)
def tree9 (a x b y : Int) (k : AV → Option β) : Option β :=
  pick2 (validR a x) (pick2 (validR b y) (pick2 (!(decide (a = b) && decide (x = y)))
    (pick2 (eqI (lowR a x) (lowR b y))
      (pick2 (decide (nameR a x = nameR b y)) (k (.bool false)) (pick2 (eqI a b) (pick2 (eqI (highR a x) (highR b y)) (k (.bool false)) (size9 a x b y k)) (fin9 a x k)))
      (pick2 (decide (nameR a x = nameR b y)) (k (.bool false)) (pick2 (eqI a b) (size9 a x b y k) (fin9 a x k))))
    (fin9 a x k)) (fin9 a x k)) (fin9 a x k)
def run9 (a x b y c : Int) : Option AV := enterT X0 (c4 AV) an0 40 9 [.agg [.int .i64 a, .int .i64 x], .agg [.int .i64 b, .int .i64 y], .int .i64 c] TMem.empty (fun v _ => some v)
theorem run9n (m : Nat) (a x b y : Int) : run9 a x b y (Int.negSucc m) = tree9 a x b y some := by kernel_rfl
theorem run9m (m : Nat) (a x b y : Int) : run9 a x b y (Int.ofNat (m + 9)) = tree9 a x b y some := by kernel_rfl
theorem run9c0 (a x b y : Int) : run9 a x b y 0 = tree9 a x b y some := by kernel_rfl
theorem run9c1 (a x b y : Int) : run9 a x b y 1 = tree9 a x b y some := by kernel_rfl
theorem run9c2 (a x b y : Int) : run9 a x b y 2 = tree9 a x b y some := by kernel_rfl
theorem run9c3 (a x b y : Int) : run9 a x b y 3 = tree9 a x b y some := by kernel_rfl
theorem run9c4 (a x b y : Int) : run9 a x b y 4 = tree9 a x b y some := by kernel_rfl
theorem run9c5 (a x b y : Int) : run9 a x b y 5 = tree9 a x b y some := by kernel_rfl
theorem run9c6 (a x b y : Int) : run9 a x b y 6 = tree9 a x b y some := by kernel_rfl
theorem run9c7 (a x b y : Int) : run9 a x b y 7 = tree9 a x b y some := by kernel_rfl
theorem run9c8 (a x b y : Int) : run9 a x b y 8 = tree9 a x b y some := by kernel_rfl

theorem run9_all (a x b y c : Int) : run9 a x b y c = tree9 a x b y some := by
  cases c with
  | negSucc m => exact run9n m a x b y
  | ofNat c =>
    by_cases h9 : 9 ≤ c
    · obtain ⟨m, rfl⟩ : ∃ m, c = m + 9 := ⟨c - 9, by omega⟩
      exact run9m m a x b y
    · have : c = 0 ∨ c = 1 ∨ c = 2 ∨ c = 3 ∨ c = 4 ∨ c = 5 ∨ c = 6 ∨ c = 7 ∨ c = 8 := by omega
      rcases this with rfl | rfl | rfl | rfl | rfl | rfl | rfl | rfl | rfl
      · exact run9c0 a x b y
      · exact run9c1 a x b y
      · exact run9c2 a x b y
      · exact run9c3 a x b y
      · exact run9c4 a x b y
      · exact run9c5 a x b y
      · exact run9c6 a x b y
      · exact run9c7 a x b y
      · exact run9c8 a x b y

/-! The plain law -/
def fx (a x : Int) : Bool := pick2 (validR a x) (eqI (IntKind.wrap .i64 (IntKind.wrap .i64 (8 * highR a x) + lowR a x)) x) true
def fp (a x : Int) : Bool := pick2 (validR a x) (eqI (pR (nameR a x)).1 a && (eqI (pR (nameR a x)).2.1 x && (pR (nameR a x)).2.2)) true
theorem fxa : ∀ m n : Nat, (fx (Int.negSucc m) (Int.negSucc n) && fx (Int.negSucc m) (Int.ofNat n) && fx 0 (Int.negSucc n) && fx 0 (Int.ofNat n) && fx (Int.ofNat (m + 9)) (Int.negSucc n) && fx (Int.ofNat (m + 9)) (Int.ofNat n)) = true := by intros; kernel_rfl
theorem fxb : ∀ n : Nat, allN (fun c => fx (Int.ofNat c) (Int.negSucc n) && fx (Int.ofNat c) (Int.ofNat (n + 16))) 1 8 = true := by intros; kernel_rfl
theorem fxc1 : allN (fun n => fx 1 (Int.ofNat n)) 0 16 = true := by kernel_rfl
theorem fxc2 : allN (fun n => fx 2 (Int.ofNat n)) 0 16 = true := by kernel_rfl
theorem fxc3 : allN (fun n => fx 3 (Int.ofNat n)) 0 16 = true := by kernel_rfl
theorem fxc4 : allN (fun n => fx 4 (Int.ofNat n)) 0 16 = true := by kernel_rfl
theorem fxc5 : allN (fun n => fx 5 (Int.ofNat n)) 0 16 = true := by kernel_rfl
theorem fxc6 : allN (fun n => fx 6 (Int.ofNat n)) 0 16 = true := by kernel_rfl
theorem fxc7 : allN (fun n => fx 7 (Int.ofNat n)) 0 16 = true := by kernel_rfl
theorem fxc8 : allN (fun n => fx 8 (Int.ofNat n)) 0 16 = true := by kernel_rfl
theorem each_fx : Each fx := ⟨fxa, fxb, fxc1, fxc2, fxc3, fxc4, fxc5, fxc6, fxc7, fxc8⟩
theorem fpa : ∀ m n : Nat, (fp (Int.negSucc m) (Int.negSucc n) && fp (Int.negSucc m) (Int.ofNat n) && fp 0 (Int.negSucc n) && fp 0 (Int.ofNat n) && fp (Int.ofNat (m + 9)) (Int.negSucc n) && fp (Int.ofNat (m + 9)) (Int.ofNat n)) = true := by intros; kernel_rfl
theorem fpb : ∀ n : Nat, allN (fun c => fp (Int.ofNat c) (Int.negSucc n) && fp (Int.ofNat c) (Int.ofNat (n + 16))) 1 8 = true := by intros; kernel_rfl
theorem fpc1 : allN (fun n => fp 1 (Int.ofNat n)) 0 16 = true := by kernel_rfl
theorem fpc2 : allN (fun n => fp 2 (Int.ofNat n)) 0 16 = true := by kernel_rfl
theorem fpc3 : allN (fun n => fp 3 (Int.ofNat n)) 0 16 = true := by kernel_rfl
theorem fpc4 : allN (fun n => fp 4 (Int.ofNat n)) 0 16 = true := by kernel_rfl
theorem fpc5 : allN (fun n => fp 5 (Int.ofNat n)) 0 16 = true := by kernel_rfl
theorem fpc6 : allN (fun n => fp 6 (Int.ofNat n)) 0 16 = true := by kernel_rfl
theorem fpc7 : allN (fun n => fp 7 (Int.ofNat n)) 0 16 = true := by kernel_rfl
theorem fpc8 : allN (fun n => fp 8 (Int.ofNat n)) 0 16 = true := by kernel_rfl
theorem each_fp : Each fp := ⟨fpa, fpb, fpc1, fpc2, fpc3, fpc4, fpc5, fpc6, fpc7, fpc8⟩

theorem sum_eq {a x : Int} (h : validR a x = true) : IntKind.wrap .i64 (IntKind.wrap .i64 (8 * highR a x) + lowR a x) = x := by
  have := each_fx.all a x
  unfold fx at this
  rw [h, eqI_spec] at this
  exact beq_iff_eq.1 this
theorem parse_name {a x : Int} (h : validR a x = true) : pR (nameR a x) = (a, x, true) := by
  have := each_fp.all a x
  unfold fp at this
  rw [h] at this
  have this : (eqI (pR (nameR a x)).1 a && (eqI (pR (nameR a x)).2.1 x && (pR (nameR a x)).2.2)) = true := this
  simp only [Bool.and_eq_true, eqI_spec, beq_iff_eq] at this
  exact Prod.ext this.1 (Prod.ext this.2.1 this.2.2)

theorem eqT {a b : Int} (h : a = b) : eqI a b = true := by rw [eqI_spec, h]; simp
theorem eqF {a b : Int} (h : a ≠ b) : eqI a b = false := by rw [eqI_spec]; simpa using h

theorem fin9_true (a x : Int) (k : AV → Option β) : fin9 a x k = k (.bool true) := by
  unfold fin9
  cases h : validR a x
  · rfl
  · rw [eqT (sum_eq h)]; try rfl

theorem size_eq {a x y : Int} (h1 : validR a x = true) (h2 : validR a y = true) : sizeR a x = sizeR a y := by
  unfold sizeR; rw [h1, h2]; try rfl

theorem apart_true (a x b y : Int) (k : AV → Option β) : tree9 a x b y k = k (.bool true) := by
  unfold tree9
  cases h1 : validR a x
  · exact fin9_true a x k
  cases h2 : validR b y
  · exact fin9_true a x k
  by_cases hab : a = b ∧ x = y
  · obtain ⟨rfl, rfl⟩ := hab
    simp only [decide_true, Bool.and_self, Bool.not_true]
    exact fin9_true a x k
  · have hne : (!(decide (a = b) && decide (x = y))) = true := by
      by_cases h : a = b
      · have : x ≠ y := fun e => hab ⟨h, e⟩
        simp [h, this]
      · simp [h]
    have hn : nameR a x ≠ nameR b y := fun e => by
      have e1 := parse_name h1
      rw [e, parse_name h2] at e1
      simp only [Prod.mk.injEq] at e1
      exact hab ⟨e1.1.symm, e1.2.1.symm⟩
    have hd : decide (nameR a x = nameR b y) = false := by simpa using hn
    have hs : ∀ (e : a = b), size9 a x b y k = k (.bool true) := fun e => by
      subst e
      unfold size9
      rw [eqT (size_eq h1 h2)]
      exact fin9_true a x k
    rw [hne, hd]
    show pick2 (eqI (lowR a x) (lowR b y)) (pick2 (eqI a b) (pick2 (eqI (highR a x) (highR b y)) (k (.bool false)) (size9 a x b y k)) (fin9 a x k)) (pick2 (eqI a b) (size9 a x b y k) (fin9 a x k)) = _
    by_cases e : a = b
    · rw [eqT e, hs e]
      show pick2 (eqI (lowR a x) (lowR b y)) (pick2 (eqI (highR a x) (highR b y)) (k (.bool false)) (k (.bool true))) (k (.bool true)) = _
      by_cases el : lowR a x = lowR b y
      · have eh : highR a x ≠ highR b y := fun eh => hab ⟨e, by
          have s1 := sum_eq h1
          have s2 := sum_eq h2
          rw [el, eh] at s1
          exact s1.symm.trans s2⟩
        rw [eqT el, eqF eh]
      · rw [eqF el]
    · rw [eqF e]
      show pick2 (eqI (lowR a x) (lowR b y)) (fin9 a x k) (fin9 a x k) = _
      rw [fin9_true]
      cases eqI (lowR a x) (lowR b y) <;> rfl

theorem apart (a x b y c : Int) : enterT X0 (c4 AV) an0 40 9 [.agg [.int .i64 a, .int .i64 x], .agg [.int .i64 b, .int .i64 y], .int .i64 c] TMem.empty (fun v _ => some v) = some (.bool true) :=
  (run9_all a x b y c).trans (apart_true a x b y some)
end
end Go.Proofs.YtpajehginfbamaaDoor.rg
