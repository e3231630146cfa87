/- What LentBytes comes to. -/
import Derived.Test.YtpabmjpkkhmidaaRx
namespace Go.Proofs.Ytpabmjpkkhmidaa
open Go.Tv Go.Ev

theorem tree16 {β : Type} (l : List Int) (k : AV → TMem → Option β) : enterT X0 (c0 β) an0 5 16 [.lst (.int .u8) l] TMem.empty k =
  (pick2 (!ltI (IntKind.wrap IntKind.i64 (↑(List.length l) + 3)) 0 &&
      !ltI (IntKind.wrap IntKind.i64 (↑(List.length l) + 3)) (IntKind.wrap IntKind.i64 (↑(List.length l) + 3)) &&
    !ltI 1000000 (IntKind.wrap IntKind.i64 (↑(List.length l) + 3)))
    (pick2 (ltI ↑(List.length l) ↑(Int.toNat (IntKind.wrap IntKind.i64 (↑(List.length l) + 3))))
      (Option.rec (motive := fun _ => Option _) none
        (fun y => pick2 (ltI (IntKind.wrap IntKind.i64 (↑(List.length l) + 1)) ↑(Int.toNat (IntKind.wrap IntKind.i64 (↑(List.length l) + 3))))
          (Option.rec (motive := fun _ => Option _) none
            (fun y => pick2 (ltI (IntKind.wrap IntKind.i64 (IntKind.wrap IntKind.i64 (↑(List.length l) + 1) + 1))
    ↑(Int.toNat (IntKind.wrap IntKind.i64 (↑(List.length l) + 3))))
              (Option.rec (motive := fun _ => Option _) none
                (fun y => pick2 (ltI (IntKind.wrap IntKind.i64 (IntKind.wrap IntKind.i64 (IntKind.wrap IntKind.i64 (↑(List.length l) + 1) + 1) + 1))
    ↑(Int.toNat (IntKind.wrap IntKind.i64 (↑(List.length l) + 3))))
                  (Option.rec (motive := fun _ => Option _) none
                    (fun y => pick2 (ltI
    (IntKind.wrap IntKind.i64
      (IntKind.wrap IntKind.i64 (IntKind.wrap IntKind.i64 (IntKind.wrap IntKind.i64 (↑(List.length l) + 1) + 1) + 1) + 1))
    ↑(Int.toNat (IntKind.wrap IntKind.i64 (↑(List.length l) + 3))))
                      (Option.rec (motive := fun _ => Option _) none
                        (fun y => none)
                        (getI
    (List.take (Int.toNat (IntKind.wrap IntKind.i64 (↑(List.length l) + 3)))
      (List.drop 0
        (List.set
          (List.set
            (List.set
              (List.set
                (putL (List.replicate (Int.toNat (IntKind.wrap IntKind.i64 (↑(List.length l) + 3))) 0) 0
                  (List.take (Nat.min (List.length l) (Int.toNat (IntKind.wrap IntKind.i64 (↑(List.length l) + 3)))) l))
                (0 + Int.toNat ↑(List.length l))
                (IntKind.wrap IntKind.u8 (IntKind.wrap IntKind.i64 (160 + Int.tmod (↑(List.length l)) 90))))
              (0 + Int.toNat (IntKind.wrap IntKind.i64 (↑(List.length l) + 1)))
              (IntKind.wrap IntKind.u8
                (IntKind.wrap IntKind.i64 (160 + Int.tmod (IntKind.wrap IntKind.i64 (↑(List.length l) + 1)) 90))))
            (0 + Int.toNat (IntKind.wrap IntKind.i64 (IntKind.wrap IntKind.i64 (↑(List.length l) + 1) + 1)))
            (IntKind.wrap IntKind.u8
              (IntKind.wrap IntKind.i64
                (160 + Int.tmod (IntKind.wrap IntKind.i64 (IntKind.wrap IntKind.i64 (↑(List.length l) + 1) + 1)) 90))))
          (0 +
            Int.toNat
              (IntKind.wrap IntKind.i64
                (IntKind.wrap IntKind.i64 (IntKind.wrap IntKind.i64 (↑(List.length l) + 1) + 1) + 1)))
          (IntKind.wrap IntKind.u8
            (IntKind.wrap IntKind.i64
              (160 +
                Int.tmod
                  (IntKind.wrap IntKind.i64
                    (IntKind.wrap IntKind.i64 (IntKind.wrap IntKind.i64 (↑(List.length l) + 1) + 1) + 1))
                  90))))))
    (IntKind.wrap IntKind.i64
      (IntKind.wrap IntKind.i64 (IntKind.wrap IntKind.i64 (IntKind.wrap IntKind.i64 (↑(List.length l) + 1) + 1) + 1) + 1))))
                      (pick2 (!ltI (↑(List.length l)) 0 &&
    !ltI (Int.ofNat (Int.toNat (IntKind.wrap IntKind.i64 (↑(List.length l) + 3)))) ↑(List.length l))
                        (k (.osl 0 (0) (Int.toNat ↑(List.length l) - 0) (Int.toNat (IntKind.wrap IntKind.i64 (↑(List.length l) + 3)) - 0)) ⟨1, 0, 0, (.n .e (some (.list 5 (.int .u8) (List.set
    (List.set
      (List.set
        (List.set
          (putL (List.replicate (Int.toNat (IntKind.wrap IntKind.i64 (↑(List.length l) + 3))) 0) 0
            (List.take (Nat.min (List.length l) (Int.toNat (IntKind.wrap IntKind.i64 (↑(List.length l) + 3)))) l))
          (0 + Int.toNat ↑(List.length l))
          (IntKind.wrap IntKind.u8 (IntKind.wrap IntKind.i64 (160 + Int.tmod (↑(List.length l)) 90))))
        (0 + Int.toNat (IntKind.wrap IntKind.i64 (↑(List.length l) + 1)))
        (IntKind.wrap IntKind.u8
          (IntKind.wrap IntKind.i64 (160 + Int.tmod (IntKind.wrap IntKind.i64 (↑(List.length l) + 1)) 90))))
      (0 + Int.toNat (IntKind.wrap IntKind.i64 (IntKind.wrap IntKind.i64 (↑(List.length l) + 1) + 1)))
      (IntKind.wrap IntKind.u8
        (IntKind.wrap IntKind.i64
          (160 + Int.tmod (IntKind.wrap IntKind.i64 (IntKind.wrap IntKind.i64 (↑(List.length l) + 1) + 1)) 90))))
    (0 +
      Int.toNat
        (IntKind.wrap IntKind.i64 (IntKind.wrap IntKind.i64 (IntKind.wrap IntKind.i64 (↑(List.length l) + 1) + 1) + 1)))
    (IntKind.wrap IntKind.u8
      (IntKind.wrap IntKind.i64
        (160 +
          Int.tmod
            (IntKind.wrap IntKind.i64
              (IntKind.wrap IntKind.i64 (IntKind.wrap IntKind.i64 (↑(List.length l) + 1) + 1) + 1))
            90)))) 5 true false)) .e)⟩)
                        (none)))
                    (getI
    (List.take (Int.toNat (IntKind.wrap IntKind.i64 (↑(List.length l) + 3)))
      (List.drop 0
        (List.set
          (List.set
            (List.set
              (putL (List.replicate (Int.toNat (IntKind.wrap IntKind.i64 (↑(List.length l) + 3))) 0) 0
                (List.take (Nat.min (List.length l) (Int.toNat (IntKind.wrap IntKind.i64 (↑(List.length l) + 3)))) l))
              (0 + Int.toNat ↑(List.length l))
              (IntKind.wrap IntKind.u8 (IntKind.wrap IntKind.i64 (160 + Int.tmod (↑(List.length l)) 90))))
            (0 + Int.toNat (IntKind.wrap IntKind.i64 (↑(List.length l) + 1)))
            (IntKind.wrap IntKind.u8
              (IntKind.wrap IntKind.i64 (160 + Int.tmod (IntKind.wrap IntKind.i64 (↑(List.length l) + 1)) 90))))
          (0 + Int.toNat (IntKind.wrap IntKind.i64 (IntKind.wrap IntKind.i64 (↑(List.length l) + 1) + 1)))
          (IntKind.wrap IntKind.u8
            (IntKind.wrap IntKind.i64
              (160 + Int.tmod (IntKind.wrap IntKind.i64 (IntKind.wrap IntKind.i64 (↑(List.length l) + 1) + 1)) 90))))))
    (IntKind.wrap IntKind.i64 (IntKind.wrap IntKind.i64 (IntKind.wrap IntKind.i64 (↑(List.length l) + 1) + 1) + 1))))
                  (pick2 (!ltI (↑(List.length l)) 0 &&
    !ltI (Int.ofNat (Int.toNat (IntKind.wrap IntKind.i64 (↑(List.length l) + 3)))) ↑(List.length l))
                    (k (.osl 0 (0) (Int.toNat ↑(List.length l) - 0) (Int.toNat (IntKind.wrap IntKind.i64 (↑(List.length l) + 3)) - 0)) ⟨1, 0, 0, (.n .e (some (.list 5 (.int .u8) (List.set
    (List.set
      (List.set
        (putL (List.replicate (Int.toNat (IntKind.wrap IntKind.i64 (↑(List.length l) + 3))) 0) 0
          (List.take (Nat.min (List.length l) (Int.toNat (IntKind.wrap IntKind.i64 (↑(List.length l) + 3)))) l))
        (0 + Int.toNat ↑(List.length l))
        (IntKind.wrap IntKind.u8 (IntKind.wrap IntKind.i64 (160 + Int.tmod (↑(List.length l)) 90))))
      (0 + Int.toNat (IntKind.wrap IntKind.i64 (↑(List.length l) + 1)))
      (IntKind.wrap IntKind.u8
        (IntKind.wrap IntKind.i64 (160 + Int.tmod (IntKind.wrap IntKind.i64 (↑(List.length l) + 1)) 90))))
    (0 + Int.toNat (IntKind.wrap IntKind.i64 (IntKind.wrap IntKind.i64 (↑(List.length l) + 1) + 1)))
    (IntKind.wrap IntKind.u8
      (IntKind.wrap IntKind.i64
        (160 + Int.tmod (IntKind.wrap IntKind.i64 (IntKind.wrap IntKind.i64 (↑(List.length l) + 1) + 1)) 90)))) 4 true false)) .e)⟩)
                    (none)))
                (getI
    (List.take (Int.toNat (IntKind.wrap IntKind.i64 (↑(List.length l) + 3)))
      (List.drop 0
        (List.set
          (List.set
            (putL (List.replicate (Int.toNat (IntKind.wrap IntKind.i64 (↑(List.length l) + 3))) 0) 0
              (List.take (Nat.min (List.length l) (Int.toNat (IntKind.wrap IntKind.i64 (↑(List.length l) + 3)))) l))
            (0 + Int.toNat ↑(List.length l))
            (IntKind.wrap IntKind.u8 (IntKind.wrap IntKind.i64 (160 + Int.tmod (↑(List.length l)) 90))))
          (0 + Int.toNat (IntKind.wrap IntKind.i64 (↑(List.length l) + 1)))
          (IntKind.wrap IntKind.u8
            (IntKind.wrap IntKind.i64 (160 + Int.tmod (IntKind.wrap IntKind.i64 (↑(List.length l) + 1)) 90))))))
    (IntKind.wrap IntKind.i64 (IntKind.wrap IntKind.i64 (↑(List.length l) + 1) + 1))))
              (pick2 (!ltI (↑(List.length l)) 0 &&
    !ltI (Int.ofNat (Int.toNat (IntKind.wrap IntKind.i64 (↑(List.length l) + 3)))) ↑(List.length l))
                (k (.osl 0 (0) (Int.toNat ↑(List.length l) - 0) (Int.toNat (IntKind.wrap IntKind.i64 (↑(List.length l) + 3)) - 0)) ⟨1, 0, 0, (.n .e (some (.list 5 (.int .u8) (List.set
    (List.set
      (putL (List.replicate (Int.toNat (IntKind.wrap IntKind.i64 (↑(List.length l) + 3))) 0) 0
        (List.take (Nat.min (List.length l) (Int.toNat (IntKind.wrap IntKind.i64 (↑(List.length l) + 3)))) l))
      (0 + Int.toNat ↑(List.length l))
      (IntKind.wrap IntKind.u8 (IntKind.wrap IntKind.i64 (160 + Int.tmod (↑(List.length l)) 90))))
    (0 + Int.toNat (IntKind.wrap IntKind.i64 (↑(List.length l) + 1)))
    (IntKind.wrap IntKind.u8
      (IntKind.wrap IntKind.i64 (160 + Int.tmod (IntKind.wrap IntKind.i64 (↑(List.length l) + 1)) 90)))) 3 true false)) .e)⟩)
                (none)))
            (getI
    (List.take (Int.toNat (IntKind.wrap IntKind.i64 (↑(List.length l) + 3)))
      (List.drop 0
        (List.set
          (putL (List.replicate (Int.toNat (IntKind.wrap IntKind.i64 (↑(List.length l) + 3))) 0) 0
            (List.take (Nat.min (List.length l) (Int.toNat (IntKind.wrap IntKind.i64 (↑(List.length l) + 3)))) l))
          (0 + Int.toNat ↑(List.length l))
          (IntKind.wrap IntKind.u8 (IntKind.wrap IntKind.i64 (160 + Int.tmod (↑(List.length l)) 90))))))
    (IntKind.wrap IntKind.i64 (↑(List.length l) + 1))))
          (pick2 (!ltI (↑(List.length l)) 0 &&
    !ltI (Int.ofNat (Int.toNat (IntKind.wrap IntKind.i64 (↑(List.length l) + 3)))) ↑(List.length l))
            (k (.osl 0 (0) (Int.toNat ↑(List.length l) - 0) (Int.toNat (IntKind.wrap IntKind.i64 (↑(List.length l) + 3)) - 0)) ⟨1, 0, 0, (.n .e (some (.list 5 (.int .u8) (List.set
    (putL (List.replicate (Int.toNat (IntKind.wrap IntKind.i64 (↑(List.length l) + 3))) 0) 0
      (List.take (Nat.min (List.length l) (Int.toNat (IntKind.wrap IntKind.i64 (↑(List.length l) + 3)))) l))
    (0 + Int.toNat ↑(List.length l))
    (IntKind.wrap IntKind.u8 (IntKind.wrap IntKind.i64 (160 + Int.tmod (↑(List.length l)) 90)))) 2 true false)) .e)⟩)
            (none)))
        (getI
    (List.take (Int.toNat (IntKind.wrap IntKind.i64 (↑(List.length l) + 3)))
      (List.drop 0
        (putL (List.replicate (Int.toNat (IntKind.wrap IntKind.i64 (↑(List.length l) + 3))) 0) 0
          (List.take (Nat.min (List.length l) (Int.toNat (IntKind.wrap IntKind.i64 (↑(List.length l) + 3)))) l))))
    ↑(List.length l)))
      (pick2 (!ltI (↑(List.length l)) 0 &&
    !ltI (Int.ofNat (Int.toNat (IntKind.wrap IntKind.i64 (↑(List.length l) + 3)))) ↑(List.length l))
        (k (.osl 0 (0) (Int.toNat ↑(List.length l) - 0) (Int.toNat (IntKind.wrap IntKind.i64 (↑(List.length l) + 3)) - 0)) ⟨1, 0, 0, (.n .e (some (.list 5 (.int .u8) (putL (List.replicate (Int.toNat (IntKind.wrap IntKind.i64 (↑(List.length l) + 3))) 0) 0
    (List.take (Nat.min (List.length l) (Int.toNat (IntKind.wrap IntKind.i64 (↑(List.length l) + 3)))) l)) 1 true false)) .e)⟩)
        (none)))
    (none)) := by kernel_rfl

theorem wrap_small {n : Nat} (h : n < 1000000) : IntKind.wrap .i64 (n : Int) = n := by
  simp only [IntKind.wrap, IntKind.bits, IntKind.signed]
  have : ((n : Int) % (2 ^ 64 : Int)) = n := by omega
  simp only [this]
  rw [if_neg]
  simp; omega

theorem pickT {α : Type} (a b : α) : pick2 true a b = a := rfl
theorem pickF {α : Type} (a b : α) : pick2 false a b = b := rfl

/-- The marks behind a row that is lent. -/
def mark (n : Nat) : Int := IntKind.wrap .u8 (IntKind.wrap .i64 (160 + Int.tmod (n : Int) 90))
def lent (l : List Int) : List Int := l ++ [mark l.length, mark (l.length + 1), mark (l.length + 2)]

theorem putL_app {α : Type} : ∀ (a pre x : List α), x.length = a.length → ∀ post, putL (pre ++ (x ++ post)) pre.length a = pre ++ (a ++ post)
  | [], pre, [], _, post => rfl
  | v :: vs, pre, y :: x, h, post => by
    have e : (pre ++ (y :: x ++ post)).set pre.length v = (pre ++ [v]) ++ (x ++ post) := by simp
    show putL ((pre ++ (y :: x ++ post)).set pre.length v) (pre.length + 1) vs = _
    rw [e]
    have := putL_app vs (pre ++ [v]) x (by simpa using h) post
    simpa using this

theorem putL_lent (l : List Int) : putL (List.replicate (l.length + 3) (0 : Int)) 0 (List.take (Nat.min l.length (l.length + 3)) l) = l ++ [0, 0, 0] := by
  have h1 : Nat.min l.length (l.length + 3) = l.length := Nat.min_eq_left (by omega)
  rw [h1, List.take_length, ← List.replicate_append_replicate]
  have := putL_app l [] (List.replicate l.length 0) (by simp) [0, 0, 0]
  simpa using this

theorem set0 (l : List Int) (a b c x : Int) : (l ++ [a, b, c]).set l.length x = l ++ [x, b, c] := by simp
theorem set1 (l : List Int) (a b c x : Int) : (l ++ [a, b, c]).set (l.length + 1) x = l ++ [a, x, c] := by simp
theorem set2 (l : List Int) (a b c x : Int) : (l ++ [a, b, c]).set (l.length + 2) x = l ++ [a, b, x] := by simp
theorem get0 (l : List Int) (a b c : Int) (i : Nat) (hi : i < l.length + 3) : ∃ y, getI (List.take (l.length + 3) (List.drop 0 (l ++ [a, b, c]))) (i : Int) = some y := by
  have : i < (List.take (l.length + 3) (List.drop 0 (l ++ [a, b, c]))).length := by simp; omega
  exact ⟨_, List.getElem?_eq_getElem this⟩

theorem lent_run {β : Type} (l : List Int) (h : l.length ≤ 1000) (k : AV → TMem → Option β) : enterT X0 (c0 β) an0 5 16 [.lst (.int .u8) l] TMem.empty k = k (.osl 0 0 l.length (l.length + 3)) ⟨1, 0, 0, (.n .e (some (.list 5 (.int .u8) (lent l) 4 true false)) .e)⟩ := by
  rw [tree16]
  have w3 : IntKind.wrap .i64 ((l.length : Int) + 3) = ((l.length + 3 : Nat) : Int) := wrap_small (n := l.length + 3) (by omega)
  have w1 : IntKind.wrap .i64 ((l.length : Int) + 1) = ((l.length + 1 : Nat) : Int) := wrap_small (n := l.length + 1) (by omega)
  have w2 : IntKind.wrap .i64 (((l.length + 1 : Nat) : Int) + 1) = ((l.length + 2 : Nat) : Int) := wrap_small (n := l.length + 2) (by omega)
  have w4 : IntKind.wrap .i64 (((l.length + 2 : Nat) : Int) + 1) = ((l.length + 3 : Nat) : Int) := wrap_small (n := l.length + 3) (by omega)
  have d0 : ltI ((l.length + 3 : Nat) : Int) 0 = false := by simp only [ltI_spec, decide_eq_false_iff_not]; omega
  have d1 : ltI 1000000 ((l.length + 3 : Nat) : Int) = false := by simp only [ltI_spec, decide_eq_false_iff_not]; omega
  have d2 : ltI (l.length : Int) 0 = false := by simp only [ltI_spec, decide_eq_false_iff_not]; omega
  have d3 : ltI (Int.ofNat (l.length + 3)) (l.length : Int) = false := by simp only [ltI_spec, decide_eq_false_iff_not]; show ¬ ((l.length + 3 : Nat) : Int) < _; omega
  have c1 : ltI (l.length : Int) ((l.length + 3 : Nat) : Int) = true := by simp only [ltI_spec, decide_eq_true_eq]; omega
  have c2 : ltI ((l.length + 1 : Nat) : Int) ((l.length + 3 : Nat) : Int) = true := by simp only [ltI_spec, decide_eq_true_eq]; omega
  have c3 : ltI ((l.length + 2 : Nat) : Int) ((l.length + 3 : Nat) : Int) = true := by simp only [ltI_spec, decide_eq_true_eq]; omega
  have c4 : ltI ((l.length + 3 : Nat) : Int) ((l.length + 3 : Nat) : Int) = false := by simp only [ltI_spec, decide_eq_false_iff_not]; omega
  simp only [w3, w1, w2, w4, Int.toNat_natCast, Nat.zero_add, Nat.sub_zero, putL_lent, set0, set1, set2, d0, d1, d2, d3, c1, c2, c3, c4, Bool.not_false, Bool.and_self, pickT, pickF]
  obtain ⟨y0, e0⟩ := get0 l 0 0 0 l.length (by omega)
  obtain ⟨y1, e1⟩ := get0 l (mark l.length) 0 0 (l.length + 1) (by omega)
  obtain ⟨y2, e2⟩ := get0 l (mark l.length) (mark (l.length + 1)) 0 (l.length + 2) (by omega)
  unfold mark at e1 e2
  simp only [e0, e1, e2]
  rfl
end Go.Proofs.Ytpabmjpkkhmidaa
