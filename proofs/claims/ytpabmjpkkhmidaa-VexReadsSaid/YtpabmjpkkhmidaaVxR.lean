/- VexReads comes to true. -/
import Derived.Test.YtpabmjpkkhmidaaVxC
namespace Go.Proofs.Ytpabmjpkkhmidaa.vexReads
open Go.Tv Go.Ev

theorem tree12 {β : Type} (l : List Int) (k : AV → TMem → Option β) : enterT X0 (c2 β) an0 5 12 [.lst (.int .u8) l] TMem.empty k =
  (pick2 (ltI 100 ↑(List.length l))
    (k (.bool (true)) ⟨0, 0, 0, .e⟩)
    (pick2 (Nat.ble (List.length l) 1000)
      (pick2 (okB (List.take (List.length l) (List.drop 0 (lent l))))
        (pick2 (okB l)
          (pick2 (decide (nth (vr (List.take (List.length l) (List.drop 0 (lent l)))) 0 = nth (vr l) 0) &&
    (decide (nth (vr (List.take (List.length l) (List.drop 0 (lent l)))) 1 = nth (vr l) 1) &&
      (decide (nth (vr (List.take (List.length l) (List.drop 0 (lent l)))) 2 = nth (vr l) 2) &&
        (decide (nth (vr (List.take (List.length l) (List.drop 0 (lent l)))) 3 = nth (vr l) 3) &&
          (decide (nth (vr (List.take (List.length l) (List.drop 0 (lent l)))) 4 = nth (vr l) 4) &&
            (decide (nth (vr (List.take (List.length l) (List.drop 0 (lent l)))) 5 = nth (vr l) 5) &&
              (decide (nth (vr (List.take (List.length l) (List.drop 0 (lent l)))) 6 = nth (vr l) 6) &&
                decide (nth (vr (List.take (List.length l) (List.drop 0 (lent l)))) 7 = nth (vr l) 7))))))))
            (pick2 (eqI (nth (vr (List.take (List.length l) (List.drop 0 (lent l)))) 8) (nth (vr l) 8))
              (pick2 (eqI (nth (vr (List.take (List.length l) (List.drop 0 (lent l)))) 9) (nth (vr l) 9))
                (pick2 (eqI ↑(List.length l) ↑(List.length l))
                  (pick2 (!ltI (↑(List.length (lent l))) 0 && !ltI (Int.ofNat (List.length (lent l))) ↑(List.length (lent l)))
                    (pick2 (Nat.ble (List.length l) 1000)
                      (pick2 (!ltI (IntKind.wrap IntKind.i64 (↑(List.length l) + 3)) 0 &&
    !ltI (Int.ofNat (List.length (lent l))) (IntKind.wrap IntKind.i64 (↑(List.length l) + 3)))
                        (pick2 (decide
    (List.map iU8 (List.take (Int.toNat ↑(List.length (lent l)) - 0) (List.drop 0 (lent l))) =
      List.map iU8 (List.take (Int.toNat (IntKind.wrap IntKind.i64 (↑(List.length l) + 3)) - 0) (List.drop 0 (lent l)))))
                          (k (.bool (true)) ⟨4, 0, 0, (.n (.n (.n .e (some (.list 5 (.int .u8) (lent l) 0 true false)) .e) (some (.cells [(.int .i64 (nth (vr (List.take (List.length l) (List.drop 0 (lent l)))) 0)), (.int .i64 (nth (vr (List.take (List.length l) (List.drop 0 (lent l)))) 1)), (.int .i64 (nth (vr (List.take (List.length l) (List.drop 0 (lent l)))) 2)), (.int .i64 (nth (vr (List.take (List.length l) (List.drop 0 (lent l)))) 3)), (.int .i64 (nth (vr (List.take (List.length l) (List.drop 0 (lent l)))) 4)), (.int .i64 (nth (vr (List.take (List.length l) (List.drop 0 (lent l)))) 5)), (.int .i64 (nth (vr (List.take (List.length l) (List.drop 0 (lent l)))) 6)), (.int .i64 (nth (vr (List.take (List.length l) (List.drop 0 (lent l)))) 7))])) .e) (some (.list 5 (.int .u8) (lent l) 0 true false)) (.n .e (some (.cells [(.int .i64 (nth (vr l) 0)), (.int .i64 (nth (vr l) 1)), (.int .i64 (nth (vr l) 2)), (.int .i64 (nth (vr l) 3)), (.int .i64 (nth (vr l) 4)), (.int .i64 (nth (vr l) 5)), (.int .i64 (nth (vr l) 6)), (.int .i64 (nth (vr l) 7))])) .e))⟩)
                          (k (.bool (false)) ⟨4, 0, 0, (.n (.n (.n .e (some (.list 5 (.int .u8) (lent l) 0 true false)) .e) (some (.cells [(.int .i64 (nth (vr (List.take (List.length l) (List.drop 0 (lent l)))) 0)), (.int .i64 (nth (vr (List.take (List.length l) (List.drop 0 (lent l)))) 1)), (.int .i64 (nth (vr (List.take (List.length l) (List.drop 0 (lent l)))) 2)), (.int .i64 (nth (vr (List.take (List.length l) (List.drop 0 (lent l)))) 3)), (.int .i64 (nth (vr (List.take (List.length l) (List.drop 0 (lent l)))) 4)), (.int .i64 (nth (vr (List.take (List.length l) (List.drop 0 (lent l)))) 5)), (.int .i64 (nth (vr (List.take (List.length l) (List.drop 0 (lent l)))) 6)), (.int .i64 (nth (vr (List.take (List.length l) (List.drop 0 (lent l)))) 7))])) .e) (some (.list 5 (.int .u8) (lent l) 0 true false)) (.n .e (some (.cells [(.int .i64 (nth (vr l) 0)), (.int .i64 (nth (vr l) 1)), (.int .i64 (nth (vr l) 2)), (.int .i64 (nth (vr l) 3)), (.int .i64 (nth (vr l) 4)), (.int .i64 (nth (vr l) 5)), (.int .i64 (nth (vr l) 6)), (.int .i64 (nth (vr l) 7))])) .e))⟩))
                        (none))
                      (none))
                    (none))
                  (k (.bool (false)) ⟨3, 0, 0, (.n (.n .e (some (.cells [(.int .i64 (nth (vr (List.take (List.length l) (List.drop 0 (lent l)))) 0)), (.int .i64 (nth (vr (List.take (List.length l) (List.drop 0 (lent l)))) 1)), (.int .i64 (nth (vr (List.take (List.length l) (List.drop 0 (lent l)))) 2)), (.int .i64 (nth (vr (List.take (List.length l) (List.drop 0 (lent l)))) 3)), (.int .i64 (nth (vr (List.take (List.length l) (List.drop 0 (lent l)))) 4)), (.int .i64 (nth (vr (List.take (List.length l) (List.drop 0 (lent l)))) 5)), (.int .i64 (nth (vr (List.take (List.length l) (List.drop 0 (lent l)))) 6)), (.int .i64 (nth (vr (List.take (List.length l) (List.drop 0 (lent l)))) 7))])) .e) (some (.list 5 (.int .u8) (lent l) 0 true false)) (.n .e (some (.cells [(.int .i64 (nth (vr l) 0)), (.int .i64 (nth (vr l) 1)), (.int .i64 (nth (vr l) 2)), (.int .i64 (nth (vr l) 3)), (.int .i64 (nth (vr l) 4)), (.int .i64 (nth (vr l) 5)), (.int .i64 (nth (vr l) 6)), (.int .i64 (nth (vr l) 7))])) .e))⟩))
                (k (.bool (false)) ⟨3, 0, 0, (.n (.n .e (some (.cells [(.int .i64 (nth (vr (List.take (List.length l) (List.drop 0 (lent l)))) 0)), (.int .i64 (nth (vr (List.take (List.length l) (List.drop 0 (lent l)))) 1)), (.int .i64 (nth (vr (List.take (List.length l) (List.drop 0 (lent l)))) 2)), (.int .i64 (nth (vr (List.take (List.length l) (List.drop 0 (lent l)))) 3)), (.int .i64 (nth (vr (List.take (List.length l) (List.drop 0 (lent l)))) 4)), (.int .i64 (nth (vr (List.take (List.length l) (List.drop 0 (lent l)))) 5)), (.int .i64 (nth (vr (List.take (List.length l) (List.drop 0 (lent l)))) 6)), (.int .i64 (nth (vr (List.take (List.length l) (List.drop 0 (lent l)))) 7))])) .e) (some (.list 5 (.int .u8) (lent l) 0 true false)) (.n .e (some (.cells [(.int .i64 (nth (vr l) 0)), (.int .i64 (nth (vr l) 1)), (.int .i64 (nth (vr l) 2)), (.int .i64 (nth (vr l) 3)), (.int .i64 (nth (vr l) 4)), (.int .i64 (nth (vr l) 5)), (.int .i64 (nth (vr l) 6)), (.int .i64 (nth (vr l) 7))])) .e))⟩))
              (k (.bool (false)) ⟨3, 0, 0, (.n (.n .e (some (.cells [(.int .i64 (nth (vr (List.take (List.length l) (List.drop 0 (lent l)))) 0)), (.int .i64 (nth (vr (List.take (List.length l) (List.drop 0 (lent l)))) 1)), (.int .i64 (nth (vr (List.take (List.length l) (List.drop 0 (lent l)))) 2)), (.int .i64 (nth (vr (List.take (List.length l) (List.drop 0 (lent l)))) 3)), (.int .i64 (nth (vr (List.take (List.length l) (List.drop 0 (lent l)))) 4)), (.int .i64 (nth (vr (List.take (List.length l) (List.drop 0 (lent l)))) 5)), (.int .i64 (nth (vr (List.take (List.length l) (List.drop 0 (lent l)))) 6)), (.int .i64 (nth (vr (List.take (List.length l) (List.drop 0 (lent l)))) 7))])) .e) (some (.list 5 (.int .u8) (lent l) 0 true false)) (.n .e (some (.cells [(.int .i64 (nth (vr l) 0)), (.int .i64 (nth (vr l) 1)), (.int .i64 (nth (vr l) 2)), (.int .i64 (nth (vr l) 3)), (.int .i64 (nth (vr l) 4)), (.int .i64 (nth (vr l) 5)), (.int .i64 (nth (vr l) 6)), (.int .i64 (nth (vr l) 7))])) .e))⟩))
            (k (.bool (false)) ⟨3, 0, 0, (.n (.n .e (some (.cells [(.int .i64 (nth (vr (List.take (List.length l) (List.drop 0 (lent l)))) 0)), (.int .i64 (nth (vr (List.take (List.length l) (List.drop 0 (lent l)))) 1)), (.int .i64 (nth (vr (List.take (List.length l) (List.drop 0 (lent l)))) 2)), (.int .i64 (nth (vr (List.take (List.length l) (List.drop 0 (lent l)))) 3)), (.int .i64 (nth (vr (List.take (List.length l) (List.drop 0 (lent l)))) 4)), (.int .i64 (nth (vr (List.take (List.length l) (List.drop 0 (lent l)))) 5)), (.int .i64 (nth (vr (List.take (List.length l) (List.drop 0 (lent l)))) 6)), (.int .i64 (nth (vr (List.take (List.length l) (List.drop 0 (lent l)))) 7))])) .e) (some (.list 5 (.int .u8) (lent l) 0 true false)) (.n .e (some (.cells [(.int .i64 (nth (vr l) 0)), (.int .i64 (nth (vr l) 1)), (.int .i64 (nth (vr l) 2)), (.int .i64 (nth (vr l) 3)), (.int .i64 (nth (vr l) 4)), (.int .i64 (nth (vr l) 5)), (.int .i64 (nth (vr l) 6)), (.int .i64 (nth (vr l) 7))])) .e))⟩))
          (none))
        (none))
      (none))) := by kernel_rfl

theorem lent_len (l : List Int) : (lent l).length = l.length + 3 := by simp [lent]
theorem lent_take (l : List Int) : List.take l.length (List.drop 0 (lent l)) = l := by simp [lent]

theorem law12 (l : List Int) (h : okB l = true) : ∃ H, enterT X0 (c2 (AV × TMem)) an0 5 12 [.lst (.int .u8) l] TMem.empty (fun v H => some (v, H)) = some (.bool true, H) := by
  rw [tree12, pick2_eq]
  split
  · exact ⟨_, rfl⟩
  · rename_i hn
    have hn : l.length ≤ 100 := by
      simp only [ltI_spec, decide_eq_true_eq] at hn
      omega
    have w3 : IntKind.wrap .i64 ((l.length : Int) + 3) = ((l.length + 3 : Nat) : Int) := wrap_small (n := l.length + 3) (by omega)
    have b1 : Nat.ble l.length 1000 = true := Nat.ble_eq_true_of_le (by omega)
    have eqS : ∀ n : Int, eqI n n = true := fun n => by rw [eqI_spec]; simp
    have d0 : ltI ((l.length + 3 : Nat) : Int) 0 = false := by simp only [ltI_spec, decide_eq_false_iff_not]; omega
    have d1 : ltI (Int.ofNat (l.length + 3)) ((l.length + 3 : Nat) : Int) = false := by simp only [ltI_spec, decide_eq_false_iff_not]; show ¬ ((l.length + 3 : Nat) : Int) < _; omega
    simp only [lent_take, lent_len, w3, b1, h, eqS, d0, d1, pickT, Bool.not_false, Bool.and_self, decide_true]
    exact ⟨_, rfl⟩

theorem okB_row {zs : List Int} {len : Nat} (h : ∀ n ∈ zs, (Lit.int .u8 n).wf = true) : okB (zs.take len) = true := by
  unfold okB
  rw [List.all_eq_true]
  intro n hn
  have := h n (List.mem_of_mem_take hn)
  simp only [Lit.wf, IntKind.min, IntKind.max, IntKind.bits, IntKind.signed, Bool.and_eq_true, decide_eq_true_eq] at this
  simp only [ltI_spec, Bool.and_eq_true, Bool.not_eq_true', decide_eq_true_eq, decide_eq_false_iff_not]
  simp at this
  omega

theorem reads_true {w : World} {args : List Value} {l : List Int} (h : okB l = true) (ha : LV (woOf w) [.lst (.int .u8) l] args) :
    Calls Try.prog 12 args.toArray w fun e w' => e = .returned (.bool true) ∧ RowKit.Below w.heap.size w w' := by
  obtain ⟨H, hH⟩ := law12 l h
  refine top_ok (X := X0) noOwn mixed kn_ok (v := .bool true) (fun S x hx => hx.bool_inv) rfl (fun S E argsE hr hg hl => ?_) (Nat.zero_le _) (fun g hg => absurd hg (Nat.not_lt_zero _)) ha rfl
  obtain ⟨S', vE, E', a1, a2, _, _⟩ := pure_of (vs := [.bool true]) (inl_ok 12 rfl) c2_ok hH S E argsE hr hg hl
  exact ⟨S', vE, E', a1, a2⟩
end Go.Proofs.Ytpabmjpkkhmidaa.vexReads
