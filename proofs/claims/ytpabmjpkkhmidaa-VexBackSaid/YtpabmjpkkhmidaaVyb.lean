/- VexBack comes to true: its call. -/
import Derived.Test.YtpabmjpkkhmidaaVya
import Derived.Test.YtpabmjpkkhmidaaTd
namespace Go.Proofs.Ytpabmjpkkhmidaa.vexBack
open Go.Tv Go.Ev
theorem okB_row {zs : List Int} {len : Nat} (h : ∀ n ∈ zs, (Lit.int .u8 n).wf = true) : okB (zs.take len) = true := by
  unfold okB
  rw [List.all_eq_true]
  intro n hn
  have := h n (List.mem_of_mem_take hn)
  simp only [Lit.wf, IntKind.min, IntKind.max, IntKind.bits, IntKind.signed, Bool.and_eq_true, decide_eq_true_eq] at this
  simp only [ltI_spec, Bool.and_eq_true, Bool.not_eq_true', decide_eq_true_eq, decide_eq_false_iff_not]
  simp at this
  omega
theorem back_true {w : World} {args : List Value} {r x b m u v l p : Int} {ei : Bool} {z : List Int} (h : okB z = true) (ha : LV (woOf w) [agV r x b m u v l p, .bool ei, .lst (.int .u8) z] args) :
    Calls Try.prog 14 args.toArray w fun e w' => e = .returned (.bool true) ∧ RowKit.Below w.heap.size w w' :=
  top_ok (X := X0) noOwn mixed kn_ok (v := .bool true) (fun S x hx => hx.bool_inv) rfl (fun S E argsE hr hg hl => top_run (inl_ok 14 rfl) dV5_ok (law14 r x b m u v l p ei z h some) S E argsE hr hg hl) (Nat.zero_le _) (fun g hg => absurd hg (Nat.not_lt_zero _)) ha rfl
theorem agg_vr {S : Wo} (r x b m u v l p : Int) : VR S (agV r x b m u v l p) (.agg #[.int .i64 r, .int .i64 x, .int .i64 b, .int .i64 m, .int .i64 u, .int .i64 v, .int .i64 l, .int .i64 p]) :=
  have h : LV S [.int .i64 r, .int .i64 x, .int .i64 b, .int .i64 m, .int .i64 u, .int .i64 v, .int .i64 l, .int .i64 p] [.int .i64 r, .int .i64 x, .int .i64 b, .int .i64 m, .int .i64 u, .int .i64 v, .int .i64 l, .int .i64 p] :=
    LV.cons (.int .i64 r) (LV.cons (.int .i64 x) (LV.cons (.int .i64 b) (LV.cons (.int .i64 m) (LV.cons (.int .i64 u) (LV.cons (.int .i64 v) (LV.cons (.int .i64 l) (LV.cons (.int .i64 p) LV.nil)))))))
  .agg _ _ h.1 h.2
end Go.Proofs.Ytpabmjpkkhmidaa.vexBack
