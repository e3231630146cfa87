/- ExprSums comes to true. -/
import Derived.Test.YtpajehginfbamaaDoorEs3a
import Derived.Test.YtpajehginfbamaaDoorEs3b
import Derived.Test.YtpajehginfbamaaDoorEs3c
import Derived.Test.YtpajehginfbamaaDoorEs3d
import Derived.Test.YtpajehginfbamaaDoorEs3e
import Derived.Test.YtpajehginfbamaaDoorEs3f
namespace Go.Proofs.YtpajehginfbamaaDoor.es
open Go.Tv Go.Ev
theorem six {n : Int} (h : 0 ≤ n ∧ n < 6) : n = 0 ∨ n = 1 ∨ n = 2 ∨ n = 3 ∨ n = 4 ∨ n = 5 := by omega
theorem stS_true (a b c m h : Int) (hm : 0 ≤ m ∧ m < 6) (hh : 0 ≤ h ∧ h < 6) : stS a b c m h = some (.bool true) := by
  rcases six hm with rfl | rfl | rfl | rfl | rfl | rfl <;> rcases six hh with rfl | rfl | rfl | rfl | rfl | rfl
  · exact (s00 a b c).trans (three_ok ..)
  · exact (s01 a b c).trans (three_ok ..)
  · exact (s02 a b c).trans (three_ok ..)
  · exact (s03 a b c).trans (three_ok ..)
  · exact (s04 a b c).trans (three_ok ..)
  · exact (s05 a b c).trans (three_ok ..)
  · exact (s10 a b c).trans (three_ok ..)
  · exact (s11 a b c).trans (three_ok ..)
  · exact (s12 a b c).trans (three_ok ..)
  · exact (s13 a b c).trans (three_ok ..)
  · exact (s14 a b c).trans (three_ok ..)
  · exact (s15 a b c).trans (three_ok ..)
  · exact (s20 a b c).trans (three_ok ..)
  · exact (s21 a b c).trans (three_ok ..)
  · exact (s22 a b c).trans (three_ok ..)
  · exact (s23 a b c).trans (three_ok ..)
  · exact (s24 a b c).trans (three_ok ..)
  · exact (s25 a b c).trans (three_ok ..)
  · exact (s30 a b c).trans (three_ok ..)
  · exact (s31 a b c).trans (three_ok ..)
  · exact (s32 a b c).trans (three_ok ..)
  · exact (s33 a b c).trans (three_ok ..)
  · exact (s34 a b c).trans (three_ok ..)
  · exact (s35 a b c).trans (three_ok ..)
  · exact (s40 a b c).trans (three_ok ..)
  · exact (s41 a b c).trans (three_ok ..)
  · exact (s42 a b c).trans (three_ok ..)
  · exact (s43 a b c).trans (three_ok ..)
  · exact (s44 a b c).trans (three_ok ..)
  · exact (s45 a b c).trans (three_ok ..)
  · exact (s50 a b c).trans (three_ok ..)
  · exact (s51 a b c).trans (three_ok ..)
  · exact (s52 a b c).trans (three_ok ..)
  · exact (s53 a b c).trans (three_ok ..)
  · exact (s54 a b c).trans (three_ok ..)
  · exact (s55 a b c).trans (three_ok ..)
theorem sums (a b c i k : Int) : enterT X0 (mE AV) anS 100 11 [.int .i64 a, .int .i64 b, .int .i64 c, .int .i64 i, .int .i64 k] TMem.empty (fun v _ => some v) = some (.bool true) :=
  (enterS a b c i k).trans (stS_true a b c _ _ (pkI_range i 6 (by omega) (by omega)) (pkI_range k 6 (by omega) (by omega)))
theorem noOwn : noOwn Tryd.prog := noOwn_of (by kernel_rfl)
theorem mixed : Tryd.prog.follows .mixedOrders = true := by kernel_rfl
theorem glob {w : World} {rows : List Blk} {b0 : Blk} (hb : rows[0]? = some b0) (hl : b0.live = true) (hc : b0.cells = cells0) (hr : RowsAt rows w) : GlobOk X0 (woOf w) := by
  refine glob_rows hr fun g hg he => ?_
  match g, hg, he with
  | 0, _, _ => exact ⟨b0, hb, hl, by rw [hc]; rfl, by rw [hc]; kernel_rfl⟩
  | g + 1, hg, _ => exact absurd hg (by show ¬ g + 1 < 1; omega)
theorem sums_true {w : World} (hG : 1 ≤ w.heap.size) (hg : GlobOk X0 (woOf w)) {a b c i k : Int} {args' : List Value} (hargs : LV (woOf w) [.int .i64 a, .int .i64 b, .int .i64 c, .int .i64 i, .int .i64 k] args') :
    Calls Tryd.prog 11 args'.toArray w fun e w' => e = .returned (.bool true) ∧ RowKit.Below w.heap.size w w' :=
  top_ok (X := X0) noOwn mixed noKnown_ok (v := .bool true) (fun S x hx => hx.bool_inv) rfl (fun S E argsE hr hg hl => top_run (nk 11) mE_ok (sums a b c i k) S E argsE hr hg hl) hG hg hargs rfl
end Go.Proofs.YtpajehginfbamaaDoor.es
