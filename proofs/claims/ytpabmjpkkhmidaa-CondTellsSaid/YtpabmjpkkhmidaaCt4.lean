/- CondTells comes to true: its call. -/
import Derived.Test.YtpabmjpkkhmidaaCt3
import Derived.Test.YtpabmjpkkhmidaaTd
namespace Go.Proofs.Ytpabmjpkkhmidaa.condTells
open Go.Tv Go.Ev
theorem mixed1 : X1.P.follows .mixedOrders = true := mixed
theorem tells_true {w : World} {args : List Value} {n : Int} {s : List UInt8} {f1 f2 f3 f4 f5 : Bool} (ha : LV (woOf w) [.int .i64 n, .str s, .agg [.bool f1, .bool f2, .bool f3, .bool f4, .bool f5]] args) :
    Calls Try.prog 9 args.toArray w fun e w' => e = .returned (.bool true) ∧ RowKit.Below w.heap.size w w' :=
  top_ok (X := X1) noOwn mixed1 kn_ok (v := .bool true) (fun S x hx => hx.bool_inv) rfl (fun S E argsE hr hg hl => top_run (inl_ok 9 rfl) dT1_ok (law9 n s f1 f2 f3 f4 f5) S E argsE hr hg hl) (Nat.zero_le _) (fun g hg => absurd hg (Nat.not_lt_zero _)) ha rfl
theorem agg_vr {S : Wo} (f1 f2 f3 f4 f5 : Bool) : VR S (.agg [.bool f1, .bool f2, .bool f3, .bool f4, .bool f5]) (.agg #[.bool f1, .bool f2, .bool f3, .bool f4, .bool f5]) :=
  have h : LV S [.bool f1, .bool f2, .bool f3, .bool f4, .bool f5] [.bool f1, .bool f2, .bool f3, .bool f4, .bool f5] := LV.cons (.bool f1) (LV.cons (.bool f2) (LV.cons (.bool f3) (LV.cons (.bool f4) (LV.cons (.bool f5) LV.nil))))
  .agg _ _ h.1 h.2
theorem str_arg (w : World) (a : ByteArray) : VR (woOf w) (.str a.data.toList) (.string a) := by
  have h := VR.str (S := woOf w) a.data.toList
  have e : (⟨a.data.toList.toArray⟩ : ByteArray) = a := by obtain ⟨d⟩ := a; simp
  rw [e] at h; exact h
end Go.Proofs.Ytpabmjpkkhmidaa.condTells
