/- Tk4, where all listed variables are known. -/
import Derived.Test.YtcafcgiemdlobaaDoorTk9
namespace Go.Proofs.YtcafcgiemdlobaaDoor.lt.t
open Go.Tv Go.Ev Go.Proofs.YtcafcgiemdlobaaDoor.lt

theorem treeSign (s : List UInt8) (a : Int) : enterT (Xg gvT) (d3 gvT AV) an0 20 41 [.str s, .int .i64 a] TMem.empty (fun v _ => some v) = signT s a signsL := by kernel_rfl
theorem runSign (s : List UInt8) (hs : s.length < 1000000) (a : Nat) (ha : a < s.length) : enterT (Xg gvT) (d3 gvT AV) an0 20 41 [.str s, .int .i64 a] TMem.empty (fun v _ => some v) = outC (signC s a) := by
  rw [treeSign]; exact signT_eq s hs a ha signsL (by decide)
theorem con41 : ConOk (Xg gvT) (cfOf (Xg gvT) noKnown) 41 (gCut signC) :=
  con_vals (nk 41) (d3_ok gvT) fun args rs hg => by
    unfold gCut at hg
    split at hg
    · rename_i s a
      simp only [Option.some.injEq, Prod.mk.injEq, Bool.and_eq_true, ltI_spec, Bool.not_eq_true', decide_eq_false_iff_not, decide_eq_true_eq, Nat.ble_eq] at hg
      obtain ⟨⟨⟨h1, h2⟩, h3⟩, rfl⟩ := hg
      obtain ⟨n, rfl⟩ : ∃ n : Nat, a = n := ⟨a.toNat, by omega⟩
      rw [Int.toNat_natCast]
      exact ⟨[.str (signC s n).1, .int .i64 (signC s n).2.1, .agg [.int .i64 (signC s n).2.2.1, .int .i64 (signC s n).2.2.2]], an0, 20, runSign s (by omega) n (by omega), rfl, rfl⟩
    · cases hg
end Go.Proofs.YtcafcgiemdlobaaDoor.lt.t
