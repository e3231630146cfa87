/- Tokens: signs. -/
import Derived.Test.YtcafcgiemdlobaaDoorTk3
namespace Go.Proofs.YtcafcgiemdlobaaDoor.lt
open Go.Tv Go.Ev

def signsL : List (List UInt8) := [[36, 36], [60, 60], [62, 62], [43], [45], [42], [47], [37], [38], [124], [94], [126], [40], [41], [91], [93], [44], [58], [36]]
noncomputable def signT (s : List UInt8) (a : Int) : List (List UInt8) → Option AV
  | [] => outC ([], 0, 4, a)
  | g :: r => pick2 (!ltI a 0 && !ltI ↑s.length a) (pick2 (preB (cutL s a ↑s.length) g) (outC (g, IntKind.wrap .i64 (a + ↑g.length), 0, 0)) (signT s a r)) none
def signL (s : List UInt8) (a : Nat) : List (List UInt8) → Cut
  | [] => ([], 0, 4, a)
  | g :: r => if preB (s.drop a) g then (g, a + g.length, 0, 0) else signL s a r
def signC (s : List UInt8) (a : Nat) : Cut := signL s a signsL
theorem treeSign (s : List UInt8) (a : Int) : enterT (Xg gvS) (d3 gvS AV) an0 20 41 [.str s, .int .i64 a] TMem.empty (fun v _ => some v) = signT s a signsL := by kernel_rfl
theorem cut_drop (s : List UInt8) (a : Nat) : cutL s (a : Int) (s.length : Int) = s.drop a := by
  unfold cutL
  simp only [Int.toNat_natCast]
  exact List.take_of_length_le (by simp)
theorem signT_eq (s : List UInt8) (hs : s.length < 1000000) (a : Nat) (ha : a < s.length) : ∀ l : List (List UInt8), (∀ g ∈ l, g.length < 3) → signT s a l = outC (signL s a l) := by
  intro l
  induction l with
  | nil => intro _; rfl
  | cons g r ih =>
    intro hl
    have hg := hl g (List.mem_cons_self ..)
    rw [signT, signL, ltF (by omega), ltF (by omega), cut_drop, i64_in (by omega) (by omega)]
    show pick2 (preB (s.drop a) g) _ _ = _
    rw [pick2_eq, ih fun g h => hl g (List.mem_cons_of_mem _ h)]
    split <;> rfl
theorem runSign (s : List UInt8) (hs : s.length < 1000000) (a : Nat) (ha : a < s.length) : enterT (Xg gvS) (d3 gvS AV) an0 20 41 [.str s, .int .i64 a] TMem.empty (fun v _ => some v) = outC (signC s a) := by
  rw [treeSign]; exact signT_eq s hs a ha signsL (by decide)
theorem con41 : ConOk (Xg gvS) (cfOf (Xg gvS) noKnown) 41 (gCut signC) :=
  con_vals (nk 41) (d3_ok gvS) fun args rs hg => by
    unfold gCut at hg
    split at hg
    · rename_i s a
      simp only [Option.some.injEq, Prod.mk.injEq, Bool.and_eq_true, ltI_spec, Bool.not_eq_true', decide_eq_false_iff_not, decide_eq_true_eq, Nat.ble_eq] at hg
      obtain ⟨⟨⟨h1, h2⟩, h3⟩, rfl⟩ := hg
      obtain ⟨n, rfl⟩ : ∃ n : Nat, a = n := ⟨a.toNat, by omega⟩
      rw [Int.toNat_natCast]
      exact ⟨[.str (signC s n).1, .int .i64 (signC s n).2.1, .agg [.int .i64 (signC s n).2.2.1, .int .i64 (signC s n).2.2.2]], an0, 20, runSign s (by omega) n (by omega), rfl, rfl⟩
    · cases hg
end Go.Proofs.YtcafcgiemdlobaaDoor.lt
