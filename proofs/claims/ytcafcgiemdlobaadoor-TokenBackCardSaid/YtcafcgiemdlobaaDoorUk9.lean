/- Tk9, where all listed variables are known. -/
import Derived.Test.YtcafcgiemdlobaaDoorUk8
namespace Go.Proofs.YtcafcgiemdlobaaDoor.lt.t
open Go.Tv Go.Ev Go.Proofs.YtcafcgiemdlobaaDoor.lt

theorem loopL0 (s : List UInt8) (hs : s.length ≤ 1000) (rd : Nat) : ∀ (n m : Nat) (left : List UInt8), left.length ≤ n → n < m → s.drop (s.length - left.length) = left → n ≤ 1000 →
    jL0 s rd m left = ansL0 (lexF s n left) := by
  intro n
  induction n with
  | zero =>
    intro m left h1 h2 _ _
    obtain ⟨m, rfl⟩ : ∃ m', m = m' + 1 := ⟨m - 1, by omega⟩
    have : left = [] := List.length_eq_zero_iff.1 (by omega)
    subst this
    rw [stepL0]
    rfl
  | succ n ih =>
    intro m left h1 h2 h3 h4
    obtain ⟨m, rfl⟩ : ∃ m', m = m' + 1 := ⟨m - 1, by omega⟩
    match left, h1, h3 with
    | [], _, _ =>
      rw [stepL0]
      rfl
    | c :: r, h1, h3 =>
      rw [List.length_cons] at h1 h3
      have hle : r.length + 1 ≤ s.length := by
        have := congrArg List.length h3
        simp only [List.length_drop, List.length_cons] at this; omega
      have hr : s.drop (s.length - r.length) = r := by
        have : s.length - r.length = s.length - (r.length + 1) + 1 := by omega
        rw [this, ← List.drop_drop, h3]; rfl
      rw [stepL0, tree_eq hs h3, lexF]
      split
      · exact ih m r (by omega) (by omega) hr (by omega)
      · split
        · have := ih m [] (by simp) (by omega) (by simp) (by omega)
          rw [this]
          cases n <;> rfl
        · split
          · rename_i hp
            have he := piece_end h3 hp
            have := loopL1 s hs rd n m [(pieceS s c (s.length - (r.length + 1))).1] (s.drop (pieceS s c (s.length - (r.length + 1))).2.1.toNat) (by simp only [List.length_drop]; omega) (by omega) (by rw [List.length_drop]; congr 1; omega) (by simp; omega)
            refine this.trans ?_
            unfold ansL ansL0
            simp only [List.singleton_append]
            split
            · rw [if_neg (by simp)]
            · rfl
          · rename_i hp
            unfold ansL0
            rw [if_neg hp]

theorem runLex (s : List UInt8) : enterT (Xg gvT) (d5 (AV × Option Row)) anLx (s.length + 1) 15 [.str s] TMem.empty kGet =
    if (lexC s).1 = [] then errL (lexC s).2.1 (lexC s).2.2 else some (.tup [.own 1 (lexC s).1.length, .agg [.int .i64 (lexC s).2.1, .int .i64 (lexC s).2.2]], some (.list 32 tyTok (lexC s).1 0 false false)) := by
  rw [enterL]
  unfold lexC
  by_cases hl : 1000 < s.length
  · rw [ltT (by omega), if_pos hl, if_pos rfl]
  · rw [ltF (by omega), if_neg hl]
    show jL0 s (s.length + 1) (s.length + 1) s = _
    rw [loopL0 s (by omega) _ s.length _ s (Nat.le_refl _) (by omega) (by simp) (by omega)]
    unfold ansL0
    by_cases hf : (lexF s s.length s).2.1 = 0
    · rw [if_pos hf, if_pos hf]; rfl
    · rw [if_neg hf, if_neg hf, if_pos rfl]
theorem con15 : ConOk (Xg gvT) (cfOf (Xg gvT) noKnown) 15 gLex :=
  con_get (nk 15) d5_ok fun args rs hg => by
    unfold gLex at hg
    split at hg
    · rename_i s
      simp only [Option.some.injEq, Prod.mk.injEq] at hg
      obtain ⟨_, rfl⟩ := hg
      by_cases h : (lexC s).1 = []
      · refine ⟨[.nils, .agg [.int .i64 (lexC s).2.1, .int .i64 (lexC s).2.2]], anLx, s.length + 1, none, ?_, fun H _ => ⟨rfl, .inr ⟨rfl, h, rfl, rfl, trivial⟩⟩⟩
        rw [runLex, if_pos h]; rfl
      · refine ⟨[.own 1 (lexC s).1.length, .agg [.int .i64 (lexC s).2.1, .int .i64 (lexC s).2.2]], anLx, s.length + 1, some (.list 32 tyTok (lexC s).1 0 false false), ?_, fun H hH => ⟨rfl, .inl ⟨1, 0, false, rfl, ?_, by simp, rfl, rfl, trivial⟩⟩⟩
        · rw [runLex, if_neg h]; rfl
        · exact (Prod.mk.inj (Option.some.inj hH)).2
    · cases hg
end Go.Proofs.YtcafcgiemdlobaaDoor.lt.t
