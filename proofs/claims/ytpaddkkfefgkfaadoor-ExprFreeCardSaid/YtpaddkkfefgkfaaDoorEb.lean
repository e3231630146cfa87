/- Expressions: what a token alone is. -/
import Derived.Test.YtpaddkkfefgkfaaDoorEa
namespace Go.Proofs.YtpaddkkfefgkfaaDoor.ex
open Go.Tv Go.Ev Go.Px
noncomputable section

def tokA (t : Tok) : AV := .agg [.int .i64 t.1, .int .i64 t.2.1, .str t.2.2.1, .int .i64 t.2.2.2]
def ndA (n : Nd) : AV := .agg [.int .i64 n.1, .int .i64 n.2.1, .str n.2.2.1, .int .i64 n.2.2.2.1, .int .i64 n.2.2.2.2]
def zNd : Nd := (0, 0, [], 0, 0)
abbrev tyTok : Ty := .pair (.int .i64) (.pair (.int .i64) (.pair .str (.int .i64)))
abbrev tyNd : Ty := .pair (.int .i64) (.pair (.int .i64) (.pair .str (.pair (.int .i64) (.int .i64))))

/-- Contracts of functions of one token. -/
def gTk1 (f : Tok → List PRes) (args : List AV) : Option (Bool × List PRes) :=
  match args with
  | [.agg [.int .i64 k, .int .i64 n, .str s, .int .i64 a]] => some (true, f (k, n, s, a))
  | _ => none
def gSgn (args : List AV) : Option (Bool × List PRes) :=
  match args with
  | [.agg [.int .i64 k, .int .i64 n, .str s, .int .i64 a], .str t] => some (true, [.val (.bool (eqI k 4 && decide (s = t)))])
  | _ => none
theorem con_sgn : ConOk X0 cf0 31 gSgn :=
  con_vals (nk 31) (cN_ok M3_ok n0) fun args rs hg => by
    unfold gSgn at hg
    split at hg
    · rename_i k n s a t
      simp only [Option.some.injEq, Prod.mk.injEq] at hg
      obtain ⟨h1, rfl⟩ := hg
      refine ⟨[.bool (eqI k 4 && decide (s = t))], an0, 5, ?_, rfl, rfl⟩
      have h : enterT X0 (cN M3 [] AV) an0 5 31 [.agg [.int .i64 k, .int .i64 n, .str s, .int .i64 a], .str t] TMem.empty (fun v _ => some v) = pick2 (eqI k 4) (some (.bool (decide (s = t)))) (some (.bool false)) := by kernel_rfl
      rw [h]
      cases eqI k 4 <;> rfl
    · cases hg
def M4 : List Con := (31, [none, none], gSgn) :: M3
theorem M4_ok : TabOk X0 cf0 M4 := .cons con_sgn M3_ok
theorem sgn_is (k n a : Int) (s t : List UInt8) : (eqI k 4 && decide (s = t)) = isS (k, n, s, a) t := by
  unfold isS
  have e : (k == 4) = decide (k = 4) := by rw [Bool.eq_iff_iff]; simp
  rw [eqI_spec, e]

def opndR (t : Tok) : List PRes := [.val (ndA ((opnd nameB t).getD zNd)), .val (.bool (opnd nameB t).isSome)]
theorem con_opnd : ConOk X0 cf0 27 (gTk1 opndR) :=
  con_vals (nk 27) (cN_ok M4_ok n0) fun args rs hg => by
    unfold gTk1 at hg
    split at hg
    · rename_i k n s a
      simp only [Option.some.injEq, Prod.mk.injEq] at hg
      obtain ⟨h1, rfl⟩ := hg
      refine ⟨[ndA ((opnd nameB (k, n, s, a)).getD zNd), .bool (opnd nameB (k, n, s, a)).isSome], an0, 5, ?_, rfl, rfl⟩
      have h : enterT X0 (cN M4 [] AV) an0 5 27 [.agg [.int .i64 k, .int .i64 n, .str s, .int .i64 a]] TMem.empty (fun v _ => some v) =
        pick2 (eqI k 2) (some (.tup [ndA (1, n, [], 0, 0), .bool true])) ((fun rest => pick2 (eqI k 1) (pick2 (nameB s) (some (.tup [ndA (2, 0, s, 0, 0), .bool true])) rest) rest)
          (pick2 (eqI k 4 && decide (s = [36])) (some (.tup [ndA (3, 0, [], 0, 0), .bool true])) (pick2 (eqI k 4 && decide (s = [36, 36])) (some (.tup [ndA (4, 0, [], 0, 0), .bool true])) (some (.tup [ndA zNd, .bool false]))))) := by kernel_rfl
      rw [h, sgn_is k n a, sgn_is k n a]
      unfold opnd
      simp only [pick_eq]
      simp only [pick2_eq]
      have rest : (if isS (k, n, s, a) [36] = true then some (AV.tup [ndA (3, 0, [], 0, 0), AV.bool true]) else if isS (k, n, s, a) [36, 36] = true then some (AV.tup [ndA (4, 0, [], 0, 0), AV.bool true]) else some (AV.tup [ndA zNd, AV.bool false])) =
          some (oneT [ndA ((if isS (k, n, s, a) [36] = true then some (3, 0, [], 0, 0) else if isS (k, n, s, a) [36, 36] = true then some (4, 0, [], 0, 0) else none).getD zNd), AV.bool (if isS (k, n, s, a) [36] = true then some ((3, 0, [], 0, 0) : Nd) else if isS (k, n, s, a) [36, 36] = true then some (4, 0, [], 0, 0) else none).isSome]) := by
        by_cases c4 : isS (k, n, s, a) [36] = true
        · simp only [if_pos c4]; rfl
        · simp only [if_neg c4]
          by_cases c5 : isS (k, n, s, a) [36, 36] = true
          · simp only [if_pos c5]; rfl
          · simp only [if_neg c5]; rfl
      by_cases c1 : k = 2
      · simp only [if_pos c1]; rfl
      · simp only [if_neg c1]
        by_cases c2 : k = 1
        · by_cases c3 : nameB s = true
          · simp only [if_pos c2, if_pos c3, if_pos (And.intro c2 c3)]; rfl
          · simp only [if_pos c2, if_neg c3, if_neg (fun h : k = 1 ∧ nameB s = true => c3 h.2)]; exact rest
        · simp only [if_neg c2, if_neg (fun h : k = 1 ∧ nameB s = true => c2 h.1)]; exact rest
    · cases hg
def prefR (t : Tok) : List PRes := [.val (.int .i64 ((pref t).getD 0)), .val (.bool (pref t).isSome)]
theorem con_pref : ConOk X0 cf0 28 (gTk1 prefR) :=
  con_vals (nk 28) (cN_ok M4_ok n0) fun args rs hg => by
    unfold gTk1 at hg
    split at hg
    · rename_i k n s a
      simp only [Option.some.injEq, Prod.mk.injEq] at hg
      obtain ⟨h1, rfl⟩ := hg
      refine ⟨[.int .i64 ((pref (k, n, s, a)).getD 0), .bool (pref (k, n, s, a)).isSome], an0, 5, ?_, rfl, rfl⟩
      have h : enterT X0 (cN M4 [] AV) an0 5 28 [.agg [.int .i64 k, .int .i64 n, .str s, .int .i64 a]] TMem.empty (fun v _ => some v) =
        pick2 (eqI k 4 && decide (s = [45])) (some (.tup [.int .i64 5, .bool true])) (pick2 (eqI k 4 && decide (s = [126])) (some (.tup [.int .i64 6, .bool true])) (pick2 (eqI k 4 && decide (s = [43])) (some (.tup [.int .i64 0, .bool true])) (some (.tup [.int .i64 0, .bool false])))) := by kernel_rfl
      rw [h, sgn_is k n a, sgn_is k n a, sgn_is k n a]
      unfold pref
      simp only [pick2_eq]
      by_cases c1 : isS (k, n, s, a) [45] = true
      · simp only [if_pos c1]; rfl
      · simp only [if_neg c1]
        by_cases c2 : isS (k, n, s, a) [126] = true
        · simp only [if_pos c2]; rfl
        · simp only [if_neg c2]
          by_cases c3 : isS (k, n, s, a) [43] = true
          · simp only [if_pos c3]; rfl
          · simp only [if_neg c3]; rfl
    · cases hg
def binR (t : Tok) : List PRes := [.val (.int .i64 (Px.bin t).1), .val (.int .i64 (Px.bin t).2)]
theorem con_bin : ConOk X0 cf0 32 (gTk1 binR) :=
  con_vals (nk 32) (cN_ok M4_ok n0) fun args rs hg => by
    unfold gTk1 at hg
    split at hg
    · rename_i k n s a
      simp only [Option.some.injEq, Prod.mk.injEq] at hg
      obtain ⟨h1, rfl⟩ := hg
      refine ⟨[.int .i64 (Px.bin (k, n, s, a)).1, .int .i64 (Px.bin (k, n, s, a)).2], an0, 5, ?_, rfl, rfl⟩
      have h : enterT X0 (cN M4 [] AV) an0 5 32 [.agg [.int .i64 k, .int .i64 n, .str s, .int .i64 a]] TMem.empty (fun v _ => some v) =
        pick2 (!eqI k 4) (some (.tup [.int .i64 0, .int .i64 0])) (List.rec (motive := fun _ => Option AV) (some (.tup [.int .i64 0, .int .i64 0])) (fun q _ r => pick2 (decide (s = q.1)) (some (.tup [.int .i64 q.2.1, .int .i64 q.2.2])) r) binL) := by kernel_rfl
      rw [h, pick_neq]
      have key : ∀ m : List (List UInt8 × Int × Int), (List.rec (motive := fun _ => Option AV) (some (.tup [.int .i64 0, .int .i64 0])) (fun q _ r => pick2 (decide (s = q.1)) (some (.tup [.int .i64 q.2.1, .int .i64 q.2.2])) r) m : Option AV) = some (.tup [.int .i64 (binFind s m).1, .int .i64 (binFind s m).2]) := by
        intro m
        induction m with
        | nil => rfl
        | cons q m ih =>
          show pick2 (decide (s = q.1)) _ (List.rec (motive := fun _ => Option AV) _ _ m) = _
          rw [ih, binFind]
          by_cases hq : s = q.1
          · rw [decide_eq_true hq, if_pos hq]
          · rw [decide_eq_false hq, if_neg hq]
      rw [key]
      unfold Px.bin
      by_cases c1 : k = 4
      · simp only [if_pos c1]; rfl
      · simp only [if_neg c1]; rfl
    · cases hg
def M5 : List Con := (27, [none], gTk1 opndR) :: (28, [none], gTk1 prefR) :: (32, [none], gTk1 binR) :: M4
theorem M5_ok : TabOk X0 cf0 M5 := .cons con_opnd (.cons con_pref (.cons con_bin M4_ok))
end
end Go.Proofs.YtpaddkkfefgkfaaDoor.ex
