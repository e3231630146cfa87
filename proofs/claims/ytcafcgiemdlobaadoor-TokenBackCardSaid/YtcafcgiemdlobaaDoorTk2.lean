/- Tokens: names and quoted texts. -/
import Derived.Test.YtcafcgiemdlobaaDoorTk
namespace Go.Proofs.YtcafcgiemdlobaaDoor.lt
open Go.Tv Go.Ev

abbrev Cut := List UInt8 × Int × Int × Int
noncomputable def outC (r : Cut) : Option AV := some (.tup [.str r.1, .int .i64 r.2.1, .agg [.int .i64 r.2.2.1, .int .i64 r.2.2.2]])
def pNm : List Bool := [true, true, false, false]
def pTx : List Bool := [true, false, true, false]
noncomputable def anNm : FnAnn := ⟨annOf [0, 1, 6, 7] pNm, .none, []⟩
noncomputable def anTx : FnAnn := ⟨annOf [0, 1, 6, 7] pTx, .none, []⟩
noncomputable def stC (k : Nat) (s : List UInt8) (a e : Int) : TFr := frOf k [(0, .str s), (1, .int .i64 a), (6, .ptr 0 0), (7, .int .i64 e)]
noncomputable def jNm (gv : Nat → List AV) (s : List UInt8) (a : Int) (r m : Nat) (e : Int) : Option AV := loopN (Xg gv) (d2 gv AV) anNm r 39 pNm (fun v _ => some v) m (stC 33 s a e) mT
noncomputable def jTx (gv : Nat → List AV) (s : List UInt8) (a : Int) (r m : Nat) (e : Int) : Option AV := loopN (Xg gv) (d2 gv AV) anTx r 40 pTx (fun v _ => some v) m (stC 40 s a e) mT
noncomputable def endNm (s : List UInt8) (a e : Int) : Option AV := pick2 (!ltI a 0 && !ltI e a && !ltI ↑s.length e) (outC (cutL s a e, e, 0, 0)) none
noncomputable def treeNm (s : List UInt8) (a e : Int) (go : Int → Option AV) : Option AV :=
  pick2 (ltI e ↑s.length)
    (Option.rec (motive := fun _ => Option AV) none (fun c => pick2 (moreI (u8I c)) (pick2 (eqI (IntKind.wrap .i64 (e - a)) 60) (outC ([], 0, 3, e)) (go (IntKind.wrap .i64 (e + 1)))) (endNm s a e)) (getI s e))
    (endNm s a e)
noncomputable def treeTx (s : List UInt8) (a e : Int) (go : Int → Option AV) : Option AV :=
  pick2 (ltI e ↑s.length)
    (Option.rec (motive := fun _ => Option AV) none (fun c => pick2 (eqI (u8I c) 34)
      (pick2 (!ltI (IntKind.wrap .i64 (a + 1)) 0 && !ltI e (IntKind.wrap .i64 (a + 1)) && !ltI ↑s.length e) (outC (cutL s (IntKind.wrap .i64 (a + 1)) e, IntKind.wrap .i64 (e + 1), 0, 0)) none)
      (Option.rec (motive := fun _ => Option AV) none (fun c => pick2 (!plainI (u8I c)) (outC ([], 0, 4, e)) (go (IntKind.wrap .i64 (e + 1)))) (getI s e))) (getI s e))
    (outC ([], 0, 4, ↑s.length))
theorem stepNm (gv : Nat → List AV) (s : List UInt8) (a : Int) (r m : Nat) (e : Int) : jNm gv s a r (m + 1) e = treeNm s a e (jNm gv s a r m) := by kernel_rfl
theorem stepTx (gv : Nat → List AV) (s : List UInt8) (a : Int) (r m : Nat) (e : Int) : jTx gv s a r (m + 1) e = treeTx s a e (jTx gv s a r m) := by kernel_rfl
theorem enterNm (gv : Nat → List AV) (s : List UInt8) (a : Int) (m : Nat) : enterT (Xg gv) (d2 gv AV) anNm m 39 [.str s, .int .i64 a] TMem.empty (fun v _ => some v) = jNm gv s a m m a := by kernel_rfl
theorem enterTx (gv : Nat → List AV) (s : List UInt8) (a : Int) (m : Nat) : enterT (Xg gv) (d2 gv AV) anTx m 40 [.str s, .int .i64 a] TMem.empty (fun v _ => some v) = jTx gv s a m m (IntKind.wrap .i64 (a + 1)) := by kernel_rfl

def nameL (s : List UInt8) (a : Nat) : List UInt8 → Nat → Cut
  | [], e => (cutL s a e, e, 0, 0)
  | c :: r, e => if moreI (u8I c) then (if e = a + 60 then ([], 0, 3, e) else nameL s a r (e + 1)) else (cutL s a e, e, 0, 0)
def quoteL (s : List UInt8) (a : Nat) : List UInt8 → Nat → Cut
  | [], _ => ([], 0, 4, s.length)
  | c :: r, e => if u8I c = 34 then (cutL s (a + 1) e, e + 1, 0, 0) else if plainI (u8I c) then quoteL s a r (e + 1) else ([], 0, 4, e)

theorem endNm_eq (s : List UInt8) (a e : Nat) (h : a ≤ e) (h2 : e ≤ s.length) : endNm s a e = outC (cutL s a e, e, 0, 0) := by
  unfold endNm
  rw [ltF (by omega), ltF (by omega), ltF (by omega)]; rfl

theorem loopNm (gv : Nat → List AV) (s : List UInt8) (hs : s.length < 1000000) (a r : Nat) : ∀ (rest pre : List UInt8) (m : Nat), s = pre ++ rest → rest.length < m → a ≤ pre.length →
    jNm gv s a r m pre.length = outC (nameL s a rest pre.length) := by
  intro rest
  induction rest with
  | nil =>
    intro pre m he hm hp
    obtain ⟨m, rfl⟩ : ∃ m', m = m' + 1 := ⟨m - 1, by simp at hm; omega⟩
    have hl : s.length = pre.length := by rw [he]; simp
    rw [stepNm]
    unfold treeNm
    rw [ltF (by omega), endNm_eq s a _ hp (by omega)]
    rfl
  | cons c rest ih =>
    intro pre m he hm hp
    obtain ⟨m, rfl⟩ : ∃ m', m = m' + 1 := ⟨m - 1, by simp at hm; omega⟩
    have hl : s.length = pre.length + (rest.length + 1) := by rw [he]; simp
    have hg : getI s (pre.length : Int) = some c := by rw [he]; exact getI_at pre rest c
    have hnext : IntKind.wrap .i64 ((pre.length : Int) + 1) = ((pre ++ [c]).length : Int) := by rw [i64_in (by omega) (by omega)]; simp
    rw [stepNm]
    unfold treeNm
    rw [ltT (by omega), hg, endNm_eq s a _ hp (by omega), hnext, i64_in (n := (pre.length : Int) - a) (by omega) (by omega)]
    show pick2 (moreI (u8I c)) (pick2 (eqI ((pre.length : Int) - a) 60) _ (jNm gv s a r m ((pre ++ [c]).length : Int))) _ = _
    rw [nameL, pick2_eq]
    split
    · by_cases h60 : pre.length = a + 60
      · rw [eqT (by omega), if_pos h60]
      · rw [eqF (by omega), if_neg h60]
        show jNm gv s a r m ((pre ++ [c]).length : Int) = _
        rw [ih (pre ++ [c]) m (by rw [he]; simp) (by simp at hm; omega) (by simp; omega), List.length_append, List.length_singleton]
    · rfl

theorem loopTx (gv : Nat → List AV) (s : List UInt8) (hs : s.length < 1000000) (a r : Nat) : ∀ (rest pre : List UInt8) (m : Nat), s = pre ++ rest → rest.length < m → a + 1 ≤ pre.length →
    jTx gv s a r m pre.length = outC (quoteL s a rest pre.length) := by
  intro rest
  induction rest with
  | nil =>
    intro pre m he hm hp
    obtain ⟨m, rfl⟩ : ∃ m', m = m' + 1 := ⟨m - 1, by simp at hm; omega⟩
    have hl : s.length = pre.length := by rw [he]; simp
    rw [stepTx]
    unfold treeTx
    rw [ltF (by omega)]
    rfl
  | cons c rest ih =>
    intro pre m he hm hp
    obtain ⟨m, rfl⟩ : ∃ m', m = m' + 1 := ⟨m - 1, by simp at hm; omega⟩
    have hl : s.length = pre.length + (rest.length + 1) := by rw [he]; simp
    have hg : getI s (pre.length : Int) = some c := by rw [he]; exact getI_at pre rest c
    have hnext : IntKind.wrap .i64 ((pre.length : Int) + 1) = ((pre ++ [c]).length : Int) := by rw [i64_in (by omega) (by omega)]; simp
    rw [stepTx]
    unfold treeTx
    rw [ltT (by omega), hg, hnext, i64_in (n := (a : Int) + 1) (by omega) (by omega), ltF (a := (a : Int) + 1) (by omega), ltF (a := (pre.length : Int)) (b := (a : Int) + 1) (by omega), ltF (a := (s.length : Int)) (by omega)]
    show pick2 (eqI (u8I c) 34) (outC (cutL s ((a : Int) + 1) (pre.length : Int), ((pre ++ [c]).length : Int), 0, 0)) (pick2 (!plainI (u8I c)) _ (jTx gv s a r m ((pre ++ [c]).length : Int))) = _
    rw [quoteL]
    by_cases hc : u8I c = 34
    · rw [eqT hc, if_pos hc, List.length_append, List.length_singleton]; rfl
    · rw [eqF hc, if_neg hc]
      show pick2 (!plainI (u8I c)) _ _ = _
      cases hpl : plainI (u8I c)
      · rfl
      · show jTx gv s a r m ((pre ++ [c]).length : Int) = _
        rw [if_pos rfl, ih (pre ++ [c]) m (by rw [he]; simp) (by simp at hm; omega) (by simp; omega), List.length_append, List.length_singleton]

def nameC (s : List UInt8) (a : Nat) : Cut := nameL s a (s.drop a) a
def quoteC (s : List UInt8) (a : Nat) : Cut := quoteL s a (s.drop (a + 1)) (a + 1)
theorem runNm (gv : Nat → List AV) (s : List UInt8) (hs : s.length < 1000000) (a : Nat) (ha : a < s.length) :
    enterT (Xg gv) (d2 gv AV) anNm (s.length + 1) 39 [.str s, .int .i64 a] TMem.empty (fun v _ => some v) = outC (nameC s a) := by
  rw [enterNm]
  have hl : (s.take a).length = a := by simp; omega
  have := loopNm gv s hs a (s.length + 1) (s.drop a) (s.take a) (s.length + 1) (by simp) (by simp; omega) (by omega)
  rw [hl] at this
  exact this
theorem runTx (gv : Nat → List AV) (s : List UInt8) (hs : s.length < 1000000) (a : Nat) (ha : a < s.length) :
    enterT (Xg gv) (d2 gv AV) anTx (s.length + 1) 40 [.str s, .int .i64 a] TMem.empty (fun v _ => some v) = outC (quoteC s a) := by
  rw [enterTx, i64_in (by omega) (by omega)]
  have hl : (s.take (a + 1)).length = a + 1 := by simp; omega
  have := loopTx gv s hs a (s.length + 1) (s.drop (a + 1)) (s.take (a + 1)) (s.length + 1) (by simp) (by simp; omega) (by omega)
  rw [hl] at this
  exact this

noncomputable def gCut (f : List UInt8 → Nat → Cut) (args : List AV) : Option (Bool × List PRes) :=
  match args with
  | [.str s, .int .i64 a] => some (!ltI a 0 && ltI a ↑s.length && Nat.ble s.length 999999, [.val (.str (f s a.toNat).1), .val (.int .i64 (f s a.toNat).2.1), .val (.agg [.int .i64 (f s a.toNat).2.2.1, .int .i64 (f s a.toNat).2.2.2])])
  | _ => none
theorem con_cut {gv : Nat → List AV} {id : FuncId} {an : FnAnn} {f : List UInt8 → Nat → Cut} (h : ∀ (s : List UInt8), s.length < 1000000 → ∀ a : Nat, a < s.length → enterT (Xg gv) (d2 gv AV) an (s.length + 1) id [.str s, .int .i64 a] TMem.empty (fun v _ => some v) = outC (f s a)) : ConOk (Xg gv) (cfOf (Xg gv) noKnown) id (gCut f) :=
  con_vals (nk id) (d2_ok gv) fun args rs hg => by
    unfold gCut at hg
    split at hg
    · rename_i s a
      simp only [Option.some.injEq, Prod.mk.injEq, Bool.and_eq_true, ltI_spec, Bool.not_eq_true', decide_eq_false_iff_not, decide_eq_true_eq, Nat.ble_eq] at hg
      obtain ⟨⟨⟨h1, h2⟩, h3⟩, rfl⟩ := hg
      obtain ⟨n, rfl⟩ : ∃ n : Nat, a = n := ⟨a.toNat, by omega⟩
      rw [Int.toNat_natCast]
      exact ⟨[.str (f s n).1, .int .i64 (f s n).2.1, .agg [.int .i64 (f s n).2.2.1, .int .i64 (f s n).2.2.2]], an, s.length + 1, h s (by omega) n (by omega), rfl, rfl⟩
    · cases hg
theorem con39 (gv : Nat → List AV) : ConOk (Xg gv) (cfOf (Xg gv) noKnown) 39 (gCut nameC) := con_cut (runNm gv)
theorem con40 (gv : Nat → List AV) : ConOk (Xg gv) (cfOf (Xg gv) noKnown) 40 (gCut quoteC) := con_cut (runTx gv)
end Go.Proofs.YtcafcgiemdlobaaDoor.lt
