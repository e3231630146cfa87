/- A range over strings.SplitSeq: the law for a loop's body that reads and writes cells of its own. -/
import Derived.Test.YtfggompceldfgaaGreatDoorZm
namespace Go.Proofs.YtfggompceldfgaaGreatDoor.nm
open Go.RowKit Go.Shelf Go.Lib

/-- The rows below m, but for one, are as they were. -/
structure Lo (m Bs : Nat) (W W' : World) : Prop where
  os : W'.os = W.os
  tape : W'.tape = W.tape
  output : W'.output = W.output
  size : W.heap.size ≤ W'.heap.size
  block : ∀ k, k < m → k ≠ Bs → W'.heap[k]? = W.heap[k]?
theorem Lo.alloc {m Bs : Nat} (W : World) (o : Obj) (h : m ≤ W.heap.size) : Lo m Bs W (W.alloc o) := by
  have := (Below.refl m W).alloc h o
  exact ⟨this.os, this.tape, this.output, this.size, fun k hk _ => this.block k hk⟩
theorem Lo.putObj {m Bs r : Nat} (W : World) (o : Obj) (h : m ≤ r) : Lo m Bs W (W.putObj r o) :=
  ⟨rfl, rfl, rfl, by simp, fun k hk _ => World.putObj_heap_other (by omega)⟩
theorem setCell_block (W : World) (b k : Nat) (v : Value) (h : k ≠ b) : (W.setCell ⟨b, 0, none⟩ v).heap[k]? = W.heap[k]? :=
  Below.heap_setCell _ _ _ k (fun e => h (by rw [e]))
theorem Lo.setCell {m Bs : Nat} (W : World) (v : Value) : Lo m Bs W (W.setCell ⟨Bs, 0, none⟩ v) := by
  have hb := (Below.refl 0 W).setCell (p := ⟨Bs, 0, none⟩) (Nat.zero_le _) v
  exact ⟨hb.os, hb.tape, hb.output, hb.size, fun k _ hk => setCell_block W Bs k v hk⟩

/-- How a round's body may be left: it goes on, or it returns. -/
def bodyQ (m Bs Bp Bv : Nat) (I Ix : List ByteArray → World → Prop) (xs : List ByteArray) (W : World) : Exit → Act → World → Prop
  | .normal, _, W' => (∀ r, r = m ∨ r = m + 1 ∨ r = Bs ∨ r = Bp ∨ r = Bv → W'.heap[r]? = W.heap[r]?) ∧ I xs W'
  | .ret, _, W' => (∀ r, r = m ∨ r = m + 1 ∨ r = Bs ∨ r = Bp ∨ r = Bv → W'.heap[r]? = W.heap[r]?) ∧ Ix xs W'
  | _, _, _ => False

theorem range_law {g : Operand} {p : Tmp} {assign body : Code} {Q : Exit → Act → World → Prop} {a : Act} {w : World} {n : Nat} (h2 : 2 ≤ n) {m Bs Bp Bv : Nat} (hm : w.heap.size = m)
    (hg : a.eval g = .func (.func 136) #[] #[.pointer (some ⟨Bp, 0, none⟩), .pointer (some ⟨Bs, 0, none⟩), .pointer (some ⟨Bv, 0, none⟩)])
    (hBs : Bs < m) (hBp : Bp < m) (hBv : Bv < m) (hne : Bp ≠ Bs) (hnv : Bv ≠ Bs) {s0 : ByteArray} {xs : List ByteArray} (hx : Parts s0 xs) (hz : s0.size ≤ 1000000)
    (hs : w.cell? ⟨Bs, 0, none⟩ = some (.string s0)) (hfr : w.frozen? ⟨Bs, 0, none⟩ = false) (hp : w.cell? ⟨Bp, 0, none⟩ = some (.string ⟨#[32]⟩)) (hv : w.cell? ⟨Bv, 0, none⟩ = some (.int .i64 0))
    (I Ix : List ByteArray → World → Prop) (hI : ∀ pre W W', Lo m Bs W W' → I pre W → I pre W') (hIx : ∀ pre W W', Lo m Bs W W' → Ix pre W → Ix pre W') (h0 : I [] w) (a₁ : ByteArray → Act)
    (hassign : ∀ (l : Nat) (x : ByteArray) (W : World) (K : Act → World → Prop), K (a₁ x) W →
      assign.wpIn (Fence.wide.inRound l) (n - 1 - 1) Tryz.prog (Exit.then K (fun _ _ _ => False)) { tmps := ((#[p] : Array Tmp).zip (#[.string x] : Array Value)).foldl (fun t (p, v) => t.setIfInBounds p v) a.tmps, defers := [] } W)
    (hbody : ∀ (l : Nat) (pre : List ByteArray) (x : ByteArray) (W : World), I pre W → pre ++ [x] <+: xs → body.wpIn (Fence.wide.inRound l) (n - 1 - 1) Tryz.prog (bodyQ m Bs Bp Bv I Ix (pre ++ [x]) W) (a₁ x) W)
    (hdone : ∀ (W : World), I xs W → W.heap[m]? = some (.deferred (some [])) → Q .normal { a with defers := { target := .collected m, args := #[] } :: a.defers } W)
    (hstop : ∀ (pre : List ByteArray) (W : World), pre <+: xs → Ix pre W → W.heap[m]? = some (.deferred (some [])) → Code.ret.wpIn Fence.wide n Tryz.prog Q { a with defers := { target := .collected m, args := #[] } :: a.defers } W) :
    (Code.rangeFunc g #[p] assign body).wpIn Fence.wide n Tryz.prog Q a w := by
  subst hm
  refine wpIn_rangeFunc ?_
  intro fn hfn
  obtain ⟨rec, hrec⟩ : ∃ rec : LoopState → Option Code → Loop, rec = fun st pe => { state := st, pending := pe, fn, tmps := a.tmps, params := #[p], assign, body, defers := w.heap.size } := ⟨_, rfl⟩
  obtain ⟨W1, hW1⟩ : ∃ W1, (w.alloc (.deferred (some []))).alloc (.loop (rec .ready none)) = W1 := ⟨_, rfl⟩
  have hL1 : W1.heap[w.heap.size + 1]? = some (.loop (rec .ready none)) := by
    rw [← hW1]; have := World.alloc_heap_new (w.alloc (.deferred (some []))) (.loop (rec .ready none)); rwa [World.size_alloc] at this
  have hK1 : W1.heap[w.heap.size]? = some (.deferred (some [])) := by
    rw [← hW1]; exact (Below.heap_alloc _ _ _ (by simp)).trans (World.alloc_heap_new w _)
  have hI1 : I [] W1 := by
    rw [← hW1]
    exact hI _ _ _ (Lo.alloc _ _ (by simp)) (hI _ _ _ (Lo.alloc _ _ (Nat.le_refl _)) h0)
  have hb1 : Below w.heap.size w W1 := by rw [← hW1]; exact ((Below.refl _ w).alloc (Nat.le_refl _) _).alloc (by simp) _
  refine ⟨w.heap.size + 1, [{ target := .collected w.heap.size, args := #[] }], W1, { target := .fn (.func 136) #[.pointer (some ⟨Bp, 0, none⟩), .pointer (some ⟨Bs, 0, none⟩), .pointer (some ⟨Bv, 0, none⟩)], args := #[.func (.yield (w.heap.size + 1)) #[] #[]] }, W1, 136,
    #[.func (.yield (w.heap.size + 1)) #[] #[]] ++ #[.pointer (some ⟨Bp, 0, none⟩), .pointer (some ⟨Bs, 0, none⟩), .pointer (some ⟨Bv, 0, none⟩)], W1, ?_, ?_, ?_, ?_, fun _ => by omega, ?_⟩
  · rw [← hW1, hrec]; exact run_enterLoop_outer _ _ _ _ _
  · simp only [resolve, hg]
    simp [go_sem]
  · intro f' _; trivial
  · simp [invoke, go_sem]
  · refine (split_in (n - 1) (by omega) (w.heap.size + 1) Bs Bp Bv s0 xs hx hz
      (fun pre W => I pre W ∧ W.heap[w.heap.size + 1]? = some (.loop (rec .ready none)) ∧ W.heap[w.heap.size]? = some (.deferred (some [])))
      (fun pre W => Ix pre W ∧ W.heap[w.heap.size + 1]? = some (.loop (rec .done (some .ret))) ∧ W.heap[w.heap.size]? = some (.deferred (some [])))
      (fun pre W v hJ => ⟨hI _ _ _ (Lo.setCell W v) hJ.1, (setCell_block W Bs _ v (by omega)).trans hJ.2.1, (setCell_block W Bs _ v (by omega)).trans hJ.2.2⟩) hne hnv ?_ W1
      ((cell_heap (hb1.block _ hBs)).trans hs) ((frozen_heap (hb1.block _ hBs)).trans hfr) ((cell_heap (hb1.block _ hBp)).trans hp) ((cell_heap (hb1.block _ hBv)).trans hv) ⟨hI1, hL1, hK1⟩).mono ?_
    · rintro pre x W ⟨hi, hl, hk⟩ hpx
      have hlt : w.heap.size + 1 < W.heap.size := (Array.getElem?_eq_some_iff.1 hl).1
      have hy := run_yield (P := Tryz.prog) (args := #[.string x]) hl (by rw [hrec]; rfl)
      rw [hrec] at hy
      refine ⟨fn, _, assign, body, hy, roundIn_of_wpIn hfn (hassign _ x W _ ⟨_, run_beginRound hl (by rw [hrec]), ?_⟩)⟩
      have hl2 : (W.putObj (w.heap.size + 1) (.loop { rec .ready none with state := .busy })).heap[w.heap.size + 1]? = some (.loop { rec .ready none with state := .busy }) := World.putObj_heap_same hlt
      have hk2 : ∀ r, r ≠ w.heap.size + 1 → (W.putObj (w.heap.size + 1) (.loop { rec .ready none with state := .busy })).heap[r]? = W.heap[r]? := fun r hr => World.putObj_heap_other hr
      refine wpIn_mono (hbody _ pre x _ (hI _ _ _ (Lo.putObj W _ (by omega)) hi) hpx) ?_
      have fin : ∀ (jump : Option Code) (W3 : World), (∀ r, r = w.heap.size ∨ r = w.heap.size + 1 ∨ r = Bs ∨ r = Bp ∨ r = Bv → W3.heap[r]? = (W.putObj (w.heap.size + 1) (.loop { rec .ready none with state := .busy })).heap[r]?) →
          (Instr.endRound (w.heap.size + 1) jump).run Tryz.prog W3 = .ok (.bool jump.isNone) (W3.putObj (w.heap.size + 1) (.loop (rec (if jump.isNone then .ready else .done) jump))) ∧
          (W3.putObj (w.heap.size + 1) (.loop (rec (if jump.isNone then .ready else .done) jump))).heap[w.heap.size + 1]? = some (.loop (rec (if jump.isNone then .ready else .done) jump)) ∧
          (∀ r, r = w.heap.size ∨ r = Bs ∨ r = Bp ∨ r = Bv → (W3.putObj (w.heap.size + 1) (.loop (rec (if jump.isNone then .ready else .done) jump))).heap[r]? = W.heap[r]?) := fun jump W3 hk3 => by
        have hl3 := (hk3 _ (.inr (.inl rfl))).trans hl2
        have := run_endRound (P := Tryz.prog) jump hl3
        rw [hrec] at this ⊢
        refine ⟨this, World.putObj_heap_same (Array.getElem?_eq_some_iff.1 hl3).1, fun r hr => ?_⟩
        have hr1 : r ≠ w.heap.size + 1 := by omega
        rw [World.putObj_heap_other hr1, hk3 r (by omega), hk2 r hr1]
      rintro e a3 W3 hp3
      cases e with
      | normal =>
        obtain ⟨hk3, hi3⟩ := hp3
        obtain ⟨hr, hl4, hk4⟩ := fin none W3 hk3
        exact ⟨_, _, hr, .inl ⟨rfl, ⟨hI _ _ _ (Lo.putObj W3 _ (by omega)) hi3, hl4, (hk4 _ (.inl rfl)).trans hk⟩, hk4 _ (.inr (.inl rfl)), hk4 _ (.inr (.inr (.inl rfl))), hk4 _ (.inr (.inr (.inr rfl)))⟩⟩
      | ret =>
        obtain ⟨hk3, hi3⟩ := hp3
        obtain ⟨hr, hl4, hk4⟩ := fin (some .ret) W3 hk3
        exact ⟨_, _, hr, .inr ⟨rfl, hIx _ _ _ (Lo.putObj W3 _ (by omega)) hi3, hl4, (hk4 _ (.inl rfl)).trans hk⟩⟩
      | exit id => exact hp3.elim
      | goto t => exact hp3.elim
      | panic ch => exact hp3.elim
      | outgrown => exact hp3.elim
    · rintro e W2 ⟨⟨v, rfl⟩, (⟨hi, hl, hk⟩ | ⟨pre, hpre, hi, hl, hk⟩)⟩
      · exact ⟨none, _, by have := run_endLoop (P := Tryz.prog) hl (by rw [hrec]; simp); rw [hrec] at this; exact this, hdone _ (hI _ _ _ (Lo.putObj W2 _ (by omega)) hi) ((World.putObj_heap_other (by omega)).trans hk)⟩
      · exact ⟨some .ret, _, by have := run_endLoop (P := Tryz.prog) hl (by rw [hrec]; simp); rw [hrec] at this; exact this, hstop pre _ hpre (hIx _ _ _ (Lo.putObj W2 _ (by omega)) hi) ((World.putObj_heap_other (by omega)).trans hk)⟩
end Go.Proofs.YtfggompceldfgaaGreatDoor.nm
