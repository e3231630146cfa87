/- A range over strings.SplitSeq: the law for a loop's body that reads and writes cells of its own. -/
import Derived.RangeFuncNested
import Derived.RangeFuncBound
import Derived.RangeFuncCalls
import Derived.RangeFuncLeaves
import Derived.Shelf.Abstract
import Derived.WalkKit
import Derived.OwnWalkIn
import Derived.TacticsInMore
import Derived.LoopNIn
import Derived.LoopIn
import Derived.Lib.Bytealg
import Derived.Test.YtpenhcmahojifaaGreatDoorRows
import Derived.Lib.IndexLaws
import Derived.Test.YtpenhcmahojifaaGreatDoorLye
set_option linter.unusedVariables false
set_option linter.unusedSimpArgs false
set_option linter.unusedSectionVars false
namespace Go.Proofs.YtpenhcmahojifaaGreatDoor.nm
open Go.RowKit Go.Shelf Go.Lib
set_option maxRecDepth 100000 in
set_option maxHeartbeats 1000000 in
theorem idx146 (s : ByteArray) (c : Int) (w : World) : Calls Tryz.prog 431 #[.string s, .int .u8 c] w fun e w' => e = .returned (.int .i64 (Lib.indexByte s.data.toList c.toNat.toUInt8)) ∧ w' = w := by
  go_enter Tryz.func431, Tryz.ntmps431
  go_wp2
  rw [run_callFunc_extern Tryz.func458 (by kernel_rfl) (by kernel_rfl) (by kernel_rfl) (e := Extern.BytealgIndexByte.indexByte) (by kernel_rfl), Lib.run_indexByteString]
  simp only [Result.andThen]
  rw [Oper.upon_value]
  go_wp2
  go_ret
  exact ⟨rfl, rfl⟩
set_option maxRecDepth 100000 in
set_option maxHeartbeats 1000000 in
theorem idx139 (c : UInt8) (s : ByteArray) (w : World) : Calls Tryz.prog 403 #[.string s, .string ⟨#[c]⟩] w fun e w' => e = .returned (.int .i64 (Lib.indexByte s.data.toList c)) ∧ w' = w := by
  go_enter Tryz.func403, Tryz.ntmps403
  go_wp2_with (go_at_call 431; refine (idx146 _ _ _).mono ?_; rintro e w' ⟨rfl, rfl⟩)
  · rename_i h
    go_ret
    have hs : s.data.toList = [c] := by
      have := eq_of_beq h
      rw [ByteArray.toList_eq] at this; exact this.symm
    refine ⟨?_, rfl⟩
    rw [hs]
    simp [Lib.indexByte]
  · go_ret
    refine ⟨?_, rfl⟩
    congr 2
set_option maxRecDepth 100000 in
set_option maxHeartbeats 1000000 in
theorem idx128 (c : UInt8) (s : ByteArray) (w : World) : Calls Tryz.prog 351 #[.string s, .string ⟨#[c]⟩] w fun e w' => e = .returned (.int .i64 (Lib.indexByte s.data.toList c)) ∧ w' = w := by
  go_enter Tryz.func351, Tryz.ntmps351
  go_wp2_with (go_at_call 403; refine (idx139 _ _ _).mono ?_; rintro e w' ⟨rfl, rfl⟩)
  go_ret
  exact ⟨rfl, rfl⟩
/-- The parts of a text between blanks. -/
inductive Parts (c : UInt8) : ByteArray → List ByteArray → Prop
  | last (s : ByteArray) (h : Lib.indexByte s.data.toList c = -1) : Parts c s [s]
  | cut (s : ByteArray) (i : Nat) (rest : List ByteArray) (h : Lib.indexByte s.data.toList c = i) (hi : i < s.size) (hr : Parts c (s.extract (i + 1) s.size) rest) : Parts c s (s.extract 0 i :: rest)
theorem cell_heap {W W' : World} {b o : Nat} (h : W'.heap[b]? = W.heap[b]?) : W'.cell? ⟨b, o, none⟩ = W.cell? ⟨b, o, none⟩ := by
  unfold World.cell?; simp only [h]
theorem frozen_heap {W W' : World} {b o : Nat} (h : W'.heap[b]? = W.heap[b]?) : W'.frozen? ⟨b, o, none⟩ = W.frozen? ⟨b, o, none⟩ := by
  unfold World.frozen?; simp only [h]
def leftOf (B : Nat) (w : World) : Nat := match w.cell? ⟨B, 0, none⟩ with | some (.string s) => s.size | _ => 0
set_option maxRecDepth 100000 in
set_option maxHeartbeats 1000000 in
theorem split_in (c : UInt8) (n : Nat) (hn : 1 ≤ n) (l Bs Bp Bv : Nat) (s0 : ByteArray) (xs : List ByteArray) (hx : Parts c s0 xs) (hz : s0.size ≤ 2000000) (J Jx : List ByteArray → World → Prop)
    (hJs : ∀ pre W v, J pre W → J pre (W.setCell ⟨Bs, 0, none⟩ v)) (hne : Bp ≠ Bs) (hnv : Bv ≠ Bs)
    (hY : ∀ pre x W, J pre W → pre ++ [x] <+: xs → YieldAt Fence.wide (n - 1) Tryz.prog l #[.string x] W fun e W' =>
      (e = .returned (.bool true) ∧ J (pre ++ [x]) W' ∧ (W'.heap[Bs]? = W.heap[Bs]? ∧ W'.heap[Bp]? = W.heap[Bp]? ∧ W'.heap[Bv]? = W.heap[Bv]?)) ∨ (e = .returned (.bool false) ∧ Jx (pre ++ [x]) W'))
    (W : World) (hs : W.cell? ⟨Bs, 0, none⟩ = some (.string s0)) (hfr : W.frozen? ⟨Bs, 0, none⟩ = false) (hp : W.cell? ⟨Bp, 0, none⟩ = some (.string ⟨#[c]⟩)) (hv : W.cell? ⟨Bv, 0, none⟩ = some (.int .i64 0)) (h0 : J [] W) :
    CallsIn Fence.wide n Tryz.prog 349 #[.func (.yield l) #[] #[], .pointer (some ⟨Bp, 0, none⟩), .pointer (some ⟨Bs, 0, none⟩), .pointer (some ⟨Bv, 0, none⟩)] W fun e W' =>
      (∃ v, e = .returned v) ∧ (J xs W' ∨ ∃ pre, pre <+: xs ∧ Jx pre W') := by
  refine callsIn_of_wp Tryz.func349 rfl trivial ?_ rfl
  simp only [Tryz.ntmps349, List.size_toArray, List.length_cons, List.length_nil, Nat.reduceAdd, Nat.reduceSub, Array.replicate_succ, Array.replicate_zero, List.push_toArray, List.append_toArray, List.nil_append, List.cons_append]
  gi_wp2
  gi_loopw [] (fun wr => ∃ (pre rest : List ByteArray) (s : ByteArray), xs = pre ++ rest ∧ Parts c s rest ∧ s.size ≤ 2000000 ∧ wr.cell? ⟨Bs, 0, none⟩ = some (.string s) ∧ wr.frozen? ⟨Bs, 0, none⟩ = false ∧ wr.cell? ⟨Bp, 0, none⟩ = some (.string ⟨#[c]⟩) ∧ wr.cell? ⟨Bv, 0, none⟩ = some (.int .i64 0) ∧ J pre wr)
    (fun wr => leftOf Bs wr)
  case atStart => exact ⟨[], xs, s0, rfl, hx, hz, hs, hfr, hp, hv, h0⟩
  case round =>
    obtain ⟨pre, rest, s, hxs, hpt, hsz, hcs, hcf, hcp, hcv, hJ⟩ := hrel
    cases hpt with
    | last _ h =>
      obtain ⟨fn, tmps, assign, body, hy, hR⟩ := hY pre s wr hJ (by rw [hxs]; exact List.prefix_refl _)
      have hi128 : CallsIn Fence.wide (n - 1) Tryz.prog 351 #[.string s, .string ⟨#[c]⟩] wr fun e w' => e = .returned (.int .i64 (-1)) ∧ w' = wr := by
        have := callsIn_wide (n := n - 1) |>.2 (idx128 c s wr); rwa [h] at this
      gi_wp2_with (refine ⟨trivial, ?_⟩; gi_at_call 351; refine hi128.mono ?_; rintro e w' ⟨rfl, rfl⟩)
      refine hR.mono ?_
      rintro e W3 (⟨rfl, hJ3, _⟩ | ⟨rfl, hJx3⟩)
      · gi_wp2
        go_end0
        exact ⟨⟨_, rfl⟩, .inl (by rw [hxs]; exact hJ3)⟩
      · gi_wp2
        go_end0
        exact ⟨⟨_, rfl⟩, .inr ⟨pre ++ [s], by rw [hxs]; exact List.prefix_refl _, hJx3⟩⟩
    | cut _ i rest h hi hr =>
      obtain ⟨fn, tmps, assign, body, hy, hR⟩ := hY pre (s.extract 0 i) wr hJ ⟨rest, by rw [hxs]; simp⟩
      have hi128 : CallsIn Fence.wide (n - 1) Tryz.prog 351 #[.string s, .string ⟨#[c]⟩] wr fun e w' => e = .returned (.int .i64 (i : Int)) ∧ w' = wr := by
        have := callsIn_wide (n := n - 1) |>.2 (idx128 c s wr); rwa [h] at this
      gi_wp2_with (refine ⟨trivial, ?_⟩; gi_at_call 351; refine hi128.mono ?_; rintro e w' ⟨rfl, rfl⟩)
      refine hR.mono ?_
      rintro e W3 (⟨rfl, hJ3, hk1, hk2, hk3⟩ | ⟨rfl, hJx3⟩)
      · have hcs3 : W3.cell? ⟨Bs, 0, none⟩ = some (.string s) := (cell_heap hk1).trans hcs
        have hcf3 : W3.frozen? ⟨Bs, 0, none⟩ = false := (frozen_heap hk1).trans hcf
        have hcp3 : W3.cell? ⟨Bp, 0, none⟩ = some (.string ⟨#[c]⟩) := (cell_heap hk2).trans hcp
        have hcv3 : W3.cell? ⟨Bv, 0, none⟩ = some (.int .i64 0) := (cell_heap hk3).trans hcv
        gi_wp2
        have hsz2 : (s.extract (i + 1) s.size).size = s.size - (i + 1) := by simp [ByteArray.size_extract]
        have hc4 := World.cell?_setCell_same' W3 ⟨Bs, 0, none⟩ (.string (s.extract (i + 1) s.size)) (by rw [hcs3]; rfl)
        go_roundw
        case rel =>
          refine ⟨pre ++ [s.extract 0 i], rest, s.extract (i + 1) s.size, by rw [hxs]; simp, hr, by omega, hc4, by rw [World.frozen?_setCell]; exact hcf3, ?_, ?_, hJs _ _ _ hJ3⟩
          · rw [World.cell?_setCell_other _ _ _ _ (by simp)]; exact hcp3
          · rw [World.cell?_setCell_other _ _ _ _ (by simp)]; exact hcv3
        case measure =>
          unfold leftOf
          rw [hc4, hcs]
          show (s.extract (i + 1) s.size).size < s.size
          omega
      · gi_wp2
        refine bodyPost_ret (results_none rfl _ _ _) rfl ?_
        exact ⟨⟨_, rfl⟩, .inr ⟨pre ++ [s.extract 0 i], ⟨rest, by rw [hxs]; simp⟩, hJx3⟩⟩
end Go.Proofs.YtpenhcmahojifaaGreatDoor.nm
namespace Go.Proofs.YtpenhcmahojifaaGreatDoor.nm
open Go.RowKit Go.Shelf Go.Lib
/-- The rows below m, but for one, are as they were. -/
structure Lo (m Bs : Nat) (W W' : World) : Prop where
  os : W'.os = W.os
  tape : W'.tape = W.tape
  output : W'.output = W.output
  size : W.heap.size ≤ W'.heap.size
  block : ∀ k, k < m → k ≠ Bs → W'.heap[k]? = W.heap[k]?
theorem Lo.alloc {m Bs : Nat} (W : World) (o : Obj) (h : m ≤ W.heap.size) : Lo m Bs W (W.alloc o) := by
  have := (Below.refl m W).alloc h o
  exact ⟨this.os, this.tape, this.output, this.size, fun k hk _ => this.block k hk⟩
theorem Lo.putObj {m Bs r : Nat} (W : World) (o : Obj) (h : m ≤ r) : Lo m Bs W (W.putObj r o) :=
  ⟨rfl, rfl, rfl, by simp, fun k hk _ => World.putObj_heap_other (by omega)⟩
theorem setCell_block (W : World) (b k : Nat) (v : Value) (h : k ≠ b) : (W.setCell ⟨b, 0, none⟩ v).heap[k]? = W.heap[k]? :=
  Below.heap_setCell _ _ _ k (fun e => h (by rw [e]))
theorem Lo.setCell {m Bs : Nat} (W : World) (v : Value) : Lo m Bs W (W.setCell ⟨Bs, 0, none⟩ v) := by
  have hb := (Below.refl 0 W).setCell (p := ⟨Bs, 0, none⟩) (Nat.zero_le _) v
  exact ⟨hb.os, hb.tape, hb.output, hb.size, fun k _ hk => setCell_block W Bs k v hk⟩
/-- How a round's body may be left: it goes on, or it returns. -/
def bodyQ (m Bs Bp Bv : Nat) (I Ix : List ByteArray → World → Prop) (xs : List ByteArray) (W : World) : Exit → Act → World → Prop
  | .normal, _, W' => (∀ r, r = m ∨ r = m + 1 ∨ r = Bs ∨ r = Bp ∨ r = Bv → W'.heap[r]? = W.heap[r]?) ∧ I xs W'
  | .ret, _, W' => (∀ r, r = m ∨ r = m + 1 ∨ r = Bs ∨ r = Bp ∨ r = Bv → W'.heap[r]? = W.heap[r]?) ∧ Ix xs W'
  | _, _, _ => False
theorem range_law {g : Operand} {p : Tmp} {assign body : Code} {Q : Exit → Act → World → Prop} {a : Act} {w : World} {n : Nat} (h2 : 2 ≤ n) {m Bs Bp Bv : Nat} (hm : w.heap.size = m)
    (hg : a.eval g = .func (.func 349) #[] #[.pointer (some ⟨Bp, 0, none⟩), .pointer (some ⟨Bs, 0, none⟩), .pointer (some ⟨Bv, 0, none⟩)])
    (hBs : Bs < m) (hBp : Bp < m) (hBv : Bv < m) (hne : Bp ≠ Bs) (hnv : Bv ≠ Bs) {s0 : ByteArray} {xs : List ByteArray} (hx : Parts 32 s0 xs) (hz : s0.size ≤ 2000000)
    (hs : w.cell? ⟨Bs, 0, none⟩ = some (.string s0)) (hfr : w.frozen? ⟨Bs, 0, none⟩ = false) (hp : w.cell? ⟨Bp, 0, none⟩ = some (.string ⟨#[32]⟩)) (hv : w.cell? ⟨Bv, 0, none⟩ = some (.int .i64 0))
    (I Ix : List ByteArray → World → Prop) (hI : ∀ pre W W', Lo m Bs W W' → I pre W → I pre W') (hIx : ∀ pre W W', Lo m Bs W W' → Ix pre W → Ix pre W') (h0 : I [] w) (a₁ : ByteArray → Act)
    (hassign : ∀ (l : Nat) (x : ByteArray) (W : World) (K : Act → World → Prop), K (a₁ x) W →
      assign.wpIn (Fence.wide.inRound l) (n - 1 - 1) Tryz.prog (Exit.then K (fun _ _ _ => False)) { tmps := ((#[p] : Array Tmp).zip (#[.string x] : Array Value)).foldl (fun t (p, v) => t.setIfInBounds p v) a.tmps, defers := [] } W)
    (hbody : ∀ (l : Nat) (pre : List ByteArray) (x : ByteArray) (W : World), I pre W → pre ++ [x] <+: xs → body.wpIn (Fence.wide.inRound l) (n - 1 - 1) Tryz.prog (bodyQ m Bs Bp Bv I Ix (pre ++ [x]) W) (a₁ x) W)
    (hdone : ∀ (W : World), I xs W → W.heap[m]? = some (.deferred (some [])) → Q .normal { a with defers := { target := .collected m, args := #[] } :: a.defers } W)
    (hstop : ∀ (pre : List ByteArray) (W : World), pre <+: xs → Ix pre W → W.heap[m]? = some (.deferred (some [])) → Code.ret.wpIn Fence.wide n Tryz.prog Q { a with defers := { target := .collected m, args := #[] } :: a.defers } W) :
    (Code.rangeFunc g #[p] assign body).wpIn Fence.wide n Tryz.prog Q a w := by
  subst hm
  refine wpIn_rangeFunc ?_
  intro fn hfn
  obtain ⟨rec, hrec⟩ : ∃ rec : LoopState → Option Code → Loop, rec = fun st pe => { state := st, pending := pe, fn, tmps := a.tmps, params := #[p], assign, body, defers := w.heap.size } := ⟨_, rfl⟩
  obtain ⟨W1, hW1⟩ : ∃ W1, (w.alloc (.deferred (some []))).alloc (.loop (rec .ready none)) = W1 := ⟨_, rfl⟩
  have hL1 : W1.heap[w.heap.size + 1]? = some (.loop (rec .ready none)) := by
    rw [← hW1]; have := World.alloc_heap_new (w.alloc (.deferred (some []))) (.loop (rec .ready none)); rwa [World.size_alloc] at this
  have hK1 : W1.heap[w.heap.size]? = some (.deferred (some [])) := by
    rw [← hW1]; exact (Below.heap_alloc _ _ _ (by simp)).trans (World.alloc_heap_new w _)
  have hI1 : I [] W1 := by
    rw [← hW1]
    exact hI _ _ _ (Lo.alloc _ _ (by simp)) (hI _ _ _ (Lo.alloc _ _ (Nat.le_refl _)) h0)
  have hb1 : Below w.heap.size w W1 := by rw [← hW1]; exact ((Below.refl _ w).alloc (Nat.le_refl _) _).alloc (by simp) _
  refine ⟨w.heap.size + 1, [{ target := .collected w.heap.size, args := #[] }], W1, { target := .fn (.func 349) #[.pointer (some ⟨Bp, 0, none⟩), .pointer (some ⟨Bs, 0, none⟩), .pointer (some ⟨Bv, 0, none⟩)], args := #[.func (.yield (w.heap.size + 1)) #[] #[]] }, W1, 349,
    #[.func (.yield (w.heap.size + 1)) #[] #[]] ++ #[.pointer (some ⟨Bp, 0, none⟩), .pointer (some ⟨Bs, 0, none⟩), .pointer (some ⟨Bv, 0, none⟩)], W1, ?_, ?_, ?_, ?_, fun _ => by omega, ?_⟩
  · rw [← hW1, hrec]; exact run_enterLoop_outer _ _ _ _ _
  · simp only [resolve, hg]
    simp [go_sem]
  · intro f' _; trivial
  · simp [invoke, go_sem]
  · refine (split_in 32 (n - 1) (by omega) (w.heap.size + 1) Bs Bp Bv s0 xs hx hz
      (fun pre W => I pre W ∧ W.heap[w.heap.size + 1]? = some (.loop (rec .ready none)) ∧ W.heap[w.heap.size]? = some (.deferred (some [])))
      (fun pre W => Ix pre W ∧ W.heap[w.heap.size + 1]? = some (.loop (rec .done (some .ret))) ∧ W.heap[w.heap.size]? = some (.deferred (some [])))
      (fun pre W v hJ => ⟨hI _ _ _ (Lo.setCell W v) hJ.1, (setCell_block W Bs _ v (by omega)).trans hJ.2.1, (setCell_block W Bs _ v (by omega)).trans hJ.2.2⟩) hne hnv ?_ W1
      ((cell_heap (hb1.block _ hBs)).trans hs) ((frozen_heap (hb1.block _ hBs)).trans hfr) ((cell_heap (hb1.block _ hBp)).trans hp) ((cell_heap (hb1.block _ hBv)).trans hv) ⟨hI1, hL1, hK1⟩).mono ?_
    · rintro pre x W ⟨hi, hl, hk⟩ hpx
      have hlt : w.heap.size + 1 < W.heap.size := (Array.getElem?_eq_some_iff.1 hl).1
      have hy := run_yield (P := Tryz.prog) (args := #[.string x]) hl (by rw [hrec]; rfl)
      rw [hrec] at hy
      refine ⟨fn, _, assign, body, hy, roundIn_of_wpIn hfn (hassign _ x W _ ⟨_, run_beginRound hl (by rw [hrec]), ?_⟩)⟩
      have hl2 : (W.putObj (w.heap.size + 1) (.loop { rec .ready none with state := .busy })).heap[w.heap.size + 1]? = some (.loop { rec .ready none with state := .busy }) := World.putObj_heap_same hlt
      have hk2 : ∀ r, r ≠ w.heap.size + 1 → (W.putObj (w.heap.size + 1) (.loop { rec .ready none with state := .busy })).heap[r]? = W.heap[r]? := fun r hr => World.putObj_heap_other hr
      refine wpIn_mono (hbody _ pre x _ (hI _ _ _ (Lo.putObj W _ (by omega)) hi) hpx) ?_
      have fin : ∀ (jump : Option Code) (W3 : World), (∀ r, r = w.heap.size ∨ r = w.heap.size + 1 ∨ r = Bs ∨ r = Bp ∨ r = Bv → W3.heap[r]? = (W.putObj (w.heap.size + 1) (.loop { rec .ready none with state := .busy })).heap[r]?) →
          (Instr.endRound (w.heap.size + 1) jump).run Tryz.prog W3 = .ok (.bool jump.isNone) (W3.putObj (w.heap.size + 1) (.loop (rec (if jump.isNone then .ready else .done) jump))) ∧
          (W3.putObj (w.heap.size + 1) (.loop (rec (if jump.isNone then .ready else .done) jump))).heap[w.heap.size + 1]? = some (.loop (rec (if jump.isNone then .ready else .done) jump)) ∧
          (∀ r, r = w.heap.size ∨ r = Bs ∨ r = Bp ∨ r = Bv → (W3.putObj (w.heap.size + 1) (.loop (rec (if jump.isNone then .ready else .done) jump))).heap[r]? = W.heap[r]?) := fun jump W3 hk3 => by
        have hl3 := (hk3 _ (.inr (.inl rfl))).trans hl2
        have := run_endRound (P := Tryz.prog) jump hl3
        rw [hrec] at this ⊢
        refine ⟨this, World.putObj_heap_same (Array.getElem?_eq_some_iff.1 hl3).1, fun r hr => ?_⟩
        have hr1 : r ≠ w.heap.size + 1 := by omega
        rw [World.putObj_heap_other hr1, hk3 r (by omega), hk2 r hr1]
      rintro e a3 W3 hp3
      cases e with
      | normal =>
        obtain ⟨hk3, hi3⟩ := hp3
        obtain ⟨hr, hl4, hk4⟩ := fin none W3 hk3
        exact ⟨_, _, hr, .inl ⟨rfl, ⟨hI _ _ _ (Lo.putObj W3 _ (by omega)) hi3, hl4, (hk4 _ (.inl rfl)).trans hk⟩, hk4 _ (.inr (.inl rfl)), hk4 _ (.inr (.inr (.inl rfl))), hk4 _ (.inr (.inr (.inr rfl)))⟩⟩
      | ret =>
        obtain ⟨hk3, hi3⟩ := hp3
        obtain ⟨hr, hl4, hk4⟩ := fin (some .ret) W3 hk3
        exact ⟨_, _, hr, .inr ⟨rfl, hIx _ _ _ (Lo.putObj W3 _ (by omega)) hi3, hl4, (hk4 _ (.inl rfl)).trans hk⟩⟩
      | exit id => exact hp3.elim
      | goto t => exact hp3.elim
      | panic ch => exact hp3.elim
      | outgrown => exact hp3.elim
    · rintro e W2 ⟨⟨v, rfl⟩, (⟨hi, hl, hk⟩ | ⟨pre, hpre, hi, hl, hk⟩)⟩
      · exact ⟨none, _, by have := run_endLoop (P := Tryz.prog) hl (by rw [hrec]; simp); rw [hrec] at this; exact this, hdone _ (hI _ _ _ (Lo.putObj W2 _ (by omega)) hi) ((World.putObj_heap_other (by omega)).trans hk)⟩
      · exact ⟨some .ret, _, by have := run_endLoop (P := Tryz.prog) hl (by rw [hrec]; simp); rw [hrec] at this; exact this, hstop pre _ hpre (hIx _ _ _ (Lo.putObj W2 _ (by omega)) hi) ((World.putObj_heap_other (by omega)).trans hk)⟩
end Go.Proofs.YtpenhcmahojifaaGreatDoor.nm
namespace Go.Proofs.YtpenhcmahojifaaGreatDoor.nm
open Go.RowKit Go.Shelf Go.Lib
attribute [local go_sem] Oper.semAt_some
set_option maxRecDepth 100000 in
set_option maxHeartbeats 1000000 in
theorem call101 (s t : ByteArray) (w : World) : Calls Tryz.prog 237 #[.string s, .string t, .int .i64 0] w fun e w' => e = .returned (.func (.func 349) #[] #[.pointer (some ⟨w.heap.size + 1, 0, none⟩), .pointer (some ⟨w.heap.size, 0, none⟩), .pointer (some ⟨w.heap.size + 2, 0, none⟩)]) ∧
    w' = ((w.alloc (.cells #[.string s] 9)).alloc (.cells #[.string t] 9)).alloc (.cells #[.int .i64 0] 3) := by
  go_enter Tryz.func237, Tryz.ntmps237
  go_wp2
  go_ret
  exact ⟨rfl, rfl⟩
set_option maxRecDepth 100000 in
set_option maxHeartbeats 1000000 in
theorem call69 (s t : ByteArray) (w : World) : Calls Tryz.prog 122 #[.string s, .string t] w fun e w' => e = .returned (.func (.func 349) #[] #[.pointer (some ⟨w.heap.size + 1, 0, none⟩), .pointer (some ⟨w.heap.size, 0, none⟩), .pointer (some ⟨w.heap.size + 2, 0, none⟩)]) ∧
    w' = ((w.alloc (.cells #[.string s] 9)).alloc (.cells #[.string t] 9)).alloc (.cells #[.int .i64 0] 3) := by
  go_enter Tryz.func122, Tryz.ntmps122
  go_wp2_with (go_at_call 237; refine (call101 _ _ _).mono ?_; rintro e w' ⟨rfl, rfl⟩)
  go_ret
  exact ⟨rfl, rfl⟩
theorem results_one {fn : Func} {p : Tmp} {ty : TypeId} (h : fn.results = #[.cell p ty]) {P : Program} {w : World} {tmps : Array Value} {a : Addr} {v : Value} (ha : ∀ w, (isAgg ty).run P w = .ok false w) (hp : tmps.getD p undef = .pointer (some a)) (hc : w.cell? a = some v) :
    (results fn tmps).run P w = .ok v w := by
  have hp' : tmps[p]?.getD undef = .pointer (some a) := by simpa using hp
  simp [results, h, go_sem, hp', hc, ha]
theorem results_two {fn : Func} {p q : Tmp} {ty tz : TypeId} (h : fn.results = #[.cell p ty, .cell q tz]) {P : Program} {w : World} {tmps : Array Value} {a b : Addr} {v u : Value} (ha : ∀ w, (isAgg ty).run P w = .ok false w) (hb : ∀ w, (isAgg tz).run P w = .ok false w)
    (hp : tmps.getD p undef = .pointer (some a)) (hq : tmps.getD q undef = .pointer (some b)) (hc : w.cell? a = some v) (hd : w.cell? b = some u) :
    (results fn tmps).run P w = .ok (.tuple #[v, u]) w := by
  have hp' : tmps[p]?.getD undef = .pointer (some a) := by simpa using hp
  have hq' : tmps[q]?.getD undef = .pointer (some b) := by simpa using hq
  simp [results, h, go_sem, hp', hc, ha, hb, hq', hd]
/-- A new variable. -/
def Var (W : World) (b : Nat) (v : Value) : Prop := W.cell? ⟨b, 0, none⟩ = some v ∧ W.frozen? ⟨b, 0, none⟩ = false
theorem Var.new (W : World) (v : Value) (t : TypeId) : Var (W.alloc (.cells #[v] t)) W.heap.size v := by
  have h := World.alloc_heap_new W (.cells #[v] t)
  constructor
  · unfold World.cell?; simp only [h]; rfl
  · unfold World.frozen?; simp only [h]; rfl
theorem Var.heap {W W' : World} {b : Nat} {v : Value} (h : Var W b v) (e : W'.heap[b]? = W.heap[b]?) : Var W' b v := ⟨(cell_heap e).trans h.1, (frozen_heap e).trans h.2⟩
theorem Var.lt {W : World} {b : Nat} {v : Value} (h : Var W b v) : b < W.heap.size := World.block_lt_of_cell? _ _ h.1
theorem Var.alloc {W : World} {b : Nat} {v : Value} (h : Var W b v) (o : Obj) : Var (W.alloc o) b v := h.heap (Below.heap_alloc _ _ _ h.lt)
theorem Var.set {W : World} {b : Nat} {v : Value} (h : Var W b v) (u : Value) : Var (W.setCell ⟨b, 0, none⟩ u) b u := ⟨World.cell?_setCell_same' _ _ _ (by rw [h.1]; rfl), by rw [World.frozen?_setCell]; exact h.2⟩
theorem Var.other {W : World} {b c : Nat} {v : Value} (h : Var W b v) (hne : b ≠ c) (u : Value) : Var (W.setCell ⟨c, 0, none⟩ u) b v := h.heap (setCell_block W c b u hne)
theorem Lo.var {m Bs b : Nat} {W W' : World} {v : Value} (h : Lo m Bs W W') (hv : Var W b v) (hb : b < m) (hn : b ≠ Bs) : Var W' b v := hv.heap (h.block b hb hn)
theorem Lo.below {m Bs B : Nat} {w W W' : World} (h : Lo m Bs W W') (hb : Below B w W) (hB : B ≤ m) (hs : B ≤ Bs) : Below B w W' :=
  ⟨h.os.trans hb.os, h.tape.trans hb.tape, h.output.trans hb.output, Nat.le_trans hb.size h.size, fun k hk => (h.block k (by omega) (by omega)).trans (hb.block k hk)⟩
/-- The parts of a text. -/
def splitS : List UInt8 → List (List UInt8)
  | [] => [[]]
  | c :: r => if c = 32 then [] :: splitS r else match splitS r with
    | p :: ps => (c :: p) :: ps
    | [] => [[c]]
theorem splitS_ne : ∀ l, splitS l ≠ []
  | [] => by simp [splitS]
  | c :: r => by
    rw [splitS]
    split
    · simp
    · split <;> simp
theorem splitS_idx : ∀ l : List UInt8, (Lib.indexByte l 32 = -1 ∧ splitS l = [l]) ∨ ∃ o : Nat, Lib.indexByte l 32 = o ∧ o < l.length ∧ splitS l = l.take o :: splitS (l.drop (o + 1))
  | [] => .inl ⟨rfl, rfl⟩
  | c :: r => by
    rw [Lib.indexByte, splitS]
    by_cases hc : c = 32
    · subst hc
      exact .inr ⟨0, by simp, by simp, by simp⟩
    · rw [if_neg (by simpa using hc), if_neg hc]
      rcases splitS_idx r with ⟨h1, h2⟩ | ⟨o, h1, h2, h3⟩
      · left
        rw [h1, h2]; exact ⟨rfl, rfl⟩
      · right
        refine ⟨o + 1, ?_, by simp; omega, ?_⟩
        · rw [h1, if_neg (by simp)]; rfl
        · rw [h3]; simp
abbrev mkB (l : List UInt8) : ByteArray := ⟨l.toArray⟩
theorem extract_mk (l : List UInt8) (a b : Nat) : (mkB l).extract a b = mkB ((l.take b).drop a) := by
  apply ByteArray.ext
  apply Array.ext'
  simp [List.drop_take]
theorem parts_mk : ∀ (n : Nat) (l : List UInt8), l.length < n → Parts 32 (mkB l) ((splitS l).map mkB)
  | 0, l, h => absurd h (Nat.not_lt_zero _)
  | n + 1, l, h => by
    rcases splitS_idx l with ⟨h1, h2⟩ | ⟨o, h1, h2, h3⟩
    · rw [h2]; exact .last _ (by simpa using h1)
    · rw [h3, List.map_cons]
      have e1 : mkB (l.take o) = (mkB l).extract 0 o := by rw [extract_mk]; simp
      have e2 : mkB (l.drop (o + 1)) = (mkB l).extract (o + 1) (mkB l).size := by rw [extract_mk]; simp [ByteArray.size, List.take_of_length_le]
      rw [e1]
      refine .cut _ o _ (by simpa using h1) (by simpa [ByteArray.size] using h2) ?_
      rw [← e2]
      exact parts_mk n _ (by rw [List.length_drop]; omega)
noncomputable def splitA (acc : List (List UInt8)) (cur : List UInt8) : List UInt8 → List (List UInt8)
  | [] => (cur.reverse :: acc).reverse
  | c :: r => Ev.pick2 (Nat.beq c.toNat 32) (splitA (cur.reverse :: acc) [] r) (splitA acc (c :: cur) r)
theorem pk2 {α : Type} (b : Bool) (x y : α) : Ev.pick2 b x y = if b = true then x else y := by cases b <;> rfl
theorem splitA_eq : ∀ (l : List UInt8) (acc : List (List UInt8)) (cur : List UInt8), splitA acc cur l = acc.reverse ++ (match splitS l with | p :: ps => (cur.reverse ++ p) :: ps | [] => [])
  | [], acc, cur => by simp [splitA, splitS]
  | c :: r, acc, cur => by
    rw [splitA, pk2, splitS, splitA_eq r, splitA_eq r]
    have hne := splitS_ne r
    by_cases hc : c = 32
    · subst hc
      rw [if_pos (by decide), if_pos rfl]
      cases hr : splitS r with
      | nil => exact absurd hr hne
      | cons p ps => simp
    · rw [if_neg (by simp only [Nat.beq_eq]; intro h; exact hc (UInt8.toNat_inj.1 h)), if_neg hc]
      cases hr : splitS r with
      | nil => exact absurd hr hne
      | cons p ps => simp
theorem splitA_S (l : List UInt8) : splitA [] [] l = splitS l := by
  rw [splitA_eq]
  cases hr : splitS l with
  | nil => exact absurd hr (splitS_ne l)
  | cons p ps => simp
/-- The text that is handed over first, with another one. -/
def textOps : List Oper → Option ByteArray
  | [] => none
  | o :: l => match o.op with
    | .call c => match c.args.toList with
      | [.const (.string s), .const (.string _)] => some s
      | _ => textOps l
    | _ => textOps l
def orText : Option ByteArray → Option ByteArray → Option ByteArray
  | some s, _ => some s
  | none, r => r
noncomputable def textIn (c : Code) : Option ByteArray :=
  Code.rec (motive := fun _ => Option ByteArray) none (fun _ ops _ => textOps ops.toList) (fun _ _ x y => orText x y) (fun _ _ _ x y => orText x y) (fun _ _ b => b) (fun _ b => b)
    (fun _ _ _ _ x y => orText x y) (fun _ => none) (fun _ b => b) (fun _ => none) (fun _ => none) none (fun _ => none) c
/-- The text of all names. -/
noncomputable def nmText : ByteArray := match Tryz.f251.body with | some c => (textIn c).getD .empty | none => .empty
/-- All names. -/
noncomputable def nms : List (List UInt8) := splitA [] [] nmText.data.toList
theorem parts_self (s : ByteArray) : Parts 32 s ((splitA [] [] s.data.toList).map mkB) := by
  have h := parts_mk (s.data.toList.length + 1) s.data.toList (Nat.lt_succ_self _)
  rw [splitA_S]
  have e : mkB s.data.toList = s := by obtain ⟨d⟩ := s; simp
  rw [e] at h
  exact h
theorem nm_parts : Parts 32 nmText (nms.map mkB) := parts_self nmText
theorem nms_len : nms.length = 322 := by kernel_rfl
noncomputable def lenA (l : List UInt8) : Nat → Nat := List.rec (motive := fun _ => Nat → Nat) (fun n => n) (fun _ _ go n => go (Nat.add n 1)) l
theorem lenA_eq : ∀ (l : List UInt8) (n : Nat), lenA l n = n + l.length
  | [], n => rfl
  | c :: r, n => by
    show lenA r (n + 1) = _
    rw [lenA_eq r]; simp; omega
theorem nm_ble : Nat.ble (lenA nmText.data.toList 0) 2000000 = true := by kernel_rfl
theorem size_of (s : ByteArray) (h : Nat.ble (lenA s.data.toList 0) 2000000 = true) : s.size ≤ 2000000 := by
  have := Nat.le_of_ble_eq_true h
  rw [lenA_eq, Nat.zero_add] at this
  exact this
theorem nm_size : nmText.size ≤ 2000000 := size_of nmText nm_ble
theorem call69n (s : ByteArray) (hs : s = nmText) (w : World) : Calls Tryz.prog 122 #[.string s, .string ⟨#[32]⟩] w fun e w' => e = .returned (.func (.func 349) #[] #[.pointer (some ⟨w.heap.size + 1, 0, none⟩), .pointer (some ⟨w.heap.size, 0, none⟩), .pointer (some ⟨w.heap.size + 2, 0, none⟩)]) ∧
    w' = ((w.alloc (.cells #[.string nmText] 9)).alloc (.cells #[.string ⟨#[32]⟩] 9)).alloc (.cells #[.int .i64 0] 3) := by
  subst hs; exact call69 _ _ _
end Go.Proofs.YtpenhcmahojifaaGreatDoor.nm
namespace Go.Proofs.YtpenhcmahojifaaGreatDoor.nm
open Go.RowKit Go.Shelf Go.Lib
attribute [local go_sem] Oper.semAt_some
/-- Between two rounds of Parse. -/
structure PI (w : World) (s : ByteArray) (pre : List ByteArray) (W : World) : Prop where
  below : Below w.heap.size w W
  v0 : Var W w.heap.size (.string s)
  v1 : Var W (w.heap.size + 1) (.int .i64 0)
  v2 : Var W (w.heap.size + 1 + 1) (.bool false)
  v3 : Var W (w.heap.size + 1 + 1 + 1) (.int .i64 (pre.length : Int))
  no : s ∉ pre
/-- Where one has returned. -/
structure PX (w : World) (s : ByteArray) (pre : List ByteArray) (W : World) : Prop where
  below : Below w.heap.size w W
  v1 : Var W (w.heap.size + 1) (.int .i64 (pre.length : Int))
  v2 : Var W (w.heap.size + 1 + 1) (.bool true)
  is : ∃ l, pre = l ++ [s] ∧ s ∉ l
/-- What stands while the beginnings are tried. -/
structure TF (w : World) (s : ByteArray) (A : Nat) (W : World) : Prop where
  below : Below w.heap.size w W
  v0 : Var W w.heap.size (.string s)
  v1 : Var W (w.heap.size + 1) (.int .i64 0)
  v2 : Var W (w.heap.size + 1 + 1) (.bool false)
  df : W.heap[w.heap.size + 7]? = some (.deferred (some []))
  hA : w.heap.size + 7 < A
  a0 : W.cell? ⟨A, 0, none⟩ = some (.int .i64 68)
  a1 : W.cell? ⟨A, 1, none⟩ = some (.int .i64 84)
  a2 : W.cell? ⟨A, 2, none⟩ = some (.int .i64 100)
theorem TF.grow {w : World} {s : ByteArray} {A : Nat} {W W' : World} (h : TF w s A W) (hb : Below W.heap.size W W') : TF w s A W' := by
  have hlt : ∀ {b : Nat} {v : Value} {o : Nat}, W.cell? ⟨b, o, none⟩ = some v → b < W.heap.size := fun hc => World.block_lt_of_cell? _ _ hc
  have hd : w.heap.size + 7 < W.heap.size := (Array.getElem?_eq_some_iff.1 h.df).1
  exact ⟨h.below.trans (hb.mono h.below.size), h.v0.heap (hb.block _ (hlt h.v0.1)), h.v1.heap (hb.block _ (hlt h.v1.1)), h.v2.heap (hb.block _ (hlt h.v2.1)), (hb.block _ hd).trans h.df, h.hA,
    (cell_heap (hb.block _ (hlt h.a0))).trans h.a0, (cell_heap (hb.block _ (hlt h.a1))).trans h.a1, (cell_heap (hb.block _ (hlt h.a2))).trans h.a2⟩
/-- No condition's mnemonic begins a text. -/
def NoCut (s : ByteArray) : Prop := ∀ p : ByteArray, p ∈ [(⟨#[106]⟩ : ByteArray), ⟨#[115, 101, 116]⟩, ⟨#[99, 109, 111, 118]⟩] → ∀ (W : World), Calls Tryz.prog 369 #[.string s, .string p] W fun e W' => e = .returned (.tuple #[.string s, .bool false]) ∧ RowKit.Below W.heap.size W W'
theorem tf70 {w : World} {s p : ByteArray} {A : Nat} {W : World} (h : TF w s A W) (hc : NoCut s) (hp : p ∈ [(⟨#[106]⟩ : ByteArray), ⟨#[115, 101, 116]⟩, ⟨#[99, 109, 111, 118]⟩]) :
    CallsIn Fence.wide 9 Tryz.prog 369 #[.string s, .string p] W fun e W' => e = .returned (.tuple #[.string s, .bool false]) ∧ TF w s A W' := by
  refine (callsIn_wide (n := 9) |>.2 (hc p hp W)).mono ?_
  rintro e W' ⟨rfl, hb⟩
  exact ⟨rfl, h.grow hb⟩
theorem idx92_0 (w : World) : (Instr.index 428 (.agg #[.string ⟨#[106]⟩, .string ⟨#[115, 101, 116]⟩, .string ⟨#[99, 109, 111, 118]⟩]) (.int .i64 0)).run Tryz.prog w = .ok (.string ⟨#[106]⟩) w := by kernel_rfl
theorem idx92_1 (w : World) : (Instr.index 428 (.agg #[.string ⟨#[106]⟩, .string ⟨#[115, 101, 116]⟩, .string ⟨#[99, 109, 111, 118]⟩]) (.int .i64 1)).run Tryz.prog w = .ok (.string ⟨#[115, 101, 116]⟩) w := by kernel_rfl
theorem idx92_2 (w : World) : (Instr.index 428 (.agg #[.string ⟨#[106]⟩, .string ⟨#[115, 101, 116]⟩, .string ⟨#[99, 109, 111, 118]⟩]) (.int .i64 2)).run Tryz.prog w = .ok (.string ⟨#[99, 109, 111, 118]⟩) w := by kernel_rfl
def findN (s : List UInt8) : List (List UInt8) → Int → Option Int
  | [], _ => none
  | p :: l, k => if p = s then some k else findN s l (k + 1)
noncomputable def parseS (s : List UInt8) : Int × Bool :=
  match findN s nms 1 with
  | some k => (k, true)
  | none => (0, false)
theorem findN_no {s : List UInt8} : ∀ {l : List (List UInt8)} {k : Int}, s ∉ l → findN s l k = none
  | [], _, _ => rfl
  | p :: l, k, h => by
    rw [findN, if_neg (fun e => h (by rw [e]; exact List.mem_cons_self ..)), findN_no (fun hm => h (List.mem_cons_of_mem _ hm))]
theorem findN_at {s : List UInt8} : ∀ {l t : List (List UInt8)} {k : Int}, s ∉ l → findN s (l ++ s :: t) k = some (k + l.length)
  | [], t, k, _ => by rw [List.nil_append, findN, if_pos rfl]; simp
  | p :: l, t, k, h => by
    rw [List.cons_append, findN, if_neg (fun e => h (by rw [e]; exact List.mem_cons_self ..)), findN_at (fun hm => h (List.mem_cons_of_mem _ hm))]
    simp only [List.length_cons]; congr 1; omega
theorem mk_data (s : ByteArray) : mkB s.data.toList = s := by obtain ⟨d⟩ := s; simp
theorem mem_mk {s : ByteArray} {l : List (List UInt8)} : s ∈ l.map mkB ↔ s.data.toList ∈ l := by
  constructor
  · intro h
    obtain ⟨x, hx, rfl⟩ := List.mem_map.1 h
    exact hx
  · intro h
    exact List.mem_map.2 ⟨_, h, mk_data s⟩
set_option maxRecDepth 100000 in
set_option maxHeartbeats 2000000 in
theorem parse_in (s : ByteArray) (hcut : s.data.toList ∈ nms ∨ NoCut s) (w : World) : Calls Tryz.prog 251 #[.string s] w fun e w' => e = .returned (.tuple #[.int .i64 (parseS s.data.toList).1, .bool (parseS s.data.toList).2]) ∧ Below w.heap.size w w' := by
  refine callsIn_wide (n := 10) |>.1 ?_
  refine callsIn_of_wp_marks Tryz.func251 rfl trivial ?_ rfl
  simp only [Tryz.ntmps251, List.size_toArray, List.length_cons, List.length_nil, Nat.reduceAdd, Nat.reduceSub, Array.replicate_succ, Array.replicate_zero, List.push_toArray, List.append_toArray, List.nil_append, List.cons_append]
  gi_wp2_with (refine ⟨trivial, ?_⟩; gi_at_call 122; refine (callsIn_wide.2 (call69n _ (by kernel_rfl) _)).mono ?_; rintro e w' ⟨rfl, rfl⟩)
  have u0 := Var.new w (.string s) 9
  have u1 := Var.new (w.alloc (.cells #[.string s] 9)) (.int .i64 0) 3
  have u2 := Var.new ((w.alloc (.cells #[.string s] 9)).alloc (.cells #[.int .i64 0] 3)) (.bool false) 4
  have u3 := Var.new (((w.alloc (.cells #[.string s] 9)).alloc (.cells #[.int .i64 0] 3)).alloc (.cells #[.bool false] 4)) (.int .i64 0) 3
  have u4 := Var.new ((((w.alloc (.cells #[.string s] 9)).alloc (.cells #[.int .i64 0] 3)).alloc (.cells #[.bool false] 4)).alloc (.cells #[.int .i64 0] 3)) (.string nmText) 9
  have u5 := Var.new (((((w.alloc (.cells #[.string s] 9)).alloc (.cells #[.int .i64 0] 3)).alloc (.cells #[.bool false] 4)).alloc (.cells #[.int .i64 0] 3)).alloc (.cells #[.string nmText] 9)) (.string ⟨#[32]⟩) 9
  have u6 := Var.new ((((((w.alloc (.cells #[.string s] 9)).alloc (.cells #[.int .i64 0] 3)).alloc (.cells #[.bool false] 4)).alloc (.cells #[.int .i64 0] 3)).alloc (.cells #[.string nmText] 9)).alloc (.cells #[.string ⟨#[32]⟩] 9)) (.int .i64 0) 3
  have hb : Below w.heap.size w (((((((w.alloc (.cells #[.string s] 9)).alloc (.cells #[.int .i64 0] 3)).alloc (.cells #[.bool false] 4)).alloc (.cells #[.int .i64 0] 3)).alloc (.cells #[.string nmText] 9)).alloc (.cells #[.string ⟨#[32]⟩] 9)).alloc (.cells #[.int .i64 0] 3)) :=
    (((((((Below.refl _ w).alloc (Nat.le_refl _) _).alloc (by simp) _).alloc (by simp; omega) _).alloc (by simp; omega) _).alloc (by simp; omega) _).alloc (by simp; omega) _).alloc (by simp; omega) _
  simp only [World.size_alloc] at u1 u2 u3 u4 u5 u6
  have k0 := (((((u0.alloc (.cells #[.int .i64 0] 3)).alloc (.cells #[.bool false] 4)).alloc (.cells #[.int .i64 0] 3)).alloc (.cells #[.string nmText] 9)).alloc (.cells #[.string ⟨#[32]⟩] 9)).alloc (.cells #[.int .i64 0] 3)
  have k1 := ((((u1.alloc (.cells #[.bool false] 4)).alloc (.cells #[.int .i64 0] 3)).alloc (.cells #[.string nmText] 9)).alloc (.cells #[.string ⟨#[32]⟩] 9)).alloc (.cells #[.int .i64 0] 3)
  have k2 := (((u2.alloc (.cells #[.int .i64 0] 3)).alloc (.cells #[.string nmText] 9)).alloc (.cells #[.string ⟨#[32]⟩] 9)).alloc (.cells #[.int .i64 0] 3)
  have k3 := ((u3.alloc (.cells #[.string nmText] 9)).alloc (.cells #[.string ⟨#[32]⟩] 9)).alloc (.cells #[.int .i64 0] 3)
  have k4 := (u4.alloc (.cells #[.string ⟨#[32]⟩] 9)).alloc (.cells #[.int .i64 0] 3)
  have k5 := u5.alloc (.cells #[.int .i64 0] 3)
  have hsz : (((((((w.alloc (.cells #[.string s] 9)).alloc (.cells #[.int .i64 0] 3)).alloc (.cells #[.bool false] 4)).alloc (.cells #[.int .i64 0] 3)).alloc (.cells #[.string nmText] 9)).alloc (.cells #[.string ⟨#[32]⟩] 9)).alloc (.cells #[.int .i64 0] 3)).heap.size = w.heap.size + 7 := by simp
  refine range_law (m := w.heap.size + 7) (Bs := w.heap.size + 1 + 1 + 1 + 1) (Bp := w.heap.size + 1 + 1 + 1 + 1 + 1) (Bv := w.heap.size + 1 + 1 + 1 + 1 + 2) (by omega) hsz rfl (by omega) (by omega) (by omega) (by omega) (by omega) nm_parts nm_size k4.1 k4.2 k5.1 u6.1
    (PI w s) (PX w s)
    (fun pre W W' hl hi => ⟨hl.below hi.below (by omega) (by omega), hl.var hi.v0 (by omega) (by omega), hl.var hi.v1 (by omega) (by omega), hl.var hi.v2 (by omega) (by omega), hl.var hi.v3 (by omega) (by omega), hi.no⟩)
    (fun pre W W' hl hi => ⟨hl.below hi.below (by omega) (by omega), hl.var hi.v1 (by omega) (by omega), hl.var hi.v2 (by omega) (by omega), hi.is⟩)
    ⟨hb, k0, k1, k2, k3, by simp⟩
    (fun x => { tmps := #[.string s, .pointer (some ⟨w.heap.size, 0, none⟩), .pointer (some ⟨w.heap.size + 1, 0, none⟩), .pointer (some ⟨w.heap.size + 1 + 1, 0, none⟩), .pointer (some ⟨w.heap.size + 1 + 1 + 1, 0, none⟩), .string x, undef, undef, undef, undef, undef, undef, undef,
      .func (.func 349) #[] #[.pointer (some ⟨w.heap.size + 1 + 1 + 1 + 1 + 1, 0, none⟩), .pointer (some ⟨w.heap.size + 1 + 1 + 1 + 1, 0, none⟩), .pointer (some ⟨w.heap.size + 1 + 1 + 1 + 1 + 2, 0, none⟩)], .string x,
      undef, undef, undef, undef, undef, undef, undef, undef, undef, undef, undef, undef, undef, undef, undef, undef, undef, undef, undef, undef, undef, undef, undef, undef, undef, undef, undef, undef, undef, undef, undef, undef], defers := [] }) ?assign ?body ?done ?stop
  case assign =>
    intro l x W K hK
    gi_wp2
    exact hK
  case body =>
    rintro l pre x W ⟨hB, v0, v1, v2, v3, hno⟩ hpx
    have hlen : pre.length < 322 := by
      have := hpx.length_le
      rw [List.length_map, nms_len, List.length_append] at this
      simp at this; omega
    have c0 := v0.1; have c1 := v1.1; have f1 := v1.2; have c2 := v2.1; have f2 := v2.2; have c3 := v3.1; have f3 := v3.2
    gi_wp2
    · rename_i hx
      have hxs : x = s := by
        have := eq_of_beq hx
        rw [ByteArray.toList_eq, ByteArray.toList_eq] at this
        rw [← mk_data x, this, mk_data]
      refine ⟨fun r hr => ((setCell_block _ _ _ _ (by omega)).trans (setCell_block _ _ _ _ (by omega))).trans (setCell_block _ _ _ _ (by omega)), ?_, ?_, ?_, pre, by rw [hxs], hno⟩
      · exact ((hB.setCell (p := ⟨w.heap.size + 1 + 1 + 1, 0, none⟩) (by simp; omega) _).setCell (p := ⟨w.heap.size + 1, 0, none⟩) (by simp) _).setCell (p := ⟨w.heap.size + 1 + 1, 0, none⟩) (by simp; omega) _
      · have := (((v1.other (c := w.heap.size + 1 + 1 + 1) (by omega) (.int .i64 ((pre.length : Int) + 1))).set (.int .i64 ((pre.length : Int) + 1))).other (c := w.heap.size + 1 + 1) (by omega) (.bool true))
        simpa using this
      · exact (((v2.other (c := w.heap.size + 1 + 1 + 1) (by omega) (.int .i64 ((pre.length : Int) + 1))).other (c := w.heap.size + 1) (by omega) (.int .i64 ((pre.length : Int) + 1))).set (.bool true))
    · rename_i hx
      have hxs : s ≠ x := fun e => by subst e; simp at hx
      refine ⟨fun r hr => setCell_block _ _ _ _ (by omega), ?_, ?_, ?_, ?_, ?_, ?_⟩
      · exact hB.setCell (p := ⟨w.heap.size + 1 + 1 + 1, 0, none⟩) (by simp; omega) _
      · exact v0.other (by omega) _
      · exact v1.other (by omega) _
      · exact v2.other (by omega) _
      · have := v3.set (.int .i64 ((pre.length : Int) + 1))
        simpa using this
      · simp only [List.mem_append, List.mem_singleton, not_or]; exact ⟨hno, hxs⟩
  case done =>
    rintro W ⟨hB, v0, v1, v2, v3, hno⟩ hK
    have hno' : s.data.toList ∉ nms := fun hm => hno (mem_mk.2 hm)
    have hc : NoCut s := hcut.resolve_left hno'
    have hps : parseS s.data.toList = (0, false) := by unfold parseS; rw [findN_no hno']
    have c0 := v0.1; have c1 := v1.1; have f1 := v1.2; have c2 := v2.1; have f2 := v2.2
    have hd : w.heap.size + 7 < W.heap.size := (Array.getElem?_eq_some_iff.1 hK).1
    have hrow := World.alloc_heap_new W (.cells #[.int .i64 68, .int .i64 84, .int .i64 100] 337)
    have hT : TF w s W.heap.size (W.alloc (.cells #[.int .i64 68, .int .i64 84, .int .i64 100] 337)) := by
      refine ⟨hB.alloc hB.size _, v0.alloc _, v1.alloc _, v2.alloc _, (Below.heap_alloc _ _ _ hd).trans hK, hd, ?_, ?_, ?_⟩
      all_goals (unfold World.cell?; simp only [hrow]; rfl)
    obtain ⟨A, hAe⟩ : ∃ A, W.heap.size = A := ⟨_, rfl⟩
    rw [hAe] at hT
    gi_wp2
    gi_loopw [23] (fun v wr => ∃ k : Nat, ((k = 0 ∧ v = .int .i64 0) ∨ (k = 1 ∧ v = .int .i64 1) ∨ (k = 2 ∧ v = .int .i64 2) ∨ (k = 3 ∧ v = .int .i64 3)) ∧ TF w s A wr) (fun v _ => 3 - (RowKit.intOf v).toNat)
    case atStart => exact ⟨0, .inl ⟨rfl, rfl⟩, hT⟩
    case round =>
      obtain ⟨k, hk, hT⟩ := hrel
      rcases hk with ⟨rfl, rfl⟩ | ⟨rfl, rfl⟩ | ⟨rfl, rfl⟩ | ⟨rfl, rfl⟩
      · have q0 := hT.v0.1
        have h70 := tf70 (p := ⟨#[106]⟩) hT hc (by simp)
        have i92 := idx92_0
        gi_wp2_with (refine ⟨trivial, ?_⟩; gi_at_call 369; refine h70.mono ?_; rintro e W2 ⟨rfl, hT2⟩)
        go_roundw
        case rel => exact ⟨1, .inr (.inl ⟨rfl, rfl⟩), hT2⟩
        case measure => simp [RowKit.intOf]
      · have q0 := hT.v0.1
        have h70 := tf70 (p := ⟨#[115, 101, 116]⟩) hT hc (by simp)
        have i92 := idx92_1
        gi_wp2_with (refine ⟨trivial, ?_⟩; gi_at_call 369; refine h70.mono ?_; rintro e W2 ⟨rfl, hT2⟩)
        go_roundw
        case rel => exact ⟨2, .inr (.inr (.inl ⟨rfl, rfl⟩)), hT2⟩
        case measure => simp [RowKit.intOf]
      · have q0 := hT.v0.1
        have h70 := tf70 (p := ⟨#[99, 109, 111, 118]⟩) hT hc (by simp)
        have i92 := idx92_2
        gi_wp2_with (refine ⟨trivial, ?_⟩; gi_at_call 369; refine h70.mono ?_; rintro e W2 ⟨rfl, hT2⟩)
        go_roundw
        case rel => exact ⟨3, .inr (.inr (.inr ⟨rfl, rfl⟩)), hT2⟩
        case measure => simp [RowKit.intOf]
      · have b3 := hT.v1.1; have b4 := hT.v1.2; have b5 := hT.v2.1; have b6 := hT.v2.2
        gi_wp2
        have hh := hT.hA
        have hK3 : ((wr.setCell ⟨w.heap.size + 1, 0, none⟩ (.int .i64 0)).setCell ⟨w.heap.size + 1 + 1, 0, none⟩ (.bool false)).heap[w.heap.size + 7]? = some (.deferred (some [])) :=
          ((setCell_block _ _ _ _ (by omega)).trans (setCell_block _ _ _ _ (by omega))).trans hT.df
        have g1 := (hT.v1.set (.int .i64 0)).other (c := w.heap.size + 1 + 1) (by omega) (.bool false)
        have g2 := (hT.v2.other (c := w.heap.size + 1) (by omega) (.int .i64 0)).set (.bool false)
        refine ⟨by simp, .inl ⟨_, _, rfl, run_takeDeferred hK3, ?_⟩⟩
        refine ⟨_, results_two (by rfl) (run_isAgg_plain Tryz.underlying3 rfl) (run_isAgg_plain Tryz.underlying4 rfl) (a := ⟨w.heap.size + 1, 0, none⟩) (b := ⟨w.heap.size + 1 + 1, 0, none⟩) (by rfl) (by rfl) (g1.heap (World.putObj_heap_other (by omega))).1 (g2.heap (World.putObj_heap_other (by omega))).1, ?_, ?_⟩
        · rw [hps]
        · exact (Lo.putObj (m := w.heap.size + 7) (Bs := w.heap.size) _ (.deferred none) (Nat.le_refl _)).below ((hT.below.setCell (p := ⟨w.heap.size + 1, 0, none⟩) (by simp) _).setCell (p := ⟨w.heap.size + 1 + 1, 0, none⟩) (by simp; omega) _) (by omega) (Nat.le_refl _)
  case stop =>
    rintro pre W hpre ⟨hB, v1, v2, l, he, hno⟩ hK
    gi_wp2
    refine ⟨by simp, .inl ⟨_, _, rfl, run_takeDeferred hK, ?_⟩⟩
    refine ⟨_, results_two (by rfl) (run_isAgg_plain Tryz.underlying3 rfl) (run_isAgg_plain Tryz.underlying4 rfl) (a := ⟨w.heap.size + 1, 0, none⟩) (b := ⟨w.heap.size + 1 + 1, 0, none⟩) (by rfl) (by rfl) (v1.heap (World.putObj_heap_other (by omega))).1 (v2.heap (World.putObj_heap_other (by omega))).1, ?_, ?_⟩
    · obtain ⟨t, ht⟩ := hpre
      have hn : nms = l.map (fun x => x.data.toList) ++ s.data.toList :: t.map (fun x => x.data.toList) := by
        have h1 := congrArg (List.map (fun x : ByteArray => x.data.toList)) ht
        rw [List.map_map, he] at h1
        have h2 : ((fun x : ByteArray => x.data.toList) ∘ mkB) = id := funext fun _ => rfl
        rw [h2, List.map_id] at h1
        rw [← h1]; simp
      have hl : s.data.toList ∉ l.map (fun x => x.data.toList) := fun hm => by
        obtain ⟨x, hx, hxe⟩ := List.mem_map.1 hm
        exact hno (by rw [← mk_data s, ← hxe, mk_data]; exact hx)
      have hps : parseS s.data.toList = ((pre.length : Int), true) := by
        unfold parseS
        rw [hn, findN_at hl, he]
        simp; omega
      rw [hps]
    · exact (Lo.putObj (m := w.heap.size + 7) (Bs := w.heap.size) W (.deferred none) (Nat.le_refl _)).below hB (by omega) (Nat.le_refl _)
end Go.Proofs.YtpenhcmahojifaaGreatDoor.nm
