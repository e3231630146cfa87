import Derived.RangeFuncNested
import Derived.RangeFuncBound
import Derived.RangeFuncCalls
import Derived.RangeFuncLeaves
import Derived.Shelf.Abstract
import Derived.WalkKit
import Derived.OwnWalkIn
import Derived.TacticsInMore
import Derived.LoopNIn
import Derived.LoopIn
import Derived.Lib.Bytealg
import Derived.Test.YtfggompceldfgaaGreatDoorRows
namespace Go.Proofs.YtfggompceldfgaaGreatDoor.sl
open Go.RowKit Go.Shelf Go.Lib

set_option maxRecDepth 100000 in
set_option maxHeartbeats 1000000 in
theorem idx146 (s : ByteArray) (c : Int) (w : World) : Calls Tryz.prog 175 #[.string s, .int .u8 c] w fun e w' => e = .returned (.int .i64 (Lib.indexByte s.data.toList c.toNat.toUInt8)) ∧ w' = w := by
  go_enter Tryz.func175, Tryz.ntmps175
  go_wp2
  rw [run_callFunc_extern Tryz.func185 (by kernel_rfl) (by kernel_rfl) (by kernel_rfl) (e := Extern.BytealgIndexByte.indexByte) (by kernel_rfl), Lib.run_indexByteString]
  simp only [Result.andThen]
  rw [Oper.upon_value]
  go_wp2
  go_ret
  exact ⟨rfl, rfl⟩

set_option maxRecDepth 100000 in
set_option maxHeartbeats 1000000 in
theorem idx139 (s : ByteArray) (w : World) : Calls Tryz.prog 164 #[.string s, .string ⟨#[10]⟩] w fun e w' => e = .returned (.int .i64 (Lib.indexByte s.data.toList 10)) ∧ w' = w := by
  go_enter Tryz.func164, Tryz.ntmps164
  go_wp2_with (go_at_call 175; refine (idx146 _ _ _).mono ?_; rintro e w' ⟨rfl, rfl⟩)
  · rename_i h
    go_ret
    have hs : s.data.toList = [10] := by
      have := eq_of_beq h
      rw [ByteArray.toList_eq] at this; exact this.symm
    refine ⟨?_, rfl⟩
    rw [hs]; rfl
  · go_ret
    exact ⟨rfl, rfl⟩

set_option maxRecDepth 100000 in
set_option maxHeartbeats 1000000 in
theorem idx128 (s : ByteArray) (w : World) : Calls Tryz.prog 138 #[.string s, .string ⟨#[10]⟩] w fun e w' => e = .returned (.int .i64 (Lib.indexByte s.data.toList 10)) ∧ w' = w := by
  go_enter Tryz.func138, Tryz.ntmps138
  go_wp2_with (go_at_call 164; refine (idx139 _ _).mono ?_; rintro e w' ⟨rfl, rfl⟩)
  go_ret
  exact ⟨rfl, rfl⟩

/-- The parts of a text between blanks. -/
inductive Parts : ByteArray → List ByteArray → Prop
  | last (s : ByteArray) (h : Lib.indexByte s.data.toList 10 = -1) : Parts s [s]
  | cut (s : ByteArray) (i : Nat) (rest : List ByteArray) (h : Lib.indexByte s.data.toList 10 = i) (hi : i < s.size) (hr : Parts (s.extract (i + 1) s.size) rest) : Parts s (s.extract 0 i :: rest)

theorem cell_heap {W W' : World} {b o : Nat} (h : W'.heap[b]? = W.heap[b]?) : W'.cell? ⟨b, o, none⟩ = W.cell? ⟨b, o, none⟩ := by
  unfold World.cell?; simp only [h]
theorem frozen_heap {W W' : World} {b o : Nat} (h : W'.heap[b]? = W.heap[b]?) : W'.frozen? ⟨b, o, none⟩ = W.frozen? ⟨b, o, none⟩ := by
  unfold World.frozen?; simp only [h]
def leftOf (B : Nat) (w : World) : Nat := match w.cell? ⟨B, 0, none⟩ with | some (.string s) => s.size | _ => 0


set_option maxRecDepth 100000 in
set_option maxHeartbeats 1000000 in
theorem split_in (n : Nat) (hn : 1 ≤ n) (l Bs Bp Bv : Nat) (s0 : ByteArray) (xs : List ByteArray) (hx : Parts s0 xs) (hz : s0.size ≤ 1000000) (J Jx : List ByteArray → World → Prop)
    (hJs : ∀ pre W v, J pre W → J pre (W.setCell ⟨Bs, 0, none⟩ v)) (hne : Bp ≠ Bs) (hnv : Bv ≠ Bs)
    (hY : ∀ pre x W, J pre W → pre ++ [x] <+: xs → YieldAt Fence.wide (n - 1) Tryz.prog l #[.string x] W fun e W' =>
      (e = .returned (.bool true) ∧ J (pre ++ [x]) W' ∧ (W'.heap[Bs]? = W.heap[Bs]? ∧ W'.heap[Bp]? = W.heap[Bp]? ∧ W'.heap[Bv]? = W.heap[Bv]?)) ∨ (e = .returned (.bool false) ∧ Jx (pre ++ [x]) W'))
    (W : World) (hs : W.cell? ⟨Bs, 0, none⟩ = some (.string s0)) (hfr : W.frozen? ⟨Bs, 0, none⟩ = false) (hp : W.cell? ⟨Bp, 0, none⟩ = some (.string ⟨#[10]⟩)) (hv : W.cell? ⟨Bv, 0, none⟩ = some (.int .i64 0)) (h0 : J [] W) :
    CallsIn Fence.wide n Tryz.prog 136 #[.func (.yield l) #[] #[], .pointer (some ⟨Bp, 0, none⟩), .pointer (some ⟨Bs, 0, none⟩), .pointer (some ⟨Bv, 0, none⟩)] W fun e W' =>
      (∃ v, e = .returned v) ∧ (J xs W' ∨ ∃ pre, pre <+: xs ∧ Jx pre W') := by
  refine callsIn_of_wp Tryz.func136 rfl trivial ?_ rfl
  simp only [Tryz.ntmps136, List.size_toArray, List.length_cons, List.length_nil, Nat.reduceAdd, Nat.reduceSub, Array.replicate_succ, Array.replicate_zero, List.push_toArray, List.append_toArray, List.nil_append, List.cons_append]
  gi_wp2
  gi_loopw [] (fun wr => ∃ (pre rest : List ByteArray) (s : ByteArray), xs = pre ++ rest ∧ Parts s rest ∧ s.size ≤ 1000000 ∧ wr.cell? ⟨Bs, 0, none⟩ = some (.string s) ∧ wr.frozen? ⟨Bs, 0, none⟩ = false ∧ wr.cell? ⟨Bp, 0, none⟩ = some (.string ⟨#[10]⟩) ∧ wr.cell? ⟨Bv, 0, none⟩ = some (.int .i64 0) ∧ J pre wr)
    (fun wr => leftOf Bs wr)
  case atStart => exact ⟨[], xs, s0, rfl, hx, hz, hs, hfr, hp, hv, h0⟩
  case round =>
    obtain ⟨pre, rest, s, hxs, hpt, hsz, hcs, hcf, hcp, hcv, hJ⟩ := hrel
    cases hpt with
    | last _ h =>
      obtain ⟨fn, tmps, assign, body, hy, hR⟩ := hY pre s wr hJ (by rw [hxs]; exact List.prefix_refl _)
      have hi128 : CallsIn Fence.wide (n - 1) Tryz.prog 138 #[.string s, .string ⟨#[10]⟩] wr fun e w' => e = .returned (.int .i64 (-1)) ∧ w' = wr := by
        have := callsIn_wide (n := n - 1) |>.2 (idx128 s wr); rwa [h] at this
      gi_wp2_with (refine ⟨trivial, ?_⟩; gi_at_call 138; refine hi128.mono ?_; rintro e w' ⟨rfl, rfl⟩)
      refine hR.mono ?_
      rintro e W3 (⟨rfl, hJ3, _⟩ | ⟨rfl, hJx3⟩)
      · gi_wp2
        go_end0
        exact ⟨⟨_, rfl⟩, .inl (by rw [hxs]; exact hJ3)⟩
      · gi_wp2
        go_end0
        exact ⟨⟨_, rfl⟩, .inr ⟨pre ++ [s], by rw [hxs]; exact List.prefix_refl _, hJx3⟩⟩
    | cut _ i rest h hi hr =>
      obtain ⟨fn, tmps, assign, body, hy, hR⟩ := hY pre (s.extract 0 i) wr hJ ⟨rest, by rw [hxs]; simp⟩
      have hi128 : CallsIn Fence.wide (n - 1) Tryz.prog 138 #[.string s, .string ⟨#[10]⟩] wr fun e w' => e = .returned (.int .i64 (i : Int)) ∧ w' = wr := by
        have := callsIn_wide (n := n - 1) |>.2 (idx128 s wr); rwa [h] at this
      gi_wp2_with (refine ⟨trivial, ?_⟩; gi_at_call 138; refine hi128.mono ?_; rintro e w' ⟨rfl, rfl⟩)
      refine hR.mono ?_
      rintro e W3 (⟨rfl, hJ3, hk1, hk2, hk3⟩ | ⟨rfl, hJx3⟩)
      · have hcs3 : W3.cell? ⟨Bs, 0, none⟩ = some (.string s) := (cell_heap hk1).trans hcs
        have hcf3 : W3.frozen? ⟨Bs, 0, none⟩ = false := (frozen_heap hk1).trans hcf
        have hcp3 : W3.cell? ⟨Bp, 0, none⟩ = some (.string ⟨#[10]⟩) := (cell_heap hk2).trans hcp
        have hcv3 : W3.cell? ⟨Bv, 0, none⟩ = some (.int .i64 0) := (cell_heap hk3).trans hcv
        gi_wp2
        have hsz2 : (s.extract (i + 1) s.size).size = s.size - (i + 1) := by simp [ByteArray.size_extract]
        have hc4 := World.cell?_setCell_same' W3 ⟨Bs, 0, none⟩ (.string (s.extract (i + 1) s.size)) (by rw [hcs3]; rfl)
        go_roundw
        case rel =>
          refine ⟨pre ++ [s.extract 0 i], rest, s.extract (i + 1) s.size, by rw [hxs]; simp, hr, by omega, hc4, by rw [World.frozen?_setCell]; exact hcf3, ?_, ?_, hJs _ _ _ hJ3⟩
          · rw [World.cell?_setCell_other _ _ _ _ (by simp)]; exact hcp3
          · rw [World.cell?_setCell_other _ _ _ _ (by simp)]; exact hcv3
        case measure =>
          unfold leftOf
          rw [hc4, hcs]
          show (s.extract (i + 1) s.size).size < s.size
          omega
      · gi_wp2
        refine bodyPost_ret (results_none rfl _ _ _) rfl ?_
        exact ⟨⟨_, rfl⟩, .inr ⟨pre ++ [s.extract 0 i], ⟨rest, by rw [hxs]; simp⟩, hJx3⟩⟩
end Go.Proofs.YtfggompceldfgaaGreatDoor.sl
