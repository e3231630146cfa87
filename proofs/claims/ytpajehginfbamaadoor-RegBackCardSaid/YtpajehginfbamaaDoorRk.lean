/- RegBack: letters turned large, and small. -/
import Derived.Test.YtpajehginfbamaaDoorRgA
import Derived.Test.YtpajehginfbamaaDoorNu
namespace Go.Proofs.YtpajehginfbamaaDoor.rg
open Go.Tv Go.Ev

def pK : List Bool := [true, true, false, true, false]
noncomputable def anSm : FnAnn := ⟨annOf [0, 3, 4] pK, .none, []⟩
noncomputable def anTu : FnAnn := ⟨annOf [0, 1, 5, 6] pK, .none, []⟩
noncomputable def jSm (s : List UInt8) (r m : Nat) (out : List UInt8) (i : Int) : Option AV := loopN X0 (c0 AV) anSm r 41 pK (fun v _ => some v) m (frOf 29 [(0, .str s), (3, .str out), (4, .int .i64 i)]) TMem.empty
noncomputable def jTu (s : List UInt8) (t : Int) (r m : Nat) (out : List UInt8) (i : Int) : Option AV := loopN X0 (c0 AV) anTu r 39 pK (fun v _ => some v) m (frOf 39 [(0, .str s), (1, .int .i64 t), (5, .str out), (6, .int .i64 i)]) TMem.empty
noncomputable def atK (s : List UInt8) (i : Int) (k : UInt8 → Option AV) : Option AV := Option.rec (motive := fun _ => Option AV) none k (getI s i)
noncomputable def addK (out : List UInt8) (v : Int) (go : List UInt8 → Option AV) : Option AV := pick2 (Nat.ble (out.length + 1) 9223372036854775807) (go (out ++ [iU8 v])) none
theorem stepSm (s : List UInt8) (r m : Nat) (out : List UInt8) (i : Int) : jSm s r (m + 1) out i =
    pick2 (ltI i ↑s.length) (atK s i fun c => pickR (u8I c) 65 90 (addK out (IntKind.wrap .u8 (u8I c + 32)) fun o => jSm s r m o (IntKind.wrap .i64 (i + 1))) (addK out (u8I c) fun o => jSm s r m o (IntKind.wrap .i64 (i + 1)))) (some (.str out)) := by kernel_rfl
theorem enterSm (s : List UInt8) (m : Nat) : enterT X0 (c0 AV) anSm m 41 [.str s] TMem.empty (fun v _ => some v) = jSm s m m [] 0 := by kernel_rfl
theorem stepTu (s : List UInt8) (t : Int) (r m : Nat) (out : List UInt8) (i : Int) : jTu s t r (m + 1) out i =
    pick2 (ltI i ↑s.length) (atK s i fun c => pick2 (ltI (Int.tmod i 60) 0) none (pick2 (!eqI (Int.tmod (Int.fdiv t (2 ^ (min (Int.toNat (Int.tmod i 60)) 64))) 2) 0)
      (pickR (u8I c) 97 122 (addK out (IntKind.wrap .u8 (u8I c - 32)) fun o => jTu s t r m o (IntKind.wrap .i64 (i + 1))) (addK out (u8I c) fun o => jTu s t r m o (IntKind.wrap .i64 (i + 1))))
      (addK out (u8I c) fun o => jTu s t r m o (IntKind.wrap .i64 (i + 1))))) (some (.str out)) := by kernel_rfl
theorem enterTu (s : List UInt8) (t : Int) (m : Nat) : enterT X0 (c0 AV) anTu m 39 [.str s, .int .i64 t] TMem.empty (fun v _ => some v) = jTu s t m m [] 0 := by kernel_rfl

def lowN (n : Int) : Int := if 65 ≤ n ∧ n ≤ 90 then n + 32 else n
theorem lowI_eq (c : UInt8) : lowI c = lowN (u8I c) := by
  have := u8I_nn c; have := u8I_lt c
  have h : lowI c = pickR (u8I c) 65 90 (IntKind.wrap .u8 (u8I c + 32)) (u8I c) := rfl
  rw [h, pickR_eq]
  unfold lowN
  split
  · rw [u8_in (by omega) (by omega)]
  · rfl
theorem u8I_iU8 {n : Int} (h0 : 0 ≤ n) (h1 : n < 256) : u8I (iU8 n) = n := by
  unfold u8I iU8
  rw [UInt8.toNat_ofNat']
  show ((n.toNat % 256 : Nat) : Int) = n
  omega
def smallB (c : UInt8) : UInt8 := iU8 (lowN (u8I c))
theorem u8I_small (c : UInt8) : u8I (smallB c) = lowN (u8I c) := by
  have := u8I_nn c; have := u8I_lt c
  refine u8I_iU8 ?_ ?_ <;> (unfold lowN; split <;> omega)
theorem loopSm (s : List UInt8) (hs : s.length < 1000000) (r : Nat) : ∀ (rest pre : List UInt8) (m : Nat), s = pre ++ rest → rest.length < m → jSm s r m (pre.map smallB) pre.length = some (.str (s.map smallB)) := by
  intro rest
  induction rest with
  | nil =>
    intro pre m he hm
    obtain ⟨m, rfl⟩ : ∃ m', m = m' + 1 := ⟨m - 1, by simp at hm; omega⟩
    have hsp : s = pre := by rw [he]; simp
    rw [stepSm, ltF (by rw [hsp]; omega), hsp]
  | cons c rest ih =>
    intro pre m he hm
    obtain ⟨m, rfl⟩ : ∃ m', m = m' + 1 := ⟨m - 1, by simp at hm; omega⟩
    have hl : s.length = pre.length + (rest.length + 1) := by rw [he]; simp
    have hg : getI s (pre.length : Int) = some c := by rw [he]; exact getI_at pre rest c
    have hin := ih (pre ++ [c]) m (by rw [he]; simp) (by simp at hm; omega)
    rw [List.map_append, List.length_append] at hin
    have := u8I_nn c; have := u8I_lt c
    have add : ∀ v, v = lowN (u8I c) → addK (pre.map smallB) v (fun o => jSm s r m o ((pre.length : Int) + 1)) = some (.str (s.map smallB)) := fun v hv => by
      unfold addK
      rw [bleT (by simp; omega), hv]
      exact hin
    rw [stepSm]
    unfold atK
    rw [ltT (by omega), hg, i64_in (n := (pre.length : Int) + 1) (by omega) (by omega)]
    show pickR (u8I c) 65 90 _ _ = _
    rw [pickR_eq]
    split
    · rename_i hr; exact add _ (by rw [u8_in (by omega) (by omega)]; unfold lowN; rw [if_pos hr])
    · rename_i hr; exact add _ (by unfold lowN; rw [if_neg hr])
noncomputable def gSmall (args : List AV) : Option (Bool × List PRes) :=
  match args with
  | [.str s] => some (Nat.ble s.length 999999, [.val (.str (s.map smallB))])
  | _ => none
theorem con41 : ConOk X0 (cfOf X0 noKnown) 41 gSmall :=
  con_vals (nk 41) c0_ok fun args rs hg => by
    unfold gSmall at hg
    split at hg
    · rename_i s
      simp only [Option.some.injEq, Prod.mk.injEq, Nat.ble_eq] at hg
      obtain ⟨h1, rfl⟩ := hg
      exact ⟨[.str (s.map smallB)], anSm, s.length + 1, (enterSm s _).trans (loopSm s (by omega) _ s [] (s.length + 1) rfl (by omega)), rfl, rfl⟩
    · cases hg

/-- Is a letter turned? -/
def tb (t : Int) (i : Nat) : Bool := !decide (Int.tmod (Int.fdiv t (2 ^ (min (Int.toNat (Int.tmod (i : Int) 60)) 64))) 2 = 0)
def turnB (t : Int) (i : Nat) (c : UInt8) : UInt8 := if tb t i = true ∧ 97 ≤ u8I c ∧ u8I c ≤ 122 then iU8 (u8I c - 32) else c
def turnL (t : Int) : List UInt8 → Nat → List UInt8
  | [], _ => []
  | c :: r, i => turnB t i c :: turnL t r (i + 1)
theorem turnL_append (t : Int) : ∀ (a b : List UInt8) (i : Nat), turnL t (a ++ b) i = turnL t a i ++ turnL t b (i + a.length)
  | [], b, i => rfl
  | c :: a, b, i => by
    show turnB t i c :: turnL t (a ++ b) (i + 1) = turnB t i c :: (turnL t a (i + 1) ++ turnL t b (i + (a.length + 1)))
    rw [turnL_append t a b (i + 1)]
    congr 3; omega
theorem turnL_length (t : Int) : ∀ (a : List UInt8) (i : Nat), (turnL t a i).length = a.length
  | [], _ => rfl
  | c :: a, i => by show (turnL t a (i + 1)).length + 1 = a.length + 1; rw [turnL_length t a]
theorem loopTu (s : List UInt8) (hs : s.length < 1000000) (t : Int) (r : Nat) : ∀ (rest pre : List UInt8) (m : Nat), s = pre ++ rest → rest.length < m → jTu s t r m (turnL t pre 0) pre.length = some (.str (turnL t s 0)) := by
  intro rest
  induction rest with
  | nil =>
    intro pre m he hm
    obtain ⟨m, rfl⟩ : ∃ m', m = m' + 1 := ⟨m - 1, by simp at hm; omega⟩
    have hsp : s = pre := by rw [he]; simp
    rw [stepTu, ltF (by rw [hsp]; omega), hsp]
  | cons c rest ih =>
    intro pre m he hm
    obtain ⟨m, rfl⟩ : ∃ m', m = m' + 1 := ⟨m - 1, by simp at hm; omega⟩
    have hl : s.length = pre.length + (rest.length + 1) := by rw [he]; simp
    have hg : getI s (pre.length : Int) = some c := by rw [he]; exact getI_at pre rest c
    have hin := ih (pre ++ [c]) m (by rw [he]; simp) (by simp at hm; omega)
    rw [turnL_append, List.length_append, Nat.zero_add] at hin
    have hin : jTu s t r m (turnL t pre 0 ++ [turnB t pre.length c]) ((pre.length : Int) + 1) = some (.str (turnL t s 0)) := hin
    have := u8I_nn c; have := u8I_lt c
    have htl := turnL_length t pre 0
    have add : ∀ v, iU8 v = turnB t pre.length c → addK (turnL t pre 0) v (fun o => jTu s t r m o ((pre.length : Int) + 1)) = some (.str (turnL t s 0)) := fun v hv => by
      unfold addK
      rw [bleT (by omega), hv]
      exact hin
    have hmod : Int.tmod (pre.length : Int) 60 = ((pre.length % 60 : Nat) : Int) := rfl
    rw [stepTu]
    unfold atK
    rw [ltT (by omega), hg, i64_in (n := (pre.length : Int) + 1) (by omega) (by omega), ltF (a := Int.tmod (pre.length : Int) 60) (by rw [hmod]; omega)]
    show pick2 (!eqI _ 0) _ _ = _
    rw [pick_neq]
    split
    · rename_i h0
      refine add _ ?_
      have : tb t pre.length = false := by unfold tb; rw [decide_eq_true h0]; rfl
      unfold turnB; rw [if_neg (by rw [this]; simp), iU8_u8I]
    · rename_i h0
      have : tb t pre.length = true := by unfold tb; rw [decide_eq_false h0]; rfl
      rw [pickR_eq]
      split
      · rename_i hr
        refine add _ ?_
        unfold turnB; rw [if_pos ⟨this, hr⟩, u8_in (by omega) (by omega)]
      · rename_i hr
        refine add _ ?_
        unfold turnB; rw [if_neg (fun h => hr h.2), iU8_u8I]
noncomputable def gTurned (args : List AV) : Option (Bool × List PRes) :=
  match args with
  | [.str s, .int .i64 t] => some (Nat.ble s.length 999999, [.val (.str (turnL t s 0))])
  | _ => none
theorem con39 : ConOk X0 (cfOf X0 noKnown) 39 gTurned :=
  con_vals (nk 39) c0_ok fun args rs hg => by
    unfold gTurned at hg
    split at hg
    · rename_i s t
      simp only [Option.some.injEq, Prod.mk.injEq, Nat.ble_eq] at hg
      obtain ⟨h1, rfl⟩ := hg
      exact ⟨[.str (turnL t s 0)], anTu, s.length + 1, (enterTu s t _).trans (loopTu s (by omega) t _ s [] (s.length + 1) rfl (by omega)), rfl, rfl⟩
    · cases hg

noncomputable def L8 : List Con := [(7, [], gYes), (32, [none], gName), (39, [none, none], gTurned), (30, [none], gParse), (40, [none], gValid), (41, [none], gSmall)]
theorem L8_ok : TabOk X0 (cfOf X0 noKnown) L8 := .cons con7 (.cons con32 (.cons con39 (.cons con30 (.cons con40 (.cons con41 .nil)))))
noncomputable def c8 (β : Type) : CallT β := callT X0 (tab L8) inl 200 β 20
theorem c8_ok (β : Type) : CallTOk X0 (cfOf X0 noKnown) (c8 β) := callT_ok L8_ok (fun _ _ _ => rfl) 200 20 β
end Go.Proofs.YtpajehginfbamaaDoor.rg
