/- Literals, by the document: the small functions. -/
import Derived.Test.YtcafcgiemdlobaaDoorLt5
namespace Go.Proofs.YtcafcgiemdlobaaDoor.lt
open Go.Tv Go.Ev

/-- The document's digit of a byte. -/
def digR (n : Int) : Int := if 48 ≤ n ∧ n ≤ 57 then n - 48 else if 97 ≤ n ∧ n ≤ 122 then n - 87 else if 65 ≤ n ∧ n ≤ 90 then n - 55 else 99
theorem run47 (gv : Nat → List AV) (n : Int) : enterT (Xg gv) (c0 gv AV) an0 5 47 [.int .u8 n] TMem.empty (fun v _ => some v) = some (.int .i64 (digR n)) := by
  have h : enterT (Xg gv) (c0 gv AV) an0 5 47 [.int .u8 n] TMem.empty (fun v _ => some v) =
    pickR n 48 57 (some (.int .i64 (IntKind.wrap .i64 (IntKind.wrap .u8 (n - 48))))) (pickR n 97 122 (some (.int .i64 (IntKind.wrap .i64 (IntKind.wrap .i64 (IntKind.wrap .u8 (n - 97)) + 10)))) (pickR n 65 90 (some (.int .i64 (IntKind.wrap .i64 (IntKind.wrap .i64 (IntKind.wrap .u8 (n - 65)) + 10)))) (some (.int .i64 99)))) := by kernel_rfl
  rw [h]
  simp only [pickR_eq]
  unfold digR
  split
  · rw [u8_in (by omega) (by omega), i64_in (by omega) (by omega)]
  · split
    · rw [u8_in (by omega) (by omega), i64_in (n := n - 97) (by omega) (by omega), i64_in (by omega) (by omega)]
      congr 2; omega
    · split
      · rw [u8_in (by omega) (by omega), i64_in (n := n - 65) (by omega) (by omega), i64_in (by omega) (by omega)]
        congr 2; omega
      · rfl
noncomputable def gDigR (args : List AV) : Option (Bool × List PRes) :=
  match args with
  | [.int .u8 n] => some (true, [.val (.int .i64 (digR n))])
  | _ => none
theorem con47 (gv : Nat → List AV) : ConOk (Xg gv) (cfOf (Xg gv) noKnown) 47 gDigR :=
  con_vals (nk 47) (c0_ok gv) fun args rs hg => by
    unfold gDigR at hg
    split at hg
    · rename_i n
      simp only [Option.some.injEq, Prod.mk.injEq] at hg
      obtain ⟨h1, rfl⟩ := hg
      exact ⟨[.int .i64 (digR n)], an0, 5, run47 gv n, rfl, rfl⟩
    · cases hg
theorem run48 (gv : Nat → List AV) (n : Int) : enterT (Xg gv) (c0 gv AV) an0 5 48 [.int .u8 n] TMem.empty (fun v _ => some v) = some (.bool (wordI n)) := by
  have h : enterT (Xg gv) (c0 gv AV) an0 5 48 [.int .u8 n] TMem.empty (fun v _ => some v) =
    pick2 (eqI n 95) (some (.bool true)) (pickR n 48 57 (some (.bool (ltI (IntKind.wrap .i64 (IntKind.wrap .u8 (n - 48))) 99))) (pickR n 97 122 (some (.bool (ltI (IntKind.wrap .i64 (IntKind.wrap .i64 (IntKind.wrap .u8 (n - 97)) + 10)) 99))) (pickR n 65 90 (some (.bool (ltI (IntKind.wrap .i64 (IntKind.wrap .i64 (IntKind.wrap .u8 (n - 65)) + 10)) 99))) (some (.bool false))))) := by kernel_rfl
  rw [h]
  simp only [pickR_eq, pick_eq]
  unfold wordI
  split
  · rw [decide_eq_true (by omega)]
  · split
    · rw [u8_in (by omega) (by omega), i64_in (by omega) (by omega), ltT (by omega), decide_eq_true (by omega)]
    · split
      · rw [u8_in (by omega) (by omega), i64_in (n := n - 97) (by omega) (by omega), i64_in (by omega) (by omega), ltT (by omega), decide_eq_true (by omega)]
      · split
        · rw [u8_in (by omega) (by omega), i64_in (n := n - 65) (by omega) (by omega), i64_in (by omega) (by omega), ltT (by omega), decide_eq_true (by omega)]
        · rw [decide_eq_false (by omega)]
theorem con48 (gv : Nat → List AV) : ConOk (Xg gv) (cfOf (Xg gv) noKnown) 48 gWord :=
  con_vals (nk 48) (c0_ok gv) fun args rs hg => by
    unfold gWord at hg
    split at hg
    · rename_i n
      simp only [Option.some.injEq, Prod.mk.injEq] at hg
      obtain ⟨h1, rfl⟩ := hg
      exact ⟨[.bool (wordI n)], an0, 5, run48 gv n, rfl, rfl⟩
    · cases hg

/-! begins, base -/
def begB (w : List UInt8) (c : Int) : Bool := decide (2 < w.length ∧ u8I (w.getD 0 0) = 48 ∧ (u8I (w.getD 1 0) = c ∨ u8I (w.getD 1 0) = c - 32))
theorem run75 (gv : Nat → List AV) (w : List UInt8) {c : Int} (h0 : 32 ≤ c) (h1 : c < 256) : enterT (Xg gv) (c0 gv AV) an0 5 75 [.str w, .int .u8 c] TMem.empty (fun v _ => some v) = some (.bool (begB w c)) := by
  have h : enterT (Xg gv) (c0 gv AV) an0 5 75 [.str w, .int .u8 c] TMem.empty (fun v _ => some v) =
    pick2 (ltI 2 ↑w.length) (Option.rec (motive := fun _ => Option AV) none (fun a => pick2 (eqI (u8I a) 48)
        (Option.rec (motive := fun _ => Option AV) none (fun b => pick2 (eqI (u8I b) c) (some (.bool true)) (Option.rec (motive := fun _ => Option AV) none (fun b => some (.bool (eqI (u8I b) (IntKind.wrap .u8 (c - 32))))) (getI w 1))) (getI w 1))
        (some (.bool false))) (getI w 0)) (some (.bool false)) := by kernel_rfl
  rw [h, pick_lt, u8_in (by omega) (by omega)]
  unfold begB
  by_cases hl : 2 < w.length
  · rw [if_pos (by omega)]
    obtain ⟨a, b, r, rfl⟩ : ∃ a b r, w = a :: b :: r := by
      cases w with
      | nil => simp at hl
      | cons a w => cases w with
        | nil => simp at hl
        | cons b r => exact ⟨a, b, r, rfl⟩
    · rw [show getI (a :: b :: r) 0 = some a from rfl, show getI (a :: b :: r) 1 = some b from rfl]
      show pick2 (eqI (u8I a) 48) (pick2 (eqI (u8I b) c) _ (some (AV.bool (eqI (u8I b) (c - 32))))) _ = some (AV.bool (decide (2 < (a :: b :: r).length ∧ u8I a = 48 ∧ (u8I b = c ∨ u8I b = c - 32))))
      simp only [pick_eq]
      split
      · split
        · rw [decide_eq_true (by omega)]
        · refine congrArg (fun x => some (AV.bool x)) ?_
          rw [eqI_spec, Bool.eq_iff_iff, beq_iff_eq, decide_eq_true_eq]; omega
      · rw [decide_eq_false (by omega)]
  · rw [if_neg (by omega), decide_eq_false (by omega)]
noncomputable def gBegins (args : List AV) : Option (Bool × List PRes) :=
  match args with
  | [.str w, .int .u8 c] => some (!ltI c 32 && ltI c 256, [.val (.bool (begB w c))])
  | _ => none
theorem con75 (gv : Nat → List AV) : ConOk (Xg gv) (cfOf (Xg gv) noKnown) 75 gBegins :=
  con_vals (nk 75) (c0_ok gv) fun args rs hg => by
    unfold gBegins at hg
    split at hg
    · rename_i w c
      simp only [Option.some.injEq, Prod.mk.injEq, Bool.and_eq_true, ltI_spec, Bool.not_eq_true', decide_eq_false_iff_not, decide_eq_true_eq] at hg
      obtain ⟨h1, rfl⟩ := hg
      exact ⟨[.bool (begB w c)], an0, 5, run75 gv w (by omega) (by omega), rfl, rfl⟩
    · cases hg

theorem low_all : ((List.range 256).all fun n => (decide (lowB (UInt8.ofNat n) = 120) == (n == 120 || n == 88)) && (decide (lowB (UInt8.ofNat n) = 104) == (n == 104 || n == 72)) && (decide (lowB (UInt8.ofNat n) = 98) == (n == 98 || n == 66)) && (decide (lowB (UInt8.ofNat n) = 111) == (n == 111 || n == 79))) = true := by decide +kernel
theorem low_is (c : UInt8) : (lowB c = 120 ↔ u8I c = 120 ∨ u8I c = 88) ∧ (lowB c = 104 ↔ u8I c = 104 ∨ u8I c = 72) ∧ (lowB c = 98 ↔ u8I c = 98 ∨ u8I c = 66) ∧ (lowB c = 111 ↔ u8I c = 111 ∨ u8I c = 79) := by
  have h := List.all_eq_true.1 low_all c.toNat (List.mem_range.2 c.toNat_lt)
  simp only [UInt8.ofNat_toNat, Bool.and_eq_true, beq_iff_eq] at h
  obtain ⟨⟨⟨h1, h2⟩, h3⟩, h4⟩ := h
  have e : ∀ k : Nat, (c.toNat == k) = decide (u8I c = k) := fun k => by
    rw [Bool.eq_iff_iff, beq_iff_eq, decide_eq_true_eq]; unfold u8I; simp; omega
  rw [e, e, ← Bool.decide_or, decide_eq_decide] at h1 h2 h3 h4
  exact ⟨h1, h2, h3, h4⟩

noncomputable def L3 : List Con := [(47, [none], gDigR), (48, [none], gWord), (75, [none, none], gBegins)]
theorem L3_ok (gv : Nat → List AV) : TabOk (Xg gv) (cfOf (Xg gv) noKnown) L3 := .cons (con47 gv) (.cons (con48 gv) (.cons (con75 gv) .nil))
noncomputable def c3 (gv : Nat → List AV) (β : Type) : CallT β := callT (Xg gv) (tab L3) inl 200 β 20
theorem c3_ok (gv : Nat → List AV) (β : Type) : CallTOk (Xg gv) (cfOf (Xg gv) noKnown) (c3 gv β) := callT_ok (L3_ok gv) (fun _ _ _ => rfl) 200 20 β

theorem treeB (gv : Nat → List AV) (w : List UInt8) : enterT (Xg gv) (c3 gv AV) an0 5 67 [.str w] TMem.empty (fun v _ => some v) =
    lastP w fun c => pick2 (begB w 120) (outP 16 2 ↑w.length) (pick2 (eqI (u8I c) 104) (outP 16 0 (IntKind.wrap .i64 (↑w.length - 1))) (pick2 (eqI (u8I c) 72) (outP 16 0 (IntKind.wrap .i64 (↑w.length - 1)))
      (pick2 (begB w 98) (outP 2 2 ↑w.length) (pick2 (begB w 111) (outP 8 2 ↑w.length) (outP 10 0 ↑w.length))))) := by kernel_rfl
theorem runB (gv : Nat → List AV) {w : List UInt8} (h : w ≠ []) (hl : w.length < 1000000) : enterT (Xg gv) (c3 gv AV) an0 5 67 [.str w] TMem.empty (fun v _ => some v) =
    outP (partsS w).2.2 (partsS w).1 ((w.length - (partsS w).2.1 : Nat) : Int) := by
  have hp : 0 < w.length := List.length_pos_iff.2 h
  have e1 : IntKind.wrap .i64 (↑w.length - 1) = ((w.length - 1 : Nat) : Int) := by rw [i64_in (by omega) (by omega)]; omega
  rw [treeB, last_at h hl, e1]
  simp only [pick_eq]
  simp only [pick2_eq]
  have hlow := low_is (w.getD (w.length - 1) 0)
  unfold partsS
  by_cases hc : 2 < w.length ∧ w.head? = some 48
  · have h48 : u8I (w.getD 0 0) = 48 := by
      match w, hc with
      | a :: r, ⟨_, ha⟩ => simp at ha; rw [ha]; rfl
    have hlow1 := low_is (w.getD 1 0)
    have hb : ∀ c : Int, begB w c = decide (u8I (w.getD 1 0) = c ∨ u8I (w.getD 1 0) = c - 32) := fun c => by
      unfold begB; rw [decide_eq_decide]; exact ⟨fun h => h.2.2, fun h => ⟨hc.1, h48, h⟩⟩
    simp only [if_pos hc, hb, decide_eq_true_eq]
    by_cases h120 : lowB (w.getD 1 0) = 120
    · rw [if_pos (by have := hlow1.1.1 h120; omega)]; simp only [if_pos h120]; rfl
    · rw [if_neg (by have := fun hh => h120 (hlow1.1.2 hh); omega)]; simp only [if_neg h120]
      by_cases h104 : lowB (w.getD (w.length - 1) 0) = 104
      · simp only [if_pos h104]
        rcases hlow.2.1.1 h104 with hx | hx
        · rw [if_pos hx]; rfl
        · rw [if_neg (by omega), if_pos hx]; rfl
      · have hx := fun hh => h104 (hlow.2.1.2 hh)
        simp only [if_neg h104]
        rw [if_neg (by omega), if_neg (by omega)]
        by_cases h98 : lowB (w.getD 1 0) = 98
        · rw [if_pos (by have := hlow1.2.2.1.1 h98; omega)]; simp only [if_pos h98]; rfl
        · rw [if_neg (by have := fun hh => h98 (hlow1.2.2.1.2 hh); omega)]; simp only [if_neg h98]
          by_cases h111 : lowB (w.getD 1 0) = 111
          · rw [if_pos (by have := hlow1.2.2.2.1 h111; omega)]; simp only [if_pos h111]; rfl
          · rw [if_neg (by have := fun hh => h111 (hlow1.2.2.2.2 hh); omega)]; simp only [if_neg h111]; rfl
  · have hb : ∀ c : Int, begB w c = false := fun c => by
      unfold begB
      refine decide_eq_false fun ⟨ha, hbb, _⟩ => hc ⟨ha, ?_⟩
      match w, ha, hbb with
      | a :: r, _, hbb => have : u8I a = 48 := hbb; simp; exact u8I_inj (a := a) (b := 48) this
    simp only [if_neg hc, hb, Bool.false_eq_true, if_false]
    by_cases h104 : lowB (w.getD (w.length - 1) 0) = 104
    · simp only [if_pos h104]
      rcases hlow.2.1.1 h104 with hx | hx
      · rw [if_pos hx]; rfl
      · rw [if_neg (by omega), if_pos hx]; rfl
    · have hx := fun hh => h104 (hlow.2.1.2 hh)
      simp only [if_neg h104]
      rw [if_neg (by omega), if_neg (by omega)]; rfl
noncomputable def gBase (args : List AV) : Option (Bool × List PRes) :=
  match args with
  | [.str w] => some (!w.isEmpty && Nat.ble w.length 999999, [.val (.int .i64 (partsS w).2.2), .val (.int .i64 (partsS w).1), .val (.int .i64 ((w.length - (partsS w).2.1 : Nat) : Int))])
  | _ => none
theorem con67 (gv : Nat → List AV) : ConOk (Xg gv) (cfOf (Xg gv) noKnown) 67 gBase :=
  con_vals (nk 67) (c3_ok gv) fun args rs hg => by
    unfold gBase at hg
    split at hg
    · rename_i w
      simp only [Option.some.injEq, Prod.mk.injEq, Bool.and_eq_true, Bool.not_eq_true', List.isEmpty_eq_false_iff, Nat.ble_eq] at hg
      obtain ⟨⟨h1, h2⟩, rfl⟩ := hg
      exact ⟨[.int .i64 (partsS w).2.2, .int .i64 (partsS w).1, .int .i64 ((w.length - (partsS w).2.1 : Nat) : Int)], an0, 5, runB gv h1 (by omega), rfl, rfl⟩
    · cases hg

noncomputable def L4 : List Con := (67, [none], gBase) :: L3
theorem L4_ok (gv : Nat → List AV) : TabOk (Xg gv) (cfOf (Xg gv) noKnown) L4 := .cons (con67 gv) (L3_ok gv)
noncomputable def c4 (gv : Nat → List AV) (β : Type) : CallT β := callT (Xg gv) (tab L4) inl 200 β 20
theorem c4_ok (gv : Nat → List AV) (β : Type) : CallTOk (Xg gv) (cfOf (Xg gv) noKnown) (c4 gv β) := callT_ok (L4_ok gv) (fun _ _ _ => rfl) 200 20 β
def pN : List Bool := [true, true, true, true, false, true, false]
noncomputable def anN : FnAnn := ⟨annOf [0, 3, 4, 5, 6, 7, 8, 9] pN, .none, []⟩
noncomputable def stN (w : List UInt8) (b lo hi n : Int) (over : Bool) (i : Int) : TFr := frOf 82 [(0, .str w), (3, .ptr 0 0), (4, .int .i64 b), (5, .int .i64 lo), (6, .int .i64 hi), (7, .int .u64 n), (8, .bool over), (9, .int .i64 i)]
def pR : List Bool := [true, true, false, true, false]
noncomputable def anR : FnAnn := ⟨annOf [0, 1, 6, 7, 8] pR, .none, []⟩
noncomputable def stR (s : List UInt8) (a n i : Int) : TFr := frOf 72 [(0, .str s), (1, .int .i64 a), (6, .ptr 0 0), (7, .int .i64 n), (8, .int .i64 i)]
end Go.Proofs.YtcafcgiemdlobaaDoor.lt
