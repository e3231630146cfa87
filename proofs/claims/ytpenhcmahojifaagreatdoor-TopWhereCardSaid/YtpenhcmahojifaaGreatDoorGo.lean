/- The law wherever a place may be. -/
import Derived.Test.YtpenhcmahojifaaGreatDoorGn
import Derived.Test.YtpenhcmahojifaaGreatDoorGm
import Derived.Test.YtpenhcmahojifaaGreatDoorQl
import Derived.Test.YtpenhcmahojifaaGreatDoorZd3
import Derived.Test.YtpenhcmahojifaaGreatDoorZd4
import Derived.Test.YtpenhcmahojifaaGreatDoorZd5
import Derived.Test.YtpenhcmahojifaaGreatDoorZd7
import Derived.Test.YtpenhcmahojifaaGreatDoorZd8
import Derived.Test.YtpenhcmahojifaaGreatDoorTb1
import Derived.Test.YtpenhcmahojifaaGreatDoorTb2
import Derived.Test.YtpenhcmahojifaaGreatDoorTb3
import Derived.Test.YtpenhcmahojifaaGreatDoorTb4
import Derived.Test.YtpenhcmahojifaaGreatDoorTb5
import Derived.Test.YtpenhcmahojifaaGreatDoorTb6
import Derived.Test.YtpenhcmahojifaaGreatDoorTb7
import Derived.Test.YtpenhcmahojifaaGreatDoorTb8
import Derived.Test.YtpenhcmahojifaaGreatDoorTb9
import Derived.Test.YtpenhcmahojifaaGreatDoorTb10
import Derived.Test.YtpenhcmahojifaaGreatDoorTb11
import Derived.Test.YtpenhcmahojifaaGreatDoorTb12
set_option linter.unusedVariables false
set_option linter.unusedSimpArgs false
set_option linter.unusedSectionVars false
namespace Go.Ev.Tw
open Go.Proofs Go.RowKit
set_option maxRecDepth 1000000
noncomputable section
def shapesL : List Sh := [sh0, sh1, sh2, sh3, sh4, sh5, sh6, sh7, sh8, sh9, sh10, sh11, sh12, sh13, sh14, sh15, sh16, sh17, sh18, sh19, sh20, sh21, sh22, sh23, sh24, sh25, sh26, sh27, sh28, sh29, sh30, sh31, sh32, sh33, sh34, sh35, sh36, sh37, sh38, sh39, sh40, sh41, sh42, sh43, sh44, sh45]
def memN (n : Nat) (l : List Nat) : Bool := List.rec (motive := fun _ => Bool) false (fun a _ ih => pick2 (Nat.beq a n) true ih) l
def covS (l : List Sh) (bc b ic i c : Nat) : Bool := List.rec (motive := fun _ => Bool) false (fun s _ ih => pick2 (Nat.beq s.bc bc && (Nat.beq s.ic ic && (memN b s.B && (memN i s.I && memN c s.S)))) true ih) l
def allN (n : Nat) (f : Nat → Bool) : Bool := Nat.rec (motive := fun _ => Bool) true (fun k ih => pick2 (f k) ih false) n
def scs (f : Nat → Bool) : Bool := pick2 (f 1) (pick2 (f 2) (pick2 (f 4) (f 8) false) false) false
def okIx (i c : Nat) : Bool := pick2 (Nat.beq i 4) (Nat.beq c 1) true
def cover : Bool := pick2 (covS shapesL 0 0 0 0 0) (pick2 (covS shapesL 8 0 0 0 0) (pick2 (allN 16 fun b => covS shapesL 5 b 0 0 0) (pick2 (allN 16 fun i => scs fun c => pick2 (okIx i c) (covS shapesL 0 0 5 i c) true)
  (allN 16 fun b => allN 16 fun i => scs fun c => pick2 (okIx i c && !(Nat.beq i 4 && Nat.beq b 4)) (covS shapesL 5 b 5 i c) true) false) false) false) false
theorem cover_ok : cover = true := by kernel_rfl
def noxL (l : List Sh) : Bool := List.rec (motive := fun _ => Bool) true (fun s _ ih => pick2 (pick2 (Nat.beq s.canon.ic 0) (isOne s.canon.I 0 && isOne s.canon.S 0) true) ih false) l
theorem nox_ok : noxL shapesL = true := by kernel_rfl
end
theorem memN_mem {n : Nat} : ∀ {l : List Nat}, memN n l = true → n ∈ l
  | [], h => by cases h
  | a :: l, h => by
    have h : pick2 (Nat.beq a n) true (memN n l) = true := h
    rw [pk] at h
    split at h
    · rename_i e; rw [Nat.eq_of_beq_eq_true e]; exact List.mem_cons_self ..
    · exact List.mem_cons_of_mem _ (memN_mem h)
theorem covS_mem {bc b ic i c : Nat} : ∀ {l : List Sh}, covS l bc b ic i c = true → ∃ s ∈ l, s.bc = bc ∧ s.ic = ic ∧ (b, i, c) ∈ s.trip
  | [], h => by cases h
  | s :: l, h => by
    have h : pick2 (Nat.beq s.bc bc && (Nat.beq s.ic ic && (memN b s.B && (memN i s.I && memN c s.S)))) true (covS l bc b ic i c) = true := h
    rw [pk] at h
    split at h
    · rename_i e
      simp only [Bool.and_eq_true] at e
      exact ⟨s, List.mem_cons_self .., Nat.eq_of_beq_eq_true e.1, Nat.eq_of_beq_eq_true e.2.1, trip_mem.2 ⟨memN_mem e.2.2.1, memN_mem e.2.2.2.1, memN_mem e.2.2.2.2⟩⟩
    · obtain ⟨s', h1, h2⟩ := covS_mem h
      exact ⟨s', List.mem_cons_of_mem _ h1, h2⟩
theorem allN_get {f : Nat → Bool} : ∀ {n : Nat}, allN n f = true → ∀ {k : Nat}, k < n → f k = true
  | 0, _, k, hk => absurd hk (Nat.not_lt_zero _)
  | n + 1, h, k, hk => by
    have h : pick2 (f n) (allN n f) false = true := h
    obtain ⟨h1, h2⟩ := p2' h
    by_cases e : k = n
    · rw [e]; exact h1
    · exact allN_get h2 (by omega)
theorem scs_get {f : Nat → Bool} (h : scs f = true) {c : Nat} (hc : c = 1 ∨ c = 2 ∨ c = 4 ∨ c = 8) : f c = true := by
  unfold scs at h
  obtain ⟨h1, h⟩ := p2' h
  obtain ⟨h2, h⟩ := p2' h
  obtain ⟨h4, h8⟩ := p2' h
  rcases hc with rfl | rfl | rfl | rfl <;> assumption
theorem nox_mem : ∀ {l : List Sh}, noxL l = true → ∀ {s : Sh}, s ∈ l → s.canon.ic = 0 → ∃ bc B, s.canon = ⟨bc, B, 0, [0], [0]⟩
  | [], _, s, hs => by cases hs
  | a :: l, h, s, hs => by
    have h : pick2 (pick2 (Nat.beq a.canon.ic 0) (isOne a.canon.I 0 && isOne a.canon.S 0) true) (noxL l) false = true := h
    obtain ⟨h1, h2⟩ := p2' h
    rcases List.mem_cons.1 hs with rfl | hs
    · intro hic
      rw [hic] at h1
      have h1 : (isOne s.canon.I 0 && isOne s.canon.S 0) = true := h1
      rw [Bool.and_eq_true] at h1
      have e1 := isOne_eq h1.1
      have e2 := isOne_eq h1.2
      refine ⟨s.canon.bc, s.canon.B, ?_⟩
      revert hic e1 e2
      generalize s.canon = t
      intro hic e1 e2
      cases t
      simp only at hic e1 e2
      subst hic e1 e2
      rfl
    · exact nox_mem h2 hs
theorem shapes_ok : ∀ s ∈ shapesL, ShOK s := by
  intro s hs
  simp only [shapesL, List.mem_cons, List.not_mem_nil, or_false] at hs
  rcases hs with rfl | rfl | rfl | rfl | rfl | rfl | rfl | rfl | rfl | rfl | rfl | rfl | rfl | rfl | rfl | rfl | rfl | rfl | rfl | rfl | rfl | rfl | rfl | rfl | rfl | rfl | rfl | rfl | rfl | rfl | rfl | rfl | rfl | rfl | rfl | rfl | rfl | rfl | rfl | rfl | rfl | rfl | rfl | rfl | rfl | rfl
  · exact shK0
  · exact shK1
  · exact shK2
  · exact shK3
  · exact shK4
  · exact shK5
  · exact shK6
  · exact shK7
  · exact shK8
  · exact shK9
  · exact shK10
  · exact shK11
  · exact shK12
  · exact shK13
  · exact shK14
  · exact shK15
  · exact shK16
  · exact shK17
  · exact shK18
  · exact shK19
  · exact shK20
  · exact shK21
  · exact shK22
  · exact shK23
  · exact shK24
  · exact shK25
  · exact shK26
  · exact shK27
  · exact shK28
  · exact shK29
  · exact shK30
  · exact shK31
  · exact shK32
  · exact shK33
  · exact shK34
  · exact shK35
  · exact shK36
  · exact shK37
  · exact shK38
  · exact shK39
  · exact shK40
  · exact shK41
  · exact shK42
  · exact shK43
  · exact shK44
  · exact shK45
theorem covered {d bc bn ic ix sc : Int} (h : okMem d bc bn ic ix sc) : ∃ s ∈ shapesL, ∃ j b i c : Nat, (s.bc : Int) = bc ∧ (b : Int) = bn ∧ (s.ic : Int) = ic ∧ (i : Int) = ix ∧ (c : Int) = sc ∧ s.trip[j]? = some (b, i, c) := by
  have hcov := cover_ok
  unfold cover at hcov
  obtain ⟨v1, hcov⟩ := p2' hcov
  obtain ⟨v2, hcov⟩ := p2' hcov
  obtain ⟨v3, hcov⟩ := p2' hcov
  obtain ⟨v4, v5⟩ := p2' hcov
  have fin : ∀ {bc' b' ic' i' c' : Nat}, covS shapesL bc' b' ic' i' c' = true → (bc' : Int) = bc → (b' : Int) = bn → (ic' : Int) = ic → (i' : Int) = ix → (c' : Int) = sc →
      ∃ s ∈ shapesL, ∃ j b i c : Nat, (s.bc : Int) = bc ∧ (b : Int) = bn ∧ (s.ic : Int) = ic ∧ (i : Int) = ix ∧ (c : Int) = sc ∧ s.trip[j]? = some (b, i, c) := by
    intro bc' b' ic' i' c' hc e1 e2 e3 e4 e5
    obtain ⟨s, h1, h2, h3, h4⟩ := covS_mem hc
    obtain ⟨j, hj⟩ := List.getElem?_of_mem h4
    exact ⟨s, h1, j, b', i', c', by rw [h2]; exact e1, e2, by rw [h3]; exact e3, e4, e5, hj⟩
  obtain ⟨_, hb, hi⟩ := h
  rcases hi with ⟨rfl, rfl, rfl⟩ | ⟨rfl, i1, i2, hs, h8, h4⟩
  · rcases hb with ⟨rfl, rfl⟩ | ⟨rfl, rfl⟩ | ⟨rfl, b1, b2⟩
    · exact fin v1 rfl rfl rfl rfl rfl
    · exact fin v2 rfl rfl rfl rfl rfl
    · obtain ⟨n, rfl⟩ := Int.eq_ofNat_of_zero_le b1
      exact fin (allN_get v3 (k := n) (by omega)) rfl rfl rfl rfl rfl
  · obtain ⟨m, rfl⟩ := Int.eq_ofNat_of_zero_le i1
    obtain ⟨c, hc, rfl⟩ : ∃ c : Nat, (c = 1 ∨ c = 2 ∨ c = 4 ∨ c = 8) ∧ (c : Int) = sc := by
      rcases hs with rfl | rfl | rfl | rfl
      · exact ⟨1, by simp, rfl⟩
      · exact ⟨2, by simp, rfl⟩
      · exact ⟨4, by simp, rfl⟩
      · exact ⟨8, by simp, rfl⟩
    have hix : okIx m c = true := by
      unfold okIx
      rw [pk]
      split
      · rename_i e
        have e := Nat.eq_of_beq_eq_true e
        subst e
        by_cases hc1 : c = 1
        · rw [hc1]; rfl
        · exact absurd ⟨rfl, .inl (by omega)⟩ h4
      · rfl
    rcases hb with ⟨rfl, rfl⟩ | ⟨rfl, rfl⟩ | ⟨rfl, b1, b2⟩
    · have := scs_get (allN_get v4 (k := m) (by omega)) hc
      rw [hix] at this
      exact fin this rfl rfl rfl rfl rfl
    · exact absurd rfl h8
    · obtain ⟨n, rfl⟩ := Int.eq_ofNat_of_zero_le b1
      have := scs_get (allN_get (allN_get v5 (k := n) (by omega)) (k := m) (by omega)) hc
      have hnn : (okIx m c && !(Nat.beq m 4 && Nat.beq n 4)) = true := by
        rw [hix]
        cases h1 : Nat.beq m 4 with
        | false => rfl
        | true =>
          cases h2 : Nat.beq n 4 with
          | false => rfl
          | true =>
            have h1 := Nat.eq_of_beq_eq_true h1
            have h2 := Nat.eq_of_beq_eq_true h2
            subst h1 h2
            exact absurd ⟨rfl, .inr ⟨rfl, rfl⟩⟩ h4
      rw [hnn] at this
      exact fin this rfl rfl rfl rfl rfl
theorem finds_all (q : Nat → TypeId) (E : TokR) : @MemoOk E Tryz.prog (GRq q) finds := finds_ok E q (find3 E q) (find4 E q) (find5 E q) (find7 E q) (find8 E q)
theorem awake_all (q : Nat → TypeId) (E : TokR) : @MemoOk E Tryz.prog (GRq q) (toldM 4 [] (.bool true) []) := by
  letI : TokE := liftE' E
  exact told_memo (toldAwake q) rfl
theorem awake_calls (q : Nat → TypeId) (W : World) (hw : RowsAt (GRq q) W) : Calls Tryz.prog 4 #[] W fun e W' => e = .returned (.bool true) ∧ Below W.heap.size W W' := by
  letI : TokE := tok3 0 0 0
  refine (toldAwake q W hw).mono ?_
  rintro e w' ⟨ρ, v', M, rfl, hv, _, _, hM⟩
  cases hv
  exact ⟨rfl, hM.below⟩
/-- **The law holds of each place, each way, whatever sixteen registers have.** -/
theorem law_16 {q : Nat → TypeId} {GR' : List Blk} (hpre : ∀ w, RowsAt GR' w → RowsAt (GRq q) w) {r off cap : Nat} {R : Nat → Int} (hregs : ∀ w, RowsAt GR' w → RegsAt r off R w) (d bc bn ic ix sc sz wh nx : Int) (hwh : -9223372036854775808 ≤ wh ∧ wh ≤ 9223372036854775807) (w : World) (hr : RowsAt GR' w) :
    Calls Tryz.prog 3 #[.agg #[.int .i64 bc, .int .i64 bn, .int .i64 ic, .int .i64 ix, .int .i64 sc, .int .i64 d, .int .i64 sz], .int .i64 wh, .slice (some ⟨r, off, none⟩) 16 cap, .int .i64 nx] w fun y w' => y = .returned (.bool true) ∧ Below w.heap.size w w' := by
  by_cases h : okMem d bc bn ic ix sc
  · obtain ⟨s, hs, j, b, i, c, e1, e2, e3, e4, e5, hj⟩ := covered h
    have := law_shape (shapes_ok s hs) (nox_mem nox_ok hs) (finds_all q) (awake_all q) hpre hregs h.1 hwh hj w hr (nx := nx) (sz := sz) (cap := cap)
    rw [e1, e2, e3, e4, e5] at this
    exact this
  · exact law_ref wh nx _ cap w (fun W hW => awake_calls q W (hpre W hW)) hr bc bn ic ix sc d sz (check_refuses d bc bn ic ix sc h)
theorem law_not16 (q : Nat → TypeId) (a : Option Addr) (l cap : Nat) (hl : l ≠ 16) (d bc bn ic ix sc sz wh nx : Int) (w : World) (hr : RowsAt (GRq q) w) :
    Calls Tryz.prog 3 #[.agg #[.int .i64 bc, .int .i64 bn, .int .i64 ic, .int .i64 ix, .int .i64 sc, .int .i64 d, .int .i64 sz], .int .i64 wh, .slice a l cap, .int .i64 nx] w fun y w' => y = .returned (.bool true) ∧ Below w.heap.size w w' :=
  law_len wh nx a l cap hl w (awake_calls q) hr bc bn ic ix sc d sz
end Go.Ev.Tw
namespace Go.Ev.Tw
open Go.Proofs Go.RowKit
set_option maxRecDepth 1000000
theorem reach_le : ∀ {l : List Blk} {n : Nat}, (∀ (i : Nat) b, l[i]? = some b → b.live = true → i < n) → reach l ≤ n
  | [], n, _ => Nat.zero_le _
  | c :: l, n, h => by
    have h1 : ∀ (i : Nat) b, l[i]? = some b → b.live = true → i < n - 1 := fun i b hi hl => by
      have := h (i + 1) b (by simpa using hi) hl
      omega
    have ih := reach_le h1
    unfold reach
    split
    · split
      · rename_i hl
        have := h 0 c rfl hl
        omega
      · exact Nat.zero_le _
    · rename_i m e
      rw [e] at ih
      omega
/-- The given variables, and one row more. -/
noncomputable def GRx (q : Nat → TypeId) (r : Nat) (C : Array Value) (t : TypeId) : List Blk := (List.range (max 13 (r + 1))).map fun i => if i = r then ⟨C.toList, t, true, true⟩ else ((GRq q)[i]?).getD dead
theorem GRx_get {q : Nat → TypeId} {r : Nat} {C : Array Value} {t : TypeId} (i : Nat) : (GRx q r C t)[i]? = if i < max 13 (r + 1) then some (if i = r then ⟨C.toList, t, true, true⟩ else ((GRq q)[i]?).getD dead) else none := by
  unfold GRx
  rw [List.getElem?_map]
  by_cases h : i < max 13 (r + 1)
  · rw [if_pos h, List.getElem?_range h]; rfl
  · rw [if_neg h, List.getElem?_eq_none (by simpa using h)]; rfl
theorem law_row {q : Nat → TypeId} {W : World} (hr : RowsAt (GRq q) W) {r off cap : Nat} {C : Array Value} {t : TypeId} {fr : Nat × Nat} (hC : W.heap[r]? = some (.cells C t fr)) {R : Nat → Int} (hR : ∀ i, i < 16 → C[off + i]? = some (.int .i64 (R i)))
    (d bc bn ic ix sc sz wh nx : Int) (hwh : -9223372036854775808 ≤ wh ∧ wh ≤ 9223372036854775807) :
    Calls Tryz.prog 3 #[.agg #[.int .i64 bc, .int .i64 bn, .int .i64 ic, .int .i64 ix, .int .i64 sc, .int .i64 d, .int .i64 sz], .int .i64 wh, .slice (some ⟨r, off, none⟩) 16 cap, .int .i64 nx] W fun y w' => y = .returned (.bool true) ∧ Below W.heap.size W w' := by
  have lt : ∀ {w : World} {i : Nat} {o : Obj}, w.heap[i]? = some o → i < w.heap.size := fun h => (Array.getElem?_eq_some_iff.1 h).1
  have g13 : ∀ {i : Nat} {b : Blk}, (GRq q)[i]? = some b → i < 13 := fun h => (List.getElem?_eq_some_iff.1 h).1
  have fin : ∀ (i : Nat) b, (GRx q r C t)[i]? = some b → b.live = true → ∃ fr, W.heap[i]? = some (.cells b.cells.toArray b.elem fr) := fun i b hi hl => by
    rw [GRx_get] at hi
    split at hi
    · by_cases e : i = r
      · rw [if_pos e] at hi
        cases hi
        subst e
        exact ⟨fr, by simpa using hC⟩
      · rw [if_neg e] at hi
        cases hg : (GRq q)[i]? with
        | none => rw [hg] at hi; cases hi; cases hl
        | some b' =>
          rw [hg] at hi
          cases hi
          exact hr.2 i b' hg hl
    · cases hi
  have hx : RowsAt (GRx q r C t) W := ⟨reach_le fun i b hi hl => by obtain ⟨fr, h⟩ := fin i b hi hl; exact lt h, fin⟩
  have hrow : (GRx q r C t)[r]? = some ⟨C.toList, t, true, true⟩ := by rw [GRx_get, if_pos (by omega), if_pos rfl]
  refine law_16 (q := q) (GR' := GRx q r C t) (fun w hw => ?_) (R := R) (fun w hw => ?_) d bc bn ic ix sc sz wh nx hwh W hx
  · have fin2 : ∀ (i : Nat) b, (GRq q)[i]? = some b → b.live = true → ∃ fr, w.heap[i]? = some (.cells b.cells.toArray b.elem fr) := fun i b hi hl => by
      by_cases e : i = r
      · subst e
        obtain ⟨fr1, h1⟩ := hr.2 i b hi hl
        rw [hC] at h1
        cases h1
        obtain ⟨fr2, h2⟩ := hw.2 i _ hrow rfl
        exact ⟨fr2, by simpa using h2⟩
      · exact hw.2 i b (by rw [GRx_get, if_pos (by have := g13 hi; omega), if_neg e, hi]; rfl) hl
    exact ⟨reach_le fun i b hi hl => by obtain ⟨fr, h⟩ := fin2 i b hi hl; exact lt h, fin2⟩
  · obtain ⟨fr2, h2⟩ := hw.2 r _ hrow rfl
    refine ⟨lt h2, fun i hi => ?_⟩
    have := hR i hi
    unfold World.cell?
    simp only [h2]
    simpa using this
end Go.Ev.Tw
