/- NameConds: the run. -/
import Derived.Test.YtpajehginfbamaaDoorNu2
namespace Go.Proofs.YtpajehginfbamaaDoor.nm
open Go.Tv Go.Ev
noncomputable section
def pC : List Bool := [true, true, true]
def anC : FnAnn := ⟨annOf [0, 1, 5] pC, .none, []⟩
abbrev NS := Int → List UInt8
abbrev PS := List UInt8 → Int × Bool
def stC (ns : NS) (ps : PS) (m h : Int) : Option AV := codeFrom X1 (mO ns ps AV) anC 50 4 pC (fun v _ => some v) (frOf 93 [(0, .int .i64 m), (1, .int .i64 h), (5, .bool true)]) TMem.empty
def isP (ps : PS) (p s : List UInt8) (k : Int) (next : Option AV) : Option AV :=
  pick2 (Nat.ble (p.length + s.length) 9223372036854775807) (pick2 (eqI (ps (p ++ s)).1 k) (pick2 (ps (p ++ s)).2 next (some (.bool false))) (some (.bool false))) none
def threeP (ps : PS) (j s c : Int) (y : List UInt8) : Option AV := isP ps [106] y j (isP ps [115, 101, 116] y s (isP ps [99, 109, 111, 118] y c (some (.bool true))))
theorem enterC (ns : NS) (ps : PS) (n h : Int) : enterT X1 (mO ns ps AV) anC 50 4 [.int .i64 n, .int .i64 h] TMem.empty (fun v _ => some v) = stC ns ps (pkI n 16) h := by kernel_rfl
def nmC (l : List (List UInt8)) (i : Int) (k : List UInt8 → Option AV) : Option AV := Option.rec (motive := fun _ => Option AV) none k (getI l i)
theorem nmC_eq {l : List (List UInt8)} {q : Int} (hl : (l.length : Int) = q) (h1 : 1 ≤ q) (h2 : q ≤ 1000) (h : Int) (k : List UInt8 → Option AV) (hk : ∀ s ∈ l, k s = some (.bool true)) : nmC l (pkI h q) k = some (.bool true) := by
  unfold nmC
  obtain ⟨h3, h4⟩ := pkI_range h q h1 h2
  obtain ⟨i, hi⟩ : ∃ i : Nat, pkI h q = i := ⟨(pkI h q).toNat, by omega⟩
  rw [hi, getI_nat]
  have hlt : i < l.length := by omega
  rw [List.getElem?_eq_getElem hlt]
  exact hk _ (List.getElem_mem hlt)
def isT (x : Option AV) : Bool := match x with | some (.bool b) => b | _ => false
theorem isT_spec {x : Option AV} (h : isT x = true) : x = some (.bool true) := by
  unfold isT at h
  split at h
  · rw [h]
  · cases h
def allB (k : Nat) (j s c : Int) : Bool := (namesOf k).all fun y => isT (threeP parseS j s c y)
theorem allB_spec {k : Nat} {j s c : Int} (h : allB k j s c = true) : ∀ y ∈ namesOf k, threeP parseS j s c y = some (.bool true) := fun y hy => isT_spec (List.all_eq_true.1 h y hy)
theorem st_0 (ns : NS) (ps : PS) (h : Int) : stC ns ps 0 h = nmC (namesOf 0) (pkI h 1) (threeP ps 68 84 100) := by kernel_rfl
theorem all_0 : allB 0 68 84 100 = true := by kernel_rfl
theorem st_1 (ns : NS) (ps : PS) (h : Int) : stC ns ps 1 h = nmC (namesOf 1) (pkI h 1) (threeP ps 69 85 101) := by kernel_rfl
theorem all_1 : allB 1 69 85 101 = true := by kernel_rfl
theorem st_2 (ns : NS) (ps : PS) (h : Int) : stC ns ps 2 h = nmC (namesOf 2) (pkI h 3) (threeP ps 70 86 102) := by kernel_rfl
theorem all_2 : allB 2 70 86 102 = true := by kernel_rfl
theorem st_3 (ns : NS) (ps : PS) (h : Int) : stC ns ps 3 h = nmC (namesOf 3) (pkI h 3) (threeP ps 71 87 103) := by kernel_rfl
theorem all_3 : allB 3 71 87 103 = true := by kernel_rfl
theorem st_4 (ns : NS) (ps : PS) (h : Int) : stC ns ps 4 h = nmC (namesOf 4) (pkI h 2) (threeP ps 72 88 104) := by kernel_rfl
theorem all_4 : allB 4 72 88 104 = true := by kernel_rfl
theorem st_5 (ns : NS) (ps : PS) (h : Int) : stC ns ps 5 h = nmC (namesOf 5) (pkI h 2) (threeP ps 73 89 105) := by kernel_rfl
theorem all_5 : allB 5 73 89 105 = true := by kernel_rfl
theorem st_6 (ns : NS) (ps : PS) (h : Int) : stC ns ps 6 h = nmC (namesOf 6) (pkI h 2) (threeP ps 74 90 106) := by kernel_rfl
theorem all_6 : allB 6 74 90 106 = true := by kernel_rfl
theorem st_7 (ns : NS) (ps : PS) (h : Int) : stC ns ps 7 h = nmC (namesOf 7) (pkI h 2) (threeP ps 75 91 107) := by kernel_rfl
theorem all_7 : allB 7 75 91 107 = true := by kernel_rfl
theorem st_8 (ns : NS) (ps : PS) (h : Int) : stC ns ps 8 h = nmC (namesOf 8) (pkI h 1) (threeP ps 76 92 108) := by kernel_rfl
theorem all_8 : allB 8 76 92 108 = true := by kernel_rfl
theorem st_9 (ns : NS) (ps : PS) (h : Int) : stC ns ps 9 h = nmC (namesOf 9) (pkI h 1) (threeP ps 77 93 109) := by kernel_rfl
theorem all_9 : allB 9 77 93 109 = true := by kernel_rfl
theorem st_10 (ns : NS) (ps : PS) (h : Int) : stC ns ps 10 h = nmC (namesOf 10) (pkI h 2) (threeP ps 78 94 110) := by kernel_rfl
theorem all_10 : allB 10 78 94 110 = true := by kernel_rfl
theorem st_11 (ns : NS) (ps : PS) (h : Int) : stC ns ps 11 h = nmC (namesOf 11) (pkI h 2) (threeP ps 79 95 111) := by kernel_rfl
theorem all_11 : allB 11 79 95 111 = true := by kernel_rfl
theorem st_12 (ns : NS) (ps : PS) (h : Int) : stC ns ps 12 h = nmC (namesOf 12) (pkI h 2) (threeP ps 80 96 112) := by kernel_rfl
theorem all_12 : allB 12 80 96 112 = true := by kernel_rfl
theorem st_13 (ns : NS) (ps : PS) (h : Int) : stC ns ps 13 h = nmC (namesOf 13) (pkI h 2) (threeP ps 81 97 113) := by kernel_rfl
theorem all_13 : allB 13 81 97 113 = true := by kernel_rfl
theorem st_14 (ns : NS) (ps : PS) (h : Int) : stC ns ps 14 h = nmC (namesOf 14) (pkI h 2) (threeP ps 82 98 114) := by kernel_rfl
theorem all_14 : allB 14 82 98 114 = true := by kernel_rfl
theorem st_15 (ns : NS) (ps : PS) (h : Int) : stC ns ps 15 h = nmC (namesOf 15) (pkI h 2) (threeP ps 83 99 115) := by kernel_rfl
theorem all_15 : allB 15 83 99 115 = true := by kernel_rfl
theorem conds (n h : Int) : enterT X1 (mO nameS parseS AV) anC 50 4 [.int .i64 n, .int .i64 h] TMem.empty (fun v _ => some v) = some (.bool true) := by
  rw [enterC]
  obtain ⟨h1, h2⟩ := pkI_range n 16 (by omega) (by omega)
  obtain ⟨k, hk, hlt⟩ : ∃ k : Nat, pkI n 16 = k ∧ k < 16 := ⟨(pkI n 16).toNat, by omega, by omega⟩
  rw [hk]
  match k, hlt with
  | 0, _ => exact (st_0 nameS parseS h).trans (nmC_eq (by rfl) (by decide) (by decide) h _ (allB_spec all_0))
  | 1, _ => exact (st_1 nameS parseS h).trans (nmC_eq (by rfl) (by decide) (by decide) h _ (allB_spec all_1))
  | 2, _ => exact (st_2 nameS parseS h).trans (nmC_eq (by rfl) (by decide) (by decide) h _ (allB_spec all_2))
  | 3, _ => exact (st_3 nameS parseS h).trans (nmC_eq (by rfl) (by decide) (by decide) h _ (allB_spec all_3))
  | 4, _ => exact (st_4 nameS parseS h).trans (nmC_eq (by rfl) (by decide) (by decide) h _ (allB_spec all_4))
  | 5, _ => exact (st_5 nameS parseS h).trans (nmC_eq (by rfl) (by decide) (by decide) h _ (allB_spec all_5))
  | 6, _ => exact (st_6 nameS parseS h).trans (nmC_eq (by rfl) (by decide) (by decide) h _ (allB_spec all_6))
  | 7, _ => exact (st_7 nameS parseS h).trans (nmC_eq (by rfl) (by decide) (by decide) h _ (allB_spec all_7))
  | 8, _ => exact (st_8 nameS parseS h).trans (nmC_eq (by rfl) (by decide) (by decide) h _ (allB_spec all_8))
  | 9, _ => exact (st_9 nameS parseS h).trans (nmC_eq (by rfl) (by decide) (by decide) h _ (allB_spec all_9))
  | 10, _ => exact (st_10 nameS parseS h).trans (nmC_eq (by rfl) (by decide) (by decide) h _ (allB_spec all_10))
  | 11, _ => exact (st_11 nameS parseS h).trans (nmC_eq (by rfl) (by decide) (by decide) h _ (allB_spec all_11))
  | 12, _ => exact (st_12 nameS parseS h).trans (nmC_eq (by rfl) (by decide) (by decide) h _ (allB_spec all_12))
  | 13, _ => exact (st_13 nameS parseS h).trans (nmC_eq (by rfl) (by decide) (by decide) h _ (allB_spec all_13))
  | 14, _ => exact (st_14 nameS parseS h).trans (nmC_eq (by rfl) (by decide) (by decide) h _ (allB_spec all_14))
  | 15, _ => exact (st_15 nameS parseS h).trans (nmC_eq (by rfl) (by decide) (by decide) h _ (allB_spec all_15))
  | k + 16, h => omega
end
end Go.Proofs.YtpajehginfbamaaDoor.nm
