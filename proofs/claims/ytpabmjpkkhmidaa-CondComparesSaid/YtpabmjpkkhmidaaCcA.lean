/- CondCompares: the trees, by plain arithmetic. -/
import Derived.Test.YtpabmjpkkhmidaaCcT
namespace Go.Proofs.Ytpabmjpkkhmidaa.condCompares
open Go.Tv Go.Ev
set_option linter.unusedSimpArgs false
set_option linter.unusedVariables false

theorem wI8 {a : Int} (h0 : 0 ≤ a) (h1 : a < 256) : ∃ x, IntKind.wrap .i8 a = x ∧ (a < 128 ∧ x = a ∨ 128 ≤ a ∧ x = a - 256) := by
  refine ⟨_, rfl, ?_⟩
  simp only [IntKind.wrap, IntKind.bits, IntKind.signed]
  have : a % (2 ^ 8 : Int) = a := by omega
  simp only [this]
  by_cases h : a < 128
  · rw [if_neg (by simp; omega)]; omega
  · rw [if_pos (by simp; omega)]; omega
theorem wU8 {a b : Int} (h0 : 0 ≤ a) (h1 : a < 256) (h2 : 0 ≤ b) (h3 : b < 256) : ∃ d, IntKind.wrap .u8 (a - b) = d ∧ (b ≤ a ∧ d = a - b ∨ a < b ∧ d = a - b + 256) := by
  have e : IntKind.wrap .u8 (a - b) = (a - b) % 256 := by simp [IntKind.wrap, IntKind.bits, IntKind.signed]
  exact ⟨_, rfl, by rw [e]; omega⟩
theorem wI64 {a : Int} (h0 : -1000 ≤ a) (h1 : a < 1000) : IntKind.wrap .i64 a = a := by
  simp only [IntKind.wrap, IntKind.bits, IntKind.signed]
  by_cases h : 0 ≤ a
  · have : a % (2 ^ 64 : Int) = a := by omega
    simp only [this]
    rw [if_neg (by simp; omega)]
  · have : a % (2 ^ 64 : Int) = a + 2 ^ 64 := by omega
    simp only [this]
    rw [if_pos (by simp; omega)]; omega

theorem lt_or (x y : Int) : (ltI x y = true ∧ x < y) ∨ (ltI x y = false ∧ y ≤ x) := by
  rw [ltI_spec]
  by_cases h : x < y
  · exact .inl ⟨by simp [h], h⟩
  · exact .inr ⟨by simp [h], by omega⟩
theorem eq_or (x y : Int) : (eqI x y = true ∧ x = y) ∨ (eqI x y = false ∧ (x < y ∨ y < x)) := by
  rw [eqI_spec]
  by_cases h : x = y
  · exact .inl ⟨by simp [h], h⟩
  · exact .inr ⟨by simp [h], by omega⟩

theorem facts {a b : Int} (h0 : 0 ≤ a) (h1 : a < 256) (h2 : 0 ≤ b) (h3 : b < 256) : ∃ x y d e, IntKind.wrap .i8 a = x ∧ IntKind.wrap .i8 b = y ∧ IntKind.wrap .u8 (a - b) = d ∧ IntKind.wrap .u8 (b - a) = e ∧ IntKind.wrap .i64 x = x ∧ IntKind.wrap .i64 y = y ∧ IntKind.wrap .i64 (x - y) = x - y ∧ IntKind.wrap .i64 (y - x) = y - x ∧
    (a < 128 ∧ x = a ∨ 128 ≤ a ∧ x = a - 256) ∧ (b < 128 ∧ y = b ∨ 128 ≤ b ∧ y = b - 256) ∧ (b ≤ a ∧ d = a - b ∨ a < b ∧ d = a - b + 256) ∧ (a ≤ b ∧ e = b - a ∨ b < a ∧ e = b - a + 256) := by
  obtain ⟨x, ex, hx⟩ := wI8 h0 h1
  obtain ⟨y, ey, hy⟩ := wI8 h2 h3
  obtain ⟨d, ed, hd⟩ := wU8 h0 h1 h2 h3
  obtain ⟨e, ee, he⟩ := wU8 h2 h3 h0 h1
  exact ⟨x, y, d, e, ex, ey, ed, ee, wI64 (by omega) (by omega), wI64 (by omega) (by omega), wI64 (by omega) (by omega), wI64 (by omega) (by omega), hx, hy, hd, he⟩

theorem e00 : eqI 0 0 = true := by kernel_rfl
theorem e10 : eqI 1 0 = false := by kernel_rfl

theorem y0 {a b : Int} (h0 : 0 ≤ a) (h1 : a < 256) (h2 : 0 ≤ b) (h3 : b < 256) : T0 a b true = some (.bool true) := by
  unfold T0
  obtain ⟨x, y, d, e, ex, ey, ed, ee, e1, e2, e3, e4, hx, hy, hd, he⟩ := facts h0 h1 h2 h3
  simp only [ex, ey, ed, ee, e1, e2, e3, e4, e00, e10]
  clear ex ey ed ee e1 e2 e3 e4
  all_goals rcases lt_or (x - y) (-128) with ⟨q1, pq1⟩ | ⟨q1, pq1⟩
  all_goals rcases lt_or (y - x) (-128) with ⟨q2, pq2⟩ | ⟨q2, pq2⟩
  all_goals try (exfalso; omega)
  all_goals rcases lt_or 127 (x - y) with ⟨q3, pq3⟩ | ⟨q3, pq3⟩
  all_goals try (exfalso; omega)
  all_goals rcases lt_or 127 (y - x) with ⟨q4, pq4⟩ | ⟨q4, pq4⟩
  all_goals try (exfalso; omega)
  all_goals rcases lt_or x y with ⟨q5, pq5⟩ | ⟨q5, pq5⟩
  all_goals try (exfalso; omega)
  all_goals rcases lt_or y x with ⟨q6, pq6⟩ | ⟨q6, pq6⟩
  all_goals try (exfalso; omega)
  all_goals rcases lt_or a b with ⟨q7, pq7⟩ | ⟨q7, pq7⟩
  all_goals try (exfalso; omega)
  all_goals rcases lt_or b a with ⟨q8, pq8⟩ | ⟨q8, pq8⟩
  all_goals try (exfalso; omega)
  all_goals rcases eq_or a b with ⟨q9, pq9⟩ | ⟨q9, pq9⟩
  all_goals try (exfalso; omega)
  all_goals rcases eq_or b a with ⟨qa, pqa⟩ | ⟨qa, pqa⟩
  all_goals try (exfalso; omega)
  all_goals rcases lt_or 127 d with ⟨qb, pqb⟩ | ⟨qb, pqb⟩
  all_goals try (exfalso; omega)
  all_goals rcases lt_or 127 e with ⟨qc, pqc⟩ | ⟨qc, pqc⟩
  all_goals try (exfalso; omega)
  all_goals simp only [q1, q2, q3, q4, q5, q6, q7, q8, q9, qa, qb, qc]
  all_goals first | rfl | decide

theorem y1 {a b : Int} (h0 : 0 ≤ a) (h1 : a < 256) (h2 : 0 ≤ b) (h3 : b < 256) : T1 a b true = some (.bool true) := by
  unfold T1
  obtain ⟨x, y, d, e, ex, ey, ed, ee, e1, e2, e3, e4, hx, hy, hd, he⟩ := facts h0 h1 h2 h3
  simp only [ex, ey, ed, ee, e1, e2, e3, e4, e00, e10]
  clear ex ey ed ee e1 e2 e3 e4
  all_goals rcases lt_or (x - y) (-128) with ⟨q1, pq1⟩ | ⟨q1, pq1⟩
  all_goals rcases lt_or (y - x) (-128) with ⟨q2, pq2⟩ | ⟨q2, pq2⟩
  all_goals try (exfalso; omega)
  all_goals rcases lt_or 127 (x - y) with ⟨q3, pq3⟩ | ⟨q3, pq3⟩
  all_goals try (exfalso; omega)
  all_goals rcases lt_or 127 (y - x) with ⟨q4, pq4⟩ | ⟨q4, pq4⟩
  all_goals try (exfalso; omega)
  all_goals rcases lt_or x y with ⟨q5, pq5⟩ | ⟨q5, pq5⟩
  all_goals try (exfalso; omega)
  all_goals rcases lt_or y x with ⟨q6, pq6⟩ | ⟨q6, pq6⟩
  all_goals try (exfalso; omega)
  all_goals rcases lt_or a b with ⟨q7, pq7⟩ | ⟨q7, pq7⟩
  all_goals try (exfalso; omega)
  all_goals rcases lt_or b a with ⟨q8, pq8⟩ | ⟨q8, pq8⟩
  all_goals try (exfalso; omega)
  all_goals rcases eq_or a b with ⟨q9, pq9⟩ | ⟨q9, pq9⟩
  all_goals try (exfalso; omega)
  all_goals rcases eq_or b a with ⟨qa, pqa⟩ | ⟨qa, pqa⟩
  all_goals try (exfalso; omega)
  all_goals rcases lt_or 127 d with ⟨qb, pqb⟩ | ⟨qb, pqb⟩
  all_goals try (exfalso; omega)
  all_goals rcases lt_or 127 e with ⟨qc, pqc⟩ | ⟨qc, pqc⟩
  all_goals try (exfalso; omega)
  all_goals simp only [q1, q2, q3, q4, q5, q6, q7, q8, q9, qa, qb, qc]
  all_goals first | rfl | decide

theorem y2 {a b : Int} (h0 : 0 ≤ a) (h1 : a < 256) (h2 : 0 ≤ b) (h3 : b < 256) : T2 a b true = some (.bool true) := by
  unfold T2
  obtain ⟨x, y, d, e, ex, ey, ed, ee, e1, e2, e3, e4, hx, hy, hd, he⟩ := facts h0 h1 h2 h3
  simp only [ex, ey, ed, ee, e1, e2, e3, e4, e00, e10]
  clear ex ey ed ee e1 e2 e3 e4
  all_goals rcases lt_or (x - y) (-128) with ⟨q1, pq1⟩ | ⟨q1, pq1⟩
  all_goals rcases lt_or (y - x) (-128) with ⟨q2, pq2⟩ | ⟨q2, pq2⟩
  all_goals try (exfalso; omega)
  all_goals rcases lt_or 127 (x - y) with ⟨q3, pq3⟩ | ⟨q3, pq3⟩
  all_goals try (exfalso; omega)
  all_goals rcases lt_or 127 (y - x) with ⟨q4, pq4⟩ | ⟨q4, pq4⟩
  all_goals try (exfalso; omega)
  all_goals rcases lt_or x y with ⟨q5, pq5⟩ | ⟨q5, pq5⟩
  all_goals try (exfalso; omega)
  all_goals rcases lt_or y x with ⟨q6, pq6⟩ | ⟨q6, pq6⟩
  all_goals try (exfalso; omega)
  all_goals rcases lt_or a b with ⟨q7, pq7⟩ | ⟨q7, pq7⟩
  all_goals try (exfalso; omega)
  all_goals rcases lt_or b a with ⟨q8, pq8⟩ | ⟨q8, pq8⟩
  all_goals try (exfalso; omega)
  all_goals rcases eq_or a b with ⟨q9, pq9⟩ | ⟨q9, pq9⟩
  all_goals try (exfalso; omega)
  all_goals rcases eq_or b a with ⟨qa, pqa⟩ | ⟨qa, pqa⟩
  all_goals try (exfalso; omega)
  all_goals rcases lt_or 127 d with ⟨qb, pqb⟩ | ⟨qb, pqb⟩
  all_goals try (exfalso; omega)
  all_goals rcases lt_or 127 e with ⟨qc, pqc⟩ | ⟨qc, pqc⟩
  all_goals try (exfalso; omega)
  all_goals simp only [q1, q2, q3, q4, q5, q6, q7, q8, q9, qa, qb, qc]
  all_goals first | rfl | decide

theorem y3 {a b : Int} (h0 : 0 ≤ a) (h1 : a < 256) (h2 : 0 ≤ b) (h3 : b < 256) : T3 a b true = some (.bool true) := by
  unfold T3
  obtain ⟨x, y, d, e, ex, ey, ed, ee, e1, e2, e3, e4, hx, hy, hd, he⟩ := facts h0 h1 h2 h3
  simp only [ex, ey, ed, ee, e1, e2, e3, e4, e00, e10]
  clear ex ey ed ee e1 e2 e3 e4
  all_goals rcases lt_or (x - y) (-128) with ⟨q1, pq1⟩ | ⟨q1, pq1⟩
  all_goals rcases lt_or (y - x) (-128) with ⟨q2, pq2⟩ | ⟨q2, pq2⟩
  all_goals try (exfalso; omega)
  all_goals rcases lt_or 127 (x - y) with ⟨q3, pq3⟩ | ⟨q3, pq3⟩
  all_goals try (exfalso; omega)
  all_goals rcases lt_or 127 (y - x) with ⟨q4, pq4⟩ | ⟨q4, pq4⟩
  all_goals try (exfalso; omega)
  all_goals rcases lt_or x y with ⟨q5, pq5⟩ | ⟨q5, pq5⟩
  all_goals try (exfalso; omega)
  all_goals rcases lt_or y x with ⟨q6, pq6⟩ | ⟨q6, pq6⟩
  all_goals try (exfalso; omega)
  all_goals rcases lt_or a b with ⟨q7, pq7⟩ | ⟨q7, pq7⟩
  all_goals try (exfalso; omega)
  all_goals rcases lt_or b a with ⟨q8, pq8⟩ | ⟨q8, pq8⟩
  all_goals try (exfalso; omega)
  all_goals rcases eq_or a b with ⟨q9, pq9⟩ | ⟨q9, pq9⟩
  all_goals try (exfalso; omega)
  all_goals rcases eq_or b a with ⟨qa, pqa⟩ | ⟨qa, pqa⟩
  all_goals try (exfalso; omega)
  all_goals rcases lt_or 127 d with ⟨qb, pqb⟩ | ⟨qb, pqb⟩
  all_goals try (exfalso; omega)
  all_goals rcases lt_or 127 e with ⟨qc, pqc⟩ | ⟨qc, pqc⟩
  all_goals try (exfalso; omega)
  all_goals simp only [q1, q2, q3, q4, q5, q6, q7, q8, q9, qa, qb, qc]
  all_goals first | rfl | decide

theorem y4 {a b : Int} (h0 : 0 ≤ a) (h1 : a < 256) (h2 : 0 ≤ b) (h3 : b < 256) : T4 a b true = some (.bool true) := by
  unfold T4
  obtain ⟨x, y, d, e, ex, ey, ed, ee, e1, e2, e3, e4, hx, hy, hd, he⟩ := facts h0 h1 h2 h3
  simp only [ex, ey, ed, ee, e1, e2, e3, e4, e00, e10]
  clear ex ey ed ee e1 e2 e3 e4
  all_goals rcases lt_or (x - y) (-128) with ⟨q1, pq1⟩ | ⟨q1, pq1⟩
  all_goals rcases lt_or (y - x) (-128) with ⟨q2, pq2⟩ | ⟨q2, pq2⟩
  all_goals try (exfalso; omega)
  all_goals rcases lt_or 127 (x - y) with ⟨q3, pq3⟩ | ⟨q3, pq3⟩
  all_goals try (exfalso; omega)
  all_goals rcases lt_or 127 (y - x) with ⟨q4, pq4⟩ | ⟨q4, pq4⟩
  all_goals try (exfalso; omega)
  all_goals rcases lt_or x y with ⟨q5, pq5⟩ | ⟨q5, pq5⟩
  all_goals try (exfalso; omega)
  all_goals rcases lt_or y x with ⟨q6, pq6⟩ | ⟨q6, pq6⟩
  all_goals try (exfalso; omega)
  all_goals rcases lt_or a b with ⟨q7, pq7⟩ | ⟨q7, pq7⟩
  all_goals try (exfalso; omega)
  all_goals rcases lt_or b a with ⟨q8, pq8⟩ | ⟨q8, pq8⟩
  all_goals try (exfalso; omega)
  all_goals rcases eq_or a b with ⟨q9, pq9⟩ | ⟨q9, pq9⟩
  all_goals try (exfalso; omega)
  all_goals rcases eq_or b a with ⟨qa, pqa⟩ | ⟨qa, pqa⟩
  all_goals try (exfalso; omega)
  all_goals rcases lt_or 127 d with ⟨qb, pqb⟩ | ⟨qb, pqb⟩
  all_goals try (exfalso; omega)
  all_goals rcases lt_or 127 e with ⟨qc, pqc⟩ | ⟨qc, pqc⟩
  all_goals try (exfalso; omega)
  all_goals simp only [q1, q2, q3, q4, q5, q6, q7, q8, q9, qa, qb, qc]
  all_goals first | rfl | decide

theorem y5 {a b : Int} (h0 : 0 ≤ a) (h1 : a < 256) (h2 : 0 ≤ b) (h3 : b < 256) : T5 a b true = some (.bool true) := by
  unfold T5
  obtain ⟨x, y, d, e, ex, ey, ed, ee, e1, e2, e3, e4, hx, hy, hd, he⟩ := facts h0 h1 h2 h3
  simp only [ex, ey, ed, ee, e1, e2, e3, e4, e00, e10]
  clear ex ey ed ee e1 e2 e3 e4
  all_goals rcases lt_or (x - y) (-128) with ⟨q1, pq1⟩ | ⟨q1, pq1⟩
  all_goals rcases lt_or (y - x) (-128) with ⟨q2, pq2⟩ | ⟨q2, pq2⟩
  all_goals try (exfalso; omega)
  all_goals rcases lt_or 127 (x - y) with ⟨q3, pq3⟩ | ⟨q3, pq3⟩
  all_goals try (exfalso; omega)
  all_goals rcases lt_or 127 (y - x) with ⟨q4, pq4⟩ | ⟨q4, pq4⟩
  all_goals try (exfalso; omega)
  all_goals rcases lt_or x y with ⟨q5, pq5⟩ | ⟨q5, pq5⟩
  all_goals try (exfalso; omega)
  all_goals rcases lt_or y x with ⟨q6, pq6⟩ | ⟨q6, pq6⟩
  all_goals try (exfalso; omega)
  all_goals rcases lt_or a b with ⟨q7, pq7⟩ | ⟨q7, pq7⟩
  all_goals try (exfalso; omega)
  all_goals rcases lt_or b a with ⟨q8, pq8⟩ | ⟨q8, pq8⟩
  all_goals try (exfalso; omega)
  all_goals rcases eq_or a b with ⟨q9, pq9⟩ | ⟨q9, pq9⟩
  all_goals try (exfalso; omega)
  all_goals rcases eq_or b a with ⟨qa, pqa⟩ | ⟨qa, pqa⟩
  all_goals try (exfalso; omega)
  all_goals rcases lt_or 127 d with ⟨qb, pqb⟩ | ⟨qb, pqb⟩
  all_goals try (exfalso; omega)
  all_goals rcases lt_or 127 e with ⟨qc, pqc⟩ | ⟨qc, pqc⟩
  all_goals try (exfalso; omega)
  all_goals simp only [q1, q2, q3, q4, q5, q6, q7, q8, q9, qa, qb, qc]
  all_goals first | rfl | decide

theorem y6 {a b : Int} (h0 : 0 ≤ a) (h1 : a < 256) (h2 : 0 ≤ b) (h3 : b < 256) : T6 a b true = some (.bool true) := by
  unfold T6
  obtain ⟨x, y, d, e, ex, ey, ed, ee, e1, e2, e3, e4, hx, hy, hd, he⟩ := facts h0 h1 h2 h3
  simp only [ex, ey, ed, ee, e1, e2, e3, e4, e00, e10]
  clear ex ey ed ee e1 e2 e3 e4
  all_goals rcases lt_or (x - y) (-128) with ⟨q1, pq1⟩ | ⟨q1, pq1⟩
  all_goals rcases lt_or (y - x) (-128) with ⟨q2, pq2⟩ | ⟨q2, pq2⟩
  all_goals try (exfalso; omega)
  all_goals rcases lt_or 127 (x - y) with ⟨q3, pq3⟩ | ⟨q3, pq3⟩
  all_goals try (exfalso; omega)
  all_goals rcases lt_or 127 (y - x) with ⟨q4, pq4⟩ | ⟨q4, pq4⟩
  all_goals try (exfalso; omega)
  all_goals rcases lt_or x y with ⟨q5, pq5⟩ | ⟨q5, pq5⟩
  all_goals try (exfalso; omega)
  all_goals rcases lt_or y x with ⟨q6, pq6⟩ | ⟨q6, pq6⟩
  all_goals try (exfalso; omega)
  all_goals rcases lt_or a b with ⟨q7, pq7⟩ | ⟨q7, pq7⟩
  all_goals try (exfalso; omega)
  all_goals rcases lt_or b a with ⟨q8, pq8⟩ | ⟨q8, pq8⟩
  all_goals try (exfalso; omega)
  all_goals rcases eq_or a b with ⟨q9, pq9⟩ | ⟨q9, pq9⟩
  all_goals try (exfalso; omega)
  all_goals rcases eq_or b a with ⟨qa, pqa⟩ | ⟨qa, pqa⟩
  all_goals try (exfalso; omega)
  all_goals rcases lt_or 127 d with ⟨qb, pqb⟩ | ⟨qb, pqb⟩
  all_goals try (exfalso; omega)
  all_goals rcases lt_or 127 e with ⟨qc, pqc⟩ | ⟨qc, pqc⟩
  all_goals try (exfalso; omega)
  all_goals simp only [q1, q2, q3, q4, q5, q6, q7, q8, q9, qa, qb, qc]
  all_goals first | rfl | decide

theorem y7 {a b : Int} (h0 : 0 ≤ a) (h1 : a < 256) (h2 : 0 ≤ b) (h3 : b < 256) : T7 a b true = some (.bool true) := by
  unfold T7
  obtain ⟨x, y, d, e, ex, ey, ed, ee, e1, e2, e3, e4, hx, hy, hd, he⟩ := facts h0 h1 h2 h3
  simp only [ex, ey, ed, ee, e1, e2, e3, e4, e00, e10]
  clear ex ey ed ee e1 e2 e3 e4
  all_goals rcases lt_or (x - y) (-128) with ⟨q1, pq1⟩ | ⟨q1, pq1⟩
  all_goals rcases lt_or (y - x) (-128) with ⟨q2, pq2⟩ | ⟨q2, pq2⟩
  all_goals try (exfalso; omega)
  all_goals rcases lt_or 127 (x - y) with ⟨q3, pq3⟩ | ⟨q3, pq3⟩
  all_goals try (exfalso; omega)
  all_goals rcases lt_or 127 (y - x) with ⟨q4, pq4⟩ | ⟨q4, pq4⟩
  all_goals try (exfalso; omega)
  all_goals rcases lt_or x y with ⟨q5, pq5⟩ | ⟨q5, pq5⟩
  all_goals try (exfalso; omega)
  all_goals rcases lt_or y x with ⟨q6, pq6⟩ | ⟨q6, pq6⟩
  all_goals try (exfalso; omega)
  all_goals rcases lt_or a b with ⟨q7, pq7⟩ | ⟨q7, pq7⟩
  all_goals try (exfalso; omega)
  all_goals rcases lt_or b a with ⟨q8, pq8⟩ | ⟨q8, pq8⟩
  all_goals try (exfalso; omega)
  all_goals rcases eq_or a b with ⟨q9, pq9⟩ | ⟨q9, pq9⟩
  all_goals try (exfalso; omega)
  all_goals rcases eq_or b a with ⟨qa, pqa⟩ | ⟨qa, pqa⟩
  all_goals try (exfalso; omega)
  all_goals rcases lt_or 127 d with ⟨qb, pqb⟩ | ⟨qb, pqb⟩
  all_goals try (exfalso; omega)
  all_goals rcases lt_or 127 e with ⟨qc, pqc⟩ | ⟨qc, pqc⟩
  all_goals try (exfalso; omega)
  all_goals simp only [q1, q2, q3, q4, q5, q6, q7, q8, q9, qa, qb, qc]
  all_goals first | rfl | decide

theorem y8 {a b : Int} (h0 : 0 ≤ a) (h1 : a < 256) (h2 : 0 ≤ b) (h3 : b < 256) : T8 a b true = some (.bool true) := by
  unfold T8
  obtain ⟨x, y, d, e, ex, ey, ed, ee, e1, e2, e3, e4, hx, hy, hd, he⟩ := facts h0 h1 h2 h3
  simp only [ex, ey, ed, ee, e1, e2, e3, e4, e00, e10]
  clear ex ey ed ee e1 e2 e3 e4
  all_goals rcases lt_or (x - y) (-128) with ⟨q1, pq1⟩ | ⟨q1, pq1⟩
  all_goals rcases lt_or (y - x) (-128) with ⟨q2, pq2⟩ | ⟨q2, pq2⟩
  all_goals try (exfalso; omega)
  all_goals rcases lt_or 127 (x - y) with ⟨q3, pq3⟩ | ⟨q3, pq3⟩
  all_goals try (exfalso; omega)
  all_goals rcases lt_or 127 (y - x) with ⟨q4, pq4⟩ | ⟨q4, pq4⟩
  all_goals try (exfalso; omega)
  all_goals rcases lt_or x y with ⟨q5, pq5⟩ | ⟨q5, pq5⟩
  all_goals try (exfalso; omega)
  all_goals rcases lt_or y x with ⟨q6, pq6⟩ | ⟨q6, pq6⟩
  all_goals try (exfalso; omega)
  all_goals rcases lt_or a b with ⟨q7, pq7⟩ | ⟨q7, pq7⟩
  all_goals try (exfalso; omega)
  all_goals rcases lt_or b a with ⟨q8, pq8⟩ | ⟨q8, pq8⟩
  all_goals try (exfalso; omega)
  all_goals rcases eq_or a b with ⟨q9, pq9⟩ | ⟨q9, pq9⟩
  all_goals try (exfalso; omega)
  all_goals rcases eq_or b a with ⟨qa, pqa⟩ | ⟨qa, pqa⟩
  all_goals try (exfalso; omega)
  all_goals rcases lt_or 127 d with ⟨qb, pqb⟩ | ⟨qb, pqb⟩
  all_goals try (exfalso; omega)
  all_goals rcases lt_or 127 e with ⟨qc, pqc⟩ | ⟨qc, pqc⟩
  all_goals try (exfalso; omega)
  all_goals simp only [q1, q2, q3, q4, q5, q6, q7, q8, q9, qa, qb, qc]
  all_goals first | rfl | decide

theorem y9 {a b : Int} (h0 : 0 ≤ a) (h1 : a < 256) (h2 : 0 ≤ b) (h3 : b < 256) : T9 a b true = some (.bool true) := by
  unfold T9
  obtain ⟨x, y, d, e, ex, ey, ed, ee, e1, e2, e3, e4, hx, hy, hd, he⟩ := facts h0 h1 h2 h3
  simp only [ex, ey, ed, ee, e1, e2, e3, e4, e00, e10]
  clear ex ey ed ee e1 e2 e3 e4
  all_goals rcases lt_or (x - y) (-128) with ⟨q1, pq1⟩ | ⟨q1, pq1⟩
  all_goals rcases lt_or (y - x) (-128) with ⟨q2, pq2⟩ | ⟨q2, pq2⟩
  all_goals try (exfalso; omega)
  all_goals rcases lt_or 127 (x - y) with ⟨q3, pq3⟩ | ⟨q3, pq3⟩
  all_goals try (exfalso; omega)
  all_goals rcases lt_or 127 (y - x) with ⟨q4, pq4⟩ | ⟨q4, pq4⟩
  all_goals try (exfalso; omega)
  all_goals rcases lt_or x y with ⟨q5, pq5⟩ | ⟨q5, pq5⟩
  all_goals try (exfalso; omega)
  all_goals rcases lt_or y x with ⟨q6, pq6⟩ | ⟨q6, pq6⟩
  all_goals try (exfalso; omega)
  all_goals rcases lt_or a b with ⟨q7, pq7⟩ | ⟨q7, pq7⟩
  all_goals try (exfalso; omega)
  all_goals rcases lt_or b a with ⟨q8, pq8⟩ | ⟨q8, pq8⟩
  all_goals try (exfalso; omega)
  all_goals rcases eq_or a b with ⟨q9, pq9⟩ | ⟨q9, pq9⟩
  all_goals try (exfalso; omega)
  all_goals rcases eq_or b a with ⟨qa, pqa⟩ | ⟨qa, pqa⟩
  all_goals try (exfalso; omega)
  all_goals rcases lt_or 127 d with ⟨qb, pqb⟩ | ⟨qb, pqb⟩
  all_goals try (exfalso; omega)
  all_goals rcases lt_or 127 e with ⟨qc, pqc⟩ | ⟨qc, pqc⟩
  all_goals try (exfalso; omega)
  all_goals simp only [q1, q2, q3, q4, q5, q6, q7, q8, q9, qa, qb, qc]
  all_goals first | rfl | decide

theorem y10 {a b : Int} (h0 : 0 ≤ a) (h1 : a < 256) (h2 : 0 ≤ b) (h3 : b < 256) : T10 a b true = some (.bool true) := by
  unfold T10
  obtain ⟨x, y, d, e, ex, ey, ed, ee, e1, e2, e3, e4, hx, hy, hd, he⟩ := facts h0 h1 h2 h3
  simp only [ex, ey, ed, ee, e1, e2, e3, e4, e00, e10]
  clear ex ey ed ee e1 e2 e3 e4
  all_goals rcases lt_or (x - y) (-128) with ⟨q1, pq1⟩ | ⟨q1, pq1⟩
  all_goals rcases lt_or (y - x) (-128) with ⟨q2, pq2⟩ | ⟨q2, pq2⟩
  all_goals try (exfalso; omega)
  all_goals rcases lt_or 127 (x - y) with ⟨q3, pq3⟩ | ⟨q3, pq3⟩
  all_goals try (exfalso; omega)
  all_goals rcases lt_or 127 (y - x) with ⟨q4, pq4⟩ | ⟨q4, pq4⟩
  all_goals try (exfalso; omega)
  all_goals rcases lt_or x y with ⟨q5, pq5⟩ | ⟨q5, pq5⟩
  all_goals try (exfalso; omega)
  all_goals rcases lt_or y x with ⟨q6, pq6⟩ | ⟨q6, pq6⟩
  all_goals try (exfalso; omega)
  all_goals rcases lt_or a b with ⟨q7, pq7⟩ | ⟨q7, pq7⟩
  all_goals try (exfalso; omega)
  all_goals rcases lt_or b a with ⟨q8, pq8⟩ | ⟨q8, pq8⟩
  all_goals try (exfalso; omega)
  all_goals rcases eq_or a b with ⟨q9, pq9⟩ | ⟨q9, pq9⟩
  all_goals try (exfalso; omega)
  all_goals rcases eq_or b a with ⟨qa, pqa⟩ | ⟨qa, pqa⟩
  all_goals try (exfalso; omega)
  all_goals rcases lt_or 127 d with ⟨qb, pqb⟩ | ⟨qb, pqb⟩
  all_goals try (exfalso; omega)
  all_goals rcases lt_or 127 e with ⟨qc, pqc⟩ | ⟨qc, pqc⟩
  all_goals try (exfalso; omega)
  all_goals simp only [q1, q2, q3, q4, q5, q6, q7, q8, q9, qa, qb, qc]
  all_goals first | rfl | decide

theorem y11 {a b : Int} (h0 : 0 ≤ a) (h1 : a < 256) (h2 : 0 ≤ b) (h3 : b < 256) : T11 a b true = some (.bool true) := by
  unfold T11
  obtain ⟨x, y, d, e, ex, ey, ed, ee, e1, e2, e3, e4, hx, hy, hd, he⟩ := facts h0 h1 h2 h3
  simp only [ex, ey, ed, ee, e1, e2, e3, e4, e00, e10]
  clear ex ey ed ee e1 e2 e3 e4
  all_goals rcases lt_or (x - y) (-128) with ⟨q1, pq1⟩ | ⟨q1, pq1⟩
  all_goals rcases lt_or (y - x) (-128) with ⟨q2, pq2⟩ | ⟨q2, pq2⟩
  all_goals try (exfalso; omega)
  all_goals rcases lt_or 127 (x - y) with ⟨q3, pq3⟩ | ⟨q3, pq3⟩
  all_goals try (exfalso; omega)
  all_goals rcases lt_or 127 (y - x) with ⟨q4, pq4⟩ | ⟨q4, pq4⟩
  all_goals try (exfalso; omega)
  all_goals rcases lt_or x y with ⟨q5, pq5⟩ | ⟨q5, pq5⟩
  all_goals try (exfalso; omega)
  all_goals rcases lt_or y x with ⟨q6, pq6⟩ | ⟨q6, pq6⟩
  all_goals try (exfalso; omega)
  all_goals rcases lt_or a b with ⟨q7, pq7⟩ | ⟨q7, pq7⟩
  all_goals try (exfalso; omega)
  all_goals rcases lt_or b a with ⟨q8, pq8⟩ | ⟨q8, pq8⟩
  all_goals try (exfalso; omega)
  all_goals rcases eq_or a b with ⟨q9, pq9⟩ | ⟨q9, pq9⟩
  all_goals try (exfalso; omega)
  all_goals rcases eq_or b a with ⟨qa, pqa⟩ | ⟨qa, pqa⟩
  all_goals try (exfalso; omega)
  all_goals rcases lt_or 127 d with ⟨qb, pqb⟩ | ⟨qb, pqb⟩
  all_goals try (exfalso; omega)
  all_goals rcases lt_or 127 e with ⟨qc, pqc⟩ | ⟨qc, pqc⟩
  all_goals try (exfalso; omega)
  all_goals simp only [q1, q2, q3, q4, q5, q6, q7, q8, q9, qa, qb, qc]
  all_goals first | rfl | decide

theorem y12 {a b : Int} (h0 : 0 ≤ a) (h1 : a < 256) (h2 : 0 ≤ b) (h3 : b < 256) : T12 a b true = some (.bool true) := by
  unfold T12
  obtain ⟨x, y, d, e, ex, ey, ed, ee, e1, e2, e3, e4, hx, hy, hd, he⟩ := facts h0 h1 h2 h3
  simp only [ex, ey, ed, ee, e1, e2, e3, e4, e00, e10]
  clear ex ey ed ee e1 e2 e3 e4
  all_goals rcases lt_or (x - y) (-128) with ⟨q1, pq1⟩ | ⟨q1, pq1⟩
  all_goals rcases lt_or (y - x) (-128) with ⟨q2, pq2⟩ | ⟨q2, pq2⟩
  all_goals try (exfalso; omega)
  all_goals rcases lt_or 127 (x - y) with ⟨q3, pq3⟩ | ⟨q3, pq3⟩
  all_goals try (exfalso; omega)
  all_goals rcases lt_or 127 (y - x) with ⟨q4, pq4⟩ | ⟨q4, pq4⟩
  all_goals try (exfalso; omega)
  all_goals rcases lt_or x y with ⟨q5, pq5⟩ | ⟨q5, pq5⟩
  all_goals try (exfalso; omega)
  all_goals rcases lt_or y x with ⟨q6, pq6⟩ | ⟨q6, pq6⟩
  all_goals try (exfalso; omega)
  all_goals rcases lt_or a b with ⟨q7, pq7⟩ | ⟨q7, pq7⟩
  all_goals try (exfalso; omega)
  all_goals rcases lt_or b a with ⟨q8, pq8⟩ | ⟨q8, pq8⟩
  all_goals try (exfalso; omega)
  all_goals rcases eq_or a b with ⟨q9, pq9⟩ | ⟨q9, pq9⟩
  all_goals try (exfalso; omega)
  all_goals rcases eq_or b a with ⟨qa, pqa⟩ | ⟨qa, pqa⟩
  all_goals try (exfalso; omega)
  all_goals rcases lt_or 127 d with ⟨qb, pqb⟩ | ⟨qb, pqb⟩
  all_goals try (exfalso; omega)
  all_goals rcases lt_or 127 e with ⟨qc, pqc⟩ | ⟨qc, pqc⟩
  all_goals try (exfalso; omega)
  all_goals simp only [q1, q2, q3, q4, q5, q6, q7, q8, q9, qa, qb, qc]
  all_goals first | rfl | decide

theorem y13 {a b : Int} (h0 : 0 ≤ a) (h1 : a < 256) (h2 : 0 ≤ b) (h3 : b < 256) : T13 a b true = some (.bool true) := by
  unfold T13
  obtain ⟨x, y, d, e, ex, ey, ed, ee, e1, e2, e3, e4, hx, hy, hd, he⟩ := facts h0 h1 h2 h3
  simp only [ex, ey, ed, ee, e1, e2, e3, e4, e00, e10]
  clear ex ey ed ee e1 e2 e3 e4
  all_goals rcases lt_or (x - y) (-128) with ⟨q1, pq1⟩ | ⟨q1, pq1⟩
  all_goals rcases lt_or (y - x) (-128) with ⟨q2, pq2⟩ | ⟨q2, pq2⟩
  all_goals try (exfalso; omega)
  all_goals rcases lt_or 127 (x - y) with ⟨q3, pq3⟩ | ⟨q3, pq3⟩
  all_goals try (exfalso; omega)
  all_goals rcases lt_or 127 (y - x) with ⟨q4, pq4⟩ | ⟨q4, pq4⟩
  all_goals try (exfalso; omega)
  all_goals rcases lt_or x y with ⟨q5, pq5⟩ | ⟨q5, pq5⟩
  all_goals try (exfalso; omega)
  all_goals rcases lt_or y x with ⟨q6, pq6⟩ | ⟨q6, pq6⟩
  all_goals try (exfalso; omega)
  all_goals rcases lt_or a b with ⟨q7, pq7⟩ | ⟨q7, pq7⟩
  all_goals try (exfalso; omega)
  all_goals rcases lt_or b a with ⟨q8, pq8⟩ | ⟨q8, pq8⟩
  all_goals try (exfalso; omega)
  all_goals rcases eq_or a b with ⟨q9, pq9⟩ | ⟨q9, pq9⟩
  all_goals try (exfalso; omega)
  all_goals rcases eq_or b a with ⟨qa, pqa⟩ | ⟨qa, pqa⟩
  all_goals try (exfalso; omega)
  all_goals rcases lt_or 127 d with ⟨qb, pqb⟩ | ⟨qb, pqb⟩
  all_goals try (exfalso; omega)
  all_goals rcases lt_or 127 e with ⟨qc, pqc⟩ | ⟨qc, pqc⟩
  all_goals try (exfalso; omega)
  all_goals simp only [q1, q2, q3, q4, q5, q6, q7, q8, q9, qa, qb, qc]
  all_goals first | rfl | decide

theorem y14 {a b : Int} (h0 : 0 ≤ a) (h1 : a < 256) (h2 : 0 ≤ b) (h3 : b < 256) : T14 a b true = some (.bool true) := by
  unfold T14
  obtain ⟨x, y, d, e, ex, ey, ed, ee, e1, e2, e3, e4, hx, hy, hd, he⟩ := facts h0 h1 h2 h3
  simp only [ex, ey, ed, ee, e1, e2, e3, e4, e00, e10]
  clear ex ey ed ee e1 e2 e3 e4
  all_goals rcases lt_or (x - y) (-128) with ⟨q1, pq1⟩ | ⟨q1, pq1⟩
  all_goals rcases lt_or (y - x) (-128) with ⟨q2, pq2⟩ | ⟨q2, pq2⟩
  all_goals try (exfalso; omega)
  all_goals rcases lt_or 127 (x - y) with ⟨q3, pq3⟩ | ⟨q3, pq3⟩
  all_goals try (exfalso; omega)
  all_goals rcases lt_or 127 (y - x) with ⟨q4, pq4⟩ | ⟨q4, pq4⟩
  all_goals try (exfalso; omega)
  all_goals rcases lt_or x y with ⟨q5, pq5⟩ | ⟨q5, pq5⟩
  all_goals try (exfalso; omega)
  all_goals rcases lt_or y x with ⟨q6, pq6⟩ | ⟨q6, pq6⟩
  all_goals try (exfalso; omega)
  all_goals rcases lt_or a b with ⟨q7, pq7⟩ | ⟨q7, pq7⟩
  all_goals try (exfalso; omega)
  all_goals rcases lt_or b a with ⟨q8, pq8⟩ | ⟨q8, pq8⟩
  all_goals try (exfalso; omega)
  all_goals rcases eq_or a b with ⟨q9, pq9⟩ | ⟨q9, pq9⟩
  all_goals try (exfalso; omega)
  all_goals rcases eq_or b a with ⟨qa, pqa⟩ | ⟨qa, pqa⟩
  all_goals try (exfalso; omega)
  all_goals rcases lt_or 127 d with ⟨qb, pqb⟩ | ⟨qb, pqb⟩
  all_goals try (exfalso; omega)
  all_goals rcases lt_or 127 e with ⟨qc, pqc⟩ | ⟨qc, pqc⟩
  all_goals try (exfalso; omega)
  all_goals simp only [q1, q2, q3, q4, q5, q6, q7, q8, q9, qa, qb, qc]
  all_goals first | rfl | decide

theorem y15 {a b : Int} (h0 : 0 ≤ a) (h1 : a < 256) (h2 : 0 ≤ b) (h3 : b < 256) : T15 a b true = some (.bool true) := by
  unfold T15
  obtain ⟨x, y, d, e, ex, ey, ed, ee, e1, e2, e3, e4, hx, hy, hd, he⟩ := facts h0 h1 h2 h3
  simp only [ex, ey, ed, ee, e1, e2, e3, e4, e00, e10]
  clear ex ey ed ee e1 e2 e3 e4
  all_goals rcases lt_or (x - y) (-128) with ⟨q1, pq1⟩ | ⟨q1, pq1⟩
  all_goals rcases lt_or (y - x) (-128) with ⟨q2, pq2⟩ | ⟨q2, pq2⟩
  all_goals try (exfalso; omega)
  all_goals rcases lt_or 127 (x - y) with ⟨q3, pq3⟩ | ⟨q3, pq3⟩
  all_goals try (exfalso; omega)
  all_goals rcases lt_or 127 (y - x) with ⟨q4, pq4⟩ | ⟨q4, pq4⟩
  all_goals try (exfalso; omega)
  all_goals rcases lt_or x y with ⟨q5, pq5⟩ | ⟨q5, pq5⟩
  all_goals try (exfalso; omega)
  all_goals rcases lt_or y x with ⟨q6, pq6⟩ | ⟨q6, pq6⟩
  all_goals try (exfalso; omega)
  all_goals rcases lt_or a b with ⟨q7, pq7⟩ | ⟨q7, pq7⟩
  all_goals try (exfalso; omega)
  all_goals rcases lt_or b a with ⟨q8, pq8⟩ | ⟨q8, pq8⟩
  all_goals try (exfalso; omega)
  all_goals rcases eq_or a b with ⟨q9, pq9⟩ | ⟨q9, pq9⟩
  all_goals try (exfalso; omega)
  all_goals rcases eq_or b a with ⟨qa, pqa⟩ | ⟨qa, pqa⟩
  all_goals try (exfalso; omega)
  all_goals rcases lt_or 127 d with ⟨qb, pqb⟩ | ⟨qb, pqb⟩
  all_goals try (exfalso; omega)
  all_goals rcases lt_or 127 e with ⟨qc, pqc⟩ | ⟨qc, pqc⟩
  all_goals try (exfalso; omega)
  all_goals simp only [q1, q2, q3, q4, q5, q6, q7, q8, q9, qa, qb, qc]
  all_goals first | rfl | decide
end Go.Proofs.Ytpabmjpkkhmidaa.condCompares

