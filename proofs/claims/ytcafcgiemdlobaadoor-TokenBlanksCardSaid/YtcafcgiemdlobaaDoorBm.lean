/- TokenBlanks: the run. -/
import Derived.Test.YtcafcgiemdlobaaDoorBl
import Derived.Test.YtcafcgiemdlobaaDoorTr
namespace Go.Proofs.YtcafcgiemdlobaaDoor.lt
open Go.Tv Go.Ev

theorem piece_place (s : List UInt8) (c : UInt8) (a : Nat) : (pieceS s c a).1.2.2.2 = (a : Int) := by
  unfold pieceS
  repeat' split
  all_goals rfl
theorem lex_place (s : List UInt8) : ∀ (n : Nat) (left : List UInt8), ∀ y ∈ (lexF s n left).1, 0 ≤ y.2.2.2 ∧ y.2.2.2 ≤ s.length := by
  intro n
  induction n with
  | zero => intro left y hy; exact absurd hy (by simp [lexF])
  | succ n ih =>
    intro left y hy
    match left with
    | [] => exact absurd hy (by simp [lexF])
    | c :: r =>
      rw [lexF] at hy
      split at hy
      · exact ih r y hy
      · split at hy
        · exact absurd hy (by simp)
        · split at hy
          · rcases List.mem_cons.1 hy with rfl | hy
            · rw [piece_place]; omega
            · exact ih _ y hy
          · exact absurd hy (by simp)

noncomputable def endBl (s k : List UInt8) (l : List Piece) (r : Nat) (ahead : List UInt8) : Option AV :=
  pick2 (Nat.ble (ahead.length + s.length) 9223372036854775807) (pick2 (Nat.ble ((ahead ++ s).length + ahead.length) 9223372036854775807) (pick2 (Nat.ble ((ahead ++ s ++ ahead).length + 1) 9223372036854775807)
    (pick2 (Nat.ble ((ahead ++ s ++ ahead ++ [59]).length + k.length) 9223372036854775807)
      (pick2 (!eqI (lexC (around ahead s k)).2.1 0) (some (.bool false)) (pick2 (Nat.ble (lexC (around ahead s k)).1.length 1000000) (pick2 (!alikeL (lexC (around ahead s k)).1 l) (some (.bool false)) (jBm l ahead (lexC (around ahead s k)).1 r r 0)) none)) none) none) none) none
theorem stepBl (s : List UInt8) (tabs : List Bool) (k : List UInt8) (l : List Piece) (r m : Nat) (ahead : List UInt8) (i : Int) : jBl s tabs k l r (m + 1) ahead i =
    pick2 (ltI i ↑tabs.length) (Option.rec (motive := fun _ => Option AV) none (fun y => pick2 y
      (pick2 (Nat.ble (ahead.length + 1) 9223372036854775807) (jBl s tabs k l r m (ahead ++ [9]) (IntKind.wrap .i64 (i + 1))) none)
      (pick2 (Nat.ble (ahead.length + 1) 9223372036854775807) (jBl s tabs k l r m (ahead ++ [32]) (IntKind.wrap .i64 (i + 1))) none)) (getI tabs i)) (endBl s k l r ahead) := by kernel_rfl
theorem stepBm (l : List Piece) (ahead : List UInt8) (y : List Piece) (r m : Nat) (i : Int) : jBm l ahead y r (m + 1) i =
    pick2 (ltI i ↑l.length) (twoP y l i fun a b => pick2 (!eqI a.2.2.2 (IntKind.wrap .i64 (b.2.2.2 + ↑ahead.length))) (some (.bool false)) (jBm l ahead y r m (IntKind.wrap .i64 (i + 1)))) (some (.bool true)) := by kernel_rfl
theorem enterBl (s : List UInt8) (tabs : List Bool) (k : List UInt8) (m : Nat) : enterT (Xg gvS) (d7 AV) anBl m 3 [.str s, .lst .bool tabs, .str k] TMem.empty (fun v _ => some v) =
    pick2 (ltI 500 ↑s.length) (some (.bool true)) (pick2 (ltI 50 ↑tabs.length) (some (.bool true)) (pick2 (ltI 100 ↑k.length) (some (.bool true)) (pick2 (!eqI (lexC s).2.1 0) (some (.bool true)) (jBl s tabs k (lexC s).1 m m [] 0)))) := by kernel_rfl

def blankB (tabs : List Bool) : List UInt8 := tabs.map fun b => if b then 9 else 32
theorem blankB_is (tabs : List Bool) : ∀ x ∈ blankB tabs, u8I x = 32 ∨ u8I x = 9 := by
  intro x hx
  unfold blankB at hx
  obtain ⟨b, _, rfl⟩ := List.mem_map.1 hx
  cases b
  · exact .inl rfl
  · exact .inr rfl

theorem loopBl (s k : List UInt8) (l : List Piece) (r : Nat) : ∀ (rest pre : List Bool) (m : Nat), rest.length < m → (pre ++ rest).length ≤ 50 →
    jBl s (pre ++ rest) k l r m (blankB pre) (pre.length : Int) = endBl s k l r (blankB (pre ++ rest)) := by
  intro rest
  induction rest with
  | nil =>
    intro pre m h1 _
    obtain ⟨m, rfl⟩ : ∃ m', m = m' + 1 := ⟨m - 1, by omega⟩
    rw [stepBl, ltF (by simp), List.append_nil]
  | cons b rest ih =>
    intro pre m h1 h2
    obtain ⟨m, rfl⟩ : ∃ m', m = m' + 1 := ⟨m - 1, by omega⟩
    simp only [List.length_cons, List.length_append] at h1 h2
    have hb : (blankB pre).length = pre.length := by unfold blankB; simp
    rw [stepBl, ltT (by simp only [List.length_append, List.length_cons]; omega), getI_at, bleT (by omega), i64_in (by omega) (by omega)]
    have := ih (pre ++ [b]) m (by omega) (by simp only [List.length_append, List.length_cons, List.length_nil]; omega)
    simp only [List.append_assoc, List.singleton_append, List.length_append, List.length_cons, List.length_nil] at this
    have e : ((pre.length + (0 + 1) : Nat) : Int) = (pre.length : Int) + 1 := by omega
    rw [e] at this
    rw [← this]
    have e2 : blankB (pre ++ [b]) = blankB pre ++ [if b then 9 else 32] := by unfold blankB; simp
    rw [e2]
    cases b <;> rfl

theorem loopBm (ahead : List UInt8) (ha : ahead.length ≤ 50) (r : Nat) : ∀ (rest pre : List Piece) (m : Nat), rest.length < m → (pre ++ rest).length ≤ 1000000 → (∀ y ∈ rest, 0 ≤ y.2.2.2 ∧ y.2.2.2 ≤ 1000) →
    jBm (pre ++ rest) ahead ((pre ++ rest).map (onP ahead.length)) r m (pre.length : Int) = some (.bool true) := by
  intro rest
  induction rest with
  | nil =>
    intro pre m h1 _ _
    obtain ⟨m, rfl⟩ : ∃ m', m = m' + 1 := ⟨m - 1, by omega⟩
    rw [stepBm, ltF (by simp)]
  | cons b rest ih =>
    intro pre m h1 h2 h3
    obtain ⟨m, rfl⟩ : ∃ m', m = m' + 1 := ⟨m - 1, by omega⟩
    simp only [List.length_cons, List.length_append] at h1 h2
    have hb := h3 b (List.mem_cons_self ..)
    rw [stepBm, ltT (by simp only [List.length_append, List.length_cons]; omega)]
    have h4 := twoP_at (pre.map (onP ahead.length)) pre (rest.map (onP ahead.length)) rest (onP ahead.length b) b (by simp)
    rw [List.length_map] at h4
    show twoP ((pre ++ b :: rest).map (onP ahead.length)) (pre ++ b :: rest) (pre.length : Int) _ = _
    rw [List.map_append, List.map_cons, h4, i64_in (by omega) (by omega), i64_in (by omega) (by omega), eqT (by unfold onP; rfl)]
    have := ih (pre ++ [b]) m (by omega) (by simp only [List.length_append, List.length_cons, List.length_nil]; omega) (fun y hy => h3 y (List.mem_cons_of_mem _ hy))
    simp only [List.append_assoc, List.singleton_append, List.length_append, List.length_cons, List.length_nil, List.map_append, List.map_cons] at this
    have e : ((pre.length + (0 + 1) : Nat) : Int) = (pre.length : Int) + 1 := by omega
    rw [e] at this
    exact this
theorem alike_on (P : Nat) : ∀ l : List Piece, alikeL (l.map (onP P)) l = true
  | [] => rfl
  | x :: l => by
    rw [List.map_cons, alikeL, alike_on P l, Bool.and_true]
    unfold alikeP onP; simp

theorem blanks (s : List UInt8) (tabs : List Bool) (k : List UInt8) : enterT (Xg gvS) (d7 AV) anBl 1002 3 [.str s, .lst .bool tabs, .str k] TMem.empty (fun v _ => some v) = some (.bool true) := by
  rw [enterBl]
  by_cases h1 : 500 < s.length
  · rw [ltT (by omega)]
  rw [ltF (by omega)]
  by_cases h2 : 50 < tabs.length
  · rw [ltT (by omega)]
  rw [ltF (by omega)]
  by_cases h3 : 100 < k.length
  · rw [ltT (by omega)]
  rw [ltF (by omega)]
  by_cases hf : (lexC s).2.1 = 0
  case neg => rw [eqF hf]; rfl
  rw [eqT hf]
  show jBl s tabs k (lexC s).1 1002 1002 [] 0 = _
  have hC : (lexC s).1 = (lexF s s.length s).1 := by
    unfold lexC at hf ⊢
    rw [if_neg (by omega)] at hf ⊢
    split at hf
    · rename_i h0; rw [if_pos h0]
    · rename_i h0; exact absurd hf h0
  have hn : (lexC s).1.length ≤ s.length := by rw [hC]; exact lexF_len s s.length s
  refine (loopBl s k (lexC s).1 1002 tabs [] 1002 (by omega) (by simp; omega)).trans ?_
  rw [List.nil_append]
  have hb : (blankB tabs).length = tabs.length := by unfold blankB; simp
  have hA := lex_around (blankB tabs) s k (blankB_is tabs) (by omega) (by omega) (by omega) hf
  unfold endBl
  rw [bleT (by omega), bleT (by simp only [List.length_append]; omega), bleT (by simp only [List.length_append]; omega), bleT (by simp only [List.length_append, List.length_cons, List.length_nil]; omega), hA, eqT rfl, bleT (by simp only [List.length_map]; omega), alike_on]
  exact loopBm (blankB tabs) (by omega) 1002 (lexC s).1 [] 1002 (by omega) (by simp; omega) (fun y hy => by
    rw [hC] at hy
    have := lex_place s s.length s y hy
    omega)
end Go.Proofs.YtcafcgiemdlobaaDoor.lt
