/- RegBack comes to true. -/
import Derived.Test.YtpajehginfbamaaDoorRk
namespace Go.Proofs.YtpajehginfbamaaDoor.rg
open Go.Tv Go.Ev

theorem low_turn (t : Int) (i : Nat) (c : UInt8) : lowI (turnB t i c) = lowI c := by
  have := u8I_nn c; have := u8I_lt c
  rw [lowI_eq, lowI_eq]
  unfold turnB
  split
  · rename_i h
    rw [u8I_iU8 (by omega) (by omega)]
    unfold lowN
    rw [if_pos (by omega), if_neg (by omega)]; omega
  · rfl
theorem same_turn (t : Int) : ∀ (s x : List UInt8) (i : Nat), sameB (turnL t s i) x = sameB s x
  | [], [], _ => rfl
  | [], _ :: _, _ => rfl
  | _ :: _, [], _ => rfl
  | c :: s, y :: x, i => by
    show pick2 (eqI (lowI (turnB t i c)) (u8I y)) (sameB (turnL t s (i + 1)) x) false = pick2 (eqI (lowI c) (u8I y)) (sameB s x) false
    rw [low_turn, same_turn t s x]
theorem fnd_turn (t : Int) (s : List UInt8) : ∀ l, fnd (turnL t s 0) l = fnd s l
  | [] => rfl
  | e :: l => by
    show pick2 (sameB (turnL t s 0) e.1) _ (fnd (turnL t s 0) l) = pick2 (sameB s e.1) _ (fnd s l)
    rw [same_turn, fnd_turn t s l]
theorem parse_turn (t : Int) (s : List UInt8) : pR (turnL t s 0) = pR s := fnd_turn t s tbl
theorem parse_nil : pR [] = (0, 0, false) := by kernel_rfl
theorem small_same : ∀ {s x : List UInt8}, sameB s x = true → s.map smallB = x
  | [], [], _ => rfl
  | [], _ :: _, h => by cases h
  | _ :: _, [], h => by cases h
  | c :: s, y :: x, h => by
    have h : pick2 (eqI (lowI c) (u8I y)) (sameB s x) false = true := h
    rw [pick2_eq] at h
    split at h
    · rename_i he
      rw [eqI_spec, beq_iff_eq, lowI_eq] at he
      rw [List.map_cons, small_same h]
      unfold smallB
      rw [he, iU8_u8I]
    · cases h
noncomputable def okE (e : List UInt8 × Int × Int) : Bool := validR e.2.1 e.2.2 && decide (nameR e.2.1 e.2.2 = e.1)
theorem tbl_ok : tbl.all okE = true := by decide +kernel
theorem fnd_spec (s : List UInt8) : ∀ (l : List (List UInt8 × Int × Int)), l.all okE = true → ((fnd s l).2.2 = false ∧ (fnd s l).1 = 0 ∧ (fnd s l).2.1 = 0) ∨ ((fnd s l).2.2 = true ∧ validR (fnd s l).1 (fnd s l).2.1 = true ∧ s.map smallB = nameR (fnd s l).1 (fnd s l).2.1)
  | [], _ => .inl ⟨rfl, rfl, rfl⟩
  | e :: l, h => by
    rw [List.all_cons, Bool.and_eq_true] at h
    have hf : fnd s (e :: l) = if sameB s e.1 = true then (e.2.1, e.2.2, true) else fnd s l := by
      show pick2 (sameB s e.1) _ _ = _
      rw [pick2_eq]
    rw [hf]
    split
    · rename_i hs
      have he := h.1
      unfold okE at he
      rw [Bool.and_eq_true, decide_eq_true_eq] at he
      exact .inr ⟨rfl, he.1, by rw [small_same hs, he.2]⟩
    · exact fnd_spec s l h.2
theorem name_short : ∀ (c n : Int), (nameR c n).length ≤ 999999 := by
  intro c n
  cases h : validR c n
  · unfold nameR; rw [h]; exact Nat.zero_le _
  · rcases fnd_spec (nameR c n) tbl tbl_ok with h1 | h1
    · have := parse_name h
      unfold pR at this
      rw [this] at h1
      cases h1.1
    · have hp : pR (nameR c n) = (c, n, true) := parse_name h
      have hl : ∀ l : List (List UInt8 × Int × Int), (l.all fun e => Nat.ble e.1.length 999999) = true → ∀ s, (fnd s l).2.2 = true → s.length ≤ 999999 := by
        intro l
        induction l with
        | nil => intro _ s hh; cases hh
        | cons e l ih =>
          intro hall s hh
          rw [List.all_cons, Bool.and_eq_true] at hall
          have hf : fnd s (e :: l) = if sameB s e.1 = true then (e.2.1, e.2.2, true) else fnd s l := by
            show pick2 (sameB s e.1) _ _ = _
            rw [pick2_eq]
          rw [hf] at hh
          split at hh
          · rename_i hs
            have h3 := congrArg List.length (small_same hs)
            rw [List.length_map] at h3
            have := Nat.le_of_ble_eq_true hall.1
            omega
          · exact ih hall.2 s hh
      exact hl tbl (by decide +kernel) (nameR c n) h1.1

noncomputable def tailK (s : List UInt8) : Option AV := pick2 (!(pR s).2.2) (some (.bool true)) (pick2 (validR (pR s).1 (pR s).2.1) (pick2 (Nat.ble s.length 999999) (some (.bool (decide (s.map smallB = nameR (pR s).1 (pR s).2.1)))) none) (some (.bool false)))
noncomputable def restK (s : List UInt8) : Option AV := pick2 (pR s).2.2 (tailK s) (pick2 (decide ((pR s).1 = 0) && decide ((pR s).2.1 = 0)) (tailK s) (some (.bool false)))
noncomputable def midK (c n : Int) (p : Int × Int × Bool) (s : List UInt8) : Option AV := pick2 (decide (nameR c n = []) == p.2.2) (some (.bool false)) (restK s)
theorem treeBack (c n t : Int) (s : List UInt8) : enterT X0 (c8 AV) an0 5 8 [.agg [.int .i64 c, .int .i64 n], .str s, .int .i64 t] TMem.empty (fun v _ => some v) =
    pick2 (ltI 40 ↑s.length) (some (.bool true)) (pick2 (Nat.ble (nameR c n).length 999999) (pick2 (!(pR (turnL t (nameR c n) 0)).2.2 == validR c n) (some (.bool false))
      (pick2 (pR (turnL t (nameR c n) 0)).2.2 (pick2 (!(decide ((pR (turnL t (nameR c n) 0)).1 = c) && decide ((pR (turnL t (nameR c n) 0)).2.1 = n))) (some (.bool false)) (midK c n (pR (turnL t (nameR c n) 0)) s)) (midK c n (pR (turnL t (nameR c n) 0)) s))) none) := by kernel_rfl

theorem rest_true {s : List UInt8} (hs : s.length ≤ 40) : restK s = some (.bool true) := by
  unfold restK tailK
  rcases fnd_spec s tbl tbl_ok with ⟨h1, h2, h3⟩ | ⟨h1, h2, h3⟩
  · have e1 : (pR s).2.2 = false := h1
    have e2 : (pR s).1 = 0 := h2
    have e3 : (pR s).2.1 = 0 := h3
    rw [e1, decide_eq_true e2, decide_eq_true e3]; rfl
  · have e1 : (pR s).2.2 = true := h1
    have e2 : validR (pR s).1 (pR s).2.1 = true := h2
    have e3 : s.map smallB = nameR (pR s).1 (pR s).2.1 := h3
    rw [e1, e2, decide_eq_true e3, bleT (by omega)]; rfl
theorem back (c n t : Int) (s : List UInt8) : enterT X0 (c8 AV) an0 5 8 [.agg [.int .i64 c, .int .i64 n], .str s, .int .i64 t] TMem.empty (fun v _ => some v) = some (.bool true) := by
  rw [treeBack, pick_lt]
  split
  · rfl
  rename_i hs
  rw [bleT (name_short c n), parse_turn]
  unfold midK
  rw [rest_true (by omega)]
  cases hv : validR c n
  · have hn : nameR c n = [] := by unfold nameR; rw [hv]
    rw [hn, parse_nil, decide_eq_true rfl]
    try rfl
  · rw [parse_name hv]
    have hn : nameR c n ≠ [] := fun h => by
      have := parse_name hv
      rw [h, parse_nil] at this
      cases this
    rw [decide_eq_false hn, decide_eq_true rfl, decide_eq_true rfl]
    try rfl
end Go.Proofs.YtpajehginfbamaaDoor.rg
