/- TokenBack: what is read may be. -/
import Derived.Test.YtcafcgiemdlobaaDoorTb2
namespace Go.Proofs.YtcafcgiemdlobaaDoor.lt
open Go.Tv Go.Ev

theorem cut_next {s : List UInt8} {a e : Nat} (hae : a ≤ e) {c : UInt8} {r : List UInt8} (hd : s.drop e = c :: r) : cutL s (a : Int) ((e + 1 : Nat) : Int) = cutL s (a : Int) (e : Int) ++ [c] := by
  unfold cutL
  simp only [Int.toNat_natCast]
  have e1 : e + 1 - a = (e - a) + 1 := by omega
  have e2 : (s.drop a)[e - a]? = some c := by
    rw [List.getElem?_drop, show a + (e - a) = e by omega]
    have : s[e]? = (s.drop e)[0]? := by simp
    rw [this, hd]; rfl
  rw [e1, List.take_add_one, e2]; rfl
theorem cut_len {s : List UInt8} (a e : Nat) : (cutL s (a : Int) (e : Int)).length ≤ e - a := by unfold cutL; simp; omega
theorem cut_le {s : List UInt8} (a e : Int) : (cutL s a e).length ≤ s.length := by unfold cutL; simp; omega
theorem drop_next {s : List UInt8} {e : Nat} {c : UInt8} {r : List UInt8} (hd : s.drop e = c :: r) : s.drop (e + 1) = r := by rw [← List.drop_drop, hd]; rfl
theorem nameL_more (s : List UInt8) (a : Nat) : ∀ (rest : List UInt8) (e : Nat), s.drop e = rest → a ≤ e → e ≤ a + 60 → (cutL s a e).all moreB = true → (nameL s a rest e).2.2.1 = 0 → (nameL s a rest e).1.all moreB = true ∧ (nameL s a rest e).1.length ≤ 60
  | [], e, _, h2, h3, h4, _ => ⟨h4, by show (cutL s a e).length ≤ 60; have := cut_len (s := s) a e; omega⟩
  | c :: r, e, h1, h2, h3, h4, h5 => by
    rw [nameL] at h5 ⊢
    split at h5
    · rename_i hm
      rw [if_pos hm]
      split at h5
      · exact absurd h5 (by simp)
      · rename_i h60
        rw [if_neg h60]
        have hm : moreB c = true := hm
        refine nameL_more s a r (e + 1) (drop_next h1) (by omega) (by omega) ?_ h5
        rw [cut_next h2 h1, List.all_append, h4]; simp [hm]
    · rename_i hm
      rw [if_neg hm]
      exact ⟨h4, by show (cutL s a e).length ≤ 60; have := cut_len (s := s) a e; omega⟩
theorem nameL_head (s : List UInt8) (a : Nat) {d : UInt8} : ∀ (rest : List UInt8) (e : Nat), s.drop e = rest → a ≤ e → (cutL s a e).head? = some d → (nameL s a rest e).2.2.1 = 0 → (nameL s a rest e).1.head? = some d
  | [], e, _, _, h4, _ => h4
  | c :: r, e, h1, h2, h4, h5 => by
    rw [nameL] at h5 ⊢
    split at h5
    · rename_i hm
      rw [if_pos hm]
      split at h5
      · exact absurd h5 (by simp)
      · rename_i h60
        rw [if_neg h60]
        refine nameL_head s a r (e + 1) (drop_next h1) (by omega) ?_ h5
        rw [cut_next h2 h1, List.head?_append, h4]; rfl
    · rename_i hm
      rw [if_neg hm]; exact h4
theorem quoteL_plain (s : List UInt8) (a : Nat) : ∀ (rest : List UInt8) (e : Nat), s.drop e = rest → a + 1 ≤ e → (cutL s ((a + 1 : Nat) : Int) e).all plainB = true → (quoteL s a rest e).2.2.1 = 0 → (quoteL s a rest e).1.all plainB = true
  | [], e, _, _, _, h => by exact absurd h (by rw [quoteL]; simp)
  | c :: r, e, h1, h2, h4, h5 => by
    rw [quoteL] at h5 ⊢
    split at h5
    · rename_i hq
      rw [if_pos hq]; exact h4
    · rename_i hq
      rw [if_neg hq]
      split at h5
      · rename_i hp
        rw [if_pos hp]
        refine quoteL_plain s a r (e + 1) (drop_next h1) (by omega) ?_ h5
        have hb : plainB c = true := by unfold plainB; rw [hp, eqF hq]; rfl
        rw [cut_next h2 h1, List.all_append, h4]; simp [hb]
      · exact absurd h5 (by simp)
theorem signL_mem (s : List UInt8) (a : Nat) : ∀ l : List (List UInt8), (signL s a l).2.2.1 = 0 → (signL s a l).1 ∈ l
  | [], h => by exact absurd h (by rw [signL]; simp)
  | g :: l, h => by
    rw [signL] at h ⊢
    split at h
    · rename_i hp; rw [if_pos hp]; exact List.mem_cons_self ..
    · rename_i hp; rw [if_neg hp]; exact List.mem_cons_of_mem _ (signL_mem s a l h)
theorem quoteL_cut' (s : List UInt8) (a : Nat) : ∀ (rest : List UInt8) (e : Nat), (quoteL s a rest e).2.2.1 = 0 → (quoteL s a rest e).1 = cutL s (a + 1) ((quoteL s a rest e).2.1 - 1) := by
  intro rest
  induction rest with
  | nil => intro e h; exact absurd h (by simp [quoteL])
  | cons c r ih =>
    intro e h
    rw [quoteL] at h ⊢
    split at h
    · rename_i hm
      rw [if_pos hm]
      show cutL s (a + 1) e = cutL s (a + 1) ((e : Int) + 1 - 1)
      rw [show (e : Int) + 1 - 1 = e by omega]
    · rename_i hm
      rw [if_neg hm]
      split at h
      · rename_i hp
        rw [if_pos hp]
        exact ih (e + 1) h
      · exact absurd h (by simp)
theorem lexF_cnt (s : List UInt8) : ∀ (n : Nat) (left : List UInt8), (lexF s n left).1.length ≤ n := by
  intro n
  induction n with
  | zero => intro left; exact Nat.le_refl _
  | succ n ih =>
    intro left
    match left with
    | [] => exact Nat.zero_le _
    | c :: r =>
      rw [lexF]
      split
      · exact Nat.le_succ_of_le (ih r)
      · split
        · exact Nat.zero_le _
        · split
          · exact Nat.succ_le_succ (ih _)
          · exact Nat.zero_le _
def inN (n : Int) : Prop := -9223372036854775808 ≤ n ∧ n < 9223372036854775808
theorem inN_wrap (n : Int) : inN (IntKind.wrap .i64 n) := by unfold inN; rw [i64_of]; split <;> omega
theorem inN_0 : inN 0 := by unfold inN; omega
theorem textL_in (len : Nat) : ∀ (rest : List UInt8) (k N i : Nat), inN (textL len rest k N i).1
  | [], _, _, _ => inN_0
  | c :: r, k, N, i => by
    rw [textL]
    split
    · split
      · exact inN_0
      · exact inN_wrap _
    · split
      · exact inN_0
      · split
        · exact inN_0
        · exact textL_in len r _ _ _
theorem scanS_in (s : List UInt8) (a : Int) : inN (scanS s a).1 := by
  unfold scanS
  split
  · exact inN_0
  · split
    · exact inN_0
    · split
      · exact textL_in _ _ _ _ _
      · split
        · unfold wordS
          split
          · exact inN_0
          · split
            · exact inN_0
            · exact inN_wrap _
        · exact inN_0
theorem cond_of {k n a : Int} {S : List UInt8} (hn : inN n) (hS : S.length ≤ 1100) : condW (k, n, S, a) = true := by
  unfold condW
  rw [ltF hn.1, ltT hn.2, bleT hS]; rfl
/-- What is read may be. -/
theorem piece_valid {s : List UInt8} (hs : s.length ≤ 1000) {a : Nat} {c : UInt8} {r : List UInt8} (hd : s.drop a = c :: r) (h : (pieceS s c a).2.2.1 = 0) : validB (pieceS s c a).1 = true ∧ condW (pieceS s c a).1 = true := by
  have c0 : cutL s (a : Int) (a : Int) = [] := by unfold cutL; simp
  unfold pieceS at h ⊢
  split at h
  · rename_i hf
    rw [if_pos hf]
    have h : (nameC s a).2.2.1 = 0 := h
    unfold nameC at h ⊢
    obtain ⟨m1, m2⟩ := nameL_more s a (s.drop a) a rfl (Nat.le_refl _) (by omega) (by rw [c0]; rfl) h
    refine ⟨?_, cond_of inN_0 (by omega)⟩
    have hh : (nameL s a (s.drop a) a).1.head? = some c := by
      rw [hd] at h ⊢
      rw [nameL] at h ⊢
      have hm : moreI (u8I c) = true := first_more hf
      rw [if_pos hm, if_neg (by omega)] at h ⊢
      refine nameL_head s a r (a + 1) (drop_next hd) (by omega) ?_ h
      rw [cut_next (Nat.le_refl _) hd, c0]; rfl
    show nameB _ = true
    cases hS : (nameL s a (s.drop a) a).1 with
    | nil => rw [hS] at hh; cases hh
    | cons d q =>
      rw [hS] at hh m1 m2
      have : d = c := by simpa using hh
      subst this
      show (decide (q.length < 60) && firstI (u8I d) && (d :: q).all moreB) = true
      simp only [List.length_cons] at m2
      rw [decide_eq_true (by omega), hf, m1]; rfl
  · rename_i hf
    rw [if_neg hf]
    split at h
    · rename_i hq
      rw [if_pos hq]
      exact ⟨rfl, cond_of (scanS_in s a) (by simp)⟩
    · rename_i hq
      rw [if_neg hq]
      split at h
      · rename_i h34
        rw [if_pos h34]
        have h : (quoteC s a).2.2.1 = 0 := h
        unfold quoteC at h ⊢
        have hp := quoteL_plain s a (s.drop (a + 1)) (a + 1) rfl (Nat.le_refl _) (by unfold cutL; simp) h
        have hl : (quoteL s a (s.drop (a + 1)) (a + 1)).1.length ≤ 1100 := by
          rw [quoteL_cut' s a _ _ h]
          have := cut_le (s := s) ((a : Int) + 1) ((quoteL s a (s.drop (a + 1)) (a + 1)).2.1 - 1)
          omega
        refine ⟨?_, cond_of inN_0 hl⟩
        show ((quoteL s a (s.drop (a + 1)) (a + 1)).1.all plainB && eqI 0 0) = true
        rw [hp]; rfl
      · rename_i h34
        rw [if_neg h34]
        have h : (signC s a).2.2.1 = 0 := h
        unfold signC at h ⊢
        have hm := signL_mem s a signsL h
        have hm : (signL s a signsL).1 ∈ sgns := hm
        have hl : ∀ S ∈ sgns, S.length ≤ 1100 := by decide
        refine ⟨?_, cond_of inN_0 (hl _ hm)⟩
        show (sgns.any (fun p => decide ((signL s a signsL).1 = p)) && eqI 0 0) = true
        rw [List.any_eq_true.2 ⟨_, hm, decide_eq_true rfl⟩]; rfl
theorem lex_valid (s : List UInt8) (hs : s.length ≤ 1000) : ∀ (n : Nat) (left : List UInt8), left.length ≤ n → s.drop (s.length - left.length) = left → left.length ≤ s.length → ∀ y ∈ (lexF s n left).1, validB y = true ∧ condW y = true := by
  intro n
  induction n with
  | zero => intro left _ _ _ y hy; cases hy
  | succ n ih =>
    intro left h1 h3 h4
    match left, h1, h3, h4 with
    | [], _, _, _ => intro y hy; cases hy
    | c :: r, h1, h3, h4 =>
      rw [List.length_cons] at h1 h3 h4
      have hr : s.drop (s.length - r.length) = r := by
        have : s.length - r.length = s.length - (r.length + 1) + 1 := by omega
        rw [this, ← List.drop_drop, h3]; rfl
      rw [lexF]
      split
      · exact ih r (by omega) hr (by omega)
      · split
        · intro y hy; cases hy
        · split
          · rename_i hp
            have he := piece_end h3 hp
            intro y hy
            rcases List.mem_cons.1 hy with rfl | hy
            · exact piece_valid hs h3 hp
            · exact ih _ (by simp only [List.length_drop]; omega) (by rw [List.length_drop]; congr 1; omega) (by simp only [List.length_drop]; omega) y hy
          · intro y hy; cases hy
/-- What is read has pieces that may be, or none; a fault stands in the text. -/
theorem lexC_valid (s : List UInt8) : (∀ y ∈ (lexC s).1, validB y = true ∧ condW y = true) ∧ (lexC s).1.length ≤ 1000 := by
  unfold lexC
  split
  · exact ⟨fun y hy => (by cases hy), (by simp)⟩
  · rename_i hl
    split
    · exact ⟨lex_valid s (by omega) s.length s (Nat.le_refl _) (by simp) (Nat.le_refl _), (by have := lexF_cnt s s.length s; show (lexF s s.length s).1.length ≤ 1000; omega)⟩
    · exact ⟨fun y hy => (by cases hy), (by simp)⟩
/-- A place within a text, or behind it. -/
def inS (s : List UInt8) (n : Int) : Prop := 0 ≤ n ∧ n ≤ s.length
theorem drop_lt {s : List UInt8} {e : Nat} {c : UInt8} {r : List UInt8} (hd : s.drop e = c :: r) : e < s.length := by
  have := congrArg List.length hd; simp at this; omega
theorem nameL_fault (s : List UInt8) (a : Nat) : ∀ (rest : List UInt8) (e : Nat), s.drop e = rest → inS s (nameL s a rest e).2.2.2
  | [], e, _ => ⟨Int.le_refl _, by show (0 : Int) ≤ _; omega⟩
  | c :: r, e, h1 => by
    rw [nameL]
    split
    · split
      · have := drop_lt h1
        exact ⟨by show (0 : Int) ≤ e; omega, by show (e : Int) ≤ _; omega⟩
      · exact nameL_fault s a r (e + 1) (drop_next h1)
    · exact ⟨Int.le_refl _, by show (0 : Int) ≤ _; omega⟩
theorem quoteL_fault (s : List UInt8) (a : Nat) : ∀ (rest : List UInt8) (e : Nat), s.drop e = rest → inS s (quoteL s a rest e).2.2.2
  | [], e, _ => ⟨by show (0 : Int) ≤ s.length; omega, by show (s.length : Int) ≤ _; omega⟩
  | c :: r, e, h1 => by
    rw [quoteL]
    split
    · exact ⟨Int.le_refl _, by show (0 : Int) ≤ _; omega⟩
    · split
      · exact quoteL_fault s a r (e + 1) (drop_next h1)
      · have := drop_lt h1
        exact ⟨by show (0 : Int) ≤ e; omega, by show (e : Int) ≤ _; omega⟩
theorem signL_fault (s : List UInt8) (a : Nat) (ha : a ≤ s.length) : ∀ l : List (List UInt8), inS s (signL s a l).2.2.2
  | [] => ⟨by show (0 : Int) ≤ a; omega, by show (a : Int) ≤ _; omega⟩
  | g :: l => by
    rw [signL]
    split
    · exact ⟨Int.le_refl _, by show (0 : Int) ≤ _; omega⟩
    · exact signL_fault s a ha l
theorem textL_fault (s : List UInt8) : ∀ (rest : List UInt8) (k N i : Nat), s.drop i = rest → inS s (textL s.length rest k N i).2.2.2
  | [], _, _, i, _ => ⟨by show (0 : Int) ≤ s.length; omega, by show (s.length : Int) ≤ _; omega⟩
  | c :: r, k, N, i, h1 => by
    have hi := drop_lt h1
    have h0 : inS s (0 : Int) := ⟨Int.le_refl _, by omega⟩
    have hI : inS s (i : Int) := ⟨by omega, by omega⟩
    rw [textL]
    split
    · split
      · exact hI
      · exact h0
    · split
      · exact hI
      · split
        · exact hI
        · exact textL_fault s r _ _ _ (drop_next h1)
theorem wrongD_at (b : Int) : ∀ (d : List UInt8) (f q : Bool) (i j : Nat), wrongD b f q d i = some j → j ≤ i + d.length
  | [], f, q, i, j, h => by
    cases f
    · cases h
    · cases h; omega
  | c :: r, f, q, i, j, h => by
    rw [wrongD] at h
    simp only [List.length_cons]
    split at h
    · split at h
      · cases h; omega
      · have := wrongD_at b r _ _ _ _ h; omega
    · split at h
      · cases h; omega
      · have := wrongD_at b r _ _ _ _ h; omega
theorem digS_at (b : Nat) (d : List UInt8) : (digS b d).2.1 ≤ d.length := by
  unfold digS
  split
  · rename_i i h
    have := wrongD_at b d _ _ _ _ h
    show (i : Int) ≤ d.length
    omega
  · show (-1 : Int) ≤ d.length
    omega
theorem wordS_fault (w : List UInt8) (hw : w ≠ []) (a : Nat) : 0 ≤ (wordS w a).2.2.2 ∧ (wordS w a).2.2.2 ≤ (a : Int) + w.length := by
  obtain ⟨h1, _, _⟩ := parts_le w hw
  have h2 := digS_at (partsS w).2.2 ((w.take (w.length - (partsS w).2.1)).drop (partsS w).1)
  have h3 : ((w.take (w.length - (partsS w).2.1)).drop (partsS w).1).length + (partsS w).1 ≤ w.length := by simp only [List.length_drop, List.length_take]; omega
  unfold wordS
  split
  · rename_i h0
    show 0 ≤ (a : Int) + (partsS w).1 + (digS (partsS w).2.2 ((w.take (w.length - (partsS w).2.1)).drop (partsS w).1)).2.1 ∧ (a : Int) + (partsS w).1 + (digS (partsS w).2.2 ((w.take (w.length - (partsS w).2.1)).drop (partsS w).1)).2.1 ≤ _
    omega
  · split
    · show 0 ≤ (a : Int) ∧ (a : Int) ≤ _
      omega
    · show (0 : Int) ≤ 0 ∧ (0 : Int) ≤ _
      omega
theorem piece_fault {s : List UInt8} {a : Nat} {c : UInt8} {r : List UInt8} (hd : s.drop a = c :: r) : inS s (pieceS s c a).2.2.2 := by
  have ha := drop_lt hd
  unfold pieceS
  split
  · exact nameL_fault s a _ a rfl
  · split
    · rename_i hq
      show inS s (scanS s (a : Int)).2.2.2
      rw [scan_head hd]
      split
      · exact textL_fault s _ _ _ _ rfl
      · split
        · rename_i h48
          have hw : wordI (u8I c) = true := by unfold wordI; simp; omega
          have e : ((s.drop a).takeWhile fun c => wordI (u8I c)) = c :: (r.takeWhile fun c => wordI (u8I c)) := by rw [hd, List.takeWhile_cons, if_pos hw]
          have hl : s.length - a = r.length + 1 := by have := congrArg List.length hd; simpa using this
          have h3 := (List.takeWhile_sublist (fun c => wordI (u8I c)) (l := r)).length_le
          obtain ⟨f1, f2⟩ := wordS_fault ((s.drop a).takeWhile fun c => wordI (u8I c)) (by rw [e]; simp) a
          rw [e, List.length_cons] at f2
          rw [e] at f1 ⊢
          exact ⟨f1, by omega⟩
        · exact ⟨by show (0 : Int) ≤ a; omega, by show (a : Int) ≤ _; omega⟩
    · split
      · exact quoteL_fault s a _ (a + 1) rfl
      · exact signL_fault s a (by omega) _
theorem lex_fault (s : List UInt8) : ∀ (n : Nat) (left : List UInt8), left.length ≤ n → s.drop (s.length - left.length) = left → left.length ≤ s.length → inS s (lexF s n left).2.2 := by
  have h0 : inS s (0 : Int) := ⟨Int.le_refl _, by omega⟩
  intro n
  induction n with
  | zero => intro left _ _ _; exact h0
  | succ n ih =>
    intro left h1 h3 h4
    match left, h1, h3, h4 with
    | [], _, _, _ => exact h0
    | c :: r, h1, h3, h4 =>
      rw [List.length_cons] at h1 h3 h4
      have hr : s.drop (s.length - r.length) = r := by
        have : s.length - r.length = s.length - (r.length + 1) + 1 := by omega
        rw [this, ← List.drop_drop, h3]; rfl
      rw [lexF]
      split
      · exact ih r (by omega) hr (by omega)
      · split
        · exact h0
        · split
          · rename_i hp
            have he := piece_end h3 hp
            exact ih _ (by simp only [List.length_drop]; omega) (by rw [List.length_drop]; congr 1; omega) (by simp only [List.length_drop]; omega)
          · exact piece_fault h3
theorem lexC_fault (s : List UInt8) : inS s (lexC s).2.2 ∧ ((lexC s).2.1 ≠ 0 → (lexC s).1 = []) := by
  unfold lexC
  split
  · exact ⟨⟨by show (0 : Int) ≤ 1000; omega, by show (1000 : Int) ≤ _; omega⟩, fun _ => rfl⟩
  · split
    · exact ⟨⟨Int.le_refl _, by show (0 : Int) ≤ _; omega⟩, fun h => absurd rfl h⟩
    · exact ⟨lex_fault s s.length s (Nat.le_refl _) (by simp) (Nat.le_refl _), fun _ => rfl⟩
end Go.Proofs.YtcafcgiemdlobaaDoor.lt
