/- Expressions: what an expression comes to that hangs on nothing. -/
import Derived.Test.YtpaddkkfefgkfaaDoorEk
namespace Go.Proofs.YtpaddkkfefgkfaaDoor.ex
open Go.Tv Go.Ev Go.Px
noncomputable section
def pF1 : List Bool := [true, true, true, true, false, true, false]
def pF2 : List Bool := [true, true, true, true, true, true, true, true, true, true, false, true, false]
def annPre (a : Ann) : List Bool → Ann
  | [] => a
  | d :: p => pick2 d (.node none .none (annPre a p)) (.node none (annPre a p) .none)
def anF : FnAnn := ⟨annPre (.node none (annOf [0, 1, 2, 3, 9, 10, 11] [true, false]) (annOf [12, 1, 9, 10, 14, 15, 22] [true, true, true, true, true, false, true, false])) [true, true, true, true], .none, []⟩
def jF1 (x : List Nd) (l : List Sym) (h s : Int) (r m : Nat) (b : Bool) (i : Int) : Option AV := loopN X0 (cN M15 [] AV) anF r 3 pF1 (fun v _ => some v) m (frOf 159 [(0, .lst tyNd x), (1, .lst tySym l), (2, .int .i64 h), (3, .int .i64 s), (9, .bool true), (10, .bool b), (11, .int .i64 i)]) (memOf [])
def jF2 (l : List Sym) (nm : List (List UInt8)) (n : Nat) (p : Bool) (e : Int) (r m : Nat) (b : Bool) (i : Int) : Option AV := loopN X0 (cN M15 [] AV) anF r 3 pF2 (fun v _ => some v) m (frOf 159 [(12, .own 0 n), (1, .lst tySym l), (9, .bool true), (10, .bool b), (14, .bool p), (15, .int .i64 e), (22, .int .i64 i)]) (memOf [.list 9 .str nm 0 false false])
def yesB (b : Bool) : Option AV := some (.bool b)
def nmF (x : List Nd) : List (List UInt8) := if chkF nameB x = 0 then nmsL x [] else []
def restF (x : List Nd) (l : List Sym) (h s : Int) (b : Bool) (G : Option AV) : Option AV :=
  let B : Option AV := pick2 (ltI 0 (nmF x).length) (pick2 (!eqI (evF x [] h s).2.2 6) (pick2 (!eqI (evF x [] h s).2.2 5) (yesB false) G) G) G
  pick2 (Nat.ble l.length 1000000) (pick2 (eqI (nmF x).length 0) (pick2 (!b)
    (pick2 (eqI (evF x l h s).1 (evF x [] 0 0).1) (pick2 (!(evF x l h s).2.1) (pick2 (!(evF x [] 0 0).2.1) (yesB (eqI (evF x l h s).2.2 (evF x [] 0 0).2.2)) (yesB false)) (yesB false)) (yesB false)) B) B) none
set_option maxRecDepth 100000 in
theorem stepF1 (x : List Nd) (l : List Sym) (h s : Int) (r m : Nat) (b : Bool) (i : Int) : jF1 x l h s r (m + 1) b i =
    pick2 (ltI i x.length) (pick2 b (jF1 x l h s r m true (IntKind.wrap .i64 (i + 1))) (Option.rec (motive := fun _ => Option AV) none (fun nd => pick2 (eqI nd.1 3) (jF1 x l h s r m true (IntKind.wrap .i64 (i + 1)))
      (Option.rec (motive := fun _ => Option AV) none (fun nd => jF1 x l h s r m (eqI nd.1 4) (IntKind.wrap .i64 (i + 1))) (getI x i))) (getI x i)))
    (restF x l h s b (jF2 l (nmF x) (nmF x).length (evF x l h s).2.1 (evF x l h s).2.2 r r b 0)) := by kernel_rfl
set_option maxRecDepth 100000 in
theorem stepF2 (l : List Sym) (nm : List (List UInt8)) (n : Nat) (p : Bool) (e : Int) (r m : Nat) (b : Bool) (i : Int) : jF2 l nm n p e r (m + 1) b i =
    pick2 (ltI i n) (Option.rec (motive := fun _ => Option AV) none (fun s => pick2 (Nat.ble l.length 1000000)
      (pick2 (!(lastF l s).isSome) (pick2 (eqI e 0) (yesB false) (pick2 b (jF2 l nm n p e r m true (IntKind.wrap .i64 (i + 1))) (jF2 l nm n p e r m (symD l s).2.2 (IntKind.wrap .i64 (i + 1)))))
        (pick2 b (jF2 l nm n p e r m true (IntKind.wrap .i64 (i + 1))) (jF2 l nm n p e r m (symD l s).2.2 (IntKind.wrap .i64 (i + 1))))) none) (getI nm i))
    (pick2 (!eqI e 0) (yesB true) (yesB (p == b))) := by kernel_rfl
set_option maxRecDepth 100000 in
theorem enterF (x : List Nd) (l : List Sym) (h s : Int) (r : Nat) : enterT X0 (cN M15 [] AV) anF r 3 [.lst tyNd x, .lst tySym l, .int .i64 h, .int .i64 s] TMem.empty (fun v _ => some v) =
    pick2 (Nat.ble x.length 9223372036854775807 && Nat.ble 220 900000) (pick2 (longB (fun y : Nd => ltI 100 y.2.2.1.length) 220 x) (yesB true) (pick2 (Nat.ble l.length 9223372036854775807 && Nat.ble 30 900000) (pick2 (longB (fun y : Sym => ltI 100 y.1.length) 30 l) (yesB true)
      (pick2 (!eqI (chkF nameB x) 0) (yesB true) (jF1 x l h s r r false 0))) none)) none := by kernel_rfl

def hangS (l : List Sym) (s : List UInt8) : Bool := match lastF l s with
  | some q => q.2.2
  | none => false
theorem hangS_eq (l : List Sym) (s : List UInt8) : (symD l s).2.2 = hangS l s := by
  unfold symD hangS
  cases lastF l s <;> rfl
theorem loopF2 {l : List Sym} (hl : l.length ≤ 1000000) {nm : List (List UInt8)} (hn : nm.length ≤ 1000000) {p : Bool} {e : Int} (r : Nat) : ∀ (rest pre : List (List UInt8)) (m : Nat) (b : Bool), nm = pre ++ rest → rest.length < m →
    (e = 0 → ∀ s ∈ rest, (lastF l s).isSome = true) → (e = 0 → p = (b || rest.any (hangS l))) → jF2 l nm nm.length p e r m b pre.length = yesB true := by
  intro rest
  induction rest with
  | nil =>
    intro pre m b he hm h1 h2
    obtain ⟨m, rfl⟩ : ∃ m', m = m' + 1 := ⟨m - 1, by simp at hm; omega⟩
    obtain rfl : nm = pre := by rw [he]; simp
    rw [stepF2, ltF (by omega)]
    show pick2 (!eqI e 0) _ _ = _
    rw [pick_neq]
    split
    · rename_i h0
      rw [h2 h0]; simp
    · rfl
  | cons s rest ih =>
    intro pre m b he hm h1 h2
    obtain ⟨m, rfl⟩ : ∃ m', m = m' + 1 := ⟨m - 1, by simp at hm; omega⟩
    have hl' : nm.length = pre.length + (rest.length + 1) := by rw [he]; simp
    have hg : getI nm (pre.length : Int) = some s := by rw [he]; exact getI_at pre rest s
    have go : ∀ b' : Bool, b' = (b || hangS l s) → jF2 l nm nm.length p e r m b' ((pre.length : Int) + 1) = yesB true := fun b' hb' => by
      have := ih (pre ++ [s]) m b' (by rw [he]; simp) (by simp at hm; omega) (fun h0 s hs => h1 h0 s (by simp [hs])) (fun h0 => by rw [h2 h0, hb', List.any_cons, Bool.or_assoc])
      simpa using this
    have both : pick2 b (jF2 l nm nm.length p e r m true ((pre.length : Int) + 1)) (jF2 l nm nm.length p e r m (symD l s).2.2 ((pre.length : Int) + 1)) = yesB true := by
      cases b with
      | true => exact go true (by simp)
      | false => exact go _ (by simp [hangS_eq])
    rw [stepF2, ltT (by omega), hg, i64_in (n := (pre.length : Int) + 1) (by omega) (by omega), bleT hl]
    show pick2 (!(lastF l s).isSome) (pick2 (eqI e 0) (yesB false) (pick2 b _ _)) (pick2 b _ _) = yesB true
    rw [both]
    cases ho : (lastF l s).isSome with
    | true => rfl
    | false =>
      show pick2 (eqI e 0) (yesB false) (yesB true) = yesB true
      rw [pick_eq]
      by_cases h0 : e = 0
      · have := h1 h0 s (by simp)
        rw [ho] at this; cases this
      · rw [if_neg h0]
theorem loopF1 {x : List Nd} (hx : x.length ≤ 200) (l : List Sym) (h s : Int) (r : Nat) : ∀ (rest pre : List Nd) (m : Nat) (b : Bool), x = pre ++ rest → rest.length < m →
    ∃ c : Bool, c = (b || rest.any fun nd => decide (nd.1 = 3) || decide (nd.1 = 4)) ∧ jF1 x l h s r m b pre.length = restF x l h s c (jF2 l (nmF x) (nmF x).length (evF x l h s).2.1 (evF x l h s).2.2 r r c 0) := by
  intro rest
  induction rest with
  | nil =>
    intro pre m b he hm
    obtain ⟨m, rfl⟩ : ∃ m', m = m' + 1 := ⟨m - 1, by simp at hm; omega⟩
    obtain rfl : x = pre := by rw [he]; simp
    refine ⟨b, by simp, ?_⟩
    rw [stepF1, ltF (by omega)]
  | cons nd rest ih =>
    intro pre m b he hm
    obtain ⟨m, rfl⟩ : ∃ m', m = m' + 1 := ⟨m - 1, by simp at hm; omega⟩
    have hl' : x.length = pre.length + (rest.length + 1) := by rw [he]; simp
    have hg : getI x (pre.length : Int) = some nd := by rw [he]; exact getI_at pre rest nd
    obtain ⟨c, hc, hj⟩ := ih (pre ++ [nd]) m (b || (decide (nd.1 = 3) || decide (nd.1 = 4))) (by rw [he]; simp) (by simp at hm; omega)
    have e1 : ((pre ++ [nd]).length : Int) = (pre.length : Int) + 1 := by simp
    rw [e1] at hj
    refine ⟨c, by rw [hc, List.any_cons, Bool.or_assoc], ?_⟩
    rw [stepF1, ltT (by omega), hg, i64_in (n := (pre.length : Int) + 1) (by omega) (by omega), ← hj]
    cases b with
    | true => rfl
    | false =>
      show pick2 (eqI nd.1 3) _ (jF1 x l h s r m (eqI nd.1 4) _) = _
      rw [pick_eq]
      by_cases h3 : nd.1 = 3
      · rw [if_pos h3, decide_eq_true h3]; rfl
      · rw [if_neg h3, decide_eq_false h3]
        have : eqI nd.1 4 = decide (nd.1 = 4) := by rw [Bool.eq_iff_iff, eqI_spec]; simp
        rw [this]; rfl
theorem freeE (x : List Nd) (hx : x.length ≤ 9223372036854775807) (l : List Sym) (hl : l.length ≤ 9223372036854775807) (h s : Int) : enterT X0 (cN M15 [] AV) anF 202 3 [.lst tyNd x, .lst tySym l, .int .i64 h, .int .i64 s] TMem.empty (fun v _ => some v) = yesB true := by
  rw [enterF, bleT hx, bleT hl]
  show pick2 (longB _ 220 x) _ (pick2 (longB _ 30 l) _ _) = _
  cases longB (fun y : Nd => ltI 100 y.2.2.1.length) 220 x with
  | true => rfl
  | false =>
    cases hlong : longB (fun y : Sym => ltI 100 y.1.length) 30 l with
    | true => rfl
    | false =>
      have hl2 := longB_no hlong
      show pick2 (!eqI (chkF nameB x) 0) (yesB true) _ = _
      rw [pick_neq]
      by_cases hc : chkF nameB x = 0
      · rw [if_pos hc]
        obtain ⟨b1, b2, b3⟩ := chkF_bnd hc
        obtain ⟨c, hcc, hj⟩ := loopF1 b2 l h s 202 x [] 202 false rfl (by omega)
        refine hj.trans ?_
        have hnm : nmF x = nmsL x [] := if_pos hc
        have hev : ∀ l h s, evF x l h s = evL negI invI binV l h s x 0 (List.replicate 200 0) false := fun l h s => if_pos hc
        have hlen : ∀ (r : List Nd) (o : List (List UInt8)), (nmsL r o).length ≤ r.length + o.length := fun r => by
          induction r with
          | nil => intro o; simp [nmsL]
          | cons nd r ih =>
            intro o
            unfold nmsL
            split
            · have := ih (o ++ [nd.2.2.1]); simp at this ⊢; omega
            · have := ih o; simp; omega
        have hG : jF2 l (nmF x) (nmF x).length (evF x l h s).2.1 (evF x l h s).2.2 202 202 c 0 = yesB true := by
          have h2 := hlen x []
          simp only [List.length_nil] at h2
          have ev0 : (evF x l h s).2.2 = 0 → (evF x l h s).2.1 = x.any (hangN l) ∧ ∀ nd ∈ x, nd.1 = 2 → (lastF l nd.2.2.1).isSome = true := fun h0 => by
            rw [hev] at h0 ⊢
            obtain ⟨k1, k2⟩ := ev_ok l h s x 0 _ false h0
            exact ⟨by rw [k1]; simp, k2⟩
          refine loopF2 (by omega) (by rw [hnm]; omega) 202 (nmF x) [] 202 c rfl (by rw [hnm]; omega) (fun h0 s hs => ?_) fun h0 => ?_
          · rw [hnm] at hs
            rcases (nms_mem x [] s).1 hs with h | ⟨nd, h3, h4, rfl⟩
            · cases h
            · exact (ev0 h0).2 nd h3 h4
          · rw [(ev0 h0).1, hang_names, hcc, hnm]; rfl
        unfold restF
        rw [hG, bleT (by omega)]
        show pick2 (eqI (nmF x).length 0) (pick2 (!c) _ _) _ = _
        have hB : pick2 (ltI 0 (nmF x).length) (pick2 (!eqI (evF x [] h s).2.2 6) (pick2 (!eqI (evF x [] h s).2.2 5) (yesB false) (yesB true)) (yesB true)) (yesB true) = yesB true := by
          rw [pick_lt, pick_neq, pick_neq]
          by_cases hn : (0 : Int) < ((nmF x).length : Int)
          · rw [if_pos hn]
            have hne : nmsL x [] ≠ [] := fun e => by rw [hnm, e] at hn; simp at hn
            obtain ⟨w, hw⟩ := List.exists_mem_of_ne_nil _ hne
            rcases (nms_mem x [] w).1 hw with h' | ⟨nd, h3, h4, _⟩
            · cases h'
            · rw [hev]
              rcases ev_names (neg := negI) (inv := invI) (bin := binV) h s x 0 (List.replicate 200 0) false ⟨nd, h3, h4⟩ with h6 | h5
              · rw [if_pos h6]
              · rw [h5, if_neg (by omega), if_pos rfl]
          · rw [if_neg hn]
        rw [hB, pick_eq]
        by_cases hn : ((nmF x).length : Int) = 0
        · rw [if_pos hn]
          cases c with
          | true => rfl
          | false =>
            have hn0 : nmsL x [] = [] := by rw [← hnm]; exact List.length_eq_zero_iff.1 (by omega)
            have hfree : ∀ nd ∈ x, nd.1 ≠ 2 ∧ nd.1 ≠ 3 ∧ nd.1 ≠ 4 := fun nd hnd => by
              have h34 : (x.any fun nd => decide (nd.1 = 3) || decide (nd.1 = 4)) = false := by simpa using hcc.symm
              have h34 := (List.any_eq_false.1 h34) nd hnd
              simp only [Bool.or_eq_true, decide_eq_true_eq, not_or] at h34
              refine ⟨fun h2 => ?_, h34.1, h34.2⟩
              have := (nms_mem x [] nd.2.2.1).2 (.inr ⟨nd, hnd, h2, rfl⟩)
              rw [hn0] at this; cases this
            obtain ⟨k1, k2⟩ := ev_free (neg := negI) (inv := invI) (bin := binV) l h s x 0 (List.replicate 200 0) hfree
            rw [hev, hev, k1, k2]
            show pick2 (eqI _ _) (yesB (eqI _ _)) (yesB false) = _
            rw [pick_eq, if_pos rfl]
            exact congrArg yesB ((eqI_spec _ _).trans (by simp))
        · rw [if_neg hn]
      · rw [if_neg hc]
end
end Go.Proofs.YtpaddkkfefgkfaaDoor.ex
