/- Tokens joined. -/
import Derived.Test.YtcafcgiemdlobaaDoorTj5
import Derived.Test.YtcafcgiemdlobaaDoorTd
namespace Go.Proofs.YtcafcgiemdlobaaDoor.lt
open Go.Tv Go.Ev

def pJ1 : List Bool := [true, false, true, false]
def pJr : List Bool := [true, true]
def pJ2 : List Bool := [true, true, true, false, true, false]
noncomputable def anJ : FnAnn := ⟨annPlus (annOf [0, 9, 10, 11] pJ1) (annPlus (annOf [0] pJr) (annOf [6, 19, 20, 21] pJ2)), .none, []⟩
noncomputable def jJ1 (l : List Piece) (r m : Nat) (i : Int) : Option AV := loopN (Xg gvT) (d8' AV) anJ r 29 pJ1 (fun v _ => some v) m (frOf 36 [(0, .lst tyTok l), (9, .lst tyTok l), (10, .int .i64 l.length), (11, .int .i64 i)]) TMem.empty
noncomputable def restJ (l : List Piece) (r : Nat) : Option AV := codeFrom (Xg gvT) (d8' AV) anJ r 29 pJr (fun v _ => some v) (frOf 36 [(0, .lst tyTok l)]) TMem.empty
noncomputable def jJ2 (l : List Piece) (r m : Nat) (i : Int) (H : TMem) : Option AV := loopN (Xg gvT) (d8' AV) anJ r 29 pJ2 (fun v _ => some v) m (frOf 36 [(6, .ptr 0 0), (19, .lst tyTok l), (20, .int .i64 l.length), (21, .int .i64 i)]) H
noncomputable def mJ0 : TMem := memOf [.cells 71 [.nilp, .nils]]
noncomputable def mJ (L : List Int) (n : Nat) : TMem := memOf [.cells 71 [.ptr 0 0, .own 1 n], .list 5 (.int .u8) L 0 false false]
noncomputable def errJ (e : Int) : Option AV := some (.tup [.str [], .int .i64 e])
noncomputable def condW (y : Piece) : Bool := !ltI y.2.1 (-9223372036854775808) && ltI y.2.1 9223372036854775808 && Nat.ble y.2.2.1.length 1100
def wI (y : Piece) : List Int := (writS y).map u8I
theorem stepJ1 (l : List Piece) (r m : Nat) (i : Int) : jJ1 l r (m + 1) i = pick2 (ltI i ↑l.length) (atL l i fun y => pick2 (Nat.ble y.2.2.1.length 1100) (pick2 (!validB y) (errJ 2) (jJ1 l r m (IntKind.wrap .i64 (i + 1)))) none) (restJ l r) := by kernel_rfl
theorem enterJ (l : List Piece) (r : Nat) : enterT (Xg gvT) (d8' AV) anJ r 29 [.lst tyTok l] TMem.empty (fun v _ => some v) = jJ1 l r r 0 := by kernel_rfl
theorem restJ_eq (l : List Piece) (r : Nat) : restJ l r = jJ2 l r r 0 mJ0 := by kernel_rfl
theorem stepJ0 (l : List Piece) (r m : Nat) : jJ2 l r (m + 1) 0 mJ0 = pick2 (ltI 0 ↑l.length) (atL l 0 fun y => pick2 (condW y) (pick2 (Nat.ble (0 + (wI y).length) 1000000) (pick2 (ltI 1000 ↑(0 + (wI y).length)) (errJ 3) (jJ2 l r m 1 (mJ (wI y) (0 + (wI y).length)))) none) none) (some (.tup [.str [], .int .i64 0])) := by kernel_rfl
noncomputable def wrJ (l : List Piece) (r m : Nat) (i : Int) (y : Piece) (L : List Int) : Option AV :=
  pick2 (condW y) (pick2 (Nat.ble (L.length + (wI y).length) 1000000) (pick2 (ltI 1000 ↑(L.length + (wI y).length)) (errJ 3) (jJ2 l r m (IntKind.wrap .i64 (i + 1)) (mJ (L ++ wI y) (L.length + (wI y).length)))) none) none
noncomputable def finJ (L : List Int) (n : Nat) : Option AV := pick2 (Nat.ble 1 n) (pick2 (Nat.ble 1 L.length && Nat.ble L.length 1000000 && eqI ↑n ↑L.length && L.all byteI) (some (.tup [.str (L.map iU8), .int .i64 0])) none) none
theorem stepJ2 (l : List Piece) (r m : Nat) (i : Int) (L : List Int) (n : Nat) : jJ2 l r (m + 1) i (mJ L n) =
    pick2 (ltI i ↑l.length) (atL l i fun y => pick2 (ltI 0 i) (pick2 (Nat.ble (L.length + 1) 1000000) (wrJ l r m i y (L ++ [32])) none) (wrJ l r m i y L)) (finJ L n) := by kernel_rfl
/-- What some tokens are joined to, behind what there is. -/
def joinG : List Piece → List UInt8 → List UInt8 × Int
  | [], b => (b, 0)
  | y :: l, b => if 1000 < (b ++ [32] ++ writS y).length then ([], 3) else joinG l (b ++ [32] ++ writS y)
noncomputable def joinS (l : List Piece) : List UInt8 × Int := if l.all validB = true then (match l with | [] => ([], 0) | y :: l => if 1000 < (writS y).length then ([], 3) else joinG l (writS y)) else ([], 2)
noncomputable def outJ (r : List UInt8 × Int) : Option AV := some (.tup [.str r.1, .int .i64 r.2])
theorem byte_all : ∀ b : List UInt8, (b.map u8I).all byteI = true
  | [] => rfl
  | c :: b => by
    rw [List.map_cons, List.all_cons, byte_all b, Bool.and_true]
    show Nat.ble c.toNat 255 = true
    have := c.toNat_lt
    exact bleT (by omega)
theorem num_le {b : Nat} : ∀ (f u : Nat) (acc : List UInt8), (numL b f u acc).length ≤ f + acc.length
  | 0, _, acc => by simp [numL]
  | f + 1, u, acc => by
    rw [numL]
    split
    · simp; omega
    · have := num_le (b := b) f (u / b) (dgt (u % b) :: acc); simp at this; omega
theorem setD_len : ∀ (f : Nat) (u : Int) (L : List Int) (i : Nat), (setD f u L i).length = L.length
  | 0, _, _, _ => rfl
  | f + 1, u, L, i => by rw [setD, setD_len]; simp
theorem writ_len {y : Piece} (h : y.2.2.1.length ≤ 1100) : (writS y).length ≤ 1200 := by
  unfold writS
  split
  · split
    · unfold unsS; rw [List.length_map, setD_len]; simp
    · unfold telS
      have := num_le (b := 16) 64 y.2.1.natAbs []
      simp only [List.length_append, List.length_nil] at this ⊢
      split <;> simp <;> omega
  · split
    · simp; omega
    · omega
theorem writ_some {y : Piece} (h : validB y = true) : 1 ≤ (writS y).length := by
  unfold writS
  by_cases h2 : y.1 = 2
  · rw [if_pos h2]
    split
    · unfold unsS; rw [List.length_map, setD_len]; simp
    · unfold telS; simp; omega
  · rw [if_neg h2]
    by_cases h3 : y.1 = 3
    · rw [if_pos h3]; simp
    · rw [if_neg h3]
      cases hs : y.2.2.1 with
      | cons c r => simp
      | nil =>
        exfalso
        unfold validB at h
        rw [hs, pick_eq, pick_eq, pick_eq, pick_eq, if_neg h2, if_neg h3] at h
        split at h
        · simp [nameB] at h
        · split at h
          · simp [sgns] at h
          · cases h
theorem loopJ2 (l : List Piece) (hl : l.length ≤ 1000) (r : Nat) : ∀ (rest pre : List Piece) (m : Nat) (b : List UInt8) (n : Nat), l = pre ++ rest → rest.length < m → 1 ≤ pre.length → 1 ≤ b.length → b.length ≤ 1000 → n = b.length → (∀ y ∈ rest, condW y = true) →
    jJ2 l r m pre.length (mJ (b.map u8I) n) = outJ (joinG rest b) := by
  intro rest
  induction rest with
  | nil =>
    intro pre m b n he hm hp hb1 hb2 hn _
    obtain ⟨m, rfl⟩ : ∃ m', m = m' + 1 := ⟨m - 1, by simp at hm; omega⟩
    have e1 : l.length = pre.length := by rw [he]; simp
    rw [stepJ2, ltF (by omega)]
    unfold finJ
    rw [bleT (show 1 ≤ n by omega), byte_all, bleT (show 1 ≤ (b.map u8I).length by simp; omega), bleT (show (b.map u8I).length ≤ 1000000 by simp; omega), eqT (by simp; omega), map_iU8]
    rfl
  | cons y rest ih =>
    intro pre m b n he hm hp hb1 hb2 hn hc
    obtain ⟨m, rfl⟩ : ∃ m', m = m' + 1 := ⟨m - 1, by simp at hm; omega⟩
    have e1 : l.length = pre.length + (rest.length + 1) := by rw [he]; simp
    have hg : getI l (pre.length : Int) = some y := by rw [he]; exact getI_at pre rest y
    have hcy := hc y (by simp)
    have hw : (writS y).length ≤ 1200 := by
      refine writ_len ?_
      unfold condW at hcy
      simp only [Bool.and_eq_true, Nat.ble_eq] at hcy
      exact hcy.2
    have e2 : b.map u8I ++ [32] ++ wI y = (b ++ [32] ++ writS y).map u8I := by unfold wI; simp; rfl
    have e3 : (b.map u8I ++ [32]).length + (wI y).length = (b ++ [32] ++ writS y).length := by unfold wI; simp only [List.length_append, List.length_map, List.length_cons, List.length_nil]
    rw [stepJ2, joinG]
    unfold atL
    rw [ltT (a := (pre.length : Int)) (by omega), hg]
    show pick2 (ltI 0 ↑pre.length) (pick2 (Nat.ble ((b.map u8I).length + 1) 1000000) (wrJ l r m ↑pre.length y (b.map u8I ++ [32])) none) (wrJ l r m ↑pre.length y (b.map u8I)) = _
    rw [ltT (by omega), bleT (by simp; omega)]
    show wrJ l r m ↑pre.length y (b.map u8I ++ [32]) = _
    unfold wrJ
    rw [hcy, e2, e3, bleT (by simp; omega), i64_in (n := (pre.length : Int) + 1) (by omega) (by omega)]
    show pick2 (ltI 1000 ↑((b ++ [32] ++ writS y).length)) (errJ 3) (jJ2 l r m (↑pre.length + 1) (mJ ((b ++ [32] ++ writS y).map u8I) (b ++ [32] ++ writS y).length)) = _
    rw [pick_lt]
    by_cases hlt : 1000 < (b ++ [32] ++ writS y).length
    · rw [if_pos (by omega), if_pos hlt]; rfl
    · rw [if_neg (by omega), if_neg hlt]
      have hin := ih (pre ++ [y]) m (b ++ [32] ++ writS y) _ (by rw [he]; simp) (by simp at hm; omega) (by simp) (by simp; omega) (by omega) rfl (fun x hx => hc x (by simp [hx]))
      rw [List.length_append] at hin
      exact hin
theorem restJ_run (l : List Piece) (hl : l.length ≤ 1000) (r : Nat) (hr : l.length < r) (hc : ∀ y ∈ l, condW y = true) (hv : l.all validB = true) : restJ l r = outJ (joinS l) := by
  rw [restJ_eq]
  unfold joinS
  rw [if_pos hv]
  obtain ⟨m, rfl⟩ : ∃ m, r = m + 1 := ⟨r - 1, by omega⟩
  rw [stepJ0]
  cases l with
  | nil => rfl
  | cons y l =>
    have hcy := hc y (by simp)
    have hw : (writS y).length ≤ 1200 := by
      refine writ_len ?_
      unfold condW at hcy
      simp only [Bool.and_eq_true, Nat.ble_eq] at hcy
      exact hcy.2
    have h1 := writ_some (y := y) (by rw [List.all_cons, Bool.and_eq_true] at hv; exact hv.1)
    have e0 : 0 + (wI y).length = (writS y).length := by unfold wI; simp
    unfold atL
    rw [ltT (a := (0 : Int)) (b := ((y :: l).length : Int)) (by simp only [List.length_cons]; omega)]
    show pick2 (condW y) (pick2 (Nat.ble (0 + (wI y).length) 1000000) (pick2 (ltI 1000 ↑(0 + (wI y).length)) (errJ 3) (jJ2 (y :: l) (m + 1) m 1 (mJ (wI y) (0 + (wI y).length)))) none) none = outJ (if 1000 < (writS y).length then ([], 3) else joinG l (writS y))
    rw [e0, hcy, bleT (by omega), pick_lt]
    by_cases hlt : 1000 < (writS y).length
    · rw [if_pos (by omega), if_pos hlt]; rfl
    · rw [if_neg (by omega), if_neg hlt]
      exact loopJ2 (y :: l) hl (m + 1) l [y] m (writS y) _ rfl (by simp at hr; omega) (by simp) h1 (by omega) rfl (fun x hx => hc x (by simp [hx]))
theorem loopJ1 (l : List Piece) (hl : l.length ≤ 1000) (r : Nat) (hr : l.length < r) (hc : ∀ y ∈ l, condW y = true) : ∀ (rest pre : List Piece) (m : Nat), l = pre ++ rest → rest.length < m → pre.all validB = true → jJ1 l r m pre.length = outJ (joinS l) := by
  intro rest
  induction rest with
  | nil =>
    intro pre m he hm hp
    obtain ⟨m, rfl⟩ : ∃ m', m = m' + 1 := ⟨m - 1, by simp at hm; omega⟩
    have e0 : l = pre := by rw [he]; simp
    rw [stepJ1, ltF (by rw [e0]; omega)]
    exact restJ_run l hl r hr hc (by rw [e0]; exact hp)
  | cons y rest ih =>
    intro pre m he hm hp
    obtain ⟨m, rfl⟩ : ∃ m', m = m' + 1 := ⟨m - 1, by simp at hm; omega⟩
    have e1 : l.length = pre.length + (rest.length + 1) := by rw [he]; simp
    have hg : getI l (pre.length : Int) = some y := by rw [he]; exact getI_at pre rest y
    have hcy := hc y (by rw [he]; simp)
    have hs : y.2.2.1.length ≤ 1100 := by
      unfold condW at hcy
      simp only [Bool.and_eq_true, Nat.ble_eq] at hcy
      exact hcy.2
    rw [stepJ1]
    unfold atL
    rw [ltT (by omega), hg, i64_in (n := (pre.length : Int) + 1) (by omega) (by omega)]
    show pick2 (Nat.ble y.2.2.1.length 1100) (pick2 (!validB y) (errJ 2) (jJ1 l r m (↑pre.length + 1))) none = _
    rw [bleT hs]
    cases hv : validB y with
    | true =>
      have hin := ih (pre ++ [y]) m (by rw [he]; simp) (by simp at hm; omega) (by rw [List.all_append, hp]; simp [hv])
      rw [List.length_append] at hin
      exact hin
    | false =>
      have : l.all validB = false := by rw [he, List.all_append, List.all_cons, hv]; simp
      unfold joinS
      rw [this]; rfl
theorem runJ (l : List Piece) (hl : l.length ≤ 1000) (hc : ∀ y ∈ l, condW y = true) : enterT (Xg gvT) (d8' AV) anJ (l.length + 1) 29 [.lst tyTok l] TMem.empty (fun v _ => some v) = some (.tup [.str (joinS l).1, .int .i64 (joinS l).2]) := by
  rw [enterJ]
  exact loopJ1 l hl (l.length + 1) (by omega) hc l [] (l.length + 1) rfl (by omega) rfl
noncomputable def gJoin (args : List AV) : Option (Bool × List PRes) :=
  match args with
  | [a] => match asL tyTok a with
    | some l => some (Nat.ble l.length 1000 && l.all condW, [.val (.str (joinS l).1), .val (.int .i64 (joinS l).2)])
    | none => none
  | _ => none
theorem con_joined {f : FuncId} {call : ∀ β, CallT β} (hcall : ∀ β, CallTOk (Xg gvT) (cfOf (Xg gvT) noKnown) (call β)) {an : FnAnn} (h : ∀ l : List Piece, l.length ≤ 1000 → (∀ y ∈ l, condW y = true) → ∃ r, enterT (Xg gvT) (call AV) an r f [.lst tyTok l] TMem.empty (fun v _ => some v) = some (.tup [.str (joinS l).1, .int .i64 (joinS l).2])) : ConOk (Xg gvT) (cfOf (Xg gvT) noKnown) f gJoin :=
  con_vals (nk f) hcall fun args rs hg => by
    unfold gJoin at hg
    split at hg
    · rename_i a
      split at hg
      · rename_i l hl
        obtain rfl := asL_spec hl
        simp only [Option.some.injEq, Prod.mk.injEq, Bool.and_eq_true, Nat.ble_eq, List.all_eq_true] at hg
        obtain ⟨⟨h1, h2⟩, rfl⟩ := hg
        obtain ⟨r, hr⟩ := h l h1 h2
        exact ⟨[.str (joinS l).1, .int .i64 (joinS l).2], an, r, hr, rfl, rfl⟩
      · cases hg
    · cases hg
theorem con29 : ConOk (Xg gvT) (cfOf (Xg gvT) noKnown) 29 gJoin := con_joined d8'_ok fun l h1 h2 => ⟨_, runJ l h1 h2⟩
end Go.Proofs.YtcafcgiemdlobaaDoor.lt
