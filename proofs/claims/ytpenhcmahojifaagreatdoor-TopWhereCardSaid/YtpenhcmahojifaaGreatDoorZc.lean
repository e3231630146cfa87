/- Rows held against memory whatever the unknown numbers are; decode.find for lea, whatever the bytes. -/
import Derived.Test.YtpenhcmahojifaaGreatDoorGd
import Derived.Test.YtpenhcmahojifaaGreatDoorGi
set_option linter.unusedVariables false
set_option linter.unusedSimpArgs false
set_option linter.unusedSectionVars false
namespace Go.Ev.Tw
open Go.Proofs Go.RowKit
noncomputable section
set_option maxRecDepth 1000000
theorem p2q {a b : Bool} (h : pick2 a b false = true) : a = true ∧ b = true := by cases a <;> simp_all [pick2]
theorem beqQ {a b : Nat} (h : Nat.beq a b = true) : a = b := Nat.eq_of_beq_eq_true h
/-- The same unknown numbers, of which nothing is said. -/
@[reducible] def liftE (E : TokR) : TokE := { facts := [], rews := [], env := E.env, hid := E.hid, factsOk := fun q hq => (by cases hq), rewsOk := fun q hq => (by cases hq) }
@[reducible] def tokF (e : IntKind → Nat → Int) : TokE := { facts := [], rews := [], env := e, hid := none, factsOk := fun q hq => (by cases hq), rewsOk := fun q hq => (by cases hq) }
/-- A value that holds no unknown number. -/
def plainV : Value → Bool
  | .int _ _ => true
  | .bool _ => true
  | .slice (some ⟨_, _, none⟩) _ _ => true
  | .slice none _ _ => true
  | _ => false
def plainL (l : List Value) : Bool := List.rec (motive := fun _ => Bool) true (fun v _ ih => pick2 (plainV v) ih false) l
theorem plainL_get : ∀ {l : List Value}, plainL l = true → ∀ {j : Nat} {v : Value}, l[j]? = some v → plainV v = true
  | [], _, j, v, h => by simp at h
  | a :: l, hp, j, v, h => by
    have hp : pick2 (plainV a) (plainL l) false = true := hp
    obtain ⟨h1, h2⟩ := p2q hp
    cases j with
    | zero => simp at h; subst h; exact h1
    | succ j => exact plainL_get h2 (by simpa using h)
theorem vrel_conv (E1 E2 : TokR) {ρ : Ren} {v v' : Value} (h : @VRel E1 ρ v v') (hp : plainV v = true) : @VRel E2 ρ v v' := by
  cases h with
  | bool => exact .bool _
  | int => exact .int _ _
  | sliceNil => exact .sliceNil _ _
  | slice i off l c r x hr => exact .slice i off l c r x hr
  | _ => simp [plainV, vd] at hp
theorem emb_conv (E1 E2 : TokR) {c : Cx} {ρ : Ren} {H : Mem} {w : World} (h : @Emb E1 c ρ H w) (hp : ∀ i b, H.get i = some b → b.live = true ∧ plainL b.cells = true) : @Emb E2 c ρ H w := by
  letI : TokE := liftE E2
  obtain ⟨a1, a2, a3, a4, a5, a6, a7, a8, a9, a10, a11⟩ := h
  refine @Emb.mk E2 c ρ H w a1 a2 a3 a4 a5 a6 (fun i b hi hl => ?_) a8 (fun i b hi hm => ?_) a10 a11
  · obtain ⟨r, x, C, fr, s, k1, k2, k3, k4, k5, k6, k7, k8⟩ := a7 i b hi hl
    refine ⟨r, x, C, fr, s, k1, k2, k3, k4, k5, k6, ⟨k7.1, fun j v hv hj => ?_⟩, k8⟩
    obtain ⟨v', g1, g2⟩ := k7.2 j v hv hj
    exact ⟨v', g1, vrel_conv E1 E2 g2 (plainL_get (hp i b hi).2 hv)⟩
  · rw [not_map (hp i b hi).1] at hm
    cases hm
/-- One row, of which the first cells are told. -/
theorem emb_one (E : TokR) {P : Program} {w : World} {A x : Nat} {l : List Value} {C : Array Value} {t : TypeId} {fr : Nat × Nat} (h : w.heap[A]? = some (.cells C t fr)) (hlen : l.length ≤ C.size) (hsz : ∃ e s, C.size = l.length + (x + e) * s) (hl : ∀ (j : Nat) v, l[j]? = some v → ∃ v', C[j]? = some v' ∧ @VRel E (fun i => if i = 0 then some (A, x) else none) v v')
    {H : Mem} (h0 : Mem.ofRows Mem.empty [⟨l, t, true, false⟩] = some H) : @Emb E ⟨P, w.heap.size, 1, 0, w, fun _ => none, fun _ => none, fun _ => none⟩ (fun i => if i = 0 then some (A, x) else none) H w := by
  letI : TokE := liftE E
  obtain ⟨e1, e2, e3⟩ := ofRows_spec _ h0
  have es : H.size = 1 := by rw [e1]; simp [Mem.empty]
  have eg : ∀ i, H.get i = [(⟨l, t, true, false⟩ : Blk)][i]? := fun i => by rw [e3, if_neg (by simp [Mem.empty])]; simp [Mem.empty]
  have one : ∀ i b, H.get i = some b → i = 0 ∧ b = ⟨l, t, true, false⟩ := fun i b hb => by
    rw [eg] at hb
    cases i with
    | zero => simp at hb; exact ⟨rfl, hb.symm⟩
    | succ i => simp at hb
  refine @Emb.mk E _ _ _ _ ⟨Below.refl _ _, fun r o h => (by cases h), fun r o h => (by cases h)⟩ (Nat.le_refl _) (fun i x hx => ?_) (by rw [e2, es]; exact Nat.le_refl _) (by rw [es]; exact Nat.le_refl _) (fun g hg => absurd hg (Nat.not_lt_zero _)) (fun i b hi _ => ?_) (fun i j bi bj r x y hi hli hj hlj hr hr' => ?_) (fun i b hi hm => ?_) (fun i j bi bj r x y hi hm => ?_) (fun i x hx => (by cases hx))
  · rw [es]
    split at hx
    · omega
    · cases hx
  · obtain ⟨rfl, rfl⟩ := one i b hi
    obtain ⟨e, s, hes⟩ := hsz
    exact ⟨A, x, C, fr, s, rfl, .inl ⟨Nat.one_pos, rfl⟩, h, .inl Nat.one_pos, ⟨.inl Nat.one_pos, fun hf => (by cases hf)⟩, ⟨e, hes, fun hf => (by cases hf)⟩, ⟨hlen, fun j v hv _ => hl j v hv⟩, .inl Nat.one_pos⟩
  · rw [(one i bi hi).1, (one j bj hj).1]
  · rw [(one i b hi).2] at hm; cases hm
  · rw [(one i bi hi).2] at hm; cases hm
/-! decode.find for lea. -/
def toksF : Nat → Nat → List Value
  | _, 0 => []
  | s, n + 1 => tokVar .u8 s :: toksF (s + 1) n
theorem toksF_get : ∀ (n s j : Nat), (toksF s n)[j]? = if j < n then some (tokVar .u8 (s + j)) else none
  | 0, s, j => by simp [toksF]
  | n + 1, s, 0 => by simp [toksF]
  | n + 1, s, j + 1 => by
    simp only [toksF, List.getElem?_cons_succ]
    rw [toksF_get n (s + 1) j]
    have e : s + 1 + j = s + (j + 1) := by omega
    rw [e]
    by_cases h : j < n
    · rw [if_pos h, if_pos (by omega)]
    · rw [if_neg h, if_neg (by omega)]
theorem toksF_len : ∀ (n s : Nat), (toksF s n).length = n
  | 0, s => rfl
  | n + 1, s => by simp [toksF, toksF_len n]
/-- A REX that tells no R, lea's opcode, any bytes. -/
def findRow (L : Nat) : List Value := vecT .u8 [u8 72, u8 73, u8 74, u8 75] :: u8 141 :: toksF 2 (Nat.sub L 2)
def rowsLea : List Blk := [iR 2052, iR 386, iR 2053, iR 386, fR 2 0x104680800c0080c08468080040000c false]
def valLea : Value := sl 4 2 2
def allU8 (l : List Value) : Bool := List.rec (motive := fun _ => Bool) true (fun v _ ih => pick2 (match kindT v with
  | some k => eqKind k .u8
  | none => false) ih false) l
theorem allU8_get : ∀ {l : List Value}, allU8 l = true → ∀ {j : Nat} {v : Value}, l[j]? = some v → kindT v = some .u8
  | [], _, j, v, h => by simp at h
  | a :: l, hp, j, v, h => by
    have hp : pick2 (match kindT a with
      | some k => eqKind k .u8
      | none => false) (allU8 l) false = true := hp
    obtain ⟨h1, h2⟩ := p2q hp
    cases j with
    | zero =>
      simp at h; subst h
      split at h1
      · rename_i k hk; letI := tokF (fun _ _ => 0); rw [hk, eqKind_spec h1]
      · cases h1
    | succ j => exact allU8_get h2 (by simpa using h)
def findM (L : Nat) : Memo := fun f a H => pick2 (Nat.beq f 18) (match a with
  | [.slice (some ⟨i, 0, none⟩) n c] => pick2 (Nat.beq n L) (pick2 (Nat.beq c L) (match H.get i with
    | some b => pick2 b.live (pick2 (Nat.beq b.elem 5) (pick2 (Nat.beq b.cells.length L) (match b.cells with
      | .int .u8 (.ofNat r) :: .int .u8 (.ofNat q) :: t => pick2 (Nat.ble 72 r) (pick2 (Nat.ble r 75) (pick2 (Nat.beq q 141) (pick2 (allU8 t) (some (valLea, rowsLea)) none) none) none) none
      | _ => none) none) none) none
    | none => none) none) none
  | _ => none) none
theorem p2n {α : Type} {a : Bool} {x : Option α} {y : α} (h : pick2 a x none = some y) : a = true ∧ x = some y := by cases a <;> simp_all [pick2]
def envF (r : Nat) (C : Array Value) (_ : IntKind) (j : Nat) : Int := if j = 4294967296 then (r : Int) - 72 else match C[j]? with
  | some (.int _ n) => n
  | _ => 0
@[reducible] def tdF : TokD := ⟨[], []⟩
theorem find_memo (E : TokR) (q : Nat → TypeId) {L n lit : Nat} (hL : 2 ≤ L) (hLs : L < 4294967296)
    (hrun : packB 1 (@callA tdF Tryz.prog 0 noKnown 5000 40 (memosD mFind noD) 18 [sl 0 L L] ((Mem.ofRows Mem.empty [⟨findRow L, 5, true, false⟩]).getD Mem.empty)) valLea rowsLea n lit 65536 = true) :
    @MemoOk E Tryz.prog (GRq q) (findM L) := by
  intro f a H v rows hm c hcP ρ w args' hr he hl
  letI EE : TokE := liftE E
  unfold findM at hm
  obtain ⟨hf, hm1⟩ := p2n hm
  clear hm
  have hf := beqQ hf
  subst hf
  split at hm1
  case h_2 => cases hm1
  rename_i i n0 c0
  obtain ⟨h1, hm2⟩ := p2n hm1
  clear hm1
  obtain ⟨h2, hm3⟩ := p2n hm2
  clear hm2
  have h1 := beqQ h1
  subst h1
  have h2 := beqQ h2
  subst h2
  split at hm3
  case h_2 => cases hm3
  rename_i b hb
  obtain ⟨hlive, hm4⟩ := p2n hm3
  clear hm3
  obtain ⟨hel, hm5⟩ := p2n hm4
  clear hm4
  obtain ⟨hlen, hm6⟩ := p2n hm5
  clear hm5
  have hlen := beqQ hlen
  have hel := beqQ hel
  split at hm6
  case h_2 => cases hm6
  rename_i r q1 t hcells
  obtain ⟨g1, hm7⟩ := p2n hm6
  clear hm6
  obtain ⟨g2, hm8⟩ := p2n hm7
  clear hm7
  obtain ⟨g3, hm9⟩ := p2n hm8
  clear hm8
  obtain ⟨g4, hm10⟩ := p2n hm9
  clear hm9
  cases hm10
  have g1 := Nat.le_of_ble_eq_true g1
  have g2 := Nat.le_of_ble_eq_true g2
  have g3 := beqQ g3
  subst g3
  obtain ⟨v1, t1, rfl, hv1, hnil⟩ := LR.uncons hl
  have := LR.unnil hnil
  subst this
  cases hv1 with
  | slice _ _ _ _ A x hA =>
    obtain ⟨r', x', C, fr, s, k1, k2, k3, k4, k5, ⟨e, k6, _⟩, k7, k8⟩ := he.blk i b hb hlive
    rw [hA] at k1
    cases k1
    rw [hel] at k3
    have cell : ∀ (j : Nat) v, b.cells[j]? = some v → kindT v = some .u8 → ∃ m, C[j]? = some (.int .u8 m) ∧ VRel ρ v (.int .u8 m) := fun j v hj hk => by
      have hnj : isJunk v = false := by
        cases v with
        | chan o => simp [kindT] at hk
        | _ => rfl
      obtain ⟨v', p1, p3⟩ := k7.2 j v hj hnj
      obtain ⟨m, rfl, _⟩ := num_rel hk p3
      exact ⟨m, p1, p3⟩
    letI EF : TokE := tokF (envF r C)
    letI EFR : TokR := EF.toTokR
    obtain ⟨H0, h0⟩ : ∃ H0, Mem.ofRows Mem.empty [⟨findRow c0, 5, true, false⟩] = some H0 := ⟨_, rfl⟩
    have eH : H0 = (Mem.ofRows Mem.empty [⟨findRow c0, 5, true, false⟩]).getD Mem.empty := by rw [h0]; rfl
    have hlenF : (findRow c0).length = c0 := by
      simp only [findRow, List.length_cons, toksF_len]
      show c0 - 2 + 1 + 1 = c0; omega
    have c0v : C[0]? = some (.int .u8 (.ofNat r)) := by
      obtain ⟨m, p1, p3⟩ := cell 0 (.int .u8 (.ofNat r)) (by rw [hcells]; rfl) rfl
      cases p3
      exact p1
    have c1v : C[1]? = some (.int .u8 (.ofNat 141)) := by
      obtain ⟨m, p1, p3⟩ := cell 1 (.int .u8 (.ofNat 141)) (by rw [hcells]; rfl) rfl
      cases p3
      exact p1
    have hE : Emb ⟨Tryz.prog, w.heap.size, 1, 0, w, fun _ => none, fun _ => none, fun _ => none⟩ (fun i => if i = 0 then some (A, x) else none) H0 w := by
      refine emb_one _ k3 (by rw [hlenF, ← hlen]; exact k7.1) ⟨e, s, by rw [hlenF, ← hlen]; exact k6⟩ (fun j v hj => ?_) h0
      match j, hj with
      | 0, hj =>
        simp only [findRow, List.getElem?_cons_zero, Option.some.injEq] at hj
        subst hj
        refine ⟨_, c0v, .tok _ _ _ _ _ ?_⟩
        have : r = 72 ∨ r = 73 ∨ r = 74 ∨ r = 75 := by omega
        have hden : ∀ r : Nat, r = 72 ∨ r = 73 ∨ r = 74 ∨ r = 75 → den (envF r C) (vecT .u8 [u8 72, u8 73, u8 74, u8 75]) = some (.u8, .ofNat r) := by
          rintro r (rfl | rfl | rfl | rfl) <;> simp [den, denA, denL, tokV, laneV, laneOf, envF, u8, vecT]
        exact hden r this
      | 1, hj =>
        simp only [findRow, List.getElem?_cons_succ, List.getElem?_cons_zero, Option.some.injEq] at hj
        subst hj
        exact ⟨_, c1v, .int _ _⟩
      | j + 2, hj =>
        simp only [findRow, List.getElem?_cons_succ, toksF_get] at hj
        split at hj
        case isFalse => cases hj
        rename_i hjl
        cases hj
        have hjl : j < c0 - 2 := hjl
        have hlt : j + 2 < b.cells.length := by rw [hlen]; omega
        obtain ⟨m, p1, p3⟩ := cell (j + 2) (b.cells[j + 2]) (by simp [hlt]) (by
          refine allU8_get g4 (j := j) ?_
          simp only [hcells, List.getElem_cons_succ]
          have : j < t.length := by rw [hcells] at hlt; simpa using hlt
          simp [this])
        refine ⟨_, p1, .tok _ _ _ _ _ ?_⟩
        show (some (IntKind.u8, envF r C .u8 (2 + j)) : Option (IntKind × Int)) = some (.u8, m)
        have e2 : 2 + j = j + 2 := by omega
        unfold envF
        rw [if_neg (by omega), e2, p1]
    subst eH
    refine (pack_run (G := 0) (w := w) (args := [.slice (some ⟨A, 0, none⟩) c0 (c0 + x)]) hrun fun u H1 hr1 => (call_okD no_own mixed noKnown_ok.any (mFind_ok q) noD_ok hr1 rfl (.inl fun h => by cases h)
      (c := ⟨Tryz.prog, w.heap.size, 1, 0, w, fun _ => none, fun _ => none, fun _ => none⟩) rfl rfl hr hr.1 hE (LR.cons (.slice 0 0 c0 c0 A x rfl) LR.nil)).mono fun e w' h => ?_).mono ?_
    · obtain ⟨ρ', v', e1, _, e2, e3⟩ := h
      exact ⟨ρ', v', e1, e2, e3⟩
    · rintro e w' ⟨ρ', v', M, rfl, hv, hs, hg, hM⟩
      refine ⟨ρ', v', M, rfl, vrel_conv _ E hv rfl, hs, hg, emb_conv _ E hM fun i b hb => ?_⟩
      have hall : ∀ b ∈ rowsLea, b.live = true ∧ plainL b.cells = true := by
        have : (rowsLea.all fun b => b.live && plainL b.cells) = true := by kernel_rfl
        intro b hb
        have := List.all_eq_true.1 this b hb
        simpa using this
      have hlt : i < rowsLea.length := by rw [← hs]; exact Mem.get_lt hb
      have h1 := hall (rowsLea[i]) (List.getElem_mem hlt)
      have h2 := hg i (rowsLea[i]) (by simp [hlt]) (.inl h1.1)
      rw [hb] at h2
      cases h2
      exact h1
end
end Go.Ev.Tw
