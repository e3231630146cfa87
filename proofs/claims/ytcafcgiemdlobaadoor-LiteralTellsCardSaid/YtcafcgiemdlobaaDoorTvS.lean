/- The layer's operations beside the evaluator's: slices, rows. -/
import Derived.Test.YtcafcgiemdlobaaDoorTvQ
namespace Go.Tv
open Go.Ev (Tr pick2 Leave Mem Blk alive pick2_eq alive_some semPure pureA opA addrFree withMem orElse)

section
variable {X : Cfg} {cf : Nat × Nat → Ev.CallF} {o : Oper} {ev : Operand → AV} {H : TMem} {β : Type} {r : β}

theorem row_read {α : Type} {R : α → List Value → Prop} {s : Nat} (hR : ∀ x c, R x c → c.length = s) (hJ : ∀ (l : List α) c, CRL R l c → c.any Ev.isJunk = false) {E : Mem} {i : Nat} {b : Blk} {pre mid post : List Value} {l : List α} (hb : alive E i = some b) (hc : b.cells = pre ++ (mid ++ post)) (hl : CRL R l mid) (a m : Nat) (hm : a + m ≤ l.length) :
    ∃ c, Ev.readCells E i (pre.length + a * s) (m * s) = some c ∧ CRL R ((l.drop a).take m) c := by
  obtain ⟨c1, c2, e1, k1, k2⟩ := hl.split hR a
  obtain ⟨c3, c4, e2, k3, k4⟩ := k2.split hR m
  have l1 := k1.length hR
  have l3 := k3.length hR
  have t1 : (l.take a).length = a := by simp; omega
  have t3 : ((l.drop a).take m).length = m := by simp; omega
  rw [t1] at l1; rw [t3] at l3
  refine ⟨c3, ?_, k3⟩
  have hcs : b.cells = (pre ++ c1) ++ (c3 ++ (c4 ++ post)) := by rw [hc, e1, e2]; simp
  unfold Ev.readCells
  rw [hb]
  have hlen : pre.length + a * s = (pre ++ c1).length := by simp [l1]
  simp only [hlen, hcs, List.drop_left]
  rw [if_pos (by simp; omega), ← l3, List.take_left, hJ _ _ k3]

theorem view_sim {S : Wo} {E : Mem} (hr : Rel S H E) {e : Ty} {v : AV} {l : List e.den} (h : viewL H e v = some l) {x : Value} (hx : VR S v x) :
    Ev.lenA x = some l.length ∧ ∀ m, m ≤ l.length → ∃ c, Ev.firstA E e.size m x = some c ∧ CRL (CR S.F e) (l.take m) c := by
  have hR : ∀ x c, CR S.F e x c → c.length = e.size := fun x c => CR.length e x c
  unfold viewL at h
  split at h
  · rename_i e' l'
    obtain ⟨he, hc⟩ := castL_spec h
    subst he
    have hc : l' = l := hc
    subst hc
    cases hx with
    | lst _ _ _ hS =>
      rcases hS with ⟨rfl, rfl⟩ | ⟨i0, pre, mid, post, cap, rfl, hF, hC, hcap⟩
      · exact ⟨rfl, fun m hm => ⟨[], by simp at hm; simp [Ev.firstA, hm], by simp [CRL]⟩⟩
      · refine ⟨rfl, fun m hm => ?_⟩
        obtain ⟨b, k1, k2⟩ := hr.fz i0 _ hF
        obtain ⟨c, h1, h2⟩ := row_read hR (fun _ _ h => h.noJunk) k1 k2 hC 0 m (by omega)
        exact ⟨c, by simpa [Ev.firstA] using h1, by simpa using h2⟩
  · cases h; cases hx
    exact ⟨rfl, fun m hm => ⟨[], by simp at hm; simp [Ev.firstA, hm], by simp [CRL]⟩⟩
  · rename_i id n
    split at h
    · rename_i t' e' l' ver ex ro hg
      obtain ⟨he, hc⟩ := castL_spec h
      subst he
      have hc : l' = l := hc
      subst hc
      obtain ⟨g1, ⟨_, g, g2, g2'⟩, g3⟩ := hr.row id _ hg
      cases hx with
      | own _ _ i0 cap0 s0 hρ g' hg' hn' =>
        rw [g2] at hg'; cases hg'
        rcases g3 with ⟨_, g5, _⟩ | ⟨i', cap, b, mid, post, q1, q2, q3, q4, q5, q6, q7, q8, q9, q10⟩
        · rw [hρ] at g5; cases g5
        · rw [hρ] at q1; cases q1
          refine ⟨by simp [Ev.lenA]; omega, fun m hm => ?_⟩
          obtain ⟨c, h1, h2⟩ := row_read (pre := []) hR (fun _ _ h => h.noJunk) q2 q4 q5 0 m (by omega)
          exact ⟨c, by simpa [Ev.firstA] using h1, by simpa using h2⟩
      | ownNil _ g' hg' hn' =>
        rw [g2] at hg'; cases hg'
        have h0 : l'.length = 0 := by omega
        exact ⟨by simp [Ev.lenA]; omega, fun m hm => ⟨[], by simp [Ev.firstA]; omega, by rw [List.length_eq_zero_iff.1 h0]; simp [CRL]⟩⟩
    · cases h
  · rename_i id off len cap1
    split at h
    · rename_i t' e' l' ver ex ro hg
      split at h
      · rename_i l2 hcl
        cases h
        obtain ⟨he, hc⟩ := castL_spec hcl
        subst he
        have hc : l' = l2 := hc
        subst hc
        obtain ⟨g1, ⟨_, g, g2, g2'⟩, g3⟩ := hr.row id _ hg
        cases hx with
        | osl _ _ _ _ i0 c0 s0 hρ g' hg' hcc hll =>
          rw [g2] at hg'; cases hg'
          have hlen : ((l'.drop off).take len).length = len := by simp; omega
          rcases g3 with ⟨_, g5, _⟩ | ⟨i', cap, b, mid, post, q1, q2, q3, q4, q5, q6, q7, q8, q9, q10⟩
          · rw [hρ] at g5; cases g5
          · rw [hρ] at q1; cases q1
            refine ⟨by rw [hlen]; rfl, fun m hm => ?_⟩
            rw [hlen] at hm
            obtain ⟨c, h1, h2⟩ := row_read (pre := []) hR (fun _ _ h => h.noJunk) q2 q4 q5 off m (by omega)
            refine ⟨c, by simpa [Ev.firstA] using h1, ?_⟩
            rw [List.take_take, Nat.min_eq_left hm]; exact h2
      · cases h
    · cases h
  · rename_i s
    obtain ⟨he, hc⟩ := castL_spec h
    subst he
    have hc : s.map u8I = l := hc
    subst hc
    rw [hx.str_inv]
    refine ⟨by simp [Ev.lenA, ByteArray.size], fun m hm => ?_⟩
    have hm' : m ≤ s.length := by simpa using hm
    refine ⟨(s.take m).map fun b => .int .u8 b.toNat, ?_, ?_⟩
    · simp only [Ev.firstA]
      rw [if_pos ⟨rfl, by simpa [ByteArray.size] using hm'⟩]
      simp [ByteArray.data_extract, List.extract_toArray, List.extract_eq_take_drop]
    · have : ∀ s : List UInt8, CRL (CR S.F (.int .u8)) (s.map u8I) (s.map fun b => Value.int .u8 b.toNat) := fun s => by
        induction s with
        | nil => rfl
        | cons b s ih => exact ⟨[_], _, rfl, rfl, ih⟩
      rw [← List.map_take]
      exact this _
  · cases h

theorem bnd1 {a : Int} {n : Nat} (h : (!Ev.ltI a 0 && !Ev.ltI (Int.ofNat n) a) = true) : 0 ≤ a ∧ a ≤ n := by
  simp only [Ev.ltI_spec, Bool.and_eq_true, Bool.not_eq_true', decide_eq_false_iff_not, Int.ofNat_eq_natCast] at h; omega
theorem bnd2 {a b : Int} {n : Nat} (h : (!Ev.ltI a 0 && !Ev.ltI b a && !Ev.ltI (Int.ofNat n) b) = true) : 0 ≤ a ∧ a ≤ b ∧ b ≤ n := by
  simp only [Ev.ltI_spec, Bool.and_eq_true, Bool.not_eq_true', decide_eq_false_iff_not, Int.ofNat_eq_natCast] at h; omega
theorem bnd3 {a : Int} {n : Nat} (h : (Ev.eqI a 0 || Ev.ltI a (Int.ofNat n)) = true) : a = 0 ∨ a < n := by
  simp only [Ev.ltI_spec, Ev.eqI_spec, Bool.or_eq_true, beq_iff_eq, decide_eq_true_eq, Int.ofNat_eq_natCast] at h; exact h

/-- A bound, on both sides. -/
inductive BR (ev : Operand → AV) (d : Int) : Option Operand → Int → Prop where
  | none : BR ev d none d
  | some (x k a) (h : ev x = .int k a) : BR ev d (some x) a

theorem bounds_spec {len cap : Nat} {lo hi : Option Operand} {k : Int → Int → Option β} (h : boundsT len cap (lo.map ev) (hi.map ev) k = some r) : ∃ a b, k a b = some r ∧ 0 ≤ a ∧ a ≤ b ∧ (len ≤ cap → b ≤ cap) ∧ BR ev 0 lo a ∧ BR ev len hi b := by
  cases lo with
  | none =>
    cases hi with
    | none => exact ⟨0, len, h, by omega, by omega, fun _ => by omega, .none, .none⟩
    | some y =>
      simp only [Option.map_none, Option.map_some] at h
      unfold boundsT at h
      split at h
      · rename_i h1 h2; cases h2
      · rename_i h1 h2; cases h1
      · rename_i kk b h1 h2
        rw [pick2_eq] at h
        split at h
        · rename_i hb; have hb := bnd1 hb; exact ⟨0, b, h, by omega, hb.1, fun _ => hb.2, .none, .some y kk b (by simpa using h2)⟩
        · cases h
      · rename_i h1 h2; cases h1
      · cases h
  | some x =>
    cases hi with
    | none =>
      simp only [Option.map_none, Option.map_some] at h
      unfold boundsT at h
      split at h
      · rename_i h1 h2; cases h1
      · rename_i kk a h1 h2
        rw [pick2_eq] at h
        split at h
        · rename_i hb; have hb := bnd1 hb; exact ⟨a, len, h, hb.1, hb.2, fun _ => by omega, .some x kk a (by simpa using h1), .none⟩
        · cases h
      · rename_i h1 h2; cases h2
      · rename_i h1 h2; cases h2
      · cases h
    | some y =>
      simp only [Option.map_some] at h
      unfold boundsT at h
      split at h
      · rename_i h1 h2; cases h1
      · rename_i h1 h2; cases h2
      · rename_i h1 h2; cases h1
      · rename_i k1 a k2 b h1 h2
        rw [pick2_eq] at h
        split at h
        · rename_i hb; have hb := bnd2 hb; exact ⟨a, b, h, hb.1, hb.2.1, fun _ => hb.2.2, .some x k1 a (by simpa using h1), .some y k2 b (by simpa using h2)⟩
        · cases h
      · cases h

/-- What Ev's bounds come to. -/
theorem br_val {S : Wo} {evE : Operand → Value} {d : Int} {x : Option Operand} {a : Int} (h : BR ev d x a) (hev : ∀ y, x = some y → VR S (ev y) (evE y)) : (x = none ∧ a = d) ∨ ∃ y k, x = some y ∧ evE y = .int k a := by
  cases h with
  | none => exact .inl ⟨rfl, rfl⟩
  | some y k _ hy => exact .inr ⟨y, k, rfl, by have := hev y rfl; rw [hy] at this; exact this.int_inv⟩

theorem boundA_of {k : IntKind} {a : Int} {y : Nat} (h0 : 0 ≤ a) (h1 : a ≤ y) : Ev.boundA (.int k a) y = some a.toNat := by
  simp only [Ev.boundA, h0, h1, and_self, if_true]

theorem sliceA_of {P : Program} {S : Wo} {evE : Operand → Value} {t te : TypeId} {s : Nat} (hu : P.underlying t = some (.slice te)) (hs : Ev.sizeA P te = some s) {lo hi : Option Operand} {a b : Int} {len cap : Nat} (ha : BR ev 0 lo a) (hb : BR ev len hi b) (h0 : 0 ≤ a) (h1 : a ≤ b) (h2 : b ≤ cap)
    (hlo : ∀ y, lo = some y → VR S (ev y) (evE y)) (hhi : ∀ y, hi = some y → VR S (ev y) (evE y)) (x : Option Addr) (hx : x = none ∨ ∃ i off, x = some ⟨i, off, none⟩) (hac : a = 0 ∨ a < cap) :
    Ev.sliceA P t (.slice x len cap) (lo.map evE) (hi.map evE) = some (.slice (x.map fun z => ⟨z.block, z.off + a.toNat * s, none⟩) (b.toNat - a.toNat) (cap - a.toNat)) := by
  have c1 : ∀ k, Ev.boundA (.int k b) cap = some b.toNat := fun k => boundA_of (by omega) h2
  have c2 : ∀ k, Ev.boundA (.int k a) b.toNat = some a.toNat := fun k => boundA_of h0 (by omega)
  have c3 : ¬ ((a.toNat = cap ∧ a.toNat ≠ 0) ∨ cap < a.toNat) := by omega
  rcases br_val ha hlo with ⟨rfl, rfl⟩ | ⟨z, kk, rfl, hz⟩ <;> rcases br_val hb hhi with ⟨rfl, hbl⟩ | ⟨z', kk', rfl, hz'⟩ <;> rcases hx with rfl | ⟨i, off, rfl⟩
  · obtain rfl : b = len := hbl
    simp [Ev.sliceA, hu, hs]
  · obtain rfl : b = len := hbl
    have c4 : ¬ (cap < 0) := by omega
    simp [Ev.sliceA, hu, hs, c4]
  · simp [Ev.sliceA, hu, hs, hz', c1]
  · simp [Ev.sliceA, hu, hs, hz', c1]
  · obtain rfl : b = len := hbl
    simp only [Int.toNat_natCast] at c2
    simp [Ev.sliceA, hu, hs, hz, c2]
  · obtain rfl : b = len := hbl
    simp only [Int.toNat_natCast] at c2
    simp only [Ev.sliceA, hu, hs, Option.map_none, Option.map_some, hz, c2, if_neg c3, Int.toNat_natCast]
  · simp [Ev.sliceA, hu, hs, hz, hz', c1, c2]
  · simp only [Ev.sliceA, hu, hs, Option.map_some, hz, hz', c1, c2, if_neg c3]

theorem arrSlice_of {P : Program} {S : Wo} {evE : Operand → Value} {t te : TypeId} {s n : Nat} (hu : P.underlying t = some (.array n te)) (hs : Ev.sizeA P te = some s) {lo hi : Option Operand} {a b : Int} (ha : BR ev 0 lo a) (hb : BR ev n hi b) (h0 : 0 ≤ a) (h1 : a ≤ b) (h2 : b ≤ n)
    (hlo : ∀ y, lo = some y → VR S (ev y) (evE y)) (hhi : ∀ y, hi = some y → VR S (ev y) (evE y)) {E : Mem} {i : Nat} {k : Blk} (hk : alive E i = some k) (hfix : k.fix = true) (hac : a = 0 ∨ a < n) :
    Ev.arrSlice P E t (.pointer (some ⟨i, 0, none⟩)) (lo.map evE) (hi.map evE) = some (.slice (some ⟨i, a.toNat * s, none⟩) (b.toNat - a.toNat) (n - a.toNat)) := by
  have c1 : ∀ k, Ev.boundA (.int k b) n = some b.toNat := fun k => boundA_of (by omega) h2
  have c2 : ∀ k, Ev.boundA (.int k a) b.toNat = some a.toNat := fun k => boundA_of h0 (by omega)
  have c3 : pick2 (Nat.beq n a.toNat) 0 (Nat.add 0 (Nat.mul a.toNat s)) = a.toNat * s := by
    rw [pick2_eq]
    split
    · rename_i hn
      simp only [Nat.beq_eq] at hn
      have : a.toNat = 0 := by omega
      rw [this]; simp
    · show 0 + a.toNat * s = _; omega
  rcases br_val ha hlo with ⟨rfl, rfl⟩ | ⟨z, kk, rfl, hz⟩ <;> rcases br_val hb hhi with ⟨rfl, hbl⟩ | ⟨z', kk', rfl, hz'⟩
  · obtain rfl : b = n := hbl
    simp only [Int.toNat_zero] at c3
    simp only [Ev.arrSlice, hu, hs, hk, hfix, Option.map_none, c3, Int.toNat_zero, Int.toNat_natCast]
  · simp only [Int.toNat_zero] at c3
    simp only [Ev.arrSlice, hu, hs, hk, hfix, Option.map_none, Option.map_some, hz', c1, c3, Int.toNat_zero]
  · obtain rfl : b = n := hbl
    simp only [Int.toNat_natCast] at c2
    simp only [Ev.arrSlice, hu, hs, hk, hfix, Option.map_none, Option.map_some, hz, c2, c3, Int.toNat_natCast]
  · simp only [Ev.arrSlice, hu, hs, hk, hfix, Option.map_some, hz, hz', c1, c2, c3]

theorem opSlice_of {P : Program} {evE : Operand → Value} {call : Ev.CallF} {t te : TypeId} {x : Operand} {lo hi : Option Operand} {E : Mem} {v : Value} (hop : o.op = .slice t x lo hi none) (hu : P.underlying t = some (.slice te)) (h : Ev.sliceA P t (evE x) (lo.map evE) (hi.map evE) = some v) : opA P call evE o E = some (v, E) := by
  unfold opA; rw [hop]
  show Ev.opSlice P evE o t (evE x) (lo.map evE) (hi.map evE) E = _
  unfold Ev.opSlice
  have : Ev.isArrT P t = false := by simp [Ev.isArrT, hu]
  rw [this, h]; rfl

theorem slice_ops {t : TypeId} {x : Operand} {lo hi : Option Operand} {S : Wo} {evE : Operand → Value} (hev : ∀ y ∈ (Op.slice t x lo hi none).operands, VR S (ev y) (evE y)) : VR S (ev x) (evE x) ∧ (∀ y, lo = some y → VR S (ev y) (evE y)) ∧ ∀ y, hi = some y → VR S (ev y) (evE y) :=
  ⟨hev x (by simp [Op.operands]), fun y hy => hev y (by subst hy; simp [Op.operands]), fun y hy => hev y (by subst hy; simp [Op.operands])⟩

theorem sizeEq {P : Program} {te : TypeId} {n : Nat} (h : (Ev.sizeA P te == some n) = true) : Ev.sizeA P te = some n := by simpa using h

theorem SR.cut {α : Type} {R : α → List Value → Prop} {s : Nat} (hR : ∀ x c, R x c → c.length = s) {F : Nat → Option (List Value)} {l : List α} {i : Nat} {pre mid post : List Value} {cap : Nat} (hF : F i = some (pre ++ (mid ++ post))) (hC : CRL R l mid) {a b : Int} (h0 : 0 ≤ a) (h1 : a ≤ b) (h2 : b ≤ l.length) (h3 : l.length ≤ cap) :
    SR R F (cutL l a b) (.slice (some ⟨i, pre.length + a.toNat * s, none⟩) (b.toNat - a.toNat) (cap - a.toNat)) := by
  obtain ⟨c1, c2, e1, k1, k2⟩ := hC.split hR a.toNat
  obtain ⟨c3, c4, e2, k3, k4⟩ := k2.split hR (b.toNat - a.toNat)
  have l1 := k1.length hR
  have t1 : (l.take a.toNat).length = a.toNat := by simp; omega
  have t3 : ((l.drop a.toNat).take (b.toNat - a.toNat)).length = b.toNat - a.toNat := by simp; omega
  rw [t1] at l1
  refine .inr ⟨i, pre ++ c1, c3, c4 ++ post, cap - a.toNat, ?_, by rw [hF, e1, e2]; simp, k3, ?_⟩
  · show _ = Value.slice (some ⟨i, (pre ++ c1).length, none⟩) ((l.drop a.toNat).take (b.toNat - a.toNat)).length _
    rw [t3, List.length_append, l1]
  · show ((l.drop a.toNat).take (b.toNat - a.toNat)).length ≤ _
    rw [t3]; omega

def Wo.frz (S : Wo) (i : Nat) (cs : List Value) : Wo := ⟨fun j => if j = i then some cs else S.F j, S.ρ, S.Γ⟩

/-- A row is made to stay. -/
theorem freeze_row {S : Wo} {E : Mem} (hr : Rel S H E) {id : Nat} {t : TypeId} {e : Ty} {l : List e.den} {ver : Nat} {ex ro : Bool} (hg : H.get id = some (.list t e l ver ex ro)) :
    ∃ S', S.le S' ∧ Rel S' (H.put id (.list t e l ver ex true)) E ∧ St S H E S' (H.put id (.list t e l ver ex true)) E ∧
      (∀ n v, VR S (.own id n) v → n = l.length ∧ ((l = [] ∧ v = .slice none 0 0) ∨ ∃ i mid post cap, v = .slice (some ⟨i, 0, none⟩) l.length cap ∧ S'.F i = some (mid ++ post) ∧ CRL (CR S'.F e) l mid ∧ l.length ≤ cap)) := by
  obtain ⟨g1, ⟨g0, g, g2, g2'⟩, g3⟩ := hr.row id _ hg
  have conc : ∀ S', S.le S' → (∀ i cap b mid post, S.ρ id = some (i, cap, e.size) → alive E i = some b → b.cells = mid ++ post → S'.F i = some b.cells) → (∀ n v, VR S (.own id n) v → n = l.length ∧ ((l = [] ∧ v = .slice none 0 0) ∨ ∃ i mid post cap, v = .slice (some ⟨i, 0, none⟩) l.length cap ∧ S'.F i = some (mid ++ post) ∧ CRL (CR S'.F e) l mid ∧ l.length ≤ cap)) := by
    intro S' hle hF n v hv
    cases hv with
    | own _ _ i0 cap0 s0 hρ g' hg' hn' =>
      rw [g2] at hg'; cases hg'
      rcases g3 with ⟨_, g5, _⟩ | ⟨i', cap, b, mid, post, q1, q2, q3, q4, q5, q6, q7, q8, q9, q10⟩
      · rw [hρ] at g5; cases g5
      · rw [hρ] at q1; cases q1
        refine ⟨by omega, .inr ⟨i0, mid, post, cap0, by rw [← g2', hn'], ?_, q5.mono fun x c => CR.mono hle.F e x c, q7⟩⟩
        rw [hF i0 cap0 b mid post hρ q2 q4, q4]
    | ownNil _ g' hg' hn' =>
      rw [g2] at hg'; cases hg'
      exact ⟨by omega, .inl ⟨List.length_eq_zero_iff.1 (by omega), rfl⟩⟩
  cases hro : ro with
  | true =>
    subst hro
    obtain ⟨u1, u2, u3, u4⟩ := TMem.put_spec H id (.list t e l ver ex true)
    have hsame : ∀ j, (H.put id (.list t e l ver ex true)).get j = H.get j := fun j => by
      rw [u4]
      by_cases hj : j = id
      · subst hj; rw [if_pos rfl, if_pos (TMem.get_lt hg), hg]; rfl
      · rw [if_neg hj]
    obtain ⟨k1, k2⟩ := hr.same u1 u2 u3 hsame
    refine ⟨S, S.le_refl, k1, k2, conc S S.le_refl fun i cap b mid post h1 h2 h3 => ?_⟩
    rcases g3 with ⟨_, g5, _⟩ | ⟨i', cap, b', mid, post, q1, q2, q3, q4, q5, q6, q7, q8, q9, q10⟩
    · rw [h1] at g5; cases g5
    · rw [h1] at q1; cases q1
      rw [h2] at q2; cases q2
      exact q10 rfl
  | false =>
    subst hro
    rcases g3 with ⟨g4, g5, g6⟩ | ⟨i', cap, b, mid, post, q1, q2, q3, q4, q5, q6, q7, q8, q9, q10⟩
    · obtain ⟨k1, k2⟩ := hr.mod (S' := S) (E' := E) (r' := .list t e l ver ex true) hg rfl S.le_refl rfl (fun _ _ _ => rfl) rfl rfl (fun _ _ => rfl) (fun j cs h => .inl h) (fun q hq => by
        cases hq
        exact ⟨g1, ⟨g0, g, g2, g2'⟩, .inl ⟨g4, g5, g6⟩⟩)
      exact ⟨S, S.le_refl, k1, k2, conc S S.le_refl fun i cap b mid post h1 => by rw [g5] at h1; cases h1⟩
    · have hsep := hr.sep id _ _ hg rfl q1
      have hle : S.le (S.frz i' b.cells) := ⟨fun j x hj => by
        show (if j = i' then some b.cells else S.F j) = _
        by_cases hji : j = i'
        · subst hji; rw [hsep] at hj; cases hj
        · rw [if_neg hji]; exact hj, fun _ _ h => h, fun _ _ _ h => h⟩
      have hFi : (S.frz i' b.cells).F i' = some b.cells := if_pos rfl
      obtain ⟨k1, k2⟩ := hr.mod (S' := S.frz i' b.cells) (E' := E) (r' := .list t e l ver ex true) hg rfl hle rfl (fun _ _ _ => rfl) rfl rfl (fun _ _ => rfl)
        (fun j cs h => by
          by_cases hji : j = i'
          · subst hji
            rw [hFi] at h; cases h
            exact .inr ⟨.inr rfl, ⟨_, q1, rfl⟩, b, q2, rfl⟩
          · exact .inl (by have h' : (if j = i' then some b.cells else S.F j) = some cs := h; rw [if_neg hji] at h'; exact h'))
        (fun q hq => by
          cases hq
          exact ⟨g1, ⟨g0, g, g2, g2'⟩, .inr ⟨i', cap, b, mid, post, q1, q2, q3, q4, q5.mono fun x c => CR.mono hle.F e x c, q6, q7, q8, q9, fun _ => hFi⟩⟩)
      refine ⟨_, hle, k1, k2, conc _ hle fun i cap' b' mid' post' h1 h2 h3 => ?_⟩
      rw [q1] at h1; cases h1
      rw [q2] at h2; cases h2
      exact hFi

theorem slice_sim {t : TypeId} {x : Operand} {lo hi : Option Operand} (hop : o.op = .slice t x lo hi none) {k : AV → TMem → Option β} (h : sliceT X H t (ev x) (lo.map ev) (hi.map ev) k = some r) : ∃ v H', k v H' = some r ∧ OpSim X cf o ev H v H' := by
  unfold sliceT at h
  split at h
  · rename_i s hu hp
    obtain ⟨a, b, h1, h2, h3, h4, ha, hb⟩ := bounds_spec h
    have h4 := h4 (Nat.le_refl _)
    refine ⟨_, _, h1, .quiet fun S E evE hr hev => ?_⟩
    rw [hop] at hev
    obtain ⟨hx, hlo, hhi⟩ := slice_ops hev
    rw [hp] at hx
    have ex := hx.str_inv
    refine ⟨.string ⟨(cutL s a b).toArray⟩, fun call => ?_, .str _⟩
    unfold opA; rw [hop]
    show Ev.opSlice X.P evE o t (evE x) (lo.map evE) (hi.map evE) E = _
    unfold Ev.opSlice
    have e1 : Ev.isArrT X.P t = false := by simp [Ev.isArrT, hu]
    have e2 : Ev.sliceA X.P t (evE x) (lo.map evE) (hi.map evE) = none := by rw [ex]; simp only [Ev.sliceA, hu]
    rw [e1, e2]
    show withMem E (pureA X.P evE o) = _
    have flo : ∀ y, lo = some y → addrFree (evE y) = true := fun y hy => by
      rcases br_val ha hlo with ⟨h0, _⟩ | ⟨z, kk, h0, hz⟩
      · rw [h0] at hy; cases hy
      · rw [h0] at hy; cases hy; rw [hz]; rfl
    have fhi : ∀ y, hi = some y → addrFree (evE y) = true := fun y hy => by
      rcases br_val hb hhi with ⟨h0, _⟩ | ⟨z, kk, h0, hz⟩
      · rw [h0] at hy; cases hy
      · rw [h0] at hy; cases hy; rw [hz]; rfl
    rw [pure_val (v := .string ⟨(cutL s a b).toArray⟩) (fun a b => by rw [hop]; simp) ?_ ?_ rfl]
    · rfl
    · rw [hop]
      simp only [Ev.operandsFree, Op.operands, List.all_eq_true]
      intro y hy
      simp only [Array.toList_append, List.mem_append] at hy
      rcases hy with ((hy | hy) | hy) | hy
      · simp at hy; subst hy; rw [ex]; rfl
      · exact flo y (by cases lo <;> simp at hy ⊢; exact hy.symm)
      · exact fhi y (by cases hi <;> simp at hy ⊢; exact hy.symm)
      · simp at hy
    · unfold execOp; rw [hop]
      show semPure X.P (Instr.sliceAt t (evE x) (lo.map evE) (hi.map evE) none >>= fun x => pure (Next.value x)) = _
      rw [semPure_bind]
      have e3 : semPure X.P (Instr.sliceAt t (evE x) (lo.map evE) (hi.map evE) none) = some (.string ⟨(cutL s a b).toArray⟩) := by
        unfold Instr.sliceAt
        rw [semPure_bind, semPure_underlying hu]
        simp only [Option.bind_some]
        unfold Instr.slice
        rw [semPure_bind, semPure_underlying hu, ex]
        simp only [Option.bind_some, Option.isSome_none, Bool.false_eq_true, if_false]
        rw [semPure_bind]
        have sz : ByteArray.size ⟨s.toArray⟩ = s.length := by simp [ByteArray.size]
        have e4 : semPure X.P (Instr.sliceBounds false (ByteArray.size ⟨s.toArray⟩) (ByteArray.size ⟨s.toArray⟩) (lo.map evE) (hi.map evE) none) = some (a.toNat, b.toNat, s.length) := by
          rw [sz]
          have bd : ∀ (kk : IntKind) (i : Int) (y : Nat) (c : BoundsCode), 0 ≤ i → i ≤ y → semPure X.P (Instr.sliceBound (.int kk i) y c) = some i.toNat := fun kk i y c h0 h1 => by
            unfold Instr.sliceBound asIntOf
            show semPure X.P (if 0 ≤ i ∧ i ≤ y then pure i.toNat else boundsPanic kk i y c) = _
            rw [if_pos ⟨h0, h1⟩]; rfl
          unfold Instr.sliceBounds
          rcases br_val ha hlo with ⟨rfl, rfl⟩ | ⟨z, kk, rfl, hz⟩ <;> rcases br_val hb hhi with ⟨rfl, rfl⟩ | ⟨z', kk', rfl, hz'⟩
          · rfl
          · simp only [Option.map_none, Option.map_some, hz']
            simp only [semPure_bind, semPure_pure, Option.bind_some]
            rw [bd kk' b s.length _ (by omega) h4]; rfl
          · simp only [Option.map_none, Option.map_some, hz]
            simp only [semPure_bind, semPure_pure, Option.bind_some]
            rw [bd kk a s.length _ (by omega) (by omega)]; rfl
          · simp only [Option.map_some, hz, hz']
            simp only [semPure_bind, semPure_pure, Option.bind_some]
            rw [bd kk' b s.length _ (by omega) h4]
            simp only [Option.bind_some]
            rw [bd kk a b.toNat _ (by omega) (by omega)]; rfl
        rw [e4]
        simp only [Option.bind_some]
        show some (Value.string _) = _
        congr 2
        apply Go.WideShapes.bytes_inj
        simp [ByteArray.data_extract, List.extract_toArray, List.extract_eq_take_drop, cutL]
      rw [e3]; rfl
  · rename_i te e l hu hp
    rw [pick2_eq] at h
    split at h
    · rename_i hs
      have hs := sizeEq hs
      obtain ⟨a, b, h1, h2, h3, h4, ha, hb⟩ := bounds_spec h
      have h4 := h4 (Nat.le_refl _)
      rw [pick2_eq] at h1
      split at h1
      · rename_i hac
        have hac := bnd3 hac
        refine ⟨_, _, h1, .quiet fun S E evE hr hev => ?_⟩
        rw [hop] at hev
        obtain ⟨hx, hlo, hhi⟩ := slice_ops hev
        rw [hp] at hx
        generalize hA : evE x = A at hx
        cases hx with
        | lst _ _ _ hS =>
          rcases hS with ⟨rfl, rfl⟩ | ⟨i0, pre, mid, post, cap, rfl, hF, hC, hcap⟩
          · refine ⟨.slice none (b.toNat - a.toNat) (0 - a.toNat), fun call => opSlice_of hop hu ?_, .lst _ _ _ (.inl ⟨by simp [cutL], ?_⟩)⟩
            · rw [hA]; exact sliceA_of hu hs ha hb h2 h3 (by simpa using h4) hlo hhi none (.inl rfl) (by simp at h4; omega)
            · simp at h4
              have e1 : b.toNat - a.toNat = 0 := by omega
              have e2 : (0 : Nat) - a.toNat = 0 := by omega
              rw [e1, e2]
          · refine ⟨_, fun call => opSlice_of hop hu ?_, .lst _ _ _ (SR.cut (fun x c => CR.length e x c) hF hC h2 h3 h4 hcap)⟩
            rw [hA]; exact sliceA_of hu hs ha hb h2 h3 (by omega) hlo hhi _ (.inr ⟨_, _, rfl⟩) (by omega)
      · cases h1
    · cases h
  · rename_i te id off len cap hu hp
    split at h
    · rename_i t' e l ver ro hg
      rw [pick2_eq] at h
      split at h
      · rename_i hs
        have hs := sizeEq hs
        obtain ⟨a, b, h1, h2, h3, h4, ha, hb⟩ := bounds_spec h
        rw [pick2_eq] at h1
        split at h1
        · rename_i hac
          have hac := bnd3 hac
          refine ⟨_, _, h1, .quiet fun S E evE hr hev => ?_⟩
          rw [hop] at hev
          obtain ⟨hx, hlo, hhi⟩ := slice_ops hev
          rw [hp] at hx
          generalize hA : evE x = A at hx
          obtain ⟨g1, ⟨_, g, g2, g2'⟩, g3⟩ := hr.row id _ hg
          cases hx with
          | osl _ _ _ _ i0 c0 s0 hρ g' hg' hcc hll =>
            rw [g2] at hg'; cases hg'
            rcases g3 with ⟨_, g5, _⟩ | ⟨i', cap', b', mid, post, q1, q2, q3, q4, q5, q6, q7, q8, q9, q10⟩
            · rw [hρ] at g5; cases g5
            · rw [hρ] at q1; cases q1
              refine ⟨_, fun call => opSlice_of hop hu (by rw [hA]; exact sliceA_of hu hs ha hb h2 h3 (h4 hll) hlo hhi _ (.inr ⟨_, _, rfl⟩) (by have := h4 hll; omega)), ?_⟩
              have := VR.osl (S := S) id (off + a.toNat) (b.toNat - a.toNat) (cap - a.toNat) i0 c0 e.size hρ g g2 (by have := h4 hll; omega) (by have := h4 hll; omega)
              rw [Nat.add_mul] at this
              exact this
        · cases h1
      · cases h
    · cases h
  · rename_i te id n hu hp
    split at h
    · rename_i t' e l ver ex ro hg
      rw [pick2_eq] at h
      split at h
      · rename_i hs
        simp only [Bool.and_eq_true] at hs
        obtain ⟨hs, hmay⟩ := hs
        have hs := sizeEq hs
        obtain ⟨a, b, h1, h2, h3, h4, ha, hb⟩ := bounds_spec h
        have h4 := h4 (Nat.le_refl _)
        rw [pick2_eq] at h1
        split at h1
        · rename_i hac
          have hac := bnd3 hac
          refine ⟨_, _, h1, fun S E evE hr hev => ?_⟩
          rw [hop] at hev
          obtain ⟨hx, hlo, hhi⟩ := slice_ops hev
          rw [hp] at hx
          obtain ⟨S', hle, k1, k2, k3⟩ := freeze_row hr hg
          obtain ⟨rfl, hv⟩ := k3 n _ hx
          rcases hv with ⟨rfl, hv⟩ | ⟨i, mid, post, cap, hv, hF, hC, hcap⟩
          · refine ⟨S', .slice none (b.toNat - a.toNat) (0 - a.toNat), E, ⟨0, fun n _ => opSlice_of hop hu ?_⟩, hle, .lst _ _ _ (.inl ⟨by simp [cutL], ?_⟩), k1, k2⟩
            · rw [hv]; exact sliceA_of hu hs ha hb h2 h3 (by simpa using h4) hlo hhi none (.inl rfl) (by simp at h4; omega)
            · simp at h4
              have e1 : b.toNat - a.toNat = 0 := by omega
              have e2 : (0 : Nat) - a.toNat = 0 := by omega
              rw [e1, e2]
          · have := SR.cut (pre := []) (fun x c => CR.length e x c) hF hC h2 h3 h4 hcap
            refine ⟨S', _, E, ⟨0, fun n _ => opSlice_of hop hu ?_⟩, hle, .lst _ _ _ this, k1, k2⟩
            rw [hv]
            have := sliceA_of (S := S) (evE := evE) hu hs ha hb h2 h3 (show b ≤ cap by omega) hlo hhi (some ⟨i, 0, none⟩) (.inr ⟨_, _, rfl⟩) (by omega)
            rw [this]; simp
        · cases h1
      · cases h
    · cases h
  · rename_i te hu hp
    rw [pick2_eq] at h
    split at h
    · rename_i hs
      obtain ⟨s, hs⟩ := Option.isSome_iff_exists.1 hs
      obtain ⟨a, b, h1, h2, h3, h4, ha, hb⟩ := bounds_spec h
      have h4 := h4 (Nat.le_refl _)
      refine ⟨_, _, h1, .quiet fun S E evE hr hev => ?_⟩
      rw [hop] at hev
      obtain ⟨hx, hlo, hhi⟩ := slice_ops hev
      rw [hp] at hx
      generalize hA : evE x = A at hx
      cases hx with
      | nils =>
        refine ⟨.slice none (b.toNat - a.toNat) (0 - a.toNat), fun call => opSlice_of hop hu ?_, ?_⟩
        · rw [hA]; exact sliceA_of hu hs ha hb h2 h3 (by simpa using h4) hlo hhi none (.inl rfl) (by omega)
        · have e1 : b.toNat - a.toNat = 0 := by omega
          have e2 : (0 : Nat) - a.toNat = 0 := by omega
          rw [e1, e2]; exact .nils
    · cases h
  · rename_i n te id n' hu hp
    split at h
    · rename_i t' e l ver ro hg
      rw [pick2_eq] at h
      split at h
      · rename_i hs
        simp only [Bool.and_eq_true, Nat.beq_eq] at hs
        obtain ⟨hs, rfl⟩ := hs
        have hs := sizeEq hs
        obtain ⟨a, b, h1, h2, h3, h4, ha, hb⟩ := bounds_spec h
        have h4 := h4 (Nat.le_refl _)
        rw [pick2_eq] at h1
        split at h1
        · rename_i hac
          have hac := bnd3 hac
          refine ⟨_, _, h1, .quiet fun S E evE hr hev => ?_⟩
          rw [hop] at hev
          obtain ⟨hx, hlo, hhi⟩ := slice_ops hev
          rw [hp] at hx
          generalize hA : evE x = A at hx
          obtain ⟨g1, ⟨_, g, g2, g2'⟩, g3⟩ := hr.row id _ hg
          cases hx with
          | apt _ _ i0 c0 s0 hρ g' hg' hn' =>
            rw [g2] at hg'; cases hg'
            rcases g3 with ⟨_, g5, _⟩ | ⟨i', cap', b', mid, post, q1, q2, q3, q4, q5, q6, q7, q8, q9, q10⟩
            · rw [hρ] at g5; cases g5
            · rw [hρ] at q1; cases q1
              have e1 := arrSlice_of (S := S) (evE := evE) hu hs ha hb h2 h3 h4 hlo hhi q2 (q9 rfl).1 hac
              have := VR.osl (S := S) id a.toNat (b.toNat - a.toNat) (n' - a.toNat) i0 c0 e.size hρ g g2 (by omega) (by omega)
              refine ⟨_, fun call => ?_, this⟩
              unfold opA; rw [hop]
              show Ev.opSlice X.P evE o t (evE x) (lo.map evE) (hi.map evE) E = _
              unfold Ev.opSlice
              have e2 : Ev.isArrT X.P t = true := by simp [Ev.isArrT, hu]
              rw [e2, hA, e1]
              rfl
        · cases h1
      · cases h
    · cases h
  · cases h

end
end Go.Tv
