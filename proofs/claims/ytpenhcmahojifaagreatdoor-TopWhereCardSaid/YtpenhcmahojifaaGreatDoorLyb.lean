/- Each operation of the evaluator's is the machine's own. -/
import Derived.Test.YtpenhcmahojifaaGreatDoorLya
import Derived.IntWalk
import Derived.MapKept
set_option linter.unusedVariables false
set_option linter.unusedSimpArgs false
set_option linter.unusedSectionVars false
namespace Go.Ev
open Go.RowKit
variable [TokE]
structure Sim (ρ : Ren) (a ar : Act) : Prop where
  tmps : AR (VRel ρ) a.tmps ar.tmps
  dr : ar.defers = a.defers
theorem Sim.mono {ρ ρ' : Ren} {a ar : Act} (hle : ρ.le ρ') (h : Sim ρ a ar) : Sim ρ' a ar := ⟨h.tmps.mono fun _ _ => VRel.mono hle, h.dr⟩
theorem AR.getD {R : Value → Value → Prop} {a a' : Array Value} (h : AR R a a') (i : Nat) {d : Value} (hd : R d d) : R (a.getD i d) (a'.getD i d) := by
  by_cases hi : i < a.size
  · have hi' : i < a'.size := h.1 ▸ hi
    have := h.2 i a[i] a'[i] (by simp [hi]) (by simp [hi'])
    simpa [Array.getD, hi, hi'] using this
  · have hi' : ¬ i < a'.size := h.1 ▸ hi
    simpa [Array.getD, hi, hi'] using hd
theorem Sim.eval {ρ : Ren} {a ar : Act} (h : Sim ρ a ar) {G : Nat} (hg : ∀ g, g < G → ρ g = some (g, 0)) {x : Operand} (hx : operandOk G x = true) : VRel ρ (a.eval x) (ar.eval x) := by
  cases x with
  | tmp t => exact h.tmps.getD t .undef
  | const v => exact refl_of_free v hx
  | global g => exact .ptr _ _ _ _ (hg g (by simpa [operandOk, Nat.blt_eq] using hx))
  | func f => exact .func _ _ _ _ _ rfl (fun i x y hx => by simp at hx) rfl (fun i x y hx => by simp at hx) rfl
theorem Sim.put {ρ : Ren} {a ar : Act} (h : Sim ρ a ar) (dst : Option Tmp) {v v' : Value} (hv : VRel ρ v v') : Sim ρ (a.put dst v) (ar.put dst v') := by
  cases dst with
  | none => exact h
  | some d =>
    refine ⟨⟨by simpa [Act.put] using h.tmps.1, fun i x y hx hy => ?_⟩, h.dr⟩
    simp only [Act.put, Array.getElem?_setIfInBounds] at hx hy
    by_cases hd : d = i
    · rw [if_pos hd] at hx hy
      split at hx
      · split at hy
        · cases hx; cases hy; exact hv
        · cases hy
      · cases hx
    · rw [if_neg hd] at hx hy; exact h.tmps.2 i x y hx hy
section
variable {c : Cx} {P : Program} {w : World} {ρ : Ren} {H : Mem}
theorem run_size {t : TypeId} {n : Nat} (h : sizeA P t = some n) (w : World) : (sizeOf t).run P w = .ok n w := by
  unfold sizeA at h
  cases hi : P.info? t with
  | none => simp [hi] at h
  | some i => simp [hi] at h; simp [sizeOf, typeInfo, hi, h]
theorem run_isAgg {t : TypeId} {b : Bool} (h : isAggA P t = some b) (w : World) : (isAgg t).run P w = .ok b w := by
  unfold isAggA at h
  cases hu : P.underlying t with
  | none => simp [hu] at h
  | some d => cases d <;> simp [hu] at h <;> subst h <;> simp [isAgg, run_underlying hu]
theorem run_zero {t : TypeId} {z : Value} (h : zeroA P t = some z) (w : World) : (zeroValue t).run P w = .ok z w ∧ addrFree z = true ∧ ∃ i, P.info? t = some i ∧ i.zero = some z := by
  unfold zeroA at h
  cases hi : P.info? t with
  | none => simp [hi] at h
  | some i =>
    cases hz : i.zero with
    | none => simp [hi, hz] at h
    | some z' =>
      simp only [hi, hz] at h
      split at h
      · rename_i hf; cases h; exact ⟨by simp [zeroValue, typeInfo, hi, hz], hf, i, rfl, hz⟩
      · cases h
theorem add_addr (r off n : Nat) : (⟨r, off, none⟩ : Addr).add n = ⟨r, off + n, none⟩ := by
  unfold Addr.add; split
  · rename_i h; subst h; rfl
  · rfl
theorem known1_spec {x : Option Value} {v : Value} (h : known1 x = some v) : x = some v ∧ isJunk v = false := by
  unfold known1 at h
  split at h
  · rw [pick2_eq] at h
    split at h
    · cases h
    · rename_i hj; cases h; exact ⟨rfl, by simpa using hj⟩
  · cases h
theorem putArr_ge : ∀ (vs : List Value) (C : Array Value) (k j : Nat), k + vs.length ≤ j → (putArr C k vs)[j]? = C[j]?
  | [], _, _, _, _ => rfl
  | v :: vs, C, k, j, h => by
    simp only [List.length_cons] at h
    simp only [putArr]
    rw [putArr_ge vs _ (k + 1) j (by omega), Array.getElem?_setIfInBounds, if_neg (by omega)]
/-- One cell. -/
theorem Emb.cell (he : Emb c ρ H w) {i off r x : Nat} {b : Blk} {v : Value} (hi : alive H i = some b) (hr : ρ i = some (r, x)) (hv : b.cells[off]? = some v) (hj : isJunk v = false) :
    ∃ v', w.cell? ⟨r, off, none⟩ = some v' ∧ VRel ρ v v' := by
  obtain ⟨h1, h2⟩ := alive_some hi
  obtain ⟨r', x', C, fr, s, k1, k2, k3, k4, k5, k6, k7⟩ := he.blk i b h1 h2
  rw [hr] at k1; cases k1
  obtain ⟨v', m1, m2⟩ := k7.1.2 off v hv hj
  exact ⟨v', by simp [World.cell?, k3, m1], m2⟩
theorem Emb.read (he : Emb c ρ H w) {i off n r x : Nat} {l : List Value} (hr : ρ i = some (r, x)) (h : readCells H i off n = some l) :
    ∃ l', LR (VRel ρ) l l' ∧ l.length = n ∧ ∀ (j : Nat) v, l'[j]? = some v → w.cell? ((⟨r, off, none⟩ : Addr).add j) = some v := by
  rw [readCells_def] at h
  split at h
  · rename_i b hb
    split at h
    · rename_i hle
      rw [pick2_eq] at h
      split at h
      · cases h
      rename_i hjk
      cases h
      have get : ∀ (j : Nat) v, ((b.cells.drop off).take n)[j]? = some v → ∃ v', w.cell? ((⟨r, off, none⟩ : Addr).add j) = some v' ∧ VRel ρ v v' := by
        intro j v hv
        have hjv : isJunk v = false := by
          cases hq : isJunk v with
          | false => rfl
          | true => exact absurd (List.any_eq_true.2 ⟨v, List.mem_of_getElem? hv, hq⟩) hjk
        rw [List.getElem?_take] at hv
        split at hv
        · rw [List.getElem?_drop] at hv
          rw [add_addr]
          exact he.cell hb hr hv hjv
        · cases hv
      have hlen : ((b.cells.drop off).take n).length = n := by simp; omega
      generalize (b.cells.drop off).take n = l at get hlen
      refine ⟨(List.range l.length).map fun j => (w.cell? ((⟨r, off, none⟩ : Addr).add j)).getD undef, ⟨by simp, fun j x y hx hy => ?_⟩, hlen, fun j v hv => ?_⟩
      · obtain ⟨v', h1, h2⟩ := get j x hx
        have hj : j < l.length := (List.getElem?_eq_some_iff.1 hx).1
        simp [hj, h1] at hy
        subst hy; exact h2
      · have hj : j < l.length := by
          have := (List.getElem?_eq_some_iff.1 hv).1; simpa using this
        obtain ⟨v', h1, h2⟩ := get j l[j] (by simp [hj])
        simp [hj, h1] at hv
        subst hv; exact h1
    · cases h
  · cases h
theorem LR.eq_length {R : Value → Value → Prop} {l l' : List Value} (h : LR R l l') : l'.length = l.length := h.1.symm
theorem load_ok (he : Emb c ρ H w) {t : TypeId} {x x' v : Value} (hx : VRel ρ x x') (h : loadA c.P H t x = some v) :
    ∃ v', (Instr.loadAt t x').run c.P w = .ok v' w ∧ VRel ρ v v' := by
  unfold loadA at h
  split at h
  · rename_i i off
    cases hx with
    | ptr _ _ r y hr =>
      split at h
      · rename_i n ha hs
        simp only [Option.map_eq_some_iff] at h
        obtain ⟨l, hl, rfl⟩ := h
        obtain ⟨l', h1, h2, h3⟩ := he.read hr hl
        refine ⟨.agg l'.toArray, ?_, ?_⟩
        · have := run_loadCells_list (P := c.P) w ⟨r, off, none⟩ l' h3
          rw [h1.eq_length, h2] at this
          simp [Instr.loadAt, Instr.sureAddr, loadVar, run_isAgg ha, run_size hs, this]
        · exact .agg _ _ h1.array.1 h1.array.2
      · rename_i ha
        split at h
        · rename_i b hb
          obtain ⟨hv, hj⟩ := known1_spec h
          obtain ⟨v', h1, h2⟩ := he.cell hb hr hv hj
          exact ⟨v', by simp [Instr.loadAt, Instr.sureAddr, loadVar, run_isAgg ha, h1], h2⟩
        · cases h
      · cases h
  · cases h
theorem write_ok (he : Emb c ρ H w) {i off r x : Nat} {vs vs' : List Value} {H' : Mem} (hr : ρ i = some (r, x)) (hv : LR (VRel ρ) vs vs') (h : writeCells H i off vs = some H') :
    ∃ w', (storeCells ⟨r, off, none⟩ vs').run c.P w = .ok () w' ∧ Emb c ρ H' w' ∧ w'.heap.size = w.heap.size := by
  rw [writeCells_def] at h
  split at h
  · rename_i hemp
    cases h
    have : vs = [] := by simpa using hemp
    subst this
    rw [hv.unnil]
    exact ⟨w, rfl, he, rfl⟩
  · split at h
    · rename_i b hb
      split at h
      · rename_i hc
        simp only [Bool.and_eq_true, decide_eq_true_eq, List.all_eq_true] at hc
        obtain ⟨hle, hpl⟩ := hc
        obtain ⟨h1, h2⟩ := alive_some hb
        obtain ⟨r', x', C, fr, s, k1, k2, k3, k4, k5, ⟨ex, k6, _⟩, k7⟩ := he.blk i b h1 h2
        rw [hr] at k1; cases k1
        have hone : ∀ v ∈ vs', v.oneCell' = true := by
          intro v hm
          obtain ⟨j, hj⟩ := List.getElem?_of_mem hm
          have hlt : j < vs'.length := (List.getElem?_eq_some_iff.1 hj).1
          have hlt' : j < vs.length := hv.1 ▸ hlt
          exact (hv.2 j vs[j] v (by simp [hlt']) hj).plain (hpl _ (List.getElem_mem hlt'))
        have hL : ¬ i < c.L := by
          have := he.lk
          have := (Mem.set_spec h).2.1
          omega
        have k4 := k4.resolve_left hL
        have hrun := run_stores (c := c) (off := off) vs' 0 C w k3 k4 (by rw [hv.eq_length]; omega) hone
        exact ⟨_, hrun, he.write hb h hr k3 (putCells_length _ _ _) (putArr_size _ _ _) (by simpa using k7.1.put hv) (fun j hj => putArr_ge _ _ _ _ (by have := hv.eq_length; omega)), by simp [withBlk]⟩
      · cases h
    · cases h
theorem store_ok (he : Emb c ρ H w) {t : TypeId} {x x' y y' : Value} {H' : Mem} (hx : VRel ρ x x') (hy : VRel ρ y y') (h : storeA c.P H t x y = some H') :
    ∃ w', (Instr.storeAt t x' y').run c.P w = .ok () w' ∧ Emb c ρ H' w' := by
  unfold storeA at h
  split at h
  · rename_i i off n hs
    cases hx with
    | ptr _ _ r z hr =>
      split at h
      · rename_i hn
        obtain ⟨w', h1, h2, _⟩ := write_ok he hr hy.cells.list h
        refine ⟨w', ?_, h2⟩
        have hsz : y'.cells.size = n := by rw [← hy.cells.1]; exact hn
        simp [Instr.storeAt, Instr.sureAddr, storeVar, run_size hs, hsz, h1]
      · cases h
  · cases h
theorem LR.begins {R : Value → Value → Prop} {l l' : List Value} (h : LR R l l') : Begins R l l'.toArray := ⟨by simp [h.1], fun j v hv _ => by
  obtain ⟨v', h1, h2⟩ := h.get hv
  exact ⟨v', by simpa using h1, h2⟩⟩
theorem LR.begins_append {R : Value → Value → Prop} {l l' : List Value} (h : LR R l l') (pad : Array Value) : Begins R l (l'.toArray ++ pad) := ⟨by simp [h.1], fun j v hv _ => by
  obtain ⟨v', h1, h2⟩ := h.get hv
  have hj : j < l'.length := (List.getElem?_eq_some_iff.1 h1).1
  exact ⟨v', by rw [Array.getElem?_append, if_pos (by simpa using hj)]; simpa using h1, h2⟩⟩
theorem unfrozen_zero (C : Array Value) : unfrozen C (0, 0) := ⟨Nat.le_refl _, fun j _ => by simp⟩
/-- A new row out of cells. -/
theorem new_ok (he : Emb c ρ H w) {t : TypeId} {s : Nat} {cs : List Value} {C : Array Value} {H' : Mem} {fx : Bool} (hp : H.push ⟨cs, t, true, fx⟩ = some H') (hs : sizeA c.P t = some s) (hc : LR (VRel ρ) cs C.toList) :
    ∃ ρ', ρ.le ρ' ∧ ρ' H.size = some (w.heap.size, 0) ∧ Emb c ρ' H' (w.alloc (.cells C t)) := by
  refine ⟨_, he.le_put (Nat.le_refl _) _, Ren.put_same _ _ _, he.new (x := 0) hp hs ?_ ?_ (unfrozen_zero _) (fun _ => rfl) (Spare.full (by have := hc.1; simp at this; omega))⟩
  · have := hc.begins; simpa using this
  · have := hc.1; simp at this; omega
theorem newPtr_spec {H H' : Mem} {t : TypeId} {cs : List Value} {v : Value} (h : newPtr H t cs = some (v, H')) : H.push ⟨cs, t, true, true⟩ = some H' ∧ v = .pointer (some ⟨H.size, 0, none⟩) := by
  unfold newPtr at h
  split at h
  · rename_i H1 h1; cases h; exact ⟨h1, rfl⟩
  · cases h
theorem newSlice_spec {H H' : Mem} {t : TypeId} {cs : List Value} {len cap : Nat} {v : Value} (h : newSlice H t cs len cap = some (v, H')) : H.push ⟨cs, t, true, false⟩ = some H' ∧ v = .slice (some ⟨H.size, 0, none⟩) len cap := by
  unfold newSlice at h
  split at h
  · rename_i H1 h1; cases h; exact ⟨h1, rfl⟩
  · cases h
theorem newRoom_spec {H H' : Mem} {t : TypeId} {cs : List Value} {len cap : Nat} {v : Value} (h : newRoom H t cs len cap = some (v, H')) : H.push ⟨cs, t, true, true⟩ = some H' ∧ v = .slice (some ⟨H.size, 0, none⟩) len cap := by
  unfold newRoom at h
  split at h
  · rename_i H1 h1; cases h; exact ⟨h1, rfl⟩
  · cases h
theorem size_of_zero {t : TypeId} {z : Value} (h : zeroA P t = some z) : ∃ s, sizeA P t = some s := by
  obtain ⟨_, _, i, hi, _⟩ := run_zero h (default : World)
  exact ⟨i.size, by simp [sizeA, hi]⟩
theorem alloc_ok (he : Emb c ρ H w) {t : TypeId} {v : Value} {H' : Mem} (h : opAlloc c.P t H = some (v, H')) :
    ∃ ρ' w' v', ρ.le ρ' ∧ Emb c ρ' H' w' ∧ VRel ρ' v v' ∧ (Instr.alloc t true (.tuple #[])).run c.P w = .ok v' w' := by
  unfold opAlloc at h
  split at h
  · rename_i z hz
    obtain ⟨hp, rfl⟩ := newPtr_spec h
    obtain ⟨h1, h2, i, hi, hiz⟩ := run_zero hz w
    obtain ⟨s, hs⟩ := size_of_zero hz
    obtain ⟨ρ', k1, k2, k3⟩ := new_ok he hp hs (refl_of_free (ρ := ρ) z h2).cells.list
    exact ⟨ρ', _, _, k1, k3, .ptr _ _ _ _ k2, by simp [Instr.alloc, h1, newVar, newRow]⟩
  · cases h
theorem box_ok (he : Emb c ρ H w) {t : TypeId} {x x' v : Value} {H' : Mem} (hx : VRel ρ x x') (h : opBox c.P t x H = some (v, H')) :
    ∃ ρ' w' v', ρ.le ρ' ∧ Emb c ρ' H' w' ∧ VRel ρ' v v' ∧ (Instr.box t x').run c.P w = .ok v' w' := by
  unfold opBox at h
  split at h
  · rename_i s hs
    obtain ⟨hp, rfl⟩ := newPtr_spec h
    obtain ⟨ρ', k1, k2, k3⟩ := new_ok he hp hs hx.cells.list
    exact ⟨ρ', _, _, k1, k3, .ptr _ _ _ _ k2, by simp [Instr.box, newVar, newRow]⟩
  · cases h
/-! ### Parts laid into cells -/
def PR (R : Value → Value → Prop) : List (Nat × Value) → List (Nat × Value) → Prop
  | [], [] => True
  | (i, v) :: l, (j, u) :: m => i = j ∧ R v u ∧ PR R l m
  | _, _ => False
theorem AR.setIf {R : Value → Value → Prop} {a a' : Array Value} (h : AR R a a') (i : Nat) {v v' : Value} (hv : R v v') : AR R (a.setIfInBounds i v) (a'.setIfInBounds i v') :=
  ⟨by simpa using h.1, fun j x y hx hy => by
    rw [Array.getElem?_setIfInBounds] at hx hy
    by_cases hij : i = j
    · rw [if_pos hij] at hx hy
      split at hx
      · split at hy
        · cases hx; cases hy; exact hv
        · cases hy
      · cases hx
    · rw [if_neg hij] at hx hy; exact h.2 j x y hx hy⟩
theorem fold_rel {R : Value → Value → Prop} (off : Nat) : ∀ (l l' : List Value) (k : Nat) (a a' : Array Value), LR R l l' → AR R a a' →
    AR R ((l.zipIdx k).foldl (fun cs (c : Value × Nat) => cs.setIfInBounds (off + c.2) c.1) a) ((l'.zipIdx k).foldl (fun cs (c : Value × Nat) => cs.setIfInBounds (off + c.2) c.1) a')
  | [], l', k, a, a', hl, ha => by rw [hl.unnil]; exact ha
  | v :: l, l', k, a, a', hl, ha => by
    obtain ⟨v', t', rfl, h1, h2⟩ := hl.uncons
    simp only [List.zipIdx_cons, List.foldl_cons]
    exact fold_rel off l t' (k + 1) _ _ h2 (ha.setIf _ h1)
theorem fill_rel {place : Nat → Option (Nat × Nat)} : ∀ (parts parts' : List (Nat × Value)) (a a' r : Array Value), PR (VRel ρ) parts parts' → AR (VRel ρ) a a' →
    Instr.fill place a parts = some r → ∃ r', Instr.fill place a' parts' = some r' ∧ AR (VRel ρ) r r'
  | [], [], a, a', r, _, ha, h => by simp only [Instr.fill, Option.some.injEq] at h; subst h; exact ⟨a', rfl, ha⟩
  | [], _ :: _, _, _, _, hp, _, _ => hp.elim
  | _ :: _, [], _, _, _, hp, _, _ => hp.elim
  | (i, v) :: l, (j, u) :: m, a, a', r, hp, ha, h => by
    obtain ⟨rfl, hv, hp'⟩ := hp
    simp only [Instr.fill] at h ⊢
    cases hpl : place i with
    | none => simp [hpl] at h
    | some q =>
      obtain ⟨off, size⟩ := q
      simp only [hpl] at h ⊢
      rw [← hv.cells.1, ← ha.1]
      split at h
      · cases h
      · rename_i hcond
        rw [if_neg hcond]
        refine fill_rel l m _ _ r hp' ?_ h
        have e : ∀ (c z : Array Value), (c.zipIdx.foldl (fun cs (x : Value × Nat) => cs.setIfInBounds (off + x.2) x.1) z) = ((c.toList.zipIdx 0).foldl (fun cs (x : Value × Nat) => cs.setIfInBounds (off + x.2) x.1) z) := by
          intro c z
          rw [← Array.foldl_toList, Array.toList_zipIdx]
        have := fold_rel (R := VRel ρ) off v.cells.toList u.cells.toList 0 a a' hv.cells.list ha
        rw [← e, ← e] at this
        exact this
theorem build_ok {t : TypeId} {parts parts' : List (Nat × Value)} {v : Value} (hp : PR (VRel ρ) parts parts') (h : buildA P t parts = some v) (w : World) :
    ∃ v', (Instr.build t parts'.toArray).run P w = .ok v' w ∧ VRel ρ v v' := by
  have hb := buildA_def P t parts v h
  clear h
  obtain ⟨hbf, h⟩ := hb
  · simp only [Option.map_eq_some_iff] at h
    obtain ⟨cells, hc, rfl⟩ := h
    obtain ⟨z, hz⟩ := Option.isSome_iff_exists.1 hbf
    obtain ⟨_, hfree, i, hi, hiz⟩ := run_zero hz w
    have key : ∃ cells', P.built t parts' = some cells' ∧ AR (VRel ρ) cells cells' := by
      unfold Program.built at hc ⊢
      simp only [hi] at hc ⊢
      cases hu : P.underlying t with
      | none => simp [hu] at hc
      | some d =>
        cases d <;> simp only [hu] at hc ⊢ <;> try (cases hc; done)
        · rename_i n e
          cases he : P.info? e with
          | none => simp [he] at hc
          | some ie =>
            simp only [he, hiz] at hc ⊢
            exact fill_rel _ _ _ _ _ hp ((refl_of_free (ρ := ρ) z hfree).cells) hc
        · rename_i fs
          cases hm : fs.toList.mapM (fun f => (P.info? f.type).map fun i => (f.offset, i.size)) with
          | none => simp [hm] at hc
          | some places =>
            simp only [hm, hiz] at hc ⊢
            exact fill_rel _ _ _ _ _ hp ((refl_of_free (ρ := ρ) z hfree).cells) hc
    obtain ⟨cells', h1, h2⟩ := key
    exact ⟨.agg cells', run_build w t _ cells' (by simpa using h1), .agg _ _ h2.1 h2.2⟩
theorem zeros_ok {e : TypeId} {n : Nat} {zs : Array Value} (h : zerosA P e n = some zs) (w : World) :
    ∃ s, sizeA P e = some s ∧ AR (VRel ρ) zs zs ∧ zs.size = n * s ∧
      (do let zero ← (if n * s = 0 then pure #[] else do pure (← zeroValue e).cells : Sem (Array Value)); pure ((Array.range (n * s)).map (zero[· % zero.size]!)) : Sem (Array Value)).run P w = .ok zs w := by
  rw [zerosA_def] at h
  split at h
  · rename_i s z hs hz
    obtain ⟨h1, h2, i, hi, hiz⟩ := run_zero hz w
    refine ⟨s, hs, ?_⟩
    split at h
    · rename_i h0
      cases h
      exact ⟨⟨rfl, fun i x y hx => by simp at hx⟩, by simp [h0], by simp [h0]⟩
    · rename_i h0
      cases h
      refine ⟨⟨rfl, fun i x y hx hy => ?_⟩, by simp, by simp [h0, h1]⟩
      rw [hx] at hy; cases hy
      have hlt : i < n * s := by
        have := (Array.getElem?_eq_some_iff.1 hx).1; simpa using this
      simp [hlt] at hx
      subst hx
      have hz := (refl_of_free (ρ := ρ) z h2).cells
      by_cases hsz : i % z.cells.size < z.cells.size
      · have := hz.2 (i % z.cells.size) z.cells[i % z.cells.size] z.cells[i % z.cells.size] (by simp [hsz]) (by simp [hsz])
        simpa [hsz] using this
      · have : z.cells[i % z.cells.size]! = default := by simp [hsz]
        rw [this]
        exact refl_of_free _ (by rfl)
  · cases h
end
end Go.Ev
namespace Go.Ev
open Go.RowKit
variable [TokE]
section
variable {c : Cx} {P : Program} {w : World} {ρ : Ren} {H : Mem}
theorem zeros_cases {e : TypeId} {n s : Nat} {zs : Array Value} (hs : sizeA P e = some s) (h : zerosA P e n = some zs) :
    (n * s = 0 ∧ zs = #[]) ∨ (n * s ≠ 0 ∧ ∃ z, zeroA P e = some z ∧ zs = (Array.range (n * s)).map (z.cells[· % z.cells.size]!)) := by
  rw [zerosA_def] at h
  split at h
  · rename_i s' z hs' hz
    rw [hs] at hs'; cases hs'
    split at h
    · rename_i h0; cases h; exact .inl ⟨h0, rfl⟩
    · rename_i h0; cases h; exact .inr ⟨h0, z, hz, rfl⟩
  · cases h
theorem buildSlice_ok (he : Emb c ρ H w) {t : TypeId} {len : Nat} {parts parts' : List (Nat × Value)} {v : Value} {H' : Mem} (hp : PR (VRel ρ) parts parts') (h : buildSliceA c.P H t len parts = some (v, H')) :
    ∃ ρ' w' v', ρ.le ρ' ∧ Emb c ρ' H' w' ∧ VRel ρ' v v' ∧ (Instr.buildSlice t len parts'.toArray).run c.P w = .ok v' w' := by
  unfold buildSliceA at h
  split at h
  · rename_i e hu
    split at h
    · rename_i s z hs hz
      split at h
      · cases h
      · rename_i hsz
        simp only [fillA_eq] at h
        split at h
        · rename_i cs hf
          obtain ⟨hp', rfl⟩ := newRoom_spec h
          obtain ⟨s', hs', hzz, hzn, hrun⟩ := zeros_ok (ρ := ρ) hz w
          rw [hs] at hs'; cases hs'
          obtain ⟨cs', hf', hcs⟩ := fill_rel _ _ _ _ _ hp hzz hf
          obtain ⟨ρ', k1, k2, k3⟩ := new_ok he hp' hs hcs.list
          refine ⟨ρ', _, _, k1, k3, .slice _ _ _ _ _ _ k2, ?_⟩
          have hf2 : Instr.fill (fun i => some (i * s, s)) z parts' = some cs' := hf'
          rcases zeros_cases hs hz with ⟨h0, rfl⟩ | ⟨h0, y, hy, rfl⟩
          · have hr0 : Array.range 0 = #[] := rfl
            simp [Instr.buildSlice, run_underlying hu, run_size hs, h0, hr0, hf2, newRow]
          · obtain ⟨hy1, _⟩ := run_zero hy w
            have hsz' : ¬ (16777216 < len * s) := by simpa using hsz
            simp [Instr.buildSlice, run_underlying hu, run_size hs, h0, hsz', hy1, hf2, newRow]
        · cases h
    · cases h
  · cases h
theorem makeSlice_ok (he : Emb c ρ H w) {t : TypeId} {l l' cp cp' v : Value} {H' : Mem} (hl : VRel ρ l l') (hc : VRel ρ cp cp') (h : makeSliceA c.P H t l cp = some (v, H')) :
    ∃ ρ' w' v', ρ.le ρ' ∧ Emb c ρ' H' w' ∧ VRel ρ' v v' ∧ (Instr.makeSlice t l' cp').run c.P w = .ok v' w' := by
  unfold makeSliceA at h
  split at h
  · rename_i e k n k' m hu
    cases hl
    cases hc
    split at h
    · rename_i inf z hi hz
      split at h
      · rename_i hb
        obtain ⟨hp', rfl⟩ := newRoom_spec h
        obtain ⟨h0, h1, h2, h3⟩ := hb
        obtain ⟨s', hs', hzz, hzn, hrun⟩ := zeros_ok (ρ := ρ) hz w
        obtain ⟨ρ', k1, k2, k3⟩ := new_ok he hp' hs' hzz.list
        refine ⟨ρ', _, _, k1, k3, .slice _ _ _ _ _ _ k2, ?_⟩
        have w1 : IntKind.i64.wrap n = n := IntWalk.i64_in _ (by omega)
        have w2 : IntKind.i64.wrap m = m := IntWalk.i64_in _ (by omega)
        have hm : (inf.bytes : Int) * m ≤ 2000000 * 2000000 := Int.mul_le_mul (by omega) h2 (by omega) (by omega)
        have hbig : ¬ ((inf.bytes : Int) * m > 2 ^ 48) := by omega
        have hsz : inf.size = s' := by simpa [sizeA, hi] using hs'
        subst hsz
        have hc1 : (decide (m < 0) || decide ((inf.bytes : Int) * m > 2 ^ 48) || decide (n < 0) || decide (n > m)) = false := by
          simp; omega
        simp only [Bool.or_eq_false_iff, decide_eq_false_iff_not] at hc1
        obtain ⟨⟨⟨c1, c2⟩, c3⟩, c4⟩ := hc1
        have c2' : ¬ (281474976710656 < (inf.bytes : Int) * m) := by simpa using c2
        rcases zeros_cases hs' hz with ⟨h0, rfl⟩ | ⟨h0, y, hy, rfl⟩
        · have hr0 : Array.range 0 = #[] := rfl
          simp [Instr.makeSlice, run_underlying hu, asInt, asIntOf, typeInfo, sizeOf, hi, w1, w2, c1, c2', c3, c4, h0, hr0, newRow]
        · obtain ⟨hy1, _⟩ := run_zero hy w
          simp [Instr.makeSlice, run_underlying hu, asInt, asIntOf, typeInfo, sizeOf, hi, w1, w2, c1, c2', c3, c4, h0, hy1, newRow]
      · cases h
    · cases h
  · cases h
theorem first_ok (he : Emb c ρ H w) {s n : Nat} {x x' : Value} {l : List Value} (hx : VRel ρ x x') (h : firstA H s n x = some l) :
    ∃ l', (Builtin.firstCells s n x').run c.P w = .ok l'.toArray w ∧ LR (VRel ρ) l l' := by
  unfold firstA at h
  split at h
  · cases hx with
    | slice i off len cap r y hr =>
      obtain ⟨l', h1, h2, h3⟩ := he.read hr h
      refine ⟨l', ?_, h1⟩
      have := run_loadCells_list (P := c.P) w _ l' h3
      rw [h1.eq_length, h2] at this
      simpa [Builtin.firstCells] using this
  · cases hx
    split at h
    · cases h
      exact ⟨[], by simp [Builtin.firstCells], .nil⟩
    · cases h
  · split at h
    · rename_i h0
      cases h
      subst h0
      cases hx with
      | void a' => exact ⟨[], by simpa [Builtin.firstCells] using run_loadCells_list (P := c.P) w a' [] (fun j v hj => by cases hj), .nil⟩
    · cases h
  · cases hx
    rename_i q
    split at h
    case isFalse => cases h
    cases h
    refine ⟨(q.extract 0 n).data.toList.map fun b => .int .u8 b.toNat, by simp [Builtin.firstCells]; apply Array.ext'; simp, ?_⟩
    exact ⟨rfl, fun i x y hx hy => by
      rw [hx] at hy; cases hy
      obtain ⟨b, _, rfl⟩ := List.mem_map.1 (List.mem_of_getElem? hx)
      exact .int _ _⟩
  · cases h
theorem first_len {s n : Nat} {x : Value} {l : List Value} (h : firstA H s n x = some l) : l.length = n * s := by
  unfold firstA at h
  split at h
  · rename_i b off _ _
    rw [readCells_def] at h
    split at h
    · split at h
      · rw [pick2_eq] at h
        split at h
        · cases h
        · cases h; simp; omega
      · cases h
    · cases h
  · split at h
    · rename_i h0; cases h; simp [h0]
    · cases h
  · split at h
    · rename_i h0; cases h; simp [h0]
    · cases h
  · split at h
    · rename_i h0; cases h; obtain ⟨rfl, h1⟩ := h0; simp; omega
    · cases h
  · cases h
theorem len_ok {x x' : Value} {n : Nat} (hx : VRel ρ x x') (h : lenA x = some n) (w : World) : (Builtin.lenOf x').run P w = .ok n w := by
  unfold lenA at h
  split at h
  · cases h
    cases hx <;> simp [Builtin.lenOf]
  · cases h
    cases hx
    simp [Builtin.lenOf]
  · cases h
theorem not_int {xt : TypeId} (h : isSliceType P xt = true) : (∃ e, P.underlying xt = some (.slice e)) ∨ P.underlying xt = some .string := by
  unfold isSliceType at h
  cases hu : P.underlying xt with
  | none => simp [hu] at h
  | some d =>
    cases d <;> simp [hu] at h
    · exact .inr rfl
    · exact .inl ⟨_, rfl⟩
theorem grown_lt (w : World) (need old : Nat) (e : TypeId) (h : need < 9223372036854775808) : grownCap w need old e < 9223372036854775808 := by
  simp only [grownCap, Question.cut]
  have := Nat.mod_lt (w.tape w.drawn (.appendCap need old e)) (show 0 < 2 ^ 63 - need by omega)
  omega
theorem grown_le (w : World) (need old : Nat) (e : TypeId) : need ≤ grownCap w need old e := by
  simp only [grownCap, Question.cut]; omega
theorem zeroCells_mem {z : Array Value} {n j : Nat} {v : Value} (h : (Builtin.zeroCells z n)[j]? = some v) : v ∈ z.toList := by
  simp only [Builtin.zeroCells, Array.getElem?_map, Option.map_eq_some_iff] at h
  obtain ⟨k, hk, rfl⟩ := h
  have hlt := (Array.getElem?_eq_some_iff.1 hk).1
  simp at hlt
  have hz : 0 < z.size := by
    rcases Nat.eq_zero_or_pos z.size with h0 | h0
    · rw [h0, Nat.mul_zero] at hlt; omega
    · exact h0
  have hm : k % z.size < z.size := Nat.mod_lt _ hz
  rw [getElem!_pos z _ hm]
  simp
theorem zeroCells_size (z : Array Value) (n : Nat) : (Builtin.zeroCells z n).size = n * z.size := by simp [Builtin.zeroCells]
/-- The kit's own facts on types: a zero value has its type's size. -/
def zeroFits (P : Program) (e : TypeId) : Bool :=
  match P.info? e with
  | some i => match i.zero with
    | some z => z.cells.size == i.size
    | none => false
  | none => false
/-- The machine's append where there is room. -/
theorem app_room {st xt ty e : TypeId} {inf : TypeInfo} {at_ : Array TypeId} {as : Array Value} {r off sLen cap n : Nat} {x' : Value} {new : List Value} {w w' : World}
    (hat0 : at_[0]? = some st) (hat1 : at_[1]? = some xt) (has0 : as[0]? = some (.slice (some ⟨r, off, none⟩) sLen cap)) (has1 : as[1]? = some x')
    (hu : P.underlying st = some (.slice e)) (hxt : isSliceType P xt = true) (hi : P.info? e = some inf) (hn : (Builtin.lenOf x').run P w = .ok n w)
    (hroom : sLen + n ≤ cap) (hrn : (Builtin.firstCells inf.size n x').run P w = .ok new.toArray w) (hst : (storeCells ⟨r, off + sLen * inf.size, none⟩ new).run P w = .ok () w') :
    (Builtin.append_ at_ ty as).run P w = .ok (.slice (some ⟨r, off, none⟩) (sLen + n) cap) w' := by
  rcases not_int hxt with ⟨e', hd⟩ | hd
  · simp [Builtin.append_, hat0, hat1, has0, has1, run_underlying hu, run_underlying hd, sizeOf, typeInfo, hi, hn, hroom, hrn, add_addr, hst]
  · simp [Builtin.append_, hat0, hat1, has0, has1, run_underlying hu, run_underlying hd, sizeOf, typeInfo, hi, hn, hroom, hrn, add_addr, hst]
theorem app_nil {st xt ty e : TypeId} {inf : TypeInfo} {at_ : Array TypeId} {as : Array Value} {sLen cap n : Nat} {x' : Value} {new : List Value} {w : World}
    (hat0 : at_[0]? = some st) (hat1 : at_[1]? = some xt) (has0 : as[0]? = some (.slice none sLen cap)) (has1 : as[1]? = some x')
    (hu : P.underlying st = some (.slice e)) (hxt : isSliceType P xt = true) (hi : P.info? e = some inf) (hn : (Builtin.lenOf x').run P w = .ok n w)
    (hroom : sLen + n ≤ cap) (hrn : (Builtin.firstCells inf.size n x').run P w = .ok new.toArray w) :
    (Builtin.append_ at_ ty as).run P w = .ok (.slice none (sLen + n) cap) w := by
  rcases not_int hxt with ⟨e', hd⟩ | hd
  · simp [Builtin.append_, hat0, hat1, has0, has1, run_underlying hu, run_underlying hd, sizeOf, typeInfo, hi, hn, hroom, hrn]
  · simp [Builtin.append_, hat0, hat1, has0, has1, run_underlying hu, run_underlying hd, sizeOf, typeInfo, hi, hn, hroom, hrn]
theorem app_grow {st xt ty e : TypeId} {inf : TypeInfo} {z : Value} {at_ : Array TypeId} {as : Array Value} {base : Option Addr} {sLen cap n : Nat} {x' : Value} {old new : List Value} {w : World}
    (hat0 : at_[0]? = some st) (hat1 : at_[1]? = some xt) (has0 : as[0]? = some (.slice base sLen cap)) (has1 : as[1]? = some x')
    (hu : P.underlying st = some (.slice e)) (hxt : isSliceType P xt = true) (hi : P.info? e = some inf) (hz : inf.zero = some z) (hn : (Builtin.lenOf x').run P w = .ok n w)
    (hroom : ¬ sLen + n ≤ cap) (hb0 : inf.bytes ≠ 0) (hfit : Builtin.nextslicecap (sLen + n) cap * inf.bytes ≤ 281474976710656) (h63 : ((sLen + n : Nat) : Int) ≤ 9223372036854775807)
    (hro : (Builtin.firstCells inf.size sLen (.slice base sLen cap)).run P w.drew = .ok old.toArray w.drew) (hrn : (Builtin.firstCells inf.size n x').run P w.drew = .ok new.toArray w.drew) :
    (Builtin.append_ at_ ty as).run P w = .ok (.slice (some ⟨w.heap.size, 0, none⟩) (sLen + n) (grownCap w (sLen + n) cap e))
      (w.drew.alloc (.cells (old.toArray ++ (new.toArray ++ Builtin.zeroCells z.cells (grownCap w (sLen + n) cap e - (sLen + n)))) e)) := by
  have hfit' : ¬ (281474976710656 < Builtin.nextslicecap (sLen + n) cap * inf.bytes) := by omega
  have h63' : ¬ (9223372036854775807 < ((sLen : Int) + (n : Int))) := by omega
  rcases not_int hxt with ⟨e', hd⟩ | hd
  · simp [Builtin.append_, hat0, hat1, has0, has1, run_underlying hu, run_underlying hd, sizeOf, typeInfo, zeroValue, hi, hz, hn, hroom, hb0, hfit', hro, hrn, Question.forced, newRow, grownCap]
  · simp [Builtin.append_, hat0, hat1, has0, has1, run_underlying hu, run_underlying hd, sizeOf, typeInfo, zeroValue, hi, hz, hn, hroom, hb0, hfit', hro, hrn, Question.forced, newRow, grownCap]
end
end Go.Ev
namespace Go.Ev
open Go.RowKit
variable [TokE]
theorem putArr_lt : ∀ (vs : List Value) (C : Array Value) (k j : Nat), j < k → (putArr C k vs)[j]? = C[j]?
  | [], _, _, _, _ => rfl
  | v :: vs, C, k, j, h => by
    simp only [putArr]
    rw [putArr_lt vs _ (k + 1) j (by omega), Array.getElem?_setIfInBounds, if_neg (by omega)]
theorem putArr_in : ∀ (vs : List Value) (C : Array Value) (k i : Nat) (v : Value), vs[i]? = some v → k + vs.length ≤ C.size → (putArr C k vs)[k + i]? = some v
  | [], _, _, _, _, h, _ => by simp at h
  | u :: vs, C, k, 0, v, h, hl => by
    simp at h; subst h
    simp only [List.length_cons] at hl
    simp only [putArr, Nat.add_zero]
    rw [putArr_lt _ _ _ _ (by omega), Array.getElem?_setIfInBounds]
    simp; omega
  | u :: vs, C, k, i + 1, v, h, hl => by
    simp only [List.length_cons] at hl
    simp only [putArr]
    have := putArr_in vs (C.setIfInBounds k u) (k + 1) i v (by simpa using h) (by simp; omega)
    rw [show k + (i + 1) = k + 1 + i by omega]; exact this
section
variable {c : Cx} {P : Program} {w : World} {ρ : Ren} {H : Mem}
set_option maxHeartbeats 1000000 in
theorem appendB_ok (he : Emb c ρ H w) {st xt ty : TypeId} {s s' x x' v : Value} {H' : Mem} {at_ : Array TypeId} {as : Array Value}
    (hat0 : at_[0]? = some st) (hat1 : at_[1]? = some xt) (has0 : as[0]? = some s') (has1 : as[1]? = some x')
    (hs : VRel ρ s s') (hx : VRel ρ x x') (h : appendB c.P H st xt s x = some (v, H')) :
    ∃ ρ' w' v', ρ.le ρ' ∧ Emb c ρ' H' w' ∧ VRel ρ' v v' ∧ (Builtin.append_ at_ ty as).run c.P w = .ok v' w' := by
  unfold appendB at h
  split at h
  · rename_i e base sLen sCap hu hxt
    split at h
    · rename_i inf z n hi hz hn
      obtain ⟨hzr, hzfree, i', hi', hiz⟩ := run_zero hz w
      rw [hi] at hi'; cases hi'
      split at h
      · rename_i new old hnew hold
        split at h
        · cases h
        · rename_i hbig
          simp only [not_or] at hbig
          obtain ⟨hb1, hb2, hb3, hb4, hb5, hzs, hpl⟩ := hbig
          have hzs : z.cells.size = inf.size := by omega
          have hsz : sizeA c.P e = some inf.size := by simp [sizeA, hi]
          obtain ⟨new', hrn, hln⟩ := first_ok he hx hnew
          have hlen := len_ok (P := c.P) hx hn w
          have grow : ∀ (cap : Nat), s' = .slice (match s' with | .slice q _ _ => q | _ => none) sLen cap → ¬ sLen + n ≤ cap → cap ≤ 2000000 + sCap → 
              ∀ {H0 H2 : Mem} {v : Value}, Emb c ρ H0 w → newSlice H0 e (old ++ new) (sLen + n) (sLen + n) = some (v, H2) → ∃ ρ' w' v', ρ.le ρ' ∧ Emb c ρ' H2 w' ∧ VRel ρ' v v' ∧ (Builtin.append_ at_ ty as).run c.P w = .ok v' w' := by
            intro cap hs' hroom hcap H0 H2 v he0 hns
            obtain ⟨hp', rfl⟩ := newSlice_spec hns
            obtain ⟨new1, hrn1, hln1⟩ := first_ok he.drew hx hnew
            obtain ⟨old1, hro1, hlo1⟩ := first_ok he.drew hs hold
            rw [hs'] at has0 hro1
            have hfit : Builtin.nextslicecap (sLen + n) cap * inf.bytes ≤ 281474976710656 := by
              have h1 := nextslicecap_le (need := sLen + n) (old := cap) (by omega)
              have h2 : Builtin.nextslicecap (sLen + n) cap * inf.bytes ≤ (2 * 2000000) * 100000 := Nat.mul_le_mul (by omega) (by omega)
              omega
            have hrun := app_grow (ty := ty) hat0 hat1 has0 has1 hu hxt hi hiz hlen hroom hb2 hfit (by omega) hro1 hrn1
            have hg := grown_le w (sLen + n) cap e
            have hl1 : (old ++ new).length = (sLen + n) * inf.size := by
              have e1 : old.length = sLen * inf.size := first_len hold
              have e2 : new.length = n * inf.size := first_len hnew
              rw [List.length_append, e1, e2, Nat.add_mul]
            have hC : (old1.toArray ++ (new1.toArray ++ Builtin.zeroCells z.cells (grownCap w (sLen + n) cap e - (sLen + n)))).size = (old ++ new).length + (grownCap w (sLen + n) cap e - (sLen + n)) * inf.size := by
              simp only [Array.size_append, List.size_toArray, zeroCells_size, hzs, List.length_append, hlo1.eq_length, hln1.eq_length]; omega
            refine ⟨_, _, _, he0.le_put (Nat.le_refl _) (w.heap.size, grownCap w (sLen + n) cap e - (sLen + n)), ?_, ?_, hrun⟩
            · refine he0.drew.new hp' hsz ?_ hC (unfrozen_zero _) (fun h => by cases h) ⟨fun j v hj hv => .inl ⟨z, hz, by
                rw [← Array.append_assoc, Array.getElem?_append] at hv
                split at hv
                · rename_i hlt
                  simp only [Array.size_append, List.size_toArray, List.length_append, hlo1.eq_length, hln1.eq_length] at hlt hj
                  omega
                · exact zeroCells_mem hv⟩, .inr (.inl fun s' hs' => by
                rw [hsz] at hs'; cases hs'
                rw [hC, hl1, ← Nat.add_mul, Nat.add_sub_cancel' hg]
                exact Nat.mul_lt_mul_of_pos_right (grown_lt w (sLen + n) cap e (by omega)) (by omega))⟩
              have := (hlo1.append hln1).begins_append (Builtin.zeroCells z.cells (grownCap w (sLen + n) cap e - (sLen + n)))
              simpa [← Array.append_assoc] using this
            · have := VRel.slice (ρ := ρ.put H0.size (w.heap.size, grownCap w (sLen + n) cap e - (sLen + n))) H0.size 0 (sLen + n) (sLen + n) w.heap.size _ (Ren.put_same _ _ _)
              rw [Nat.add_sub_cancel' hg] at this
              exact this
          split at h
          · -- there is room that is known
            rename_i hroom
            split at h
            · rename_i b off
              simp only [Option.map_eq_some_iff] at h
              obtain ⟨H1, hw1, heq⟩ := h
              cases heq
              cases hs with
              | slice _ _ _ _ r y hr =>
                obtain ⟨w', hst, hemb, _⟩ := write_ok he hr hln hw1
                exact ⟨ρ, w', _, Ren.le_refl _, hemb, .slice _ _ _ _ _ _ hr, app_room hat0 hat1 has0 has1 hu hxt hi hlen (by omega) hrn hst⟩
            · split at h
              · rename_i hn0
                cases h
                subst hn0
                cases hs with
                | sliceNil => exact ⟨ρ, w, _, Ren.le_refl _, he, .sliceNil _ _, app_nil hat0 hat1 has0 has1 hu hxt hi hlen hroom hrn⟩
              · cases h
            · cases h
          · rename_i hroom
            split at h
            · rename_i b off
              split at h
              · rename_i hcond
                obtain ⟨hoff, holen, hany⟩ := hcond
                split at h
                case h_2 => cases h
                rename_i H1 hkill
                obtain ⟨kl1, kl2, kl3, kl4, kl5⟩ := kill_spec hkill
                obtain ⟨hp', rfl⟩ := newSlice_spec h
                subst hoff
                obtain ⟨bk, hbk, hlenk⟩ := (Option.any_eq_true _ _).1 hany
                simp only [Bool.and_eq_true, decide_eq_true_eq, beq_iff_eq] at hlenk
                obtain ⟨hlenk, hel⟩ := hlenk
                cases hs with
                | slice _ _ _ _ r y hr =>
                  by_cases hfit : sLen + n ≤ sCap + y
                  · -- the machine finds room
                    obtain ⟨hb1', hb2'⟩ := alive_some hbk
                    obtain ⟨r', y', C, fr, s', k1, k2, k3, k4, k5, ⟨ex, k6, _⟩, k7⟩ := he.blk b bk hb1' hb2'
                    rw [hr] at k1; cases k1
                    rw [hel] at k5 k3
                    have k4 := k4.resolve_left (by have := he.lk; omega)
                    have k5 : sizeA c.P e = some s' := by
                      rcases k5.1 with k5 | k5
                      · have := he.lk; omega
                      · exact k5
                    rw [hsz] at k5; cases k5
                    have e1 : old.length = sLen * inf.size := holen
                    have e2 : new.length = n * inf.size := first_len hnew
                    have hroomC : sLen * inf.size + new'.length ≤ C.size := by
                      rw [hln.eq_length, e2, k6, hlenk, ← Nat.add_mul, ← Nat.add_mul]; exact Nat.mul_le_mul_right _ (by omega)
                    have hone : ∀ v ∈ new', v.oneCell' = true := by
                      intro v hm
                      obtain ⟨j, hj⟩ := List.getElem?_of_mem hm
                      have hlt' : j < new.length := by rw [← hln.eq_length]; exact (List.getElem?_eq_some_iff.1 hj).1
                      have hall : new.all plainCell = true := by simpa using hpl
                      exact (hln.2 j new[j] v (by simp [hlt']) hj).plain (List.all_eq_true.1 hall _ (List.getElem_mem hlt'))
                    have hst := run_stores (c := c) (off := 0 + sLen * inf.size) new' 0 C w k3 k4 (by omega) hone
                    have hrun := app_room (ty := ty) hat0 hat1 has0 has1 hu hxt hi hlen hfit hrn hst
                    refine ⟨ρ.put H1.size (r, sCap + y - (sLen + n)), _, _, (he.kill hkill).le_put (Nat.le_refl _) _, ?_, ?_, hrun⟩
                    · have hrs : r < w.heap.size := (Array.getElem?_eq_some_iff.1 k3).1
                      have hBr : c.own r := by
                        rcases k2 with k2 | k2
                        · have := he.lk; omega
                        · exact k2
                      refine (he.kill hkill).add hp' (s := inf.size) (C := putArr C (0 + sLen * inf.size + 0) new') (fr := fr) ?_ ?_ ?_ (fun i bi hi' hm => ((he.kill hkill).maps i bi hi' hm).heap fun q es clock hh => by rw [withBlk_heap _ _ _ _ (fun e0 => by subst e0; rw [k3] at hh; cases hh; exact clock _ _ _ rfl)]; exact hh) ?_ (withBlk_same _ _ _ hrs) hBr ?_ hsz ?_ ?_ (fun h => by cases h) ⟨fun j v hj hv => by
                        have hlo : bk.cells.length ≤ j := by
                          rw [hlenk]; rw [List.length_append, e1, e2, ← Nat.add_mul] at hj
                          exact Nat.le_trans (Nat.mul_le_mul_right _ (by omega)) hj
                        rw [putArr_ge _ _ _ _ (by rw [hln.eq_length, e2]; rw [List.length_append, e1, e2] at hj; omega)] at hv
                        rcases k7.2 with k8 | k8
                        · have := he.lk; omega
                        · rw [hel] at k8; exact k8.zero j v hlo hv, by
                        rw [putArr_size]
                        rcases k7.2 with k8 | k8
                        · have := he.lk; omega
                        · rw [hel] at k8
                          rcases k8.room with k9 | k9 | k9
                          · left
                            rw [List.length_append, e1, e2, ← Nat.add_mul]
                            rw [hlenk] at k9
                            exact Nat.le_trans k9 (Nat.mul_le_mul_right _ (by omega))
                          · exact .inr (.inl k9)
                          · refine .inr (.inr ?_)
                            rw [List.length_append, e1, e2, ← Nat.add_mul]
                            rw [hlenk] at k9
                            exact Nat.le_trans k9 (Nat.mul_le_mul_right _ (by omega))⟩
                      · exact he.stay.touch hBr ⟨rfl, rfl, rfl, by simp [withBlk], fun k hk => withBlk_heap _ _ _ _ (by have := hBr.1; omega)⟩ (fun k hk => withBlk_heap _ _ _ _ hk)
                      · simpa [withBlk] using he.base
                      · intro i bi hi' hli
                        obtain ⟨g1, g2⟩ := kl3 i bi hi' (.inl hli)
                        obtain ⟨q, y2, E, er, s2, m1, m2, m3, m4⟩ := he.blk i bi g1 hli
                        have hne : q ≠ r := by
                          intro e0; subst e0
                          exact g2 (he.inj i b bi bk q y2 y g1 hli hb1' hb2' m1 hr)
                        exact ⟨q, y2, E, er, s2, m1, m2, by rw [withBlk_heap _ _ _ _ hne]; exact m3, m4⟩
                      · intro i bi q y2 hi' hli hq e0
                        subst e0
                        obtain ⟨g1, g2⟩ := kl3 i bi hi' (.inl hli)
                        exact g2 (he.inj i b bi bk q y2 y g1 hli hb1' hb2' hq hr)
                      · exact ⟨k4.1, fun j hj => k4.2 j (by rw [putArr_size] at hj; exact hj)⟩
                      · refine ⟨ex, ?_, fun h => by cases h⟩
                        rw [putArr_size, k6, hlenk, List.length_append, e1, e2, ← Nat.add_mul, ← Nat.add_mul, ← Nat.add_mul]
                        congr 1; omega
                      · refine ⟨by rw [putArr_size, k6, hlenk, List.length_append, e1, e2, ← Nat.add_mul, ← Nat.add_mul]; exact Nat.mul_le_mul_right _ (by omega), fun j u hu hju => ?_⟩
                        rw [List.getElem?_append] at hu
                        split at hu
                        · rename_i hj
                          have hold' : bk.cells[j]? = some u := by
                            simp only [firstA, readCells_def, hbk] at hold
                            split at hold
                            · rw [pick2_eq] at hold
                              split at hold
                              · cases hold
                              cases hold
                              rw [List.getElem?_take] at hu
                              split at hu
                              · simpa using hu
                              · cases hu
                            · cases hold
                          obtain ⟨u', p1, p2⟩ := k7.1.2 j u hold' hju
                          exact ⟨u', by rw [putArr_lt _ _ _ _ (by omega)]; exact p1, p2⟩
                        · rename_i hj
                          obtain ⟨u', p1, p2⟩ := hln.get hu
                          refine ⟨u', ?_, p2⟩
                          have := putArr_in new' C (0 + sLen * inf.size + 0) (j - old.length) u' p1 (by omega)
                          rw [show 0 + sLen * inf.size + 0 + (j - old.length) = j by omega] at this
                          exact this
                    · have := VRel.slice (ρ := ρ.put H1.size (r, sCap + y - (sLen + n))) H1.size 0 (sLen + n) (sLen + n) r _ (Ren.put_same _ _ _)
                      rw [Nat.add_sub_cancel' hfit] at this
                      exact this
                  · exact grow (sCap + y) rfl hfit (by omega) (he.kill hkill) h
              · cases h
            · cases hs
              exact grow sCap rfl hroom (by omega) he h
            · cases h
      · cases h
    · cases h
  · cases h
theorem append_ok (he : Emb c ρ H w) {st xt ty : TypeId} {s s' x x' v : Value} {H' : Mem} {at_ : Array TypeId} {as : Array Value}
    (hat0 : at_[0]? = some st) (hat1 : at_[1]? = some xt) (has0 : as[0]? = some s') (has1 : as[1]? = some x')
    (hs : VRel ρ s s') (hx : VRel ρ x x') (h : appendA c.P H st xt s x = some (v, H')) :
    ∃ ρ' w' v', ρ.le ρ' ∧ Emb c ρ' H' w' ∧ VRel ρ' v v' ∧ (Builtin.append_ at_ ty as).run c.P w = .ok v' w' := by
  unfold appendA at h
  split at h
  · rename_i r hg
    cases h
    obtain ⟨H2, h1, h2, h3, h4⟩ := grow_spec hg
    obtain ⟨ρ', w', v', k1, k2, k3, k4⟩ := appendB_ok (ty := ty) he hat0 hat1 has0 has1 hs hx h1
    exact ⟨ρ', w', v', k1, k2.less (by omega) (by rw [← h3]; exact k2.lk) (fun i b hi _ => by rw [h4]; exact hi), k3, k4⟩
  · exact appendB_ok he hat0 hat1 has0 has1 hs hx h
end
end Go.Ev
namespace Go.Ev
open Go.RowKit
variable [TokE]
section
variable {c : Cx} {P : Program} {w : World} {ρ : Ren} {H : Mem}
theorem copy_ok (he : Emb c ρ H w) {dt ty : TypeId} {d d' x x' v : Value} {H' : Mem} {at_ : Array TypeId} {as : Array Value}
    (hat0 : at_[0]? = some dt) (has0 : as[0]? = some d') (has1 : as[1]? = some x')
    (hd : VRel ρ d d') (hx : VRel ρ x x') (h : copyA c.P H dt d x = some (v, H')) :
    ∃ w' v', Emb c ρ H' w' ∧ VRel ρ v v' ∧ (Builtin.copy_ at_ ty as).run c.P w = .ok v' w' := by
  unfold copyA at h
  split at h
  · rename_i e base dLen _ n hu hn
    have hlen := len_ok (P := c.P) hx hn w
    split at h
    · rename_i s hs
      split at h
      · rename_i cs hf
        obtain ⟨cs', hr', hl'⟩ := first_ok he hx hf
        split at h
        · simp only [Option.map_eq_some_iff] at h
          obtain ⟨H1, hw1, heq⟩ := h
          cases heq
          cases hd with
          | slice i off _ _ r y hr =>
            obtain ⟨w', hst, hemb, _⟩ := write_ok he hr hl' hw1
            refine ⟨w', _, hemb, .int _ _, ?_⟩
            simp [Builtin.copy_, hat0, has0, has1, run_underlying hu, hlen, run_size hs, hr', hst, goInt]
        · cases h
          cases hd
          refine ⟨w, _, he, .int _ _, ?_⟩
          simp [Builtin.copy_, hat0, has0, has1, run_underlying hu, hlen, run_size hs, hr', goInt]
        · cases h
      · cases h
    · cases h
  · cases h
theorem bytes_ok : ∀ (l : List Value) (acc s : ByteArray), bytesA l acc = some s → ∃ ns : List Int, l = ns.map (Value.int .u8) ∧ s = ns.foldl (fun r n => r.push (UInt8.ofNat n.toNat)) acc
  | [], acc, s, h => by simp only [bytesA, Option.some.injEq] at h; exact ⟨[], rfl, h.symm⟩
  | v :: l, acc, s, h => by
    simp only [bytesA] at h
    split at h
    · rename_i b hb
      obtain ⟨ns, h1, h2⟩ := bytes_ok l _ s h
      unfold byteOfV at hb
      split at hb
      · rename_i n
        cases hb
        exact ⟨n :: ns, by rw [h1]; rfl, by rw [h2]; rfl⟩
      · cases hb
    · cases h
theorem LR.ints {ns : List Int} {k : IntKind} {l' : List Value} (h : LR (VRel ρ) (ns.map (Value.int k)) l') : l' = ns.map (Value.int k) := by
  apply List.ext_getElem?
  intro i
  by_cases hi : i < l'.length
  · have hi' : i < (ns.map (Value.int k)).length := by rw [h.1]; exact hi
    have hr := h.2 i _ _ (List.getElem?_eq_getElem hi') (List.getElem?_eq_getElem hi)
    rw [List.getElem?_eq_getElem hi', List.getElem?_eq_getElem hi]
    simp only [List.getElem_map] at hr ⊢
    generalize l'[i] = q at hr ⊢
    cases hr with
    | int => rfl
  · rw [List.getElem?_eq_none (Nat.le_of_not_lt hi), List.getElem?_eq_none (by rw [h.1]; exact Nat.le_of_not_lt hi)]
theorem freeze_other (w : World) (a : Addr) (n k : Nat) (h : k ≠ a.block) : (w.freeze a n).heap[k]? = w.heap[k]? := by
  unfold World.freeze
  split
  · rfl
  · simp only [Array.getElem?_modify]
    rw [if_neg (fun e => h e.symm)]
theorem freeze_size (w : World) (a : Addr) (n : Nat) : (w.freeze a n).heap.size = w.heap.size := by
  unfold World.freeze
  split
  · rfl
  · simp
theorem freeze_same {w : World} {r n : Nat} {C : Array Value} {t : TypeId} {lo hi : Nat} (h : w.heap[r]? = some (.cells C t (lo, hi))) :
    (w.freeze ⟨r, n, none⟩ 1).heap[r]? = some (.cells C t (if lo == hi then (n, n + 1) else (min lo n, max hi (n + 1)))) := by
  unfold World.freeze
  rw [if_neg (by decide)]
  simp only [Array.getElem?_modify, if_true, h, Option.map_some]
/-- A row is marked behind its end. -/
theorem Emb.mark {c : Cx} {ρ : Ren} {H : Mem} {w : World} (he : Emb c ρ H w) {i r x : Nat} {b : Blk} (hi : alive H i = some b) (hlk : c.L ≤ i) (hr : ρ i = some (r, x)) {C : Array Value} {t : TypeId} {fr : Nat × Nat} (hC : w.heap[r]? = some (.cells C t fr)) : Emb c ρ H (w.freeze ⟨r, C.size, none⟩ 1) := by
  obtain ⟨hg, hl⟩ := alive_some hi
  have hB : c.own r := by
    obtain ⟨r', x', C, fr, s, h1, h2, _⟩ := he.blk i b hg hl
    rw [hr] at h1; cases h1
    rcases h2 with h2 | h2
    · omega
    · exact h2
  refine ⟨he.stay.touch hB (Lib.below_freeze (Below.refl _ _) (p := ⟨r, C.size, none⟩) hB.1 1) (fun k hk => freeze_other _ _ _ _ hk), by rw [freeze_size]; exact he.base, he.dom, he.lk, he.lsz, he.glob, fun j b' hj hl' => ?_, he.inj, fun j b' hj hm => (he.maps j b' hj hm).heap fun q es clock hh => by
    rw [freeze_other _ _ _ _ (fun e => by subst e; rw [hC] at hh; cases hh; exact clock _ _ _ rfl)]; exact hh, he.minj, he.old⟩
  obtain ⟨r', x', C', fr', s, h1, h2, h3, h4, h5⟩ := he.blk j b' hj hl'
  by_cases hrr : r' = r
  · subst hrr
    have hji := he.inj j i b' b r' x' x hj hl' hg hl h1 hr
    subst hji
    rw [hC] at h3
    cases h3
    obtain ⟨lo, hi'⟩ := fr
    refine ⟨r', x', C, _, s, h1, h2, freeze_same hC, .inr ?_, h5⟩
    rcases h4 with h4 | ⟨u1, u2⟩
    · omega
    · simp only at u1 u2
      by_cases e : lo = hi'
      · subst e
        simp only [beq_self_eq_true, if_true]
        exact ⟨by simp, fun j hj => by simp; omega⟩
      · have hlo : C.size ≤ lo := by
          rcases Nat.lt_or_ge lo C.size with hlt | hge
          · exact absurd ⟨Nat.le_refl _, by omega⟩ (u2 lo hlt)
          · exact hge
        rw [if_neg (by simpa using e)]
        exact ⟨by simp; omega, fun j hj => by simp; omega⟩
  · exact ⟨r', x', C', fr', s, h1, h2, by rw [freeze_other _ _ _ _ hrr]; exact h3, h4, h5⟩
theorem convert_ok (he : Emb c ρ H w) {src dst : TypeId} {x x' v : Value} {H' : Mem} (hx : VRel ρ x x') (h : convertA c.P H src dst x = some (v, H')) :
    ∃ ρ' w' v', ρ.le ρ' ∧ Emb c ρ' H' w' ∧ VRel ρ' v v' ∧ (convert src dst x').run c.P w = .ok v' w' := by
  unfold convertA at h
  split at h
  · rename_i e a len cap hs hd
    split at h
    · rename_i b off hue
      split at h
      · rename_i cs hr
        simp only [Option.map_eq_some_iff] at h
        obtain ⟨s, hb, heq⟩ := h
        cases heq
        cases hx with
        | slice _ _ _ _ r y hry =>
          obtain ⟨l', h1, h2, h3⟩ := he.read hry hr
          obtain ⟨ns, rfl, hsn⟩ := bytes_ok _ _ _ hb
          rw [h1.ints] at h3
          have hrun := run_loadCells_list (P := c.P) w _ _ h3
          rw [h2] at hrun
          refine ⟨ρ, w, _, Ren.le_refl _, he, .string _, ?_⟩
          rw [run_convert_bytes_string w src dst e _ len (cap + y) hs hue hd, run_bytesToString w _ len (cap + y) ns hrun, hsn]
      · cases h
    · rename_i hue
      cases h
      cases hx
      refine ⟨ρ, w, _, Ren.le_refl _, he, .string _, ?_⟩
      rw [run_convert_bytes_string w src dst e _ len _ hs hue hd]
      simp [Conv.bytesToString]
    · rename_i hue
      cases h
      cases hx with
      | void a' =>
        have hrun := run_loadCells_list (P := c.P) w a' [] (fun j v hj => by cases hj)
        refine ⟨ρ, w, _, Ren.le_refl _, he, .string _, ?_⟩
        rw [run_convert_bytes_string w src dst e _ 0 0 hs hue hd, run_bytesToString w a' 0 0 [] hrun]
        rfl
    · cases h
  · rename_i e s hs hd
    split at h
    · rename_i hue hsz
      obtain ⟨hp', rfl⟩ := newSlice_spec h
      cases hx
      have hrun := run_bytes_of_string (P := c.P) w src dst e s hs hd hue
      have hg := grown_le w s.size 0 e
      refine ⟨_, _, _, he.le_put (Nat.le_refl _) (w.heap.size, grownCap w s.size 0 e - s.size), ?_, ?_, hrun⟩
      · refine he.drew.new hp' hsz ?_ ?_ ?_ (fun h => by cases h) ⟨fun j v hj hv => .inr ⟨hue, by
          unfold bytesRow at hv
          rw [Array.getElem?_append] at hv
          split at hv
          · rename_i hlt
            simp at hlt hj
            omega
          · rw [Array.getElem?_replicate] at hv
            split at hv
            · cases hv; rfl
            · cases hv⟩, by
          by_cases hbig : s.size < 9223372036854775808
          · refine .inr (.inl fun s' hs' => ?_)
            rw [hsz] at hs'; cases hs'
            have h1 := grown_lt w s.size 0 e hbig
            simp [bytesRow]
            omega
          · refine .inr (.inr ?_)
            simp
            omega⟩
        · have hl : LR (VRel ρ) (s.data.toList.map fun b => Value.int .u8 b.toNat) (s.data.toList.map fun b => Value.int .u8 b.toNat) := ⟨rfl, fun i x y hx hy => by
            rw [hx] at hy; cases hy
            obtain ⟨b, _, rfl⟩ := List.mem_map.1 (List.mem_of_getElem? hx)
            exact .int _ _⟩
          have := hl.begins_append (Array.replicate (grownCap w s.size 0 e - s.size) (.int .u8 0))
          have e1 : bytesRow s (grownCap w s.size 0 e) = (s.data.toList.map fun b => Value.int .u8 b.toNat).toArray ++ Array.replicate (grownCap w s.size 0 e - s.size) (.int .u8 0) := by
            unfold bytesRow; congr 1; apply Array.ext'; simp
          rw [e1]; exact this
        · simp [bytesRow]
        · exact ⟨by simp, fun j hj => by simp; omega⟩
      · have := VRel.slice (ρ := ρ.put H.size (w.heap.size, grownCap w s.size 0 e - s.size)) H.size 0 s.size s.size w.heap.size _ (Ren.put_same _ _ _)
        rw [Nat.add_sub_cancel' hg] at this
        exact this
    · cases h
  · rename_i e1 e i off l cp hs hd
    split at h
    · rename_i b hb hue
      rw [pick2_eq] at h
      split at h
      · rename_i hc
        cases h
        simp only [Bool.and_eq_true, ble_dec, decide_eq_true_eq, Nat.beq_eq] at hc
        obtain ⟨hlk, rfl⟩ := hc
        have hd' := hd
        rw [hs] at hd'; cases hd'
        cases hx with
        | slice _ _ _ _ r y hr =>
          obtain ⟨hg, hl⟩ := alive_some hb
          obtain ⟨r', y', C, fr, s, k1, k2, k3, k4, k5, k6, k7⟩ := he.blk i b hg hl
          rw [hr] at k1; cases k1
          refine ⟨ρ, _, _, Ren.le_refl _, he.mark hb (Nat.le_trans he.lk hlk) hr k3, .slice i off l cp r y hr, ?_⟩
          simp [convert, run_underlying hs, run_underlying hue, run_underlying hd, markStringish, World.shape?, k3]
      · cases h
    · cases h
  · rename_i t i hs hd
    split at h
    · rename_i b n hb hn
      rw [pick2_eq] at h
      split at h
      · rename_i hc
        cases h
        cases hx with
        | ptr _ _ r y hr =>
          obtain ⟨hg, hl⟩ := alive_some hb
          obtain ⟨r', y', C, fr, s, k1, k2, k3, k4, k5, ⟨ex, k6, _⟩, k7⟩ := he.blk i b hg hl
          rw [hr] at k1; cases k1
          simp only [Bool.and_eq_true, ble_dec, decide_eq_true_eq] at hc
          obtain ⟨inf, hi, hsz⟩ := Option.map_eq_some_iff.1 hn
          refine ⟨ρ, w, _, Ren.le_refl _, he, .ptr i 0 r y hr, ?_⟩
          exact Lib.run_to_unsafe w ⟨r, 0, none⟩ hs hd hi (by omega) (e := b.elem) (cells := C.size) (by simp [World.shape?, k3]) (by show 0 < C.size; omega)
      · cases h
    · cases h
  · rename_i u i hs hd
    split at h
    · rename_i b n hb hn
      rw [pick2_eq] at h
      split at h
      · rename_i hc
        cases h
        cases hx with
        | ptr _ _ r y hr =>
          obtain ⟨hg, hl⟩ := alive_some hb
          obtain ⟨r', y', C, fr, s, k1, k2, k3, k4, k5, ⟨ex, k6, k6x⟩, k7⟩ := he.blk i b hg hl
          rw [hr] at k1; cases k1
          simp only [Bool.and_eq_true] at hc
          obtain ⟨inf, hi, hsz⟩ := Option.map_eq_some_iff.1 hn
          have hy := k5.2 hc.1
          subst hy
          have hx0 := k6x hc.1
          subst hx0
          have hC : C.size = b.cells.length := by simpa using k6
          refine ⟨ρ, w, _, Ren.le_refl _, he, .ptr i 0 r 0 hr, ?_⟩
          exact Lib.run_from_unsafe w ⟨r, 0, none⟩ hs hd hi (e := b.elem) (cells := C.size) (by simp [World.shape?, k3]) (by rw [hC]; exact hc.2)
      · cases h
    · cases h
  · cases h
theorem idxN_spec {i : Int} {len m : Nat} (h : idxN i len = some m) : i = (m : Int) ∧ m < len := by
  unfold idxN at h
  split at h
  · rename_i k
    rw [pick2_eq, ble_succ] at h
    split at h
    · rename_i hk; cases h; exact ⟨rfl, by simpa using hk⟩
    · cases h
  · cases h
theorem idx_ok {t : TypeId} {x x' i i' v : Value} (hx : VRel ρ x x') (hi : VRel ρ i i') (h : idxA P t x i = some v) (w : World) :
    ∃ v', (Instr.indexAt t x' i').run P w = .ok v' w ∧ VRel ρ v v' := by
  unfold idxA at h
  split at h
  · rename_i e b off len cap k n hu
    cases hi
    cases hx with
    | slice _ _ _ _ r y hr =>
      split at h
      · rename_i s m hs hm
        cases h
        obtain ⟨rfl, hlt⟩ := idxN_spec hm
        refine ⟨.pointer (some ⟨r, off + m * s, none⟩), ?_, .ptr _ _ _ _ hr⟩
        have h2 : (m : Int) < (len : Int) := by omega
        simp [Instr.indexAt, asIntOf, run_underlying hu, hlt, run_size hs, add_addr]
      · cases h
  · rename_i len e b off k n hu
    cases hi
    cases hx with
    | ptr _ _ r y hr =>
      split at h
      · rename_i s m hs hm
        cases h
        obtain ⟨rfl, hlt⟩ := idxN_spec hm
        refine ⟨.pointer (some ⟨r, off + m * s, none⟩), ?_, .ptr _ _ _ _ hr⟩
        simp [Instr.indexAt, asIntOf, run_underlying hu, Instr.sureAddr, hlt, run_size hs, add_addr]
      · cases h
  · cases h
theorem fieldAddr_ok {s : TypeId} {f : Nat} {x x' v : Value} (hx : VRel ρ x x') (h : fieldA P s x f = some v) (w : World) :
    ∃ v', (Instr.fieldAt s x' f).run P w = .ok v' w ∧ VRel ρ v v' := by
  unfold fieldA at h
  split at h
  · rename_i fs b off hu
    cases hx with
    | ptr _ _ r y hr =>
      split at h
      · rename_i fd hfd
        split at h
        · rename_i n hn
          split at h
          · cases h
          · rename_i hn0
            cases h
            exact ⟨_, by simp [Instr.fieldAt, run_underlying hu, hfd, Instr.sureAddr, fieldPlace, run_size hn, hn0, add_addr], .ptr _ _ _ _ hr⟩
        · cases h
      · cases h
  · cases h
inductive OR (R : Value → Value → Prop) : Option Value → Option Value → Prop where
  | none : OR R .none .none
  | some {v v' : Value} (h : R v v') : OR R (.some v) (.some v')
theorem bound_ok {x x' : Value} {y n : Nat} {c : BoundsCode} (hx : VRel ρ x x') (h : boundA x y = some n) (w : World) : (Instr.sliceBound x' y c).run P w = .ok n w ∧ n ≤ y := by
  unfold boundA at h
  split at h
  · split at h
    · rename_i hb
      cases h
      cases hx
      exact ⟨by simp [Instr.sliceBound, asIntOf, hb.1, hb.2], by omega⟩
    · cases h
  · cases h
theorem arrSlice_ok {c : Cx} {H : Mem} {w : World} (he : Emb c ρ H w) {t : TypeId} {x x' v : Value} {lo lo' hi hi' : Option Value} (hx : VRel ρ x x') (hlo : OR (VRel ρ) lo lo') (hhi : OR (VRel ρ) hi hi') (h : arrSlice c.P H t x lo hi = some v) :
    ∃ v', (Instr.sliceAt t x' lo' hi' none).run c.P w = .ok v' w ∧ VRel ρ v v' := by
  unfold arrSlice at h
  split at h
  · rename_i n e b off hu
    split at h
    · rename_i hN hh
      split at h
      · rename_i lN hl
        have hhr : (match hi' with | some v => Instr.sliceBound v n .sliceAlen | none => pure n : Sem Nat).run c.P w = .ok hN w := by
          cases hhi with
          | none => simp at hh; subst hh; rfl
          | some hv => exact (bound_ok hv hh w).1
        have hlr : (match lo' with | some v => Instr.sliceBound v hN .sliceB | none => pure 0 : Sem Nat).run c.P w = .ok lN w ∧ lN ≤ hN := by
          cases hlo with
          | none => simp at hl; subst hl; exact ⟨rfl, Nat.zero_le _⟩
          | some hv => exact bound_ok hv hl w
        have h1 : (Instr.sliceBounds false n n lo' hi' none).run c.P w = .ok (lN, hN, n) w := by
          cases hhi with
          | none =>
            simp only [Sem.run_pure, Result.ok.injEq] at hhr
            cases hlo with
            | none =>
              have := hlr.1
              simp only [Sem.run_pure, Result.ok.injEq] at this
              simp [Instr.sliceBounds, hhr.1, this.1]
            | some hv => simp [Instr.sliceBounds, hhr.1]; have := hlr.1; simp [this]
          | some hv' =>
            cases hlo with
            | none =>
              have := hlr.1
              simp only [Sem.run_pure, Result.ok.injEq] at this
              simp [Instr.sliceBounds, hhr, this.1]
            | some hv => simp [Instr.sliceBounds, hhr]; have := hlr.1; simp [this]
        split at h
        · rename_i k s hk hs
          rw [pick2_eq] at h
          split at h
          · rename_i hfx
            cases h
            cases hx with
            | ptr _ _ r y hr =>
              obtain ⟨ha, hb⟩ := alive_some hk
              obtain ⟨r', y', C, fr, s', k1, _, _, _, k5, _⟩ := he.blk b k ha hb
              rw [hr] at k1; cases k1
              obtain rfl := k5.2 hfx
              refine ⟨.slice (some ⟨r, if n = lN then off else off + lN * s, none⟩) (hN - lN) (n - lN + 0), ?_, ?_⟩
              · by_cases hm : n = lN
                · subst hm
                  simp [Instr.sliceAt, Instr.sureAddr, run_underlying hu, h1, run_size hs]
                · simp [Instr.sliceAt, Instr.sureAddr, run_underlying hu, h1, run_size hs, hm, add_addr]
              · have e2 : pick2 (Nat.beq n lN) off (Nat.add off (Nat.mul lN s)) = if n = lN then off else off + lN * s := by
                  rw [pick2_eq]
                  by_cases hm : n = lN
                  · rw [if_pos (by rw [Nat.beq_eq]; exact hm), if_pos hm]
                  · rw [if_neg (by rw [Nat.beq_eq]; exact hm), if_neg hm]; rfl
                rw [e2]
                exact .slice _ _ _ _ _ _ hr
          · cases h
        · cases h
      · cases h
    · cases h
  · cases h
theorem dropU_eq : ∀ (n : Nat) (l : List UInt8), dropU n l = l.drop n
  | 0, l => rfl
  | n + 1, [] => by rw [List.drop_nil]; rfl
  | n + 1, b :: l => by rw [List.drop_succ_cons]; exact dropU_eq n l
theorem takeU_eq : ∀ (n : Nat) (l : List UInt8), takeU n l = l.take n
  | 0, l => by rw [List.take_zero]; rfl
  | n + 1, [] => by rw [List.take_nil]; rfl
  | n + 1, b :: l => by rw [List.take_succ_cons, ← takeU_eq n l]; rfl
theorem forceU_eq {α : Type} : ∀ (l : List UInt8) (k : List UInt8 → α), forceU l k = k l
  | [], k => rfl
  | b :: l, k => by
    have h : forceU (b :: l) k = forceU l fun r => k (b :: r) := rfl
    rw [h, forceU_eq l]
theorem dropUB_eq (l : List UInt8) : ∀ q : Nat, dropUB l q = l.drop (16 * q)
  | 0 => by rw [Nat.mul_zero, List.drop_zero]; rfl
  | q + 1 => by
    have h : dropUB l (q + 1) = dropU 16 (dropUB l q) := rfl
    rw [h, dropUB_eq l q, dropU_eq, List.drop_drop]
    rfl
theorem fromU_eq (n : Nat) (l : List UInt8) : fromU n l = l.drop n := by
  unfold fromU
  rw [dropUB_eq, dropU_eq, List.drop_drop]
  congr 1
  exact Nat.div_add_mod n 16
theorem nthU_eq (n : Nat) (l : List UInt8) : nthU n l = l[n]? := by
  unfold nthU
  rw [fromU_eq, ← List.head?_drop]
  cases l.drop n <;> rfl
theorem cut_str (s : ByteArray) (l h : Nat) : (⟨⟨takeU (h - l) (fromU l s.data.toList)⟩⟩ : ByteArray) = s.extract l h := by
  rw [fromU_eq, takeU_eq]
  have e : (s.extract l h).data = s.data.extract l h := ByteArray.data_extract
  have e2 : (s.data.extract l h).toList = (s.data.toList.drop l).take (h - l) := by simp [Array.toList_extract, List.extract_eq_take_drop]
  rw [← e2]
  cases hs : s.extract l h with
  | mk d =>
    rw [hs] at e
    simp only at e
    rw [e]
theorem headU_eq {α : Type} (l : List UInt8) (k : List UInt8 → α) : headU l k = k l := by cases l <;> rfl
theorem cut_all (s : ByteArray) (l : Nat) : (⟨⟨fromU l s.data.toList⟩⟩ : ByteArray) = s.extract l s.size := by
  rw [← cut_str, takeU_eq, List.take_of_length_le]
  rw [fromU_eq, List.length_drop]
  simp
theorem slice_ok {t : TypeId} {x x' v : Value} {lo lo' hi hi' : Option Value} (hx : VRel ρ x x') (hlo : OR (VRel ρ) lo lo') (hhi : OR (VRel ρ) hi hi') (h : sliceA P t x lo hi = some v) (w : World) :
    ∃ v', (Instr.sliceAt t x' lo' hi' none).run P w = .ok v' w ∧ VRel ρ v v' := by
  unfold sliceA at h
  split at h
  · rename_i e a len cap hu
    split at h
    · rename_i hN hh
      split at h
      · rename_i lN hl
        have hbounds : ∀ capR, cap ≤ capR → (Instr.sliceBounds true len capR lo' hi' none).run P w = .ok (lN, hN, capR) w ∧ lN ≤ hN := by
          intro capR hc
          have hhr : (match hi' with | some v => Instr.sliceBound v capR .sliceAcap | none => pure len : Sem Nat).run P w = .ok hN w := by
            cases hhi with
            | none => simp at hh; subst hh; rfl
            | some hv =>
              rename_i u u'
              simp only at hh ⊢
              have hh2 : boundA u capR = some hN := by
                unfold boundA at hh ⊢
                split at hh
                · split at hh
                  · rename_i hb; cases hh; rw [if_pos ⟨hb.1, by omega⟩]
                  · cases hh
                · cases hh
              exact (bound_ok hv hh2 w).1
          have hlr : (match lo' with | some v => Instr.sliceBound v hN .sliceB | none => pure 0 : Sem Nat).run P w = .ok lN w ∧ lN ≤ hN := by
            cases hlo with
            | none => simp at hl; subst hl; exact ⟨rfl, Nat.zero_le _⟩
            | some hv => exact bound_ok hv hl w
          refine ⟨?_, hlr.2⟩
          cases hhi with
          | none =>
            simp only [Sem.run_pure, Result.ok.injEq] at hhr
            cases hlo with
            | none =>
              have := hlr.1
              simp only [Sem.run_pure, Result.ok.injEq] at this
              simp [Instr.sliceBounds, hhr.1, this.1]
            | some hv => simp [Instr.sliceBounds, hhr.1]; have := hlr.1; simp [this]
          | some hv' =>
            cases hlo with
            | none =>
              have := hlr.1
              simp only [Sem.run_pure, Result.ok.injEq] at this
              simp [Instr.sliceBounds, hhr, this.1]
            | some hv => simp [Instr.sliceBounds, hhr]; have := hlr.1; simp [this]
        split at h
        · rename_i b off s hs
          split at h
          · cases h
          · rename_i hc
            cases h
            simp only [not_or] at hc
            cases hx with
            | slice _ _ _ _ r y hr =>
              obtain ⟨h1, h2⟩ := hbounds (cap + y) (by omega)
              refine ⟨.slice (some ⟨r, off + lN * s, none⟩) (hN - lN) (cap - lN + y), ?_, .slice _ _ _ _ _ _ hr⟩
              have e1 : cap + y - lN = cap - lN + y := by omega
              by_cases hm : cap + y = lN
              · have : lN = 0 := by omega
                subst this
                obtain rfl : cap = 0 := by omega
                obtain rfl : y = 0 := by omega
                simp at h1
                simp [Instr.sliceAt, Instr.slice, run_underlying hu, h1, run_size hs]
              · simp [Instr.sliceAt, Instr.slice, run_underlying hu, h1, run_size hs, hm, add_addr, e1]
        · rename_i s hs
          cases h
          cases hx
          obtain ⟨h1, h2⟩ := hbounds cap (Nat.le_refl _)
          exact ⟨_, by simp [Instr.sliceAt, Instr.slice, run_underlying hu, h1, run_size hs], .sliceNil _ _⟩
        · rename_i b off q s hs
          split at h
          case isFalse => cases h
          rename_i h0
          cases h
          subst h0
          cases hx with
          | void a' =>
            obtain ⟨h1, h2⟩ := hbounds 0 (Nat.le_refl _)
            obtain rfl : lN = 0 := by omega
            refine ⟨.slice (some a') 0 0, ?_, .void _⟩
            simp [Instr.sliceAt, Instr.slice, run_underlying hu, h1, run_size hs]
        · cases h
      · cases h
    · cases h
  · rename_i s hu
    split at h
    · rename_i hN hh
      split at h
      · rename_i lN hl
        have hv : v = .string (s.extract lN hN) := by
          rw [pick2_eq] at h
          split at h
          · rename_i hq
            have e := Nat.eq_of_beq_eq_true hq
            rw [headU_eq] at h
            cases h
            rw [e, cut_all]
          · rw [forceU_eq] at h
            cases h
            rw [cut_str]
        subst hv
        cases hx
        have hhr : (match hi' with | some v => Instr.sliceBound v s.size .sliceAlen | none => pure s.size : Sem Nat).run P w = .ok hN w := by
          cases hhi with
          | none => simp at hh; subst hh; rfl
          | some hv => exact (bound_ok hv hh w).1
        have hlr : (match lo' with | some v => Instr.sliceBound v hN .sliceB | none => pure 0 : Sem Nat).run P w = .ok lN w ∧ lN ≤ hN := by
          cases hlo with
          | none => simp at hl; subst hl; exact ⟨rfl, Nat.zero_le _⟩
          | some hv => exact bound_ok hv hl w
        have hb : (Instr.sliceBounds false s.size s.size lo' hi' none).run P w = .ok (lN, hN, s.size) w := by
          cases hhi with
          | none =>
            simp only [Sem.run_pure, Result.ok.injEq] at hhr
            cases hlo with
            | none =>
              have := hlr.1
              simp only [Sem.run_pure, Result.ok.injEq] at this
              simp [Instr.sliceBounds, hhr.1, this.1]
            | some hv => simp [Instr.sliceBounds, hhr.1]; have := hlr.1; simp [this]
          | some hv' =>
            cases hlo with
            | none =>
              have := hlr.1
              simp only [Sem.run_pure, Result.ok.injEq] at this
              simp [Instr.sliceBounds, hhr, this.1]
            | some hv => simp [Instr.sliceBounds, hhr]; have := hlr.1; simp [this]
        refine ⟨.string (s.extract lN hN), by simp [Instr.sliceAt, Instr.slice, run_underlying hu, hb], ?_⟩
        exact .string _
      · cases h
    · cases h
  · cases h
theorem part_ok {t : TypeId} {cs cs' : Array Value} {off : Nat} {v : Value} (hc : AR (VRel ρ) cs cs') (h : partA P t cs off = some v) (w : World) :
    ∃ v', (part t cs' off).run P w = .ok v' w ∧ VRel ρ v v' := by
  rw [partA_def] at h
  split at h
  · rename_i n ha hs
    cases h
    refine ⟨.agg (cs'.extract off (off + n)), by simp [part, run_isAgg ha, run_size hs], .agg _ _ (by simp [hc.1]) fun i x y hx hy => ?_⟩
    rw [Array.getElem?_extract] at hx hy
    split at hx
    · split at hy
      · exact hc.2 _ x y hx hy
      · cases hy
    · cases hx
  · rename_i ha
    have hlt : off < cs.size := (Array.getElem?_eq_some_iff.1 h).1
    have hlt' : off < cs'.size := hc.1 ▸ hlt
    exact ⟨cs'[off], by simp [part, run_isAgg ha, hlt'], hc.2 off v _ h (by simp [hlt'])⟩
  · cases h
theorem fieldV_ok {t : TypeId} {x x' v : Value} {f : Nat} (hx : VRel ρ x x') (h : fieldVA P t x f = some v) (w : World) : ∃ v', (Instr.field t x' f).run P w = .ok v' w ∧ VRel ρ v v' := by
  unfold fieldVA at h
  split at h
  · rename_i fs cs hu
    split at h
    · rename_i fd hfd
      cases hx with
      | agg _ cs' sa ha =>
        obtain ⟨v', h1, h2⟩ := part_ok ⟨sa, ha⟩ h w
        exact ⟨v', by simp [Instr.field, run_underlying hu, hfd, asAgg, h1], h2⟩
    · cases h
  · cases h
theorem indexV_ok {t : TypeId} {x x' i i' v : Value} (hx : VRel ρ x x') (hi : VRel ρ i i') (h : indexVA P t x i = some v) (w : World) : ∃ v', (Instr.index t x' i').run P w = .ok v' w ∧ VRel ρ v v' := by
  unfold indexVA at h
  split at h
  · rename_i len e cs k n hu
    split at h
    · rename_i s m hs hm
      obtain ⟨rfl, hlt⟩ := idxN_spec hm
      cases hi
      cases hx with
      | agg _ cs' sa ha =>
        obtain ⟨v', h1, h2⟩ := part_ok ⟨sa, ha⟩ h w
        have h1' : (part e cs' (m * s)).run P w = .ok v' w := h1
        exact ⟨v', by simp [Instr.index, asIntOf, run_underlying hu, hlt, run_size hs, h1'], h2⟩
    · cases h
  · cases h
theorem indexStr_ok {t : TypeId} {x x' i i' v : Value} (hx : VRel ρ x x') (hi : VRel ρ i i') (h : indexStr P t x i = some v) (w : World) : ∃ v', (Instr.index t x' i').run P w = .ok v' w ∧ VRel ρ v v' := by
  unfold indexStr at h
  split at h
  · rename_i s k m hu
    split at h
    · rename_i b hb
      rw [nthU_eq] at hb
      cases h
      cases hx
      cases hi
      refine ⟨.int .u8 b.toNat, ?_, .int _ _⟩
      have hlt : m < s.size := by
        have := (List.getElem?_eq_some_iff.1 hb).1; simpa using this
      have hb' : s[m]? = some b := by
        have h2 := (List.getElem?_eq_some_iff.1 hb).2
        simp only [Array.getElem_toList] at h2
        rw [getElem?_pos s m hlt]
        exact congrArg some h2
      have h0 : (0 : Int) ≤ Int.ofNat m := Int.natCast_nonneg m
      simp [Instr.index, asIntOf, run_underlying hu, hb']
    · cases h
  · cases h
theorem semPure_run {α : Type} : ∀ (s : Sem α) {v : α}, semPure P s = some v → ∀ w, s.run P w = .ok v w
  | .pure a, v, h, w => by simp only [semPure, Option.some.injEq] at h; subst h; rfl
  | .program k, v, h, w => by simp only [semPure] at h; exact semPure_run (k P) h w
  | .mark _ k, v, h, w => by simp only [semPure] at h; exact semPure_run k h w
  | .load .., _, h, _ => by simp [semPure] at h
  | .store .., _, h, _ => by simp [semPure] at h
  | .new .., _, h, _ => by simp [semPure] at h
  | .shape .., _, h, _ => by simp [semPure] at h
  | .freeze .., _, h, _ => by simp [semPure] at h
  | .frozen .., _, h, _ => by simp [semPure] at h
  | .getObj .., _, h, _ => by simp [semPure] at h
  | .setObj .., _, h, _ => by simp [semPure] at h
  | .choose .., _, h, _ => by simp [semPure] at h
  | .sys .., _, h, _ => by simp [semPure] at h
  | .halt .., _, h, _ => by simp [semPure] at h
end
end Go.Ev
namespace Go.Ev
open Go.RowKit Go.MapKept
variable [TokE]
section
variable {c : Cx} {P : Program} {w : World} {ρ : Ren} {H : Mem}
theorem mapOf_some {H : Mem} {i : Nat} {b : Blk} (h : mapOf H i = some b) : H.get i = some b ∧ isMapB b = true := by
  unfold mapOf at h
  split at h
  · rename_i b' hb'
    rw [pick2_eq] at h
    split at h
    · rw [pick2_eq] at h
      split at h
      · cases h
      · cases h; exact ⟨hb', by assumption⟩
    · cases h
  · cases h
theorem mapOf_not {H : Mem} {i : Nat} {b : Blk} (h : mapOf H i = some b) : isIterL b.cells = false := by
  unfold mapOf at h
  split at h
  · rename_i b' hb'
    rw [pick2_eq] at h
    split at h
    · rw [pick2_eq] at h
      split at h
      · cases h
      · rename_i hn; cases h; simpa using hn
    · cases h
  · cases h
theorem iterOf_some {H : Mem} {i : Nat} {b : Blk} {l : List Value} (h : iterOf H i = some (b, l)) : H.get i = some b ∧ isMapB b = true ∧ b.cells = .chan none :: l := by
  unfold iterOf at h
  split at h
  · rename_i b' hb'
    rw [pick2_eq] at h
    split at h
    · rename_i hm
      split at h
      · rename_i l' hl; cases h; exact ⟨hb', hm, hl⟩
      · cases h
    · cases h
  · cases h
/-- A map of the evaluator's is one of the machine's. -/
theorem Emb.mapAt (he : Emb c ρ H w) {i : Nat} {b : Blk} (h : mapOf H i = some b) : ∃ r es, ρ i = some (r, 0) ∧ c.own r ∧ w.heap[r]? = some (.map es es.size) ∧ LR (VRel ρ) b.cells (turns es.toList) ∧ ∀ (k : Nat) e, es[k]? = some e → e.born = k := by
  obtain ⟨h1, h2⟩ := mapOf_some h
  have h3 := mapOf_not h
  obtain ⟨r, o, _, k1, k2, k3, k4⟩ := he.maps i b h1 h2
  rcases k4 with ⟨es, _, rfl, k5, k6⟩ | ⟨s, p, k5, _⟩ | ⟨m, r', x, n, d, seen, last, k5, _⟩
  · exact ⟨r, es, k1, k2, k3, k5, k6⟩
  · rw [k5] at h3; cases h3
  · rw [k5] at h3; cases h3
theorem eqBytes_spec : ∀ a b : List UInt8, eqBytes a b = decide (a = b)
  | [], [] => by simp [eqBytes]
  | [], _ :: _ => by simp [eqBytes]
  | _ :: _, [] => by simp [eqBytes]
  | a :: l, b :: m => by
    rw [eqBytes, pick2_eq, eqBytes_spec l m]
    by_cases h : a.toNat = b.toNat
    · rw [if_pos (by simpa [Nat.beq_eq] using h), UInt8.toNat_inj.1 h]; simp
    · rw [if_neg (by simpa [Nat.beq_eq] using h)]
      have : a ≠ b := fun e => h (by rw [e])
      simp [this]
theorem eqI_spec' (a b : Int) : eqI a b = (a == b) := by
  unfold eqI
  split
  · rename_i m n; rw [Bool.eq_iff_iff]; simp [Nat.beq_eq]; omega
  · rename_i m n; rw [Bool.eq_iff_iff]; simp [Nat.beq_eq]
  · rename_i h1 h2
    cases a <;> cases b <;> first | (exact absurd rfl (h1 _ _ rfl)) | (exact absurd rfl (h2 _ _ rfl)) | simp_all
theorem same_ok {d : TypeDesc} {k q k' q' : Value} {r : Bool} (hk : VRel ρ k k') (hq : VRel ρ q q') (h : sameA d k q = some r) :
    Instr.sameNow d k' q' = some r ∧ (r = true → k' = q') ∧ IsKey d k' := by
  unfold sameA at h
  split at h
  · cases hk; cases hq
    rw [pick2_eq] at h
    split at h
    · rename_i hkk
      simp only [Bool.and_eq_true, decide_eq_true_eq] at hkk
      obtain ⟨rfl, rfl⟩ := hkk
      cases h
      rw [eqI_spec']
      refine ⟨by simp [Instr.sameNow], fun e => by simp at e; rw [e], rfl⟩
    · cases h
  · cases hk; cases hq
    cases h
    rw [eqBytes_spec]
    refine ⟨?_, fun e => ?_, trivial⟩
    · rename_i a b
      simp only [Instr.sameNow, Option.some.injEq]
      rw [Bool.eq_iff_iff, bytes_beq]
      simp only [decide_eq_true_eq]
      constructor
      · rintro rfl; rfl
      · intro e
        obtain ⟨⟨x⟩⟩ := a
        obtain ⟨⟨y⟩⟩ := b
        simp at e; rw [e]
    · rename_i a b
      simp only [decide_eq_true_eq] at e
      obtain ⟨⟨x⟩⟩ := a
      obtain ⟨⟨y⟩⟩ := b
      simp at e; rw [e]
  · cases h
theorem find_ok {d : TypeDesc} {k k' : Value} (hk : VRel ρ k k') : ∀ (cs : List Value) (es : List MapEntry) (i : Nat) {r : Option (Nat × Value)}, LR (VRel ρ) cs (turns es) → findA d k cs i = some r →
    (r = none ∧ Instr.findNow d k' es i = some none) ∨ ∃ j v e, r = some (i + j, v) ∧ Instr.findNow d k' es i = some (some (i + j, e.val)) ∧ VRel ρ v e.val ∧ es[j]? = some e ∧ e.key = k' ∧ IsKey d k'
  | [], [], i, r, _, h => by cases h; exact .inl ⟨rfl, rfl⟩
  | [], e :: es, i, r, hl, _ => by have := hl.1; simp [turns] at this
  | [q], es, i, r, _, h => by cases h
  | q :: v :: cs, [], i, r, hl, _ => by have := hl.1; simp [turns] at this
  | q :: v :: cs, e :: es, i, r, hl, h => by
    have hl' : LR (VRel ρ) (q :: v :: cs) (e.key :: e.val :: turns es) := hl
    obtain ⟨q', t1, e1, hq, hl1⟩ := hl'.uncons
    cases e1
    obtain ⟨v', t2, e2, hv, hl2⟩ := hl1.uncons
    cases e2
    unfold findA at h
    split at h
    · rename_i hs
      cases h
      obtain ⟨h1, h2, h3⟩ := same_ok hk hq hs
      exact .inr ⟨0, v, e, rfl, by simp [Instr.findNow, h1], hv, rfl, (h2 rfl).symm, h3⟩
    · rename_i hs
      obtain ⟨h1, _, _⟩ := same_ok hk hq hs
      rcases find_ok hk cs es (i + 1) hl2 h with ⟨rfl, h2⟩ | ⟨j, v1, e1, rfl, h2, h3, h4, h5, h6⟩
      · exact .inl ⟨rfl, by simp [Instr.findNow, h1, h2]⟩
      · exact .inr ⟨j + 1, v1, e1, by rw [show i + 1 + j = i + (j + 1) by omega], by simp [Instr.findNow, h1, h2]; omega, h3, by simpa using h4, h5, h6⟩
    · cases h
theorem check_run {kt : TypeId} {d : TypeDesc} (hd : P.underlying kt = some d) (hk : keyDesc d = true) (k : Value) (e : Bool) (n : Nat) (w : World) : (Instr.checkKey e (n + 1) kt k).run P w = .ok () w := by
  unfold Instr.checkKey
  simp only [Sem.run_bind, run_underlying hd, Result.andThen]
  cases d <;> first | (cases k <;> rfl) | (simp [keyDesc] at hk; done)
theorem entries_ok (he : Emb c ρ H w) {x x' : Value} {cs : List Value} (hx : VRel ρ x x') (h : entriesA H x = some cs) :
    (x' = .map none ∧ cs = []) ∨ ∃ r es clock, x' = .map (some r) ∧ w.heap[r]? = some (.map es clock) ∧ LR (VRel ρ) cs (turns es.toList) := by
  unfold entriesA at h
  split at h
  · cases h; cases hx; exact .inl ⟨rfl, rfl⟩
  · rename_i i
    split at h
    · rename_i b hb
      cases h
      obtain ⟨r, es, k1, k2, k3, k4, _⟩ := he.mapAt hb
      cases hx with
      | map _ r' x hr =>
        rw [k1] at hr; cases hr
        exact .inr ⟨r, es, es.size, rfl, k3, k4⟩
    · cases h
  · cases h
theorem look_ok (he : Emb c ρ H w) {t : TypeId} {x x' k k' v : Value} {ok : Bool} (hx : VRel ρ x x') (hk : VRel ρ k k') (h : lookA c.P H t x k ok = some v) :
    ∃ v', (Instr.lookup t x' k' ok).run c.P w = .ok v' w ∧ VRel ρ v v' := by
  unfold lookA at h
  split at h
  · rename_i kt e ht
    split at h
    · rename_i d z cs hd hz hcs
      obtain ⟨hz1, hz2, _⟩ := run_zero hz w
      rw [pick2_eq] at h
      split at h
      · rename_i hkd
        have pair : ∀ {v v' : Value} {b : Bool}, VRel ρ v v' → VRel ρ (pick2 ok (.tuple #[v, .bool b]) v) (if ok then .tuple #[v', .bool b] else v') := by
          intro v v' b hv
          cases ok with
          | false => exact hv
          | true =>
            refine .tuple _ _ rfl ?_
            intro i x y h1 h2
            rcases i with _ | _ | i
            · simp at h1 h2; subst h1 h2; exact hv
            · simp at h1 h2; subst h1 h2; exact .bool _
            · simp at h1
        have run : ∀ {es : Array MapEntry} {clock : Nat} (hes : LR (VRel ρ) cs (turns es.toList)) (hget : x' = .map none ∧ es = #[] ∨ ∃ r, x' = .map (some r) ∧ w.heap[r]? = some (.map es clock)),
            ∃ v', (Instr.lookup t x' k' ok).run c.P w = .ok v' w ∧ VRel ρ v v' := by
          intro es clock hes hget
          split at h
          · rename_i j u hf
            rcases find_ok hk cs es.toList 0 hes hf with ⟨h0, _⟩ | ⟨j', u', e', h0, h1, h2, h3, h4, h5⟩
            · cases h0
            · cases h0
              cases h
              refine ⟨_, ?_, pair h2⟩
              rcases hget with ⟨rfl, rfl⟩ | ⟨r, rfl, hr⟩
              · simp at h3
              · simp only [Instr.lookup, Sem.run_bind, run_underlying ht, Go.MapKept.run_getObj_map hr, check_run hd hkd, run_findKey hd h1, Sem.run_pure, Result.andThen]
          · rename_i hf
            rcases find_ok hk cs es.toList 0 hes hf with ⟨_, h1⟩ | ⟨j', u', e', h0, _⟩
            · cases h
              refine ⟨_, ?_, pair (refl_of_free z hz2)⟩
              rcases hget with ⟨rfl, rfl⟩ | ⟨r, rfl, hr⟩
              · simp only [Instr.lookup, Sem.run_bind, run_underlying ht, check_run hd hkd, run_findKey hd h1, Sem.run_pure, Result.andThen, hz1]
              · simp only [Instr.lookup, Sem.run_bind, run_underlying ht, Go.MapKept.run_getObj_map hr, check_run hd hkd, run_findKey hd h1, Sem.run_pure, Result.andThen, hz1]
            · cases h0
          · cases h
        rcases entries_ok he hx hcs with ⟨rfl, rfl⟩ | ⟨r, es, clock, rfl, hr, hes⟩
        · exact run (es := #[]) (clock := 0) .nil (.inl ⟨rfl, rfl⟩)
        · exact run hes (.inr ⟨r, rfl, hr⟩)
      · cases h
    · cases h
  · cases h
/-- A new map. -/
theorem Emb.newMap (he : Emb c ρ H w) {t : TypeId} {H' : Mem} (hp : H.push ⟨[], t, false, true⟩ = some H') : Emb c (ρ.put H.size (w.heap.size, 0)) H' (w.alloc (.map #[] 0)) := by
  have hle := he.le_put (Nat.le_refl H.size) (w.heap.size, 0)
  obtain ⟨q1, q2, q3⟩ := Mem.push_spec hp
  have at1 : ∀ {i : Nat} {b : Blk}, H'.get i = some b → (i < H.size ∧ H.get i = some b) ∨ (i = H.size ∧ b = ⟨[], t, false, true⟩) := by
    intro i b hi
    rw [q3] at hi
    by_cases h1 : i = H.size
    · rw [if_pos h1] at hi; cases hi; exact .inr ⟨h1, rfl⟩
    · rw [if_neg h1] at hi; exact .inl ⟨Mem.get_lt hi, hi⟩
  have lt : ∀ {r : Nat} {o : Obj}, w.heap[r]? = some o → r < w.heap.size := fun h => (Array.getElem?_eq_some_iff.1 h).1
  have atL : ∀ {i : Nat} {b : Blk}, H'.get i = some b → b.live = true → i < H.size ∧ H.get i = some b := by
    intro i b hi hl
    rcases at1 hi with h1 | ⟨_, rfl⟩
    · exact h1
    · cases hl
  refine ⟨he.stay.alloc he.base _, Nat.le_trans he.base (by simp), ?_, by rw [q2]; exact he.lk, by rw [q1]; have := he.lsz; omega, fun g hg => hle _ _ (he.glob g hg), ?_, ?_, ?_, ?_, Ren.le_trans he.old hle⟩
  · intro i y hy
    rw [q1]
    by_cases hi : i = H.size
    · omega
    · rw [Ren.put_other ρ _ hi] at hy; have := he.dom i y hy; omega
  · intro i b hi hl
    obtain ⟨r', y, D, gr, s', h1, h2, h3, h4, h5, h6, h7⟩ := he.blk i b (atL hi hl).2 hl
    exact ⟨r', y, D, gr, s', hle _ _ h1, h2, by rw [Below.heap_alloc _ _ _ (lt h3)]; exact h3, h4, h5, h6, h7.1.mono fun _ _ => VRel.mono hle, h7.2⟩
  · intro i j bi bj q y z hi hli hj hlj hr hr'
    obtain ⟨k1, k2⟩ := atL hi hli
    obtain ⟨k3, k4⟩ := atL hj hlj
    rw [Ren.put_other ρ _ (by omega)] at hr hr'
    exact he.inj i j bi bj q y z k2 hli k4 hlj hr hr'
  · intro i b hi hm
    rcases at1 hi with ⟨hlt, hi'⟩ | ⟨rfl, rfl⟩
    · exact ((he.maps i b hi' hm).heap fun r es clock hh => by rw [Below.heap_alloc _ _ _ (lt hh)]; exact hh).mono hle
    · exact ⟨w.heap.size, .map #[] 0, (), Ren.put_same _ _ _, he.stay.fresh he.base, by show (w.heap.push _)[w.heap.size]? = _; simp, .inl ⟨#[], rfl, rfl, .nil, fun k e h => by simp at h⟩⟩
  · intro i j bi bj q y z hi hmi hj hmj hr hr'
    have old : ∀ {i : Nat} {b : Blk} {q y : Nat}, i < H.size → H.get i = some b → isMapB b = true → (ρ.put H.size (w.heap.size, 0)) i = some (q, y) → ρ i = some (q, y) ∧ q < w.heap.size := by
      intro i b q y hlt hg hm hr
      rw [Ren.put_other ρ _ (by omega)] at hr
      obtain ⟨r', es, clock, e1, e2, e3, _⟩ := he.maps i b hg hm
      rw [hr] at e1; cases e1
      exact ⟨hr, lt e3⟩
    rcases at1 hi with ⟨hlt, hi'⟩ | ⟨rfl, rfl⟩
    · obtain ⟨o1, o2⟩ := old hlt hi' hmi hr
      rcases at1 hj with ⟨hlt', hj'⟩ | ⟨rfl, rfl⟩
      · obtain ⟨o3, _⟩ := old hlt' hj' hmj hr'
        exact he.minj i j bi bj q y z hi' hmi hj' hmj o1 o3
      · rw [Ren.put_same] at hr'; cases hr'; omega
    · rcases at1 hj with ⟨hlt', hj'⟩ | ⟨rfl, rfl⟩
      · obtain ⟨_, o2⟩ := old hlt' hj' hmj hr'
        rw [Ren.put_same] at hr; cases hr; omega
      · rfl
theorem makeMap_ok (he : Emb c ρ H w) {t : TypeId} {r r' : Option Value} {v : Value} {H' : Mem} (hr : OR (VRel ρ) r r') (h : opMakeMap c.P t r H = some (v, H')) :
    ∃ ρ' w' v', ρ.le ρ' ∧ Emb c ρ' H' w' ∧ VRel ρ' v v' ∧ (Instr.makeMap t r').run c.P w = .ok v' w' := by
  have fin : ∀ {H1 : Mem}, H.push ⟨[], t, false, true⟩ = some H1 → v = .map (some H.size) → H1 = H' → (Instr.makeMap t r').run c.P w = .ok (.map (some w.heap.size)) (w.alloc (.map #[] 0)) →
      ∃ ρ' w' v', ρ.le ρ' ∧ Emb c ρ' H' w' ∧ VRel ρ' v v' ∧ (Instr.makeMap t r').run c.P w = .ok v' w' := by
    rintro H1 hp rfl rfl hrun
    exact ⟨_, _, _, he.le_put (Nat.le_refl _) _, he.newMap hp, .map _ _ _ (Ren.put_same _ _ _), hrun⟩
  unfold opMakeMap at h
  split at h
  · cases hr
    split at h
    · rename_i H1 hp
      cases h
      exact fin hp rfl rfl (by simp [Instr.makeMap, Result.andThen])
    · cases h
  · rename_i a b k n hu
    cases hr with
    | some hv =>
      cases hv
      split at h
      · rename_i H1 hp
        cases h
        exact fin hp rfl rfl (by simp [Instr.makeMap, run_underlying hu, asInt, asIntOf, Result.andThen])
      · cases h
  · cases h
theorem turns_append (a b : List MapEntry) : turns (a ++ b) = turns a ++ turns b := by simp [turns]
theorem turns_modify : ∀ (l : List MapEntry) (j : Nat) (f : MapEntry → MapEntry) (x : Value), (∀ e, l[j]? = some e → (f e).key = e.key ∧ (f e).val = x) → turns (l.modify j f) = (turns l).set (2 * j + 1) x
  | [], j, f, x, _ => by simp [turns]
  | e :: l, 0, f, x, h => by
    obtain ⟨h1, h2⟩ := h e rfl
    simp [turns, h1, h2]
  | e :: l, j + 1, f, x, h => by
    have ih := turns_modify l j f x (fun e' he' => h e' (by simpa using he'))
    have e1 : turns (e :: l.modify j f) = e.key :: e.val :: turns (l.modify j f) := rfl
    have e2 : turns (e :: l) = e.key :: e.val :: turns l := rfl
    rw [List.modify_succ_cons, e1, e2, ih, show 2 * (j + 1) + 1 = (2 * j + 1) + 1 + 1 by omega, List.set_cons_succ, List.set_cons_succ]
/-- A map of the evaluator's written, or an iterator, and the machine's. -/
theorem Emb.setObj (he : Emb c ρ H w) {i : Nat} {b : Blk} (g1 : H.get i = some b) (g2 : isMapB b = true) {cs : List Value} {H' : Mem} (hset : H.set i { b with cells := cs } = some H') {r : Nat} {o o' : Obj}
    (hr : ρ i = some (r, 0)) (hB : c.own r) (hw : w.heap[r]? = some o) (hn : NotCells o) (hl : IsObj ρ cs o') : Emb c ρ H' (withBlk w r o') := by
  obtain ⟨e1, e2, e3, e4, e5⟩ := Mem.set_spec hset
  have hrs : r < w.heap.size := (Array.getElem?_eq_some_iff.1 hw).1
  have bl : b.live = false := by unfold isMapB at g2; cases hl : b.live with | true => rw [hl] at g2; cases g2 | false => rfl
  have atL : ∀ {j : Nat} {bj : Blk}, H'.get j = some bj → bj.live = true → H.get j = some bj := by
    intro j bj hj hlj
    rw [e5] at hj
    by_cases hij : j = i
    · rw [if_pos hij] at hj; cases hj; simp only at hlj; rw [bl] at hlj; cases hlj
    · rw [if_neg hij] at hj; exact hj
  have atM : ∀ {j : Nat} {bj : Blk}, H'.get j = some bj → isMapB bj = true → ∃ b', H.get j = some b' ∧ isMapB b' = true ∧ (j ≠ i → b' = bj) := by
    intro j bj hj hm
    rw [e5] at hj
    by_cases hij : j = i
    · subst hij; exact ⟨b, g1, g2, fun h => absurd rfl h⟩
    · rw [if_neg hij] at hj; exact ⟨bj, hj, hm, fun _ => rfl⟩
  refine ⟨he.stay.touch hB ⟨rfl, rfl, rfl, by simp [withBlk], fun k hk => withBlk_heap _ _ _ _ (by have := hB.1; omega)⟩ (fun k hk => withBlk_heap _ _ _ _ hk), by simpa [withBlk] using he.base, fun j y hy => by rw [e3]; exact he.dom j y hy, by rw [e4]; exact he.lk, by rw [e3]; exact he.lsz, he.glob, ?_, ?_, ?_, ?_, he.old⟩
  · intro j bj hj hlj
    obtain ⟨q, y, E, er, s', m1, m2, m3, m4⟩ := he.blk j bj (atL hj hlj) hlj
    exact ⟨q, y, E, er, s', m1, m2, by rw [withBlk_heap _ _ _ _ (fun e => by subst e; rw [hw] at m3; cases m3; exact hn _ _ _ rfl)]; exact m3, m4⟩
  · intro j k bj bk q y z hj hlj hk hlk hq hq'
    exact he.inj j k bj bk q y z (atL hj hlj) hlj (atL hk hlk) hlk hq hq'
  · intro j bj hj hm
    obtain ⟨b', h1, h2, h3⟩ := atM hj hm
    by_cases hij : j = i
    · subst hij
      rw [e5, if_pos rfl] at hj
      cases hj
      exact ⟨r, o', (), hr, hB, withBlk_same _ _ _ hrs, hl⟩
    · obtain rfl := h3 hij
      obtain ⟨q, es2, clock2, m1, m2, m3, m4⟩ := he.maps j b' h1 h2
      exact ⟨q, es2, clock2, m1, m2, by rw [withBlk_heap _ _ _ _ (fun e => by subst e; exact hij (he.minj j i b' b _ _ _ h1 h2 g1 g2 m1 hr))]; exact m3, m4⟩
  · intro j k bj bk q y z hj hmj hk hmk hq hq'
    obtain ⟨b1, h1, h2, _⟩ := atM hj hmj
    obtain ⟨b2, h3, h4, _⟩ := atM hk hmk
    exact he.minj j k b1 b2 q y z h1 h2 h3 h4 hq hq'
theorem Emb.setMap (he : Emb c ρ H w) {i : Nat} {b : Blk} (hi : mapOf H i = some b) {cs : List Value} {H' : Mem} (hset : H.set i { b with cells := cs } = some H') {r : Nat} {es es' : Array MapEntry} {clock clock' : Nat}
    (hr : ρ i = some (r, 0)) (hB : c.own r) (hw : w.heap[r]? = some (.map es clock)) (hl : LR (VRel ρ) cs (turns es'.toList)) (hcl : clock' = es'.size) (hit : isIterL cs = false) (hbn : ∀ (k : Nat) e, es'[k]? = some e → e.born = k) : Emb c ρ H' (withBlk w r (.map es' clock')) := by
  obtain ⟨g1, g2⟩ := mapOf_some hi
  subst hcl
  exact he.setObj g1 g2 hset hr hB hw (fun _ _ _ h => by cases h) (.inl ⟨es', hit, rfl, hl, hbn⟩)
theorem isIterL_head (a : Value) (l l' : List Value) : isIterL (a :: l) = isIterL (a :: l') := by
  cases a with
  | chan c => cases c <;> rfl
  | _ => rfl
theorem isIterL_set {l : List Value} (h : isIterL l = false) (j : Nat) (v : Value) : isIterL (l.set (2 * j + 1) v) = false := by
  cases l with
  | nil => rfl
  | cons a l => rw [List.set_cons_succ, isIterL_head a _ l]; exact h
theorem isIterL_app {l : List Value} (h : isIterL l = false) {k : Value} (hk : addrFree k = true) (x : Value) : isIterL (l ++ [k, x]) = false := by
  cases l with
  | nil =>
    show isIterL [k, x] = false
    unfold isIterL
    split
    · rename_i h1; cases h1; simp [addrFree] at hk
    · rfl
  | cons a l => exact (isIterL_head a _ l).trans h
theorem mapSet_ok (he : Emb c ρ H w) {t : TypeId} {m m' k k' x x' v : Value} {H' : Mem} (hm : VRel ρ m m') (hk : VRel ρ k k') (hx : VRel ρ x x') (h : opMapSet c.P t m k x H = some (v, H')) :
    ∃ w', Emb c ρ H' w' ∧ (Instr.mapUpdate t m' k' x').run c.P w = .ok () w' ∧ v = undef := by
  unfold opMapSet at h
  split at h
  · rename_i kt e i ht
    split at h
    · rename_i d b hd hb
      rw [pick2_eq] at h
      split at h
      · rename_i hkd
        simp only [Bool.and_eq_true] at hkd
        obtain ⟨hkd, hkf⟩ := hkd
        have hk' := eq_of_free hk hkf
        subst hk'
        have hit := mapOf_not hb
        obtain ⟨r, es, k1, k2, k3, k4, kb⟩ := he.mapAt hb
        cases hm with
        | map _ r' y hr =>
          rw [k1] at hr; cases hr
          split at h
          · rename_i j u hf
            split at h
            · rename_i H1 hset
              cases h
              rcases find_ok hk b.cells es.toList 0 k4 hf with ⟨h0, _⟩ | ⟨j', u', e', h0, h1, h2, h3, h4, h5⟩
              · cases h0
              · rw [Nat.zero_add] at h0 h1
                cases h0
                have hj : es[j]? = some e' := by simpa using h3
                refine ⟨_, he.setMap hb hset k1 k2 k3 (es' := es.modify j fun e => { e with key := k', val := x' }) (clock' := es.size) ?_ (by simp) (isIterL_set hit _ _) (fun q e hq => by
                  rw [Array.getElem?_modify] at hq
                  split at hq
                  · simp only [Option.map_eq_some_iff] at hq
                    obtain ⟨e1, he1, rfl⟩ := hq
                    exact kb q e1 he1
                  · exact kb q e hq), ?_, rfl⟩
                · rw [Array.toList_modify, turns_modify es.toList j _ x' (fun e1 he1 => by rw [h3] at he1; cases he1; exact ⟨h4.symm, rfl⟩)]
                  exact k4.set _ hx
                · simp [Instr.mapUpdate, run_underlying ht, Go.MapKept.run_getObj_map k3, check_run hd hkd, run_findKey hd h1, hj, h4, run_keyThatStays h5, run_setObj_map _ k3, Result.andThen, withBlk]
            · cases h
          · rename_i hf
            split at h
            · rename_i H1 hset
              cases h
              rcases find_ok hk b.cells es.toList 0 k4 hf with ⟨_, h1⟩ | ⟨j', u', e', h0, _⟩
              · refine ⟨_, he.setMap hb hset k1 k2 k3 (es' := es.push { key := k', val := x', born := es.size }) (clock' := es.size + 1) ?_ (by simp) (isIterL_app hit hkf _) (fun q e hq => by
                  rw [Array.getElem?_push] at hq
                  split at hq
                  · rename_i e0; cases hq; exact e0.symm
                  · exact kb q e hq), ?_, rfl⟩
                · rw [Array.toList_push, turns_append]
                  exact k4.append (.cons hk (.cons hx .nil))
                · simp [Instr.mapUpdate, run_underlying ht, Go.MapKept.run_getObj_map k3, check_run hd hkd, run_findKey hd h1, run_setObj_map _ k3, Result.andThen, withBlk]
              · cases h0
            · cases h
          · cases h
      · cases h
    · cases h
  · cases h
/-! ### Iterators -/
/-- A new row that holds no cells. -/
theorem Emb.newObj (he : Emb c ρ H w) {l : List Value} {o : Obj} {H' : Mem} {t : TypeId} (hp : H.push ⟨l, t, false, true⟩ = some H') (ho : IsObj ρ l o) : Emb c (ρ.put H.size (w.heap.size, 0)) H' (w.alloc o) := by
  have hle := he.le_put (Nat.le_refl H.size) (w.heap.size, 0)
  obtain ⟨q1, q2, q3⟩ := Mem.push_spec hp
  have at1 : ∀ {i : Nat} {b : Blk}, H'.get i = some b → (i < H.size ∧ H.get i = some b) ∨ (i = H.size ∧ b = ⟨l, t, false, true⟩) := by
    intro i b hi
    rw [q3] at hi
    by_cases h1 : i = H.size
    · rw [if_pos h1] at hi; cases hi; exact .inr ⟨h1, rfl⟩
    · rw [if_neg h1] at hi; exact .inl ⟨Mem.get_lt hi, hi⟩
  have lt : ∀ {r : Nat} {o : Obj}, w.heap[r]? = some o → r < w.heap.size := fun h => (Array.getElem?_eq_some_iff.1 h).1
  have atL : ∀ {i : Nat} {b : Blk}, H'.get i = some b → b.live = true → i < H.size ∧ H.get i = some b := by
    intro i b hi hl
    rcases at1 hi with h1 | ⟨_, rfl⟩
    · exact h1
    · cases hl
  refine ⟨he.stay.alloc he.base _, Nat.le_trans he.base (by simp), ?_, by rw [q2]; exact he.lk, by rw [q1]; have := he.lsz; omega, fun g hg => hle _ _ (he.glob g hg), ?_, ?_, ?_, ?_, Ren.le_trans he.old hle⟩
  · intro i y hy
    rw [q1]
    by_cases hi : i = H.size
    · omega
    · rw [Ren.put_other ρ _ hi] at hy; have := he.dom i y hy; omega
  · intro i b hi hl
    obtain ⟨r', y, D, gr, s', h1, h2, h3, h4, h5, h6, h7⟩ := he.blk i b (atL hi hl).2 hl
    exact ⟨r', y, D, gr, s', hle _ _ h1, h2, by rw [Below.heap_alloc _ _ _ (lt h3)]; exact h3, h4, h5, h6, h7.1.mono fun _ _ => VRel.mono hle, h7.2⟩
  · intro i j bi bj q y z hi hli hj hlj hr hr'
    obtain ⟨k1, k2⟩ := atL hi hli
    obtain ⟨k3, k4⟩ := atL hj hlj
    rw [Ren.put_other ρ _ (by omega)] at hr hr'
    exact he.inj i j bi bj q y z k2 hli k4 hlj hr hr'
  · intro i b hi hm
    rcases at1 hi with ⟨hlt, hi'⟩ | ⟨rfl, rfl⟩
    · exact ((he.maps i b hi' hm).heap fun r es clock hh => by rw [Below.heap_alloc _ _ _ (lt hh)]; exact hh).mono hle
    · exact ⟨w.heap.size, o, (), Ren.put_same _ _ _, he.stay.fresh he.base, by show (w.heap.push _)[w.heap.size]? = _; simp, ho.mono hle⟩
  · intro i j bi bj q y z hi hmi hj hmj hr hr'
    have old : ∀ {i : Nat} {b : Blk} {q y : Nat}, i < H.size → H.get i = some b → isMapB b = true → (ρ.put H.size (w.heap.size, 0)) i = some (q, y) → ρ i = some (q, y) ∧ q < w.heap.size := by
      intro i b q y hlt hg hm hr
      rw [Ren.put_other ρ _ (by omega)] at hr
      obtain ⟨r', es, clock, e1, e2, e3, _⟩ := he.maps i b hg hm
      rw [hr] at e1; cases e1
      exact ⟨hr, lt e3⟩
    rcases at1 hi with ⟨hlt, hi'⟩ | ⟨rfl, rfl⟩
    · obtain ⟨o1, o2⟩ := old hlt hi' hmi hr
      rcases at1 hj with ⟨hlt', hj'⟩ | ⟨rfl, rfl⟩
      · obtain ⟨o3, _⟩ := old hlt' hj' hmj hr'
        exact he.minj i j bi bj q y z hi' hmi hj' hmj o1 o3
      · rw [Ren.put_same] at hr'; cases hr'; omega
    · rcases at1 hj with ⟨hlt', hj'⟩ | ⟨rfl, rfl⟩
      · obtain ⟨_, o2⟩ := old hlt' hj' hmj hr'
        rw [Ren.put_same] at hr; cases hr; omega
      · rfl
theorem pushIter_spec {l : List Value} {v : Value} {H' : Mem} (h : pushIter H l = some (v, H')) : H.push ⟨.chan none :: l, 0, false, true⟩ = some H' ∧ v = .pointer (some ⟨H.size, 0, none⟩) := by
  unfold pushIter at h
  split at h
  · rename_i H1 hp; cases h; exact ⟨hp, rfl⟩
  · cases h
theorem turns_nil {es : List MapEntry} {ρ : Ren} (h : LR (VRel ρ) [] (turns es)) : es = [] := by
  cases es with
  | nil => rfl
  | cons e l => have := h.1; simp [turns] at this
theorem turns_one {es : List MapEntry} {ρ : Ren} {k v : Value} (h : LR (VRel ρ) [k, v] (turns es)) : ∃ e, es = [e] ∧ VRel ρ k e.key ∧ VRel ρ v e.val := by
  cases es with
  | nil => have := h.1; simp [turns] at this
  | cons e l =>
    cases l with
    | cons e2 l => have := h.1; simp [turns] at this
    | nil => exact ⟨e, rfl, h.2 0 _ _ rfl rfl, h.2 1 _ _ rfl rfl⟩
theorem range_itr (he : Emb c ρ H w) {t : TypeId} {x x' v : Value} {H' : Mem} (hx : VRel ρ x x') (h : opRange c.P t x H = some (v, H')) :
    ∃ ρ' w' v', ρ.le ρ' ∧ Emb c ρ' H' w' ∧ VRel ρ' v v' ∧ (Instr.range t x').run c.P w = .ok v' w' := by
  have fin : ∀ {l : List Value} {o : Obj}, pushIter H l = some (v, H') → IsObj ρ (.chan none :: l) o → (Instr.range t x').run c.P w = .ok (.pointer (some ⟨w.heap.size, 0, none⟩)) (w.alloc o) →
      ∃ ρ' w' v', ρ.le ρ' ∧ Emb c ρ' H' w' ∧ VRel ρ' v v' ∧ (Instr.range t x').run c.P w = .ok v' w' := by
    intro l o hp ho hrun
    obtain ⟨hp2, hv⟩ := pushIter_spec hp
    subst hv
    exact ⟨_, _, _, he.le_put (Nat.le_refl _) _, he.newObj hp2 ho, .ptr _ _ _ _ (Ren.put_same _ _ _), hrun⟩
  unfold opRange at h
  split at h
  · rename_i s hu
    cases hx
    exact fin h (.inr (.inl ⟨s, 0, rfl, rfl⟩)) (by simp [Instr.range, run_underlying hu, Result.andThen])
  · rename_i kt e i hu
    split at h
    · rename_i b hb
      obtain ⟨r, es, k1, k2, k3, k4, k5⟩ := he.mapAt hb
      cases hx with
      | map _ r' y hr =>
        rw [k1] at hr; cases hr
        split at h
        · rename_i hc
          rw [hc] at k4
          have e0 : es = #[] := by have := turns_nil k4; simpa using this
          subst e0
          exact fin h (.inr (.inr ⟨i, r, 0, 0, false, #[], 0, rfl, k1, by omega, rfl, fun _ => rfl, fun h => by cases h⟩)) (by simp [Instr.range, run_underlying hu, Go.MapKept.run_getObj_map k3, Result.andThen])
        · rename_i a b2 hc
          rw [hc] at k4
          obtain ⟨e0, e1, _⟩ := turns_one k4
          have e1 : es = #[e0] := by apply Array.ext'; simpa using e1
          subst e1
          exact fin h (.inr (.inr ⟨i, r, 0, 1, false, #[], 1, rfl, k1, by omega, rfl, fun _ => rfl, fun h => by cases h⟩)) (by simp [Instr.range, run_underlying hu, Go.MapKept.run_getObj_map k3, Result.andThen])
        · cases h
    · cases h
  · cases h
theorem decode_ascii {s : ByteArray} {p : Nat} {b : UInt8} (h : s.data.toList[p]? = some b) (hb : b.toNat < 128) : Utf8.decode s p = (b.toNat, 1) ∧ p < s.size := by
  have h1 : s.data[p]? = some b := by simpa using h
  obtain ⟨hp, hv⟩ := Array.getElem?_eq_some_iff.1 h1
  refine ⟨?_, hp⟩
  have hg : s.get! (p + 0) = b := by
    show s.data[p + 0]! = b
    rw [Nat.add_zero, getElem!_pos s.data p hp]; exact hv
  unfold Utf8.decode
  simp only [hg]
  rw [if_pos hb]
theorem iter_obj (he : Emb c ρ H w) {i : Nat} {b : Blk} {l : List Value} (h : iterOf H i = some (b, l)) : ∃ r o, ρ i = some (r, 0) ∧ c.own r ∧ w.heap[r]? = some o ∧ IsObj ρ (.chan none :: l) o := by
  obtain ⟨h1, h2, h3⟩ := iterOf_some h
  obtain ⟨r, o, _, k1, k2, k3, k4⟩ := he.maps i b h1 h2
  exact ⟨r, o, k1, k2, k3, by rw [← h3]; exact k4⟩
theorem iter_str {s : ByteArray} {p : Nat} {o : Obj} (h : IsObj ρ [.chan none, .string s, .int .i64 (.ofNat p)] o) : o = .stringIter s p := by
  rcases h with ⟨es, h0, _⟩ | ⟨s', p', h1, h2⟩ | ⟨m, r', x, n, d, seen, last, k5, _⟩
  · cases h0
  · cases h1; exact h2
  · cases k5
theorem iter_map {m n : Nat} {d : Bool} {o : Obj} (h : IsObj ρ [.chan none, .map (some m), .int .i64 (.ofNat n), .bool d] o) : ∃ r x seen last, ρ m = some (r, x) ∧ n ≤ 1 ∧ o = .mapIter (some r) n seen last ∧ (d = false → seen = #[]) ∧ (d = true → n = 1 ∧ seen = #[0] ∧ last = 1) := by
  rcases h with ⟨es, h0, _⟩ | ⟨s', p', h1, h2⟩ | ⟨m, r', x, n, d, seen, last, k5, k6, k7, k8, k9⟩
  · cases h0
  · cases h1
  · cases k5; exact ⟨_, _, _, _, k6, k7, k8, k9⟩
theorem VRel.tup {l l' : List Value} (h : LR (VRel ρ) l l') : VRel ρ (.tuple l.toArray) (.tuple l'.toArray) := .tuple _ _ h.array.1 h.array.2
theorem setIter_spec {i : Nat} {b : Blk} {l : List Value} {v v' : Value} {H' : Mem} (h : setIter H i b l v = some (v', H')) : v' = v ∧ H.set i { b with cells := .chan none :: l } = some H' := by
  unfold setIter at h
  split at h
  · rename_i H1 hs; cases h; exact ⟨rfl, hs⟩
  · cases h
theorem next_itr (he : Emb c ρ H w) {it it' v : Value} {isS : Bool} {H' : Mem} (hi : VRel ρ it it') (ty : TypeId) (h : opNext it isS H = some (v, H')) :
    ∃ w' v', Emb c ρ H' w' ∧ VRel ρ v v' ∧ (Instr.next it' isS ty).run c.P w = .ok v' w' := by
  unfold opNext at h
  split at h
  case h_2 => cases h
  rename_i i
  cases hi with
  | ptr _ _ r x hr =>
  split at h
  · rename_i b s p hit
    obtain ⟨g1, g2, g3⟩ := iterOf_some hit
    obtain ⟨r', o, k1, k2, k3, k4⟩ := iter_obj he hit
    rw [hr] at k1; cases k1
    obtain rfl := iter_str k4
    split at h
    · rename_i ch hc
      rw [pick2_eq] at h
      split at h
      case isFalse => cases h
      rename_i hlt
      obtain ⟨rfl, hs⟩ := setIter_spec h
      have hlt' : ch.toNat < 128 := by simpa [Nat.blt_eq] using hlt
      obtain ⟨d1, d2⟩ := decode_ascii hc hlt'
      refine ⟨_, _, he.setObj g1 g2 hs hr k2 k3 (fun _ _ _ h => by cases h) (.inr (.inl ⟨s, p + 1, rfl, rfl⟩)), refl_of_free _ rfl, ?_⟩
      simp [Instr.next, getObj, setObj, Sem.run, k3, d1, d2, Result.andThen, withBlk, goInt]
    · rename_i hc
      cases h
      have hge : ¬ p < s.size := by
        intro hlt
        have : s.data.toList[p]? = some (s.data.toList[p]'(by simpa using hlt)) := by simp
        rw [hc] at this; cases this
      refine ⟨w, _, he, refl_of_free _ rfl, ?_⟩
      simp [Instr.next, getObj, Sem.run, k3, hge, Result.andThen]
  · rename_i b m n d hit
    obtain ⟨g1, g2, g3⟩ := iterOf_some hit
    obtain ⟨r', o, k1, k2, k3, k4⟩ := iter_obj he hit
    rw [hr] at k1; cases k1
    obtain ⟨rm, xm, seen, last, j1, j2, rfl, j3, j4⟩ := iter_map k4
    split at h
    case h_2 => cases h
    rename_i mb hmb
    obtain ⟨r2, es, m1, m2, m3, m4, m5⟩ := he.mapAt hmb
    rw [j1] at m1; cases m1
    split at h
    · rename_i hc
      cases h
      rw [hc] at m4
      have e0 : es = #[] := by have := turns_nil m4; simpa using this
      subst e0
      obtain rfl := j3 rfl
      refine ⟨w, _, he, refl_of_free _ rfl, ?_⟩
      simp [Instr.next, getObj, choose, Sem.run, Question.forced, k3, m3, Result.andThen]
    · rename_i a b2 hc
      rw [hc] at m4
      obtain ⟨e0, e1, v1, v2⟩ := turns_one m4
      have e1 : es = #[e0] := by apply Array.ext'; simpa using e1
      subst e1
      have hb0 : e0.born = 0 := m5 0 e0 rfl
      obtain rfl := j3 rfl
      obtain ⟨rfl, hs⟩ := setIter_spec h
      refine ⟨_, _, he.setObj g1 g2 hs hr k2 k3 (fun _ _ _ h => by cases h) (.inr (.inr ⟨m, rm, 0, 1, true, #[0], 1, rfl, j1, by omega, rfl, fun h => (by cases h), fun _ => ⟨rfl, rfl, rfl⟩⟩)), VRel.tup (.cons (.bool true) (.cons v1 (.cons v2 .nil))), ?_⟩
      simp [Instr.next, getObj, setObj, choose, Sem.run, Question.forced, k3, m3, hb0, Result.andThen, withBlk]
    · rename_i a b2 hc
      cases h
      rw [hc] at m4
      obtain ⟨e0, e1, v1, v2⟩ := turns_one m4
      have e1 : es = #[e0] := by apply Array.ext'; simpa using e1
      subst e1
      have hb0 : e0.born = 0 := m5 0 e0 rfl
      obtain ⟨_, rfl, rfl⟩ := j4 rfl
      refine ⟨w, _, he, refl_of_free _ rfl, ?_⟩
      simp [Instr.next, getObj, choose, Sem.run, Question.forced, k3, m3, hb0, Result.andThen]
    · cases h
  · cases h
theorem entry_itr (he : Emb c ρ H w) {it it' v : Value} {H' : Mem} (hi : VRel ρ it it') (h : opEntry it H = some (v, H')) :
    H' = H ∧ ∃ v', VRel ρ v v' ∧ (Instr.entry it').run c.P w = .ok v' w := by
  unfold opEntry at h
  split at h
  case h_2 => cases h
  rename_i i
  cases hi with
  | ptr _ _ r x hr =>
  split at h
  · rename_i b m hit
    obtain ⟨r', o, k1, k2, k3, k4⟩ := iter_obj he hit
    rw [hr] at k1; cases k1
    obtain ⟨rm, xm, seen, last, j1, j2, rfl, j3, j4⟩ := iter_map k4
    obtain ⟨_, rfl, rfl⟩ := j4 rfl
    split at h
    case h_2 => cases h
    rename_i mb hmb
    obtain ⟨r2, es, m1, m2, m3, m4, m5⟩ := he.mapAt hmb
    rw [j1] at m1; cases m1
    split at h
    · rename_i a b2 hc
      cases h
      rw [hc] at m4
      obtain ⟨e0, e1, v1, v2⟩ := turns_one m4
      have e1 : es = #[e0] := by apply Array.ext'; simpa using e1
      subst e1
      have hb0 : e0.born = 0 := m5 0 e0 rfl
      refine ⟨rfl, _, VRel.tup (.cons v1 (.cons v2 .nil)), ?_⟩
      simp [Instr.entry, getObj, Sem.run, k3, m3, hb0, Result.andThen]
    · cases h
  · cases h
theorem range_keepsS {t : TypeId} {x v : Value} {H' : Mem} (h : opRange P t x H = some (v, H')) : ∃ b, H.push b = some H' := by
  unfold opRange at h
  split at h
  · exact ⟨_, (pushIter_spec h).1⟩
  · split at h
    · split at h
      · exact ⟨_, (pushIter_spec h).1⟩
      · exact ⟨_, (pushIter_spec h).1⟩
      · cases h
    · cases h
  · cases h
theorem next_keepsS {it v : Value} {s : Bool} {H' : Mem} (h : opNext it s H = some (v, H')) : H' = H ∨ ∃ i b, H.set i b = some H' := by
  unfold opNext at h
  split at h
  case h_2 => cases h
  split at h
  · split at h
    · rw [pick2_eq] at h
      split at h
      · exact .inr ⟨_, _, (setIter_spec h).2⟩
      · cases h
    · cases h; exact .inl rfl
  · split at h
    · split at h
      · cases h; exact .inl rfl
      · exact .inr ⟨_, _, (setIter_spec h).2⟩
      · cases h; exact .inl rfl
      · cases h
    · cases h
  · cases h
theorem entry_keepsS {it v : Value} {H' : Mem} (h : opEntry it H = some (v, H')) : H' = H := by
  unfold opEntry at h
  split at h
  case h_2 => cases h
  split at h
  · split at h
    · split at h
      · cases h; rfl
      · cases h
    · cases h
  · cases h
/-! ### Slices without room left -/
theorem slice3_ok (he : Emb c ρ H w) {t : TypeId} {x x' hi hi' mx mx' v : Value} {H' : Mem} (hx : VRel ρ x x') (hh : VRel ρ hi hi') (hm : VRel ρ mx mx') (h : slice3A c.P t x hi mx H = some (v, H')) :
    ∃ ρ' v', ρ.le ρ' ∧ Emb c ρ' H' w ∧ VRel ρ' v v' ∧ (Instr.sliceAt t x' none (some hi') (some mx')).run c.P w = .ok v' w := by
  unfold slice3A at h
  split at h
  · rename_i e i len cap kh nh km nm hu
    split at h
    · rename_i b s hb hs
      rw [pick2_eq] at h
      split at h
      case isFalse => cases h
      rename_i hc
      simp only [Bool.and_eq_true, Nat.beq_eq] at hc
      obtain ⟨⟨⟨⟨⟨rfl, rfl⟩, rfl⟩, h1⟩, h2⟩, h3⟩ := hc
      have h1 := Nat.le_of_ble_eq_true h1
      split at h
      case h_2 => cases h
      rename_i H1 hkill
      split at h
      case h_2 => cases h
      rename_i H2 hp
      cases h
      cases hh
      cases hm
      cases hx with
      | slice _ _ _ _ r y hr =>
      obtain ⟨hg, hl⟩ := alive_some hb
      obtain ⟨kl1, kl2, kl3, kl4, kl5⟩ := kill_spec hkill
      have hL : ¬ i < c.L := by have := he.lk; omega
      obtain ⟨r', y', C, fr, s', k1, k2, k3, k4, k5, ⟨ex, k6, _⟩, k7, k8⟩ := he.blk i b hg hl
      rw [hr] at k1; cases k1
      have hB : c.own r := k2.resolve_left fun h => hL h.1
      refine ⟨_, _, (he.kill hkill).le_put (Nat.le_refl _) (r, 0), (he.kill hkill).add hp he.stay he.base (he.kill hkill).blk (he.kill hkill).maps (fun j bj r' z hj hlj hq e0 => ?_) k3 hB (k4.resolve_left hL) (k5.1.resolve_left hL) ⟨y + ex, by rw [k6, Nat.zero_add], fun h => by cases h⟩ k7 (fun h => by cases h) (k8.resolve_left hL), .slice _ _ _ _ r 0 (Ren.put_same _ _ _), ?_⟩
      · subst e0
        obtain ⟨g1, g2⟩ := kl3 j bj hj (.inl hlj)
        exact g2 (he.inj j i bj b r' z y g1 hlj hg hl hq hr)
      · have e1 := Nat.pos_iff_ne_zero.1 h1
        simp [Instr.sliceAt, Instr.slice, Instr.sliceBounds, Instr.sliceBound, asIntOf, run_underlying hu, run_size hs, add_addr, e1, Result.andThen]
    · cases h
  · rename_i e kh km hu
    split at h
    · rename_i s hs
      cases h
      cases hh
      cases hm
      cases hx
      exact ⟨ρ, _, Ren.le_refl _, he, .sliceNil _ _, by simp [Instr.sliceAt, Instr.slice, Instr.sliceBounds, Instr.sliceBound, asIntOf, run_underlying hu, run_size hs, Result.andThen]⟩
    · cases h
  · cases h
theorem slice3_keepsS {t : TypeId} {x hi mx v : Value} {H' : Mem} (h : slice3A P t x hi mx H = some (v, H')) : H' = H ∨ ∃ i H1 b, kill H i = some H1 ∧ H1.push b = some H' := by
  unfold slice3A at h
  split at h
  · split at h
    · rw [pick2_eq] at h
      split at h
      · split at h
        · rename_i H1 hk
          split at h
          · rename_i H2 hp
            cases h
            exact .inr ⟨_, _, _, hk, hp⟩
          · cases h
        · cases h
      · cases h
    · cases h
  · split at h
    · cases h; exact .inl rfl
    · cases h
  · cases h
theorem makeMap_keepsS {t : TypeId} {r : Option Value} {v : Value} {H' : Mem} (h : opMakeMap P t r H = some (v, H')) : ∃ b, H.push b = some H' := by
  unfold opMakeMap at h
  split at h
  · split at h
    · rename_i hp; cases h; exact ⟨_, hp⟩
    · cases h
  · split at h
    · rename_i hp; cases h; exact ⟨_, hp⟩
    · cases h
  · cases h
theorem mapSet_keepsS {t : TypeId} {m k x v : Value} {H' : Mem} (h : opMapSet P t m k x H = some (v, H')) : ∃ i b, H.set i b = some H' := by
  unfold opMapSet at h
  split at h
  · split at h
    · rw [pick2_eq] at h
      split at h
      · split at h
        · split at h
          · rename_i hp; cases h; exact ⟨_, _, hp⟩
          · cases h
        · split at h
          · rename_i hp; cases h; exact ⟨_, _, hp⟩
          · cases h
        · cases h
      · cases h
    · cases h
  · cases h
end
end Go.Ev
