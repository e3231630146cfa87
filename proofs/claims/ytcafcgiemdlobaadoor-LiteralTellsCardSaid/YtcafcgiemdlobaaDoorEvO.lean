/- Each operation of the evaluator's is the machine's own. -/
import Derived.Test.YtcafcgiemdlobaaDoorEvR
namespace Go.Ev
open Go.RowKit

structure Sim (ρ : Ren) (a ar : Act) : Prop where
  tmps : AR (VRel ρ) a.tmps ar.tmps
  dr : ar.defers = []

theorem Sim.mono {ρ ρ' : Ren} {a ar : Act} (hle : ρ.le ρ') (h : Sim ρ a ar) : Sim ρ' a ar := ⟨h.tmps.mono fun _ _ => VRel.mono hle, h.dr⟩

theorem AR.getD {R : Value → Value → Prop} {a a' : Array Value} (h : AR R a a') (i : Nat) {d : Value} (hd : R d d) : R (a.getD i d) (a'.getD i d) := by
  by_cases hi : i < a.size
  · have hi' : i < a'.size := h.1 ▸ hi
    have := h.2 i a[i] a'[i] (by simp [hi]) (by simp [hi'])
    simpa [Array.getD, hi, hi'] using this
  · have hi' : ¬ i < a'.size := h.1 ▸ hi
    simpa [Array.getD, hi, hi'] using hd

theorem Sim.eval {ρ : Ren} {a ar : Act} (h : Sim ρ a ar) {G : Nat} (hg : ∀ g, g < G → ρ g = some (g, 0)) {x : Operand} (hx : operandOk G x = true) : VRel ρ (a.eval x) (ar.eval x) := by
  cases x with
  | tmp t => exact h.tmps.getD t .undef
  | const v => exact refl_of_free v hx
  | global g => exact .ptr _ _ _ _ (hg g (by simpa [operandOk, Nat.blt_eq] using hx))
  | func f => exact .func _ _ _ _ _ rfl (fun i x y hx => by simp at hx) rfl (fun i x y hx => by simp at hx)

theorem Sim.put {ρ : Ren} {a ar : Act} (h : Sim ρ a ar) (dst : Option Tmp) {v v' : Value} (hv : VRel ρ v v') : Sim ρ (a.put dst v) (ar.put dst v') := by
  cases dst with
  | none => exact h
  | some d =>
    refine ⟨⟨by simpa [Act.put] using h.tmps.1, fun i x y hx hy => ?_⟩, h.dr⟩
    simp only [Act.put, Array.getElem?_setIfInBounds] at hx hy
    by_cases hd : d = i
    · rw [if_pos hd] at hx hy
      split at hx
      · split at hy
        · cases hx; cases hy; exact hv
        · cases hy
      · cases hx
    · rw [if_neg hd] at hx hy; exact h.tmps.2 i x y hx hy

section
variable {c : Cx} {P : Program} {w : World} {ρ : Ren} {H : Mem}

theorem run_size {t : TypeId} {n : Nat} (h : sizeA P t = some n) (w : World) : (sizeOf t).run P w = .ok n w := by
  unfold sizeA at h
  cases hi : P.info? t with
  | none => simp [hi] at h
  | some i => simp [hi] at h; simp [sizeOf, typeInfo, hi, h]

theorem run_isAgg {t : TypeId} {b : Bool} (h : isAggA P t = some b) (w : World) : (isAgg t).run P w = .ok b w := by
  unfold isAggA at h
  cases hu : P.underlying t with
  | none => simp [hu] at h
  | some d => cases d <;> simp [hu] at h <;> subst h <;> simp [isAgg, run_underlying hu]

theorem run_zero {t : TypeId} {z : Value} (h : zeroA P t = some z) (w : World) : (zeroValue t).run P w = .ok z w ∧ addrFree z = true ∧ ∃ i, P.info? t = some i ∧ i.zero = some z := by
  unfold zeroA at h
  cases hi : P.info? t with
  | none => simp [hi] at h
  | some i =>
    cases hz : i.zero with
    | none => simp [hi, hz] at h
    | some z' =>
      simp only [hi, hz] at h
      split at h
      · rename_i hf; cases h; exact ⟨by simp [zeroValue, typeInfo, hi, hz], hf, i, rfl, hz⟩
      · cases h

theorem add_addr (r off n : Nat) : (⟨r, off, none⟩ : Addr).add n = ⟨r, off + n, none⟩ := by
  unfold Addr.add; split
  · rename_i h; subst h; rfl
  · rfl

theorem known1_spec {x : Option Value} {v : Value} (h : known1 x = some v) : x = some v ∧ isJunk v = false := by
  unfold known1 at h
  split at h
  · rw [pick2_eq] at h
    split at h
    · cases h
    · rename_i hj; cases h; exact ⟨rfl, by simpa using hj⟩
  · cases h

/-- One cell. -/
theorem Emb.cell (he : Emb c ρ H w) {i off r x : Nat} {b : Blk} {v : Value} (hi : alive H i = some b) (hr : ρ i = some (r, x)) (hv : b.cells[off]? = some v) (hj : isJunk v = false) :
    ∃ v', w.cell? ⟨r, off, none⟩ = some v' ∧ VRel ρ v v' := by
  obtain ⟨h1, h2⟩ := alive_some hi
  obtain ⟨r', x', C, fr, s, k1, k2, k3, k4, k5, k6, k7⟩ := he.blk i b h1 h2
  rw [hr] at k1; cases k1
  obtain ⟨v', m1, m2⟩ := k7.2 off v hv hj
  exact ⟨v', by simp [World.cell?, k3, m1], m2⟩

theorem Emb.read (he : Emb c ρ H w) {i off n r x : Nat} {l : List Value} (hr : ρ i = some (r, x)) (h : readCells H i off n = some l) :
    ∃ l', LR (VRel ρ) l l' ∧ l.length = n ∧ ∀ (j : Nat) v, l'[j]? = some v → w.cell? ((⟨r, off, none⟩ : Addr).add j) = some v := by
  unfold readCells at h
  split at h
  · rename_i b hb
    split at h
    · rename_i hle
      rw [pick2_eq] at h
      split at h
      · cases h
      rename_i hjk
      cases h
      have get : ∀ (j : Nat) v, ((b.cells.drop off).take n)[j]? = some v → ∃ v', w.cell? ((⟨r, off, none⟩ : Addr).add j) = some v' ∧ VRel ρ v v' := by
        intro j v hv
        have hjv : isJunk v = false := by
          cases hq : isJunk v with
          | false => rfl
          | true => exact absurd (List.any_eq_true.2 ⟨v, List.mem_of_getElem? hv, hq⟩) hjk
        rw [List.getElem?_take] at hv
        split at hv
        · rw [List.getElem?_drop] at hv
          rw [add_addr]
          exact he.cell hb hr hv hjv
        · cases hv
      have hlen : ((b.cells.drop off).take n).length = n := by simp; omega
      generalize (b.cells.drop off).take n = l at get hlen
      refine ⟨(List.range l.length).map fun j => (w.cell? ((⟨r, off, none⟩ : Addr).add j)).getD undef, ⟨by simp, fun j x y hx hy => ?_⟩, hlen, fun j v hv => ?_⟩
      · obtain ⟨v', h1, h2⟩ := get j x hx
        have hj : j < l.length := (List.getElem?_eq_some_iff.1 hx).1
        simp [hj, h1] at hy
        subst hy; exact h2
      · have hj : j < l.length := by
          have := (List.getElem?_eq_some_iff.1 hv).1; simpa using this
        obtain ⟨v', h1, h2⟩ := get j l[j] (by simp [hj])
        simp [hj, h1] at hv
        subst hv; exact h1
    · cases h
  · cases h

theorem LR.eq_length {R : Value → Value → Prop} {l l' : List Value} (h : LR R l l') : l'.length = l.length := h.1.symm

theorem load_ok (he : Emb c ρ H w) {t : TypeId} {x x' v : Value} (hx : VRel ρ x x') (h : loadA c.P H t x = some v) :
    ∃ v', (Instr.loadAt t x').run c.P w = .ok v' w ∧ VRel ρ v v' := by
  unfold loadA at h
  split at h
  · rename_i i off
    cases hx with
    | ptr _ _ r y hr =>
      split at h
      · rename_i n ha hs
        simp only [Option.map_eq_some_iff] at h
        obtain ⟨l, hl, rfl⟩ := h
        obtain ⟨l', h1, h2, h3⟩ := he.read hr hl
        refine ⟨.agg l'.toArray, ?_, ?_⟩
        · have := run_loadCells_list (P := c.P) w ⟨r, off, none⟩ l' h3
          rw [h1.eq_length, h2] at this
          simp [Instr.loadAt, Instr.sureAddr, loadVar, run_isAgg ha, run_size hs, this]
        · exact .agg _ _ h1.array.1 h1.array.2
      · rename_i ha
        split at h
        · rename_i b hb
          obtain ⟨hv, hj⟩ := known1_spec h
          obtain ⟨v', h1, h2⟩ := he.cell hb hr hv hj
          exact ⟨v', by simp [Instr.loadAt, Instr.sureAddr, loadVar, run_isAgg ha, h1], h2⟩
        · cases h
      · cases h
  · cases h

theorem write_ok (he : Emb c ρ H w) {i off r x : Nat} {vs vs' : List Value} {H' : Mem} (hr : ρ i = some (r, x)) (hv : LR (VRel ρ) vs vs') (h : writeCells H i off vs = some H') :
    ∃ w', (storeCells ⟨r, off, none⟩ vs').run c.P w = .ok () w' ∧ Emb c ρ H' w' ∧ w'.heap.size = w.heap.size := by
  unfold writeCells at h
  split at h
  · rename_i hemp
    cases h
    have : vs = [] := by simpa using hemp
    subst this
    rw [hv.unnil]
    exact ⟨w, rfl, he, rfl⟩
  · split at h
    · rename_i b hb
      split at h
      · rename_i hc
        simp only [Bool.and_eq_true, decide_eq_true_eq, List.all_eq_true] at hc
        obtain ⟨hle, hpl⟩ := hc
        obtain ⟨h1, h2⟩ := alive_some hb
        obtain ⟨r', x', C, fr, s, k1, k2, k3, k4, k5, k6, k7⟩ := he.blk i b h1 h2
        rw [hr] at k1; cases k1
        have hone : ∀ v ∈ vs', v.oneCell' = true := by
          intro v hm
          obtain ⟨j, hj⟩ := List.getElem?_of_mem hm
          have hlt : j < vs'.length := (List.getElem?_eq_some_iff.1 hj).1
          have hlt' : j < vs.length := hv.1 ▸ hlt
          exact (hv.2 j vs[j] v (by simp [hlt']) hj).plain (hpl _ (List.getElem_mem hlt'))
        have hL : ¬ i < c.L := by
          have := he.lk
          have := (Mem.set_spec h).2.1
          omega
        have k4 := k4.resolve_left hL
        have hrun := run_stores (c := c) (off := off) vs' 0 C w k3 k4 (by rw [hv.eq_length]; omega) hone
        exact ⟨_, hrun, he.write hb h hr k3 (putCells_length _ _ _) (putArr_size _ _ _) (by simpa using k7.put hv), by simp [withBlk]⟩
      · cases h
    · cases h

theorem store_ok (he : Emb c ρ H w) {t : TypeId} {x x' y y' : Value} {H' : Mem} (hx : VRel ρ x x') (hy : VRel ρ y y') (h : storeA c.P H t x y = some H') :
    ∃ w', (Instr.storeAt t x' y').run c.P w = .ok () w' ∧ Emb c ρ H' w' := by
  unfold storeA at h
  split at h
  · rename_i i off n hs
    cases hx with
    | ptr _ _ r z hr =>
      split at h
      · rename_i hn
        obtain ⟨w', h1, h2, _⟩ := write_ok he hr hy.cells.list h
        refine ⟨w', ?_, h2⟩
        have hsz : y'.cells.size = n := by rw [← hy.cells.1]; exact hn
        simp [Instr.storeAt, Instr.sureAddr, storeVar, run_size hs, hsz, h1]
      · cases h
  · cases h

theorem LR.begins {R : Value → Value → Prop} {l l' : List Value} (h : LR R l l') : Begins R l l'.toArray := ⟨by simp [h.1], fun j v hv _ => by
  obtain ⟨v', h1, h2⟩ := h.get hv
  exact ⟨v', by simpa using h1, h2⟩⟩

theorem LR.begins_append {R : Value → Value → Prop} {l l' : List Value} (h : LR R l l') (pad : Array Value) : Begins R l (l'.toArray ++ pad) := ⟨by simp [h.1], fun j v hv _ => by
  obtain ⟨v', h1, h2⟩ := h.get hv
  have hj : j < l'.length := (List.getElem?_eq_some_iff.1 h1).1
  exact ⟨v', by rw [Array.getElem?_append, if_pos (by simpa using hj)]; simpa using h1, h2⟩⟩

theorem unfrozen_zero (C : Array Value) : unfrozen C (0, 0) := ⟨Nat.le_refl _, fun j _ => by simp⟩

/-- A new row out of cells. -/
theorem new_ok (he : Emb c ρ H w) {t : TypeId} {s : Nat} {cs : List Value} {C : Array Value} {H' : Mem} {fx : Bool} (hp : H.push ⟨cs, t, true, fx⟩ = some H') (hs : sizeA c.P t = some s) (hc : LR (VRel ρ) cs C.toList) :
    ∃ ρ', ρ.le ρ' ∧ ρ' H.size = some (w.heap.size, 0) ∧ Emb c ρ' H' (w.alloc (.cells C t)) := by
  refine ⟨_, he.le_put (Nat.le_refl _) _, Ren.put_same _ _ _, he.new (x := 0) hp hs ?_ ?_ (unfrozen_zero _) fun _ => rfl⟩
  · have := hc.begins; simpa using this
  · have := hc.1; simp at this; omega

theorem newPtr_spec {H H' : Mem} {t : TypeId} {cs : List Value} {v : Value} (h : newPtr H t cs = some (v, H')) : H.push ⟨cs, t, true, true⟩ = some H' ∧ v = .pointer (some ⟨H.size, 0, none⟩) := by
  unfold newPtr at h
  split at h
  · rename_i H1 h1; cases h; exact ⟨h1, rfl⟩
  · cases h

theorem newSlice_spec {H H' : Mem} {t : TypeId} {cs : List Value} {len cap : Nat} {v : Value} (h : newSlice H t cs len cap = some (v, H')) : H.push ⟨cs, t, true, false⟩ = some H' ∧ v = .slice (some ⟨H.size, 0, none⟩) len cap := by
  unfold newSlice at h
  split at h
  · rename_i H1 h1; cases h; exact ⟨h1, rfl⟩
  · cases h

theorem newRoom_spec {H H' : Mem} {t : TypeId} {cs : List Value} {len cap : Nat} {v : Value} (h : newRoom H t cs len cap = some (v, H')) : H.push ⟨cs, t, true, true⟩ = some H' ∧ v = .slice (some ⟨H.size, 0, none⟩) len cap := by
  unfold newRoom at h
  split at h
  · rename_i H1 h1; cases h; exact ⟨h1, rfl⟩
  · cases h

theorem size_of_zero {t : TypeId} {z : Value} (h : zeroA P t = some z) : ∃ s, sizeA P t = some s := by
  obtain ⟨_, _, i, hi, _⟩ := run_zero h (default : World)
  exact ⟨i.size, by simp [sizeA, hi]⟩

theorem alloc_ok (he : Emb c ρ H w) {t : TypeId} {v : Value} {H' : Mem} (h : opAlloc c.P t H = some (v, H')) :
    ∃ ρ' w' v', ρ.le ρ' ∧ Emb c ρ' H' w' ∧ VRel ρ' v v' ∧ (Instr.alloc t true (.tuple #[])).run c.P w = .ok v' w' := by
  unfold opAlloc at h
  split at h
  · rename_i z hz
    obtain ⟨hp, rfl⟩ := newPtr_spec h
    obtain ⟨h1, h2, i, hi, hiz⟩ := run_zero hz w
    obtain ⟨s, hs⟩ := size_of_zero hz
    obtain ⟨ρ', k1, k2, k3⟩ := new_ok he hp hs (refl_of_free (ρ := ρ) z h2).cells.list
    exact ⟨ρ', _, _, k1, k3, .ptr _ _ _ _ k2, by simp [Instr.alloc, h1, newVar, newRow]⟩
  · cases h

theorem box_ok (he : Emb c ρ H w) {t : TypeId} {x x' v : Value} {H' : Mem} (hx : VRel ρ x x') (h : opBox c.P t x H = some (v, H')) :
    ∃ ρ' w' v', ρ.le ρ' ∧ Emb c ρ' H' w' ∧ VRel ρ' v v' ∧ (Instr.box t x').run c.P w = .ok v' w' := by
  unfold opBox at h
  split at h
  · rename_i s hs
    obtain ⟨hp, rfl⟩ := newPtr_spec h
    obtain ⟨ρ', k1, k2, k3⟩ := new_ok he hp hs hx.cells.list
    exact ⟨ρ', _, _, k1, k3, .ptr _ _ _ _ k2, by simp [Instr.box, newVar, newRow]⟩
  · cases h

/-! ### Parts laid into cells -/

def PR (R : Value → Value → Prop) : List (Nat × Value) → List (Nat × Value) → Prop
  | [], [] => True
  | (i, v) :: l, (j, u) :: m => i = j ∧ R v u ∧ PR R l m
  | _, _ => False

theorem AR.setIf {R : Value → Value → Prop} {a a' : Array Value} (h : AR R a a') (i : Nat) {v v' : Value} (hv : R v v') : AR R (a.setIfInBounds i v) (a'.setIfInBounds i v') :=
  ⟨by simpa using h.1, fun j x y hx hy => by
    rw [Array.getElem?_setIfInBounds] at hx hy
    by_cases hij : i = j
    · rw [if_pos hij] at hx hy
      split at hx
      · split at hy
        · cases hx; cases hy; exact hv
        · cases hy
      · cases hx
    · rw [if_neg hij] at hx hy; exact h.2 j x y hx hy⟩

theorem fold_rel {R : Value → Value → Prop} (off : Nat) : ∀ (l l' : List Value) (k : Nat) (a a' : Array Value), LR R l l' → AR R a a' →
    AR R ((l.zipIdx k).foldl (fun cs (c : Value × Nat) => cs.setIfInBounds (off + c.2) c.1) a) ((l'.zipIdx k).foldl (fun cs (c : Value × Nat) => cs.setIfInBounds (off + c.2) c.1) a')
  | [], l', k, a, a', hl, ha => by rw [hl.unnil]; exact ha
  | v :: l, l', k, a, a', hl, ha => by
    obtain ⟨v', t', rfl, h1, h2⟩ := hl.uncons
    simp only [List.zipIdx_cons, List.foldl_cons]
    exact fold_rel off l t' (k + 1) _ _ h2 (ha.setIf _ h1)

theorem fill_rel {place : Nat → Option (Nat × Nat)} : ∀ (parts parts' : List (Nat × Value)) (a a' r : Array Value), PR (VRel ρ) parts parts' → AR (VRel ρ) a a' →
    Instr.fill place a parts = some r → ∃ r', Instr.fill place a' parts' = some r' ∧ AR (VRel ρ) r r'
  | [], [], a, a', r, _, ha, h => by simp only [Instr.fill, Option.some.injEq] at h; subst h; exact ⟨a', rfl, ha⟩
  | [], _ :: _, _, _, _, hp, _, _ => hp.elim
  | _ :: _, [], _, _, _, hp, _, _ => hp.elim
  | (i, v) :: l, (j, u) :: m, a, a', r, hp, ha, h => by
    obtain ⟨rfl, hv, hp'⟩ := hp
    simp only [Instr.fill] at h ⊢
    cases hpl : place i with
    | none => simp [hpl] at h
    | some q =>
      obtain ⟨off, size⟩ := q
      simp only [hpl] at h ⊢
      rw [← hv.cells.1, ← ha.1]
      split at h
      · cases h
      · rename_i hcond
        rw [if_neg hcond]
        refine fill_rel l m _ _ r hp' ?_ h
        have e : ∀ (c z : Array Value), (c.zipIdx.foldl (fun cs (x : Value × Nat) => cs.setIfInBounds (off + x.2) x.1) z) = ((c.toList.zipIdx 0).foldl (fun cs (x : Value × Nat) => cs.setIfInBounds (off + x.2) x.1) z) := by
          intro c z
          rw [← Array.foldl_toList, Array.toList_zipIdx]
        have := fold_rel (R := VRel ρ) off v.cells.toList u.cells.toList 0 a a' hv.cells.list ha
        rw [← e, ← e] at this
        exact this

theorem build_ok {t : TypeId} {parts parts' : List (Nat × Value)} {v : Value} (hp : PR (VRel ρ) parts parts') (h : buildA P t parts = some v) (w : World) :
    ∃ v', (Instr.build t parts'.toArray).run P w = .ok v' w ∧ VRel ρ v v' := by
  unfold buildA at h
  split at h
  · rename_i hbf
    simp only [Option.map_eq_some_iff] at h
    obtain ⟨cells, hc, rfl⟩ := h
    obtain ⟨z, hz⟩ := Option.isSome_iff_exists.1 hbf
    obtain ⟨_, hfree, i, hi, hiz⟩ := run_zero hz w
    have key : ∃ cells', P.built t parts' = some cells' ∧ AR (VRel ρ) cells cells' := by
      unfold Program.built at hc ⊢
      simp only [hi] at hc ⊢
      cases hu : P.underlying t with
      | none => simp [hu] at hc
      | some d =>
        cases d <;> simp only [hu] at hc ⊢ <;> try (cases hc; done)
        · rename_i n e
          cases he : P.info? e with
          | none => simp [he] at hc
          | some ie =>
            simp only [he, hiz] at hc ⊢
            exact fill_rel _ _ _ _ _ hp ((refl_of_free (ρ := ρ) z hfree).cells) hc
        · rename_i fs
          cases hm : fs.toList.mapM (fun f => (P.info? f.type).map fun i => (f.offset, i.size)) with
          | none => simp [hm] at hc
          | some places =>
            simp only [hm, hiz] at hc ⊢
            exact fill_rel _ _ _ _ _ hp ((refl_of_free (ρ := ρ) z hfree).cells) hc
    obtain ⟨cells', h1, h2⟩ := key
    exact ⟨.agg cells', run_build w t _ cells' (by simpa using h1), .agg _ _ h2.1 h2.2⟩
  · cases h

theorem zeros_ok {e : TypeId} {n : Nat} {zs : Array Value} (h : zerosA P e n = some zs) (w : World) :
    ∃ s, sizeA P e = some s ∧ AR (VRel ρ) zs zs ∧ zs.size = n * s ∧
      (do let zero ← (if n * s = 0 then pure #[] else do pure (← zeroValue e).cells : Sem (Array Value)); pure ((Array.range (n * s)).map (zero[· % zero.size]!)) : Sem (Array Value)).run P w = .ok zs w := by
  unfold zerosA at h
  split at h
  · rename_i s z hs hz
    obtain ⟨h1, h2, i, hi, hiz⟩ := run_zero hz w
    refine ⟨s, hs, ?_⟩
    split at h
    · rename_i h0
      cases h
      exact ⟨⟨rfl, fun i x y hx => by simp at hx⟩, by simp [h0], by simp [h0]⟩
    · rename_i h0
      cases h
      refine ⟨⟨rfl, fun i x y hx hy => ?_⟩, by simp, by simp [h0, h1]⟩
      rw [hx] at hy; cases hy
      have hlt : i < n * s := by
        have := (Array.getElem?_eq_some_iff.1 hx).1; simpa using this
      simp [hlt] at hx
      subst hx
      have hz := (refl_of_free (ρ := ρ) z h2).cells
      by_cases hsz : i % z.cells.size < z.cells.size
      · have := hz.2 (i % z.cells.size) z.cells[i % z.cells.size] z.cells[i % z.cells.size] (by simp [hsz]) (by simp [hsz])
        simpa [hsz] using this
      · have : z.cells[i % z.cells.size]! = default := by simp [hsz]
        rw [this]
        exact refl_of_free _ (by rfl)
  · cases h

end
end Go.Ev
