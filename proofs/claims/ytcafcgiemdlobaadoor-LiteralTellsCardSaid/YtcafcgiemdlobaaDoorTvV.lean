/- The layer's operations beside the evaluator's: new rows, structs, conversions. -/
import Derived.Test.YtcafcgiemdlobaaDoorTvU
namespace Go.Tv
open Go.Ev (Tr pick2 Leave Mem Blk alive pick2_eq alive_some semPure pureA opA addrFree withMem orElse)

theorem ofC_VR {S : Wo} : ∀ {v : Value}, addrFree v = true → VR S (ofC v) v := by
  intro v h
  unfold ofC
  split
  · exact .int _ _
  · exact .bool _
  · rename_i s
    have := VR.str (S := S) s.data.toList
    obtain ⟨⟨l⟩⟩ := s
    exact this
  · exact .flt _
  · exact .nilp
  · exact .nils
  · exact .opq _ h

theorem freeL_all : ∀ {l : List Value}, Ev.addrFreeL l = true → ∀ v ∈ l, addrFree v = true
  | [], _, v, hv => by simp at hv
  | x :: l, h, v, hv => by
    simp only [Ev.addrFreeL, Bool.and_eq_true] at h
    rcases List.mem_cons.1 hv with rfl | hv
    · exact h.1
    · exact freeL_all h.2 v hv

theorem cells_free {z : Value} (h : addrFree z = true) : ∀ v ∈ z.cells.toList, addrFree v = true := by
  cases z with
  | agg cs =>
    have h' : Ev.addrFreeL cs.toList = true := by
      obtain ⟨l⟩ := cs; simpa [Ev.addrFree, Ev.addrFreeA] using h
    exact freeL_all h'
  | _ => intro v hv; simp [Value.cells] at hv; subst hv; exact h

theorem zeroA_free {P : Program} {t : TypeId} {z : Value} (h : Ev.zeroA P t = some z) : addrFree z = true ∧ ∃ i, P.info? t = some i ∧ i.zero = some z := by
  unfold Ev.zeroA at h
  split at h
  · rename_i i hi
    split at h
    · rename_i z' hz
      split at h
      · rename_i hf; cases h; exact ⟨hf, i, hi, hz⟩
      · cases h
    · cases h
  · cases h

theorem zeroT_spec {X : Cfg} {S : Wo} {t : TypeId} {z : List AV} (h : zeroT X t = some z) : ∃ zv, Ev.zeroA X.P t = some zv ∧ LV S z zv.cells.toList := by
  unfold zeroT at h
  split at h
  · rename_i zv hz
    cases h
    refine ⟨zv, hz, ?_⟩
    have := LV.map (S := S) (f := ofC) (g := fun v => v) zv.cells.toList fun v hv => ofC_VR (cells_free (zeroA_free hz).1 v hv)
    simpa using this
  · cases h

section
variable {X : Cfg} {cf : Nat × Nat → Ev.CallF} {o : Oper} {ev : Operand → AV} {H : TMem} {β : Type} {r : β}

/-- A row of cells more. -/
theorem cells_row {S : Wo} {E : Mem} (hr : Rel S H E) {t : TypeId} {cs : List AV} {C : List Value} (hl : LV S cs C) :
    ∃ S' E', Ev.newPtr E t C = some (.pointer (some ⟨E.size, 0, none⟩), E') ∧ S.le S' ∧ VR S' (.ptr H.next 0) (.pointer (some ⟨E.size, 0, none⟩)) ∧ Rel S' (H.push (.cells cs)) E' ∧ St S H E S' (H.push (.cells cs)) E' := by
  obtain ⟨E', hE⟩ := Mem.push_total E ⟨C, t, true, true⟩
  obtain ⟨p1, p2, p3⟩ := Ev.Mem.push_spec hE
  have hle := Wo.new_le hr (some (E.size, 0, 0)) none
  obtain ⟨a1, a2, a3⟩ := hr.add (E' := E') (r := .cells cs) (x := some (E.size, 0, 0)) (g := none) (by omega) p2 (fun j hj => by rw [p3, if_neg (by omega)]) (fun r' h => by
    cases h
    exact ⟨E.size, 0, 0, ⟨C, t, true, true⟩, if_pos rfl, alive_eq (by rw [p3, if_pos rfl]) rfl, hl.mono hle⟩) (fun y h => by cases h; exact Nat.le_refl _) rfl
  exact ⟨_, E', by unfold Ev.newPtr; rw [hE], a1, .ptr _ _ E.size 0 0 (if_pos rfl), a2, a3⟩

theorem alloc_sim {t : TypeId} {z : List AV} (hop : o.op = .alloc t) (hz : zeroT X t = some z) : OpSim X cf o ev H (.ptr H.next 0) (H.push (.cells z)) := by
  intro S E evE hr hev
  obtain ⟨zv, h1, h2⟩ := zeroT_spec (S := S) hz
  obtain ⟨S', E', k1, k2, k3, k4, k5⟩ := cells_row (t := t) hr h2
  refine ⟨S', _, E', ⟨0, fun _ _ => ?_⟩, k2, k3, k4, k5⟩
  unfold opA; rw [hop]
  show Ev.opAlloc X.P t E = _
  unfold Ev.opAlloc
  rw [h1]; exact k1

theorem array_sim {t : TypeId} (hop : o.op = .alloc t) {k : AV → TMem → Option β} (h : arrayT X H t k = some r) : ∃ v H', k v H' = some r ∧ OpSim X cf o ev H v H' := by
  unfold arrayT at h
  split at h
  · rename_i z n te hz hu
    split at h
    · rename_i e hty
      split at h
      · rename_i l hun
        rw [pick2_eq] at h
        split at h
        · rename_i hn
          have hn : n ≤ 1000000 := Nat.le_of_ble_eq_true hn
          refine ⟨_, _, h, fun S E evE hr hev => ?_⟩
          obtain ⟨zv, h1, h2⟩ := zeroT_spec (S := S) hz
          obtain ⟨hC, hlen⟩ := unflatN_spec e n hun h2
          have hcl := hC.length (fun x c => CR.length e x c)
          have hgam : ∀ v, S.Γ H.next v = none := fun v => hr.gam _ _ (Nat.le_refl _)
          obtain ⟨E', hE⟩ := Mem.push_total E ⟨zv.cells.toList, t, true, true⟩
          obtain ⟨p1, p2, p3⟩ := Ev.Mem.push_spec hE
          obtain ⟨a1, a2, a3⟩ := hr.add (E' := E') (r := .list t e l 0 true false) (x := some (E.size, n, e.size)) (g := some ⟨e, l⟩) (by omega) p2 (fun j hj => by rw [p3, if_neg (by omega)]) (fun r' h => by
            cases h
            exact new_rowAt (b := ⟨zv.cells.toList, t, true, true⟩) (mid := zv.cells.toList) (post := []) hgam (alive_eq (by rw [p3, if_pos rfl]) rfl) rfl (by simp) hC (by rw [← hlen]; exact hcl) (by omega) hn (fun _ => ⟨rfl, rfl, hlen⟩)) (fun y h => by cases h; exact Nat.le_refl _) rfl
          refine ⟨_, .pointer (some ⟨E.size, 0, none⟩), E', ⟨0, fun _ _ => ?_⟩, a1, .apt _ _ E.size n e.size (if_pos rfl) ⟨e, l⟩ (if_pos ⟨rfl, rfl⟩) hlen, a2, a3⟩
          unfold opA; rw [hop]
          show Ev.opAlloc X.P t E = _
          unfold Ev.opAlloc
          rw [h1]
          show Ev.newPtr E t zv.cells.toList = _
          unfold Ev.newPtr; rw [hE]
        · cases h
      · cases h
    · cases h
  · cases h

theorem box_sim {t : TypeId} {x : Operand} {n : Nat} {cs : List AV} (hop : o.op = .box t x) (hn : Ev.sizeA X.P t = some n) (hc : cellsT (ev x) = some cs) : OpSim X cf o ev H (.ptr H.next 0) (H.push (.cells cs)) := by
  intro S E evE hr hev
  rw [hop] at hev
  have hx := hev x (by simp [Op.operands])
  obtain ⟨S', E', k1, k2, k3, k4, k5⟩ := cells_row (t := t) hr (cells_sim hx hc)
  refine ⟨S', _, E', ⟨0, fun _ _ => ?_⟩, k2, k3, k4, k5⟩
  unfold opA; rw [hop]
  show Ev.opBox X.P t (evE x) E = _
  unfold Ev.opBox
  rw [hn]; exact k1

theorem fold_put : ∀ (xs : List Value) (C : Array Value) (off k : Nat), (xs.zipIdx k).foldl (fun cs (c : Value × Nat) => cs.setIfInBounds (off + c.2) c.1) C = (putL C.toList (off + k) xs).toArray
  | [], C, off, k => by simp [putL]
  | x :: xs, C, off, k => by
    rw [List.zipIdx_cons, List.foldl_cons, fold_put xs _ off (k + 1)]
    simp only [Array.toList_setIfInBounds]
    rfl

theorem fill_sim {S : Wo} {place : Nat → Option (Nat × Nat)} : ∀ {parts : List (Nat × AV)} {partsE : List (Nat × Value)} {cells cs : List AV} {C : Array Value}, LV S cells C.toList → parts.length = partsE.length → (∀ (j : Nat) a b, parts[j]? = some a → partsE[j]? = some b → a.1 = b.1 ∧ VR S a.2 b.2) → fillT place cells parts = some cs →
    ∃ C', Instr.fill place C partsE = some C' ∧ LV S cs C'.toList
  | [], partsE, cells, cs, C, hl, hlen, _, h => by
    have : partsE = [] := List.length_eq_zero_iff.1 hlen.symm
    subst this
    simp only [fillT, Option.some.injEq] at h
    subst h
    exact ⟨C, rfl, hl⟩
  | (i, v) :: parts, [], cells, cs, C, hl, hlen, _, h => by simp at hlen
  | (i, v) :: parts, (i', x) :: partsE, cells, cs, C, hl, hlen, hp, h => by
    obtain ⟨rfl, hv⟩ := hp 0 _ _ rfl rfl
    simp only [fillT] at h
    split at h
    · rename_i off size vs hpl hvs
      rw [pick2_eq] at h
      split at h
      · rename_i hc
        simp only [Bool.and_eq_true, Nat.beq_eq, Nat.ble_eq] at hc
        obtain ⟨h1, h2⟩ := hc
        have hcl := cells_sim hv hvs
        have hsz : x.cells.size = size := by have := hcl.1; simp at this; omega
        have h2' : off + vs.length ≤ cells.length := h2
        unfold Instr.fill
        simp only [hpl]
        have hcond : ¬ ((decide (x.cells.size ≠ size) || decide (off + x.cells.size > C.size)) = true) := by
          have hcs : cells.length = C.size := by have := hl.1; simpa using this
          simp; omega
        rw [if_neg hcond]
        have hfold : (x.cells.zipIdx.foldl (fun cs (c : Value × Nat) => cs.setIfInBounds (off + c.2) c.1) C) = (putL C.toList off x.cells.toList).toArray := by
          rw [← Array.foldl_toList, Array.toList_zipIdx]
          exact fold_put _ _ off 0
        have hl' : LV S (putL cells off vs) ((putL C.toList off x.cells.toList).toArray).toList := by
          rw [← putCells_eq]
          exact LV.putL vs _ off hcl hl
        have := fill_sim (C := (putL C.toList off x.cells.toList).toArray) hl' (by simpa using hlen) (fun j a b ha hb => hp (j + 1) a b (by simpa using ha) (by simpa using hb)) h
        rw [← hfold] at this
        exact this
      · cases h
    · cases h

theorem parts_ops {ps : Array (Nat × Operand)} {S : Wo} {evE : Operand → Value} (hev : ∀ x ∈ (ps.toList.map (·.2)).toArray, VR S (ev x) (evE x)) : (partsT ev ps).length = (Ev.partsA evE ps).length ∧ ∀ (j : Nat) a b, (partsT ev ps)[j]? = some a → (Ev.partsA evE ps)[j]? = some b → a.1 = b.1 ∧ VR S a.2 b.2 := by
  refine ⟨by simp [partsT, Ev.partsA], fun j a b ha hb => ?_⟩
  simp only [partsT, Ev.partsA, List.getElem?_map, Option.map_eq_some_iff] at ha hb
  obtain ⟨q, h1, rfl⟩ := ha
  obtain ⟨q', h2, rfl⟩ := hb
  rw [h1] at h2; cases h2
  refine ⟨rfl, hev q.2 ?_⟩
  have := List.mem_of_getElem? h1
  simp only [List.mem_toArray, List.mem_map]
  exact ⟨q, this, rfl⟩

theorem placesOf_eq {P : Program} : ∀ {fs : List Field} {pl : List (Nat × Nat)}, placesOf P fs = some pl → fs.mapM (fun f => (P.info? f.type).map fun i => (f.offset, i.size)) = some pl
  | [], pl, h => by simp [placesOf] at h; subst h; rfl
  | f :: fs, pl, h => by
    simp only [placesOf] at h
    split at h
    · rename_i i l hi hl
      cases h
      have := placesOf_eq hl
      simp only [List.mapM_cons, hi, Option.map_some, this]
      rfl
    · cases h

theorem build_sim {t : TypeId} {ps : Array (Nat × Operand)} (hop : o.op = .build t ps) {k : AV → Option β} (h : buildT X t (partsT ev ps) k = some r) : ∃ v, k v = some r ∧ OpSim X cf o ev H v H := by
  have fin : ∀ cs, (∀ S evE, (∀ x ∈ (ps.toList.map (·.2)).toArray, VR S (ev x) (evE x)) → ∃ C, X.P.built t (Ev.partsA evE ps) = some C ∧ LV S cs C.toList) → (Ev.zeroA X.P t).isSome = true → OpSim X cf o ev H (.agg cs) H := fun cs hb hz => .quiet fun S E evE hr hev => by
    rw [hop] at hev
    obtain ⟨C, h1, h2⟩ := hb S evE hev
    have hC : C = C.toList.toArray := by simp
    refine ⟨.agg C, fun call => ?_, by rw [hC]; exact .agg _ _ h2.1 h2.2⟩
    unfold opA; rw [hop]
    show withMem E (Ev.buildA X.P t (Ev.partsA evE ps)) = _
    unfold Ev.buildA
    rw [if_pos hz, h1]; rfl
  unfold buildT at h
  split at h
  · rename_i z n e hz hu
    split at h
    · rename_i ie hie
      split at h
      · rename_i cs hf
        obtain ⟨zv, hzv, _⟩ := zeroT_spec (S := ⟨fun _ => none, fun _ => none, fun _ _ => none⟩) hz
        obtain ⟨_, it, hit, hitz⟩ := zeroA_free hzv
        refine ⟨_, h, fin cs (fun S evE hev => ?_) (by rw [hzv]; rfl)⟩
        obtain ⟨zv', hzv', hl⟩ := zeroT_spec (S := S) hz
        rw [hzv] at hzv'; cases hzv'
        obtain ⟨l1, l2⟩ := parts_ops hev
        obtain ⟨C', h1, h2⟩ := fill_sim hl l1 l2 hf
        refine ⟨C', ?_, h2⟩
        unfold Program.built
        rw [hit, hu]
        simp only [hitz, hie]
        exact h1
      · cases h
    · cases h
  · rename_i z fs hz hu
    split at h
    · rename_i pl hpl
      split at h
      · rename_i cs hf
        obtain ⟨zv, hzv, _⟩ := zeroT_spec (S := ⟨fun _ => none, fun _ => none, fun _ _ => none⟩) hz
        obtain ⟨_, it, hit, hitz⟩ := zeroA_free hzv
        refine ⟨_, h, fin cs (fun S evE hev => ?_) (by rw [hzv]; rfl)⟩
        obtain ⟨zv', hzv', hl⟩ := zeroT_spec (S := S) hz
        rw [hzv] at hzv'; cases hzv'
        obtain ⟨l1, l2⟩ := parts_ops hev
        obtain ⟨C', h1, h2⟩ := fill_sim hl l1 l2 hf
        refine ⟨C', ?_, h2⟩
        unfold Program.built
        rw [hit, hu]
        simp only [hitz, placesOf_eq hpl]
        have : (fun x : Nat => pl.toArray[x]?) = fun i : Nat => pl[i]? := by funext i; simp
        rw [this]; exact h1
      · cases h
    · cases h
  · cases h

/-- Cells over and over. -/
theorem zeros_list (z : Array Value) (hz : 0 < z.size) : ∀ n, (List.range (n * z.size)).map (fun i => z[i % z.size]!) = (List.replicate n z.toList).flatten
  | 0 => by simp
  | n + 1 => by
    rw [List.replicate_succ', List.flatten_append, ← zeros_list z hz n, Nat.succ_mul, List.range_add, List.map_append]
    congr 1
    simp only [List.map_map, List.flatten_cons, List.flatten_nil, List.append_nil]
    apply List.ext_getElem
    · simp
    · intro j h1 h2
      simp only [List.length_map, List.length_range] at h1
      simp only [List.getElem_map, List.getElem_range, Function.comp_apply]
      have : (n * z.size + j) % z.size = j := by
        rw [Nat.add_comm, Nat.add_mul_mod_self_right, Nat.mod_eq_of_lt h1]
      rw [this, getElem!_pos z j h1]
      simp

theorem repl_LV {S : Wo} {z : List AV} {C : List Value} (h : LV S z C) : ∀ n, LV S (repl n z) (List.replicate n C).flatten
  | 0 => LV.nil
  | n + 1 => by
    show LV S (z ++ repl n z) _
    rw [List.replicate_succ, List.flatten_cons]
    exact h.append (repl_LV h n)

theorem repl_CRL {S : Wo} {e : Ty} {x : e.den} {C : List Value} (h : CR S.F e x C) : ∀ n, CRL (CR S.F e) (List.replicate n x) (List.replicate n C).flatten
  | 0 => rfl
  | n + 1 => by
    rw [List.replicate_succ, List.replicate_succ, List.flatten_cons]
    exact ⟨C, _, rfl, h, repl_CRL h n⟩

theorem zerosA_of {P : Program} {e : TypeId} {s n : Nat} {z : Value} (hs : Ev.sizeA P e = some s) (hz : Ev.zeroA P e = some z) (hl : z.cells.size = s) : ∃ zs, Ev.zerosA P e n = some zs ∧ zs.toList = (List.replicate n z.cells.toList).flatten := by
  unfold Ev.zerosA
  rw [hs, hz]
  simp only
  by_cases h0 : n * s = 0
  · rw [if_pos h0]
    refine ⟨#[], rfl, ?_⟩
    rcases Nat.mul_eq_zero.1 h0 with rfl | h1
    · simp
    · have : z.cells.toList = [] := List.length_eq_zero_iff.1 (by rw [Array.length_toList, hl, h1])
      rw [this]; simp
  · rw [if_neg h0]
    refine ⟨_, rfl, ?_⟩
    have hpos : 0 < z.cells.size := by
      rcases Nat.eq_zero_or_pos z.cells.size with h | h
      · rw [← hl, h] at h0; simp at h0
      · exact h
    rw [← zeros_list z.cells hpos n, hl]
    simp

theorem make_sim {t : TypeId} {p q : Operand} (hop : o.op = .makeSlice t p q) {k : AV → TMem → Option β} (h : makeSliceT X H t (ev p) (ev q) k = some r) : ∃ v H', k v H' = some r ∧ OpSim X cf o ev H v H' := by
  unfold makeSliceT at h
  split at h
  · rename_i te kl l kc c hu hp hq
    split at h
    · rename_i inf z e hi hz hty
      split at h
      · rename_i x hun
        rw [pick2_eq] at h
        split at h
        · rename_i hcs
          simp only [Bool.and_eq_true, Nat.beq_eq, Nat.ble_eq] at hcs
          obtain ⟨⟨c1, c2⟩, c3⟩ := hcs
          rw [pick2_eq] at h
          split at h
          · rename_i hb
            have hb : 0 ≤ l ∧ l ≤ c ∧ c ≤ 1000000 := bnd2 (n := 1000000) hb
            refine ⟨_, _, h, fun S E evE hr hev => ?_⟩
            rw [hop] at hev
            have hx := hev p (by simp [Op.operands])
            have hy := hev q (by simp [Op.operands])
            rw [hp] at hx; rw [hq] at hy
            obtain ⟨zv, hzv, hzl⟩ := zeroT_spec (S := S) hz
            have hs : Ev.sizeA X.P te = some inf.size := by simp [Ev.sizeA, hi]
            have hzs : zv.cells.size = inf.size := by have := hzl.1; simp at this; omega
            obtain ⟨zs, hz1, hz2⟩ := zerosA_of (n := c.toNat) hs hzv hzs
            obtain ⟨cc, m', hm, hCR, hnil⟩ := unflat_spec e hun hzl
            have := hnil.nil_inv
            subst this
            rw [List.append_nil] at hm
            have hgam : ∀ v, S.Γ H.next v = none := fun v => hr.gam _ _ (Nat.le_refl _)
            obtain ⟨E', hE⟩ := Mem.push_total E ⟨zs.toList, te, true, true⟩
            obtain ⟨p1, p2, p3⟩ := Ev.Mem.push_spec hE
            have hC : CRL (CR S.F e) (List.replicate c.toNat x) zs.toList := by rw [hz2, hm]; exact repl_CRL hCR _
            have hlen := hC.length (fun x c => CR.length e x c)
            rw [List.length_replicate] at hlen
            obtain ⟨a1, a2, a3⟩ := hr.add (E' := E') (r := .list te e (List.replicate c.toNat x) 0 true false) (x := some (E.size, c.toNat, e.size)) (g := some ⟨e, List.replicate c.toNat x⟩) (by omega) p2 (fun j hj => by rw [p3, if_neg (by omega)]) (fun r' h => by
              cases h
              exact new_rowAt (b := ⟨zs.toList, te, true, true⟩) (mid := zs.toList) (post := []) hgam (alive_eq (by rw [p3, if_pos rfl]) rfl) rfl (by simp) hC hlen (by simp) (by omega) (fun _ => ⟨rfl, rfl, by simp⟩)) (fun y h => by cases h; exact Nat.le_refl _) rfl
            have hv := VR.osl (S := S.new H.next (some (E.size, c.toNat, e.size)) (some ⟨e, List.replicate c.toNat x⟩)) H.next 0 l.toNat c.toNat E.size c.toNat e.size (if_pos rfl) ⟨e, List.replicate c.toNat x⟩ (if_pos ⟨rfl, rfl⟩) (by simp) (by omega)
            rw [Nat.zero_mul] at hv
            refine ⟨_, .slice (some ⟨E.size, 0, none⟩) l.toNat c.toNat, E', ⟨0, fun _ _ => ?_⟩, a1, hv, a2, a3⟩
            unfold opA; rw [hop]
            show Ev.makeSliceA X.P E t (evE p) (evE q) = _
            rw [hx.int_inv, hy.int_inv]
            simp only [Ev.makeSliceA, hu, hi, hz1]
            rw [if_pos ⟨hb.1, hb.2.1, hb.2.2, c1⟩]
            unfold Ev.newRoom; rw [hE]
          · cases h
        · cases h
      · cases h
    · cases h
  · cases h

/-- Lists that cells hold are made to stay. -/
theorem freeze_sim {S0 : Wo} {H0 : TMem} {E : Mem} : ∀ {cs cs' : List AV} {H H' : TMem} {S : Wo} {C : List Value}, Rel S H E → S0.le S → St S0 H0 E S H E → LV S cs C → freezeT H cs = some (cs', H') → ∃ S', S0.le S' ∧ Rel S' H' E ∧ St S0 H0 E S' H' E ∧ LV S' cs' C ∧ S.le S'
  | [], cs', H, H', S, C, hr, h0, hst, hl, h => by
    simp only [freezeT, Option.some.injEq, Prod.mk.injEq] at h
    obtain ⟨rfl, rfl⟩ := h
    exact ⟨S, h0, hr, hst, hl, S.le_refl⟩
  | v :: cs, cs', H, H', S, C, hr, h0, hst, hl, h => by
    obtain ⟨x, C', rfl, h1, h2⟩ := hl.cons_inv
    have plain : (∀ id n, v ≠ .own id n) → ∃ S', S0.le S' ∧ Rel S' H' E ∧ St S0 H0 E S' H' E ∧ LV S' cs' (x :: C') ∧ S.le S' := by
      intro hne
      unfold freezeT at h
      split at h
      · rename_i hh; cases hh
      · rename_i hh; cases hh; exact absurd rfl (hne _ _)
      · rename_i v' r' _ hh
        cases hh
        split at h
        · rename_i r'' H'' hf
          cases h
          obtain ⟨S', k1, k2, k3, k4, k5⟩ := freeze_sim hr h0 hst h2 hf
          exact ⟨S', k1, k2, k3, LV.cons (h1.mono k5) k4, k5⟩
        · cases h
    cases v with
    | own id n =>
      simp only [freezeT] at h
      split at h
      · rename_i t e l ver ex ro hg
        rw [pick2_eq] at h
        split at h
        · split at h
          · rename_i r'' H'' hf
            cases h
            obtain ⟨S1, k1, k2, k3, k4⟩ := freeze_row hr hg
            obtain ⟨rfl, hv⟩ := k4 n x h1
            have hvr : VR S1 (.lst e l) x := by
              refine .lst e l x ?_
              rcases hv with ⟨rfl, rfl⟩ | ⟨i, mid, post, cap, rfl, hF, hC, hcap⟩
              · exact .inl ⟨rfl, rfl⟩
              · exact .inr ⟨i, [], mid, post, cap, rfl, by simpa using hF, hC, hcap⟩
            obtain ⟨S', q1, q2, q3, q4, q5⟩ := freeze_sim k2 (Wo.le_trans h0 k1) (hst.trans k3) (h2.mono k1) hf
            exact ⟨S', q1, q2, q3, LV.cons (hvr.mono q5) q4, Wo.le_trans k1 q5⟩
          · cases h
        · cases h
      · cases h
    | _ => exact plain (fun _ _ => by simp)

theorem buildSlice_sim {t : TypeId} {len : Nat} {ps : Array (Nat × Operand)} (hop : o.op = .buildSlice t len ps) {k : AV → TMem → Option β} (h : buildSliceT X H t len (partsT ev ps) k = some r) : ∃ v H', k v H' = some r ∧ OpSim X cf o ev H v H' := by
  unfold buildSliceT at h
  split at h
  · rename_i te hu
    split at h
    · rename_i s z e hs hz hty
      rw [pick2_eq] at h
      split at h
      · rename_i hcs
        simp only [Bool.and_eq_true, Nat.beq_eq, Nat.ble_eq] at hcs
        obtain ⟨⟨⟨c1, c0⟩, c2⟩, c3⟩ := hcs
        split at h
        · rename_i cs hf
          split at h
          · rename_i cs' H1 hfz
            split at h
            · rename_i l hun
              refine ⟨_, _, h, fun S E evE hr hev => ?_⟩
              rw [hop] at hev
              obtain ⟨l1, l2⟩ := parts_ops hev
              obtain ⟨zv, hzv, hzl⟩ := zeroT_spec (S := S) hz
              have hzs : zv.cells.size = s := by have := hzl.1; simp at this; omega
              obtain ⟨zs, hz1, hz2⟩ := zerosA_of (n := len) hs hzv hzs
              obtain ⟨C', f1, f2⟩ := fill_sim (C := zs) (by rw [hz2]; exact repl_LV hzl len) l1 l2 hf
              obtain ⟨S1, k1, k2, k3, k4, _⟩ := freeze_sim hr S.le_refl (St.refl _ _ _) f2 hfz
              obtain ⟨hC, hlen⟩ := unflatN_spec e len hun k4
              have hcl := hC.length (fun x c => CR.length e x c)
              have hgam : ∀ v, S1.Γ H1.next v = none := fun v => k2.gam _ _ (Nat.le_refl _)
              obtain ⟨E', hE⟩ := Mem.push_total E ⟨C'.toList, te, true, false⟩
              obtain ⟨p1, p2, p3⟩ := Ev.Mem.push_spec hE
              obtain ⟨a1, a2, a3⟩ := k2.add (E' := E') (r := .list te e l 0 false false) (x := some (E.size, len, e.size)) (g := some ⟨e, l⟩) (by omega) p2 (fun j hj => by rw [p3, if_neg (by omega)]) (fun r' h => by
                cases h
                exact new_rowAt (b := ⟨C'.toList, te, true, false⟩) (mid := C'.toList) (post := []) hgam (alive_eq (by rw [p3, if_pos rfl]) rfl) rfl (by simp) hC (by rw [← hlen]; exact hcl) (by omega) c0 (fun h => by cases h)) (fun y h => by cases h; exact Nat.le_refl _) rfl
              refine ⟨_, .slice (some ⟨E.size, 0, none⟩) len len, E', ⟨0, fun _ _ => ?_⟩, Wo.le_trans k1 a1, .own _ _ E.size len e.size (if_pos rfl) ⟨e, l⟩ (if_pos ⟨rfl, rfl⟩) hlen, a2, k3.trans a3⟩
              unfold opA; rw [hop]
              show Ev.buildSliceA X.P E t len (Ev.partsA evE ps) = _
              have hc1 : ¬ (len * s > 2 ^ 24) := by
                have : len * s ≤ 16777216 := c1
                omega
              simp only [Ev.buildSliceA, hu, hs, hz1, if_neg hc1, f1]
              unfold Ev.newSlice; rw [hE]
            · cases h
          · cases h
        · cases h
      · cases h
    · cases h
  · cases h

theorem convert_free {evE : Operand → Value} {s d : TypeId} {x : Operand} (hop : o.op = .convert s d x) {v : Value} (hx : addrFree (evE x) = true) (hv : addrFree v = true) (h : semPure X.P (convert s d (evE x)) = some v) (call : Ev.CallF) (E : Mem) : opA X.P call evE o E = some (v, E) := by
  have hp : pureA X.P evE o = some v := pure_val (fun a b => by rw [hop]; simp) (by rw [hop]; simp [Ev.operandsFree, Op.operands, hx]) (by
    unfold execOp; rw [hop]
    show semPure X.P (convert s d (evE x) >>= fun x => pure (Next.value x)) = _
    rw [semPure_bind, h]; rfl) hv
  unfold opA; rw [hop]
  show Ev.opConvert X.P evE o s d (evE x) E = _
  unfold Ev.opConvert
  cases hq : X.P.underlying s with
  | none =>
    show (match orElse none (pureA X.P evE o) with | some v => some (v, E) | none => Ev.convertA X.P E s d (evE x)) = _
    rw [hp]; rfl
  | some q =>
    show (match orElse (Ev.widenA X.P d (evE x)) (pureA X.P evE o) with | some v => some (v, E) | none => Ev.convertA X.P E s d (evE x)) = _
    cases hw : Ev.widenA X.P d (evE x) with
    | none => rw [hp]; rfl
    | some u =>
      have h1 := Ev.widen_run (P := X.P) (ρ := fun _ => none) (Ev.refl_of_free _ hx) hw s ⟨q, hq⟩ default
      have h2 := Ev.semPure_run (P := X.P) _ h default
      first
        | (rw [h1.1] at h2; cases h2; rfl)
        | (rw [h1] at h2; cases h2; rfl)

/-- Where it is not only reckoned. -/
theorem convert_mem {evE : Operand → Value} {s d : TypeId} {x : Operand} (hop : o.op = .convert s d x) {q : TypeDesc} (hq : X.P.underlying s = some q) (hw : Ev.widenA X.P d (evE x) = none) (hp : pureA X.P evE o = none) (call : Ev.CallF) (E : Mem) : opA X.P call evE o E = Ev.convertA X.P E s d (evE x) := by
  unfold opA; rw [hop]
  show Ev.opConvert X.P evE o s d (evE x) E = _
  unfold Ev.opConvert
  show (match orElse (match X.P.underlying s with | some _ => Ev.widenA X.P d (evE x) | none => none) (pureA X.P evE o) with | some v => some (v, E) | none => Ev.convertA X.P E s d (evE x)) = _
  rw [hq, hp]
  show (match orElse (Ev.widenA X.P d (evE x)) none with | some v => some (v, E) | none => Ev.convertA X.P E s d (evE x)) = _
  rw [hw]; rfl

theorem pure_none {P : Program} {o : Oper} {ev : Operand → Value} (h : semPure P (execOp ev o) = none ∨ Ev.operandsFree ev o.op = false) : pureA P ev o = none := by
  unfold pureA
  split
  · rfl
  · rcases h with h | h
    · rw [h]; split <;> rfl
    · rw [h]; rfl

theorem bytesA_of : ∀ (l : List Int) (acc : ByteArray), Ev.bytesA (l.map fun n => Value.int .u8 n) acc = some ⟨acc.data ++ (l.map iU8).toArray⟩
  | [], acc => by simp [Ev.bytesA]
  | n :: l, acc => by
    simp only [List.map_cons, Ev.bytesA, Ev.byteOfV]
    rw [bytesA_of l]
    congr 2
    apply Array.toList_inj.1
    simp [ByteArray.push, iU8]

theorem ints_of {F : Nat → Option (List Value)} {k : IntKind} : ∀ {l : List Int} {c : List Value}, CRL (CR F (.int k)) l c → c = l.map fun n => Value.int k n
  | [], _, h => h
  | n :: l, _, ⟨c1, c2, e, h1, h2⟩ => by rw [e, show c1 = [Value.int k n] from h1, ints_of h2]; rfl

theorem conv_sim {s d : TypeId} {x : Operand} (hop : o.op = .convert s d x) {k : AV → TMem → Option β} (h : convertT X H s d (ev x) k = some r) : ∃ v H', k v H' = some r ∧ OpSim X cf o ev H v H' := by
  unfold convertT at h
  split at h
  · rename_i k0 k1 k2 n hu1 hu2 hp
    refine ⟨_, _, h, .quiet fun S E evE hr hev => ?_⟩
    rw [hop] at hev
    have hx := hev x (by simp [Op.operands])
    rw [hp] at hx
    have ex := hx.int_inv
    refine ⟨.int k1 (k1.wrap n), fun call => convert_free hop (by rw [ex]; rfl) rfl ?_ call E, .int _ _⟩
    rw [ex]
    unfold convert
    rw [semPure_bind, semPure_underlying hu1]
    simp only [Option.bind_some]
    rw [semPure_bind, semPure_underlying hu2]
    rfl
  · rename_i s0 hu1 hu2 hp
    refine ⟨_, _, h, .quiet fun S E evE hr hev => ?_⟩
    rw [hop] at hev
    have hx := hev x (by simp [Op.operands])
    rw [hp] at hx
    have ex := hx.str_inv
    refine ⟨.string ⟨s0.toArray⟩, fun call => convert_free hop (by rw [ex]; rfl) rfl ?_ call E, .str _⟩
    rw [ex]
    unfold convert
    rw [semPure_bind, semPure_underlying hu1]
    simp only [Option.bind_some]
    rw [semPure_bind, semPure_underlying hu2]
    rfl
  · rename_i te s0 hu1 hu2 hp
    split at h
    · rename_i hue hse
      rw [pick2_eq] at h
      split at h
      case isFalse => cases h
      rename_i hcap
      have hcap := Nat.le_of_ble_eq_true hcap
      refine ⟨_, _, h, fun S E evE hr hev => ?_⟩
      rw [hop] at hev
      have hx := hev x (by simp [Op.operands])
      rw [hp] at hx
      have ex := hx.str_inv
      have hgam : ∀ v, S.Γ H.next v = none := fun v => hr.gam _ _ (Nat.le_refl _)
      have hC : ∀ s : List UInt8, CRL (CR S.F (.int .u8)) (s.map u8I) (s.map fun b => Value.int .u8 b.toNat) := fun s => by
        induction s with
        | nil => rfl
        | cons b s ih => exact ⟨[_], _, rfl, rfl, ih⟩
      obtain ⟨E', hE⟩ := Mem.push_total E ⟨s0.map fun b => .int .u8 b.toNat, te, true, false⟩
      obtain ⟨p1, p2, p3⟩ := Ev.Mem.push_spec hE
      · obtain ⟨a1, a2, a3⟩ := hr.add (E' := E') (r := .list te (.int .u8) (s0.map u8I) 0 false false) (x := some (E.size, s0.length, 1)) (g := some ⟨.int .u8, s0.map u8I⟩) (by omega) p2 (fun j hj => by rw [p3, if_neg (by omega)]) (fun r' h => by
          cases h
          exact new_rowAt (b := ⟨s0.map fun b => .int .u8 b.toNat, te, true, false⟩) (mid := s0.map fun b => .int .u8 b.toNat) (post := []) hgam (alive_eq (by rw [p3, if_pos rfl]) rfl) rfl (by simp) (hC s0) (by simp [Ty.size]) (by simp) hcap (fun h => by cases h)) (fun y h => by cases h; exact Nat.le_refl _) rfl
        refine ⟨_, .slice (some ⟨E.size, 0, none⟩) s0.length s0.length, E', ⟨0, fun _ _ => ?_⟩, a1, .own _ _ E.size s0.length 1 (if_pos rfl) ⟨.int .u8, s0.map u8I⟩ (if_pos ⟨rfl, rfl⟩) (by simp), a2, a3⟩
        rw [convert_mem hop hu1 (by rw [ex]; simp only [Ev.widenA, hu2]) (pure_none (.inl ?_)), ex]
        · simp only [Ev.convertA, hu1, hu2, hue, hse]
          unfold Ev.newSlice
          have : (⟨s0.toArray⟩ : ByteArray).size = s0.length := by simp [ByteArray.size]
          rw [this, hE]
        · unfold execOp; rw [hop]
          show semPure X.P (convert s d (evE x) >>= fun x => pure (Next.value x)) = _
          rw [semPure_bind, ex]
          unfold convert
          rw [semPure_bind, semPure_underlying hu1]
          simp only [Option.bind_some]
          rw [semPure_bind, semPure_underlying hu2]
          simp only [Option.bind_some]
          rw [semPure_bind, semPure_underlying hue]
          rfl
    · cases h
  · cases h
  · rename_i _ te hu1 hu2 hne
    split at h
    · rename_i hue
      split at h
      · rename_i l hv
        refine ⟨_, _, h, .quiet fun S E evE hr hev => ?_⟩
        rw [hop] at hev
        have hx := hev x (by simp [Op.operands])
        have e8 : Ev.widenA X.P d (evE x) = none := by simp only [Ev.widenA, hu2]
        obtain ⟨l1, l2⟩ := view_sim hr hv hx
        obtain ⟨c, c1, c2⟩ := l2 l.length (Nat.le_refl _)
        rw [List.take_length] at c2
        have hc := ints_of c2
        refine ⟨.string ⟨(l.map iU8).toArray⟩, fun call => ?_, .str _⟩
        generalize hA : evE x = A at *
        unfold Ev.lenA at l1
        split at l1
        · rename_i a n cap
          cases l1
          cases a with
          | none =>
            have h0 : l = [] := by
              simp only [Ev.firstA] at c1
              split at c1
              · rename_i h0; exact List.length_eq_zero_iff.1 h0
              · cases c1
            subst h0
            refine convert_free hop (by rw [hA]; rfl) rfl ?_ call E
            rw [hA]
            unfold convert
            rw [semPure_bind, semPure_underlying hu1]
            simp only [Option.bind_some]
            rw [semPure_bind, semPure_underlying hu2]
            simp only [Option.bind_some]
            rw [semPure_bind, semPure_underlying hue]
            rfl
          | some ad =>
            obtain ⟨i, off, sp⟩ := ad
            cases sp with
            | some q => simp [Ev.firstA] at c1
            | none =>
              rw [convert_mem (evE := evE) hop hu1 (by rw [hA]; exact e8) (pure_none (.inr (by rw [hop]; simp [Ev.operandsFree, Op.operands, hA, addrFree]))), hA]
              have c1' : Ev.readCells E i off l.length = some c := by simpa [Ev.firstA, Ty.size] using c1
              simp only [Ev.convertA, hu1, hu2, hue, c1']
              rw [hc, bytesA_of]
              simp
        · rename_i s0
          generalize ev x = a at hx hv hne
          cases hx with
          | str s1 => exact absurd rfl (hne s1)
          | lst e l v hs => rcases hs with ⟨_, hs⟩ | ⟨_, _, _, _, _, hs, _⟩ <;> cases hs
          | opq v hf => cases hv
          | unk v => cases hv
        · cases l1
      · cases h
    · cases h
  · cases h

end
end Go.Tv
