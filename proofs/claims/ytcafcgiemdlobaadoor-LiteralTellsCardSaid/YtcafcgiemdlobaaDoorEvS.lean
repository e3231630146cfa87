/- The evaluator's operations, fourth part: all of them. -/
import Derived.Test.YtcafcgiemdlobaaDoorEvQ
namespace Go.Ev
open Go.RowKit

section
variable {c : Cx} {P : Program} {w : World} {ρ : Ren} {H : Mem}

theorem copy_ok (he : Emb c ρ H w) {dt ty : TypeId} {d d' x x' v : Value} {H' : Mem} {at_ : Array TypeId} {as : Array Value}
    (hat0 : at_[0]? = some dt) (has0 : as[0]? = some d') (has1 : as[1]? = some x')
    (hd : VRel ρ d d') (hx : VRel ρ x x') (h : copyA c.P H dt d x = some (v, H')) :
    ∃ w' v', Emb c ρ H' w' ∧ VRel ρ v v' ∧ (Builtin.copy_ at_ ty as).run c.P w = .ok v' w' := by
  unfold copyA at h
  split at h
  · rename_i e base dLen _ n hu hn
    have hlen := len_ok (P := c.P) hx hn w
    split at h
    · rename_i s hs
      split at h
      · rename_i cs hf
        obtain ⟨cs', hr', hl'⟩ := first_ok he hx hf
        split at h
        · simp only [Option.map_eq_some_iff] at h
          obtain ⟨H1, hw1, heq⟩ := h
          cases heq
          cases hd with
          | slice i off _ _ r y hr =>
            obtain ⟨w', hst, hemb, _⟩ := write_ok he hr hl' hw1
            refine ⟨w', _, hemb, .int _ _, ?_⟩
            simp [Builtin.copy_, hat0, has0, has1, run_underlying hu, hlen, run_size hs, hr', hst, goInt]
        · cases h
          cases hd
          refine ⟨w, _, he, .int _ _, ?_⟩
          simp [Builtin.copy_, hat0, has0, has1, run_underlying hu, hlen, run_size hs, hr', goInt]
        · cases h
      · cases h
    · cases h
  · cases h

theorem bytes_ok : ∀ (l : List Value) (acc s : ByteArray), bytesA l acc = some s → ∃ ns : List Int, l = ns.map (Value.int .u8) ∧ s = ns.foldl (fun r n => r.push (UInt8.ofNat n.toNat)) acc
  | [], acc, s, h => by simp only [bytesA, Option.some.injEq] at h; exact ⟨[], rfl, h.symm⟩
  | v :: l, acc, s, h => by
    simp only [bytesA] at h
    split at h
    · rename_i b hb
      obtain ⟨ns, h1, h2⟩ := bytes_ok l _ s h
      unfold byteOfV at hb
      split at hb
      · rename_i n
        cases hb
        exact ⟨n :: ns, by rw [h1]; rfl, by rw [h2]; rfl⟩
      · cases hb
    · cases h

theorem LR.ints {ns : List Int} {k : IntKind} {l' : List Value} (h : LR (VRel ρ) (ns.map (Value.int k)) l') : l' = ns.map (Value.int k) := by
  apply List.ext_getElem?
  intro i
  by_cases hi : i < l'.length
  · have hi' : i < (ns.map (Value.int k)).length := by rw [h.1]; exact hi
    have hr := h.2 i _ _ (List.getElem?_eq_getElem hi') (List.getElem?_eq_getElem hi)
    rw [List.getElem?_eq_getElem hi', List.getElem?_eq_getElem hi]
    simp only [List.getElem_map] at hr ⊢
    generalize l'[i] = q at hr ⊢
    cases hr with
    | int => rfl
  · rw [List.getElem?_eq_none (Nat.le_of_not_lt hi), List.getElem?_eq_none (by rw [h.1]; exact Nat.le_of_not_lt hi)]

theorem freeze_other (w : World) (a : Addr) (n k : Nat) (h : k ≠ a.block) : (w.freeze a n).heap[k]? = w.heap[k]? := by
  unfold World.freeze
  split
  · rfl
  · simp only [Array.getElem?_modify]
    rw [if_neg (fun e => h e.symm)]

theorem freeze_size (w : World) (a : Addr) (n : Nat) : (w.freeze a n).heap.size = w.heap.size := by
  unfold World.freeze
  split
  · rfl
  · simp

theorem freeze_same {w : World} {r n : Nat} {C : Array Value} {t : TypeId} {lo hi : Nat} (h : w.heap[r]? = some (.cells C t (lo, hi))) :
    (w.freeze ⟨r, n, none⟩ 1).heap[r]? = some (.cells C t (if lo == hi then (n, n + 1) else (min lo n, max hi (n + 1)))) := by
  unfold World.freeze
  rw [if_neg (by decide)]
  simp only [Array.getElem?_modify, if_true, h, Option.map_some]

/-- A row is marked behind its end. -/
theorem Emb.mark {c : Cx} {ρ : Ren} {H : Mem} {w : World} (he : Emb c ρ H w) {i r x : Nat} {b : Blk} (hi : alive H i = some b) (hlk : c.L ≤ i) (hr : ρ i = some (r, x)) {C : Array Value} {t : TypeId} {fr : Nat × Nat} (hC : w.heap[r]? = some (.cells C t fr)) : Emb c ρ H (w.freeze ⟨r, C.size, none⟩ 1) := by
  obtain ⟨hg, hl⟩ := alive_some hi
  have hB : c.B ≤ r := by
    obtain ⟨r', x', C, fr, s, h1, h2, _⟩ := he.blk i b hg hl
    rw [hr] at h1; cases h1
    rcases h2 with h2 | h2
    · omega
    · exact h2
  refine ⟨Lib.below_freeze he.below (p := ⟨r, C.size, none⟩) hB 1, by rw [freeze_size]; exact he.base, he.dom, he.lk, he.lsz, he.glob, fun j b' hj hl' => ?_, he.inj⟩
  obtain ⟨r', x', C', fr', s, h1, h2, h3, h4, h5⟩ := he.blk j b' hj hl'
  by_cases hrr : r' = r
  · subst hrr
    have hji := he.inj j i b' b r' x' x hj hl' hg hl h1 hr
    subst hji
    rw [hC] at h3
    cases h3
    obtain ⟨lo, hi'⟩ := fr
    refine ⟨r', x', C, _, s, h1, h2, freeze_same hC, .inr ?_, h5⟩
    rcases h4 with h4 | ⟨u1, u2⟩
    · omega
    · simp only at u1 u2
      by_cases e : lo = hi'
      · subst e
        simp only [beq_self_eq_true, if_true]
        exact ⟨by simp, fun j hj => by simp; omega⟩
      · have hlo : C.size ≤ lo := by
          rcases Nat.lt_or_ge lo C.size with hlt | hge
          · exact absurd ⟨Nat.le_refl _, by omega⟩ (u2 lo hlt)
          · exact hge
        rw [if_neg (by simpa using e)]
        exact ⟨by simp; omega, fun j hj => by simp; omega⟩
  · exact ⟨r', x', C', fr', s, h1, h2, by rw [freeze_other _ _ _ _ hrr]; exact h3, h4, h5⟩

theorem convert_ok (he : Emb c ρ H w) {src dst : TypeId} {x x' v : Value} {H' : Mem} (hx : VRel ρ x x') (h : convertA c.P H src dst x = some (v, H')) :
    ∃ ρ' w' v', ρ.le ρ' ∧ Emb c ρ' H' w' ∧ VRel ρ' v v' ∧ (convert src dst x').run c.P w = .ok v' w' := by
  unfold convertA at h
  split at h
  · rename_i e a len cap hs hd
    split at h
    · rename_i b off hue
      split at h
      · rename_i cs hr
        simp only [Option.map_eq_some_iff] at h
        obtain ⟨s, hb, heq⟩ := h
        cases heq
        cases hx with
        | slice _ _ _ _ r y hry =>
          obtain ⟨l', h1, h2, h3⟩ := he.read hry hr
          obtain ⟨ns, rfl, hsn⟩ := bytes_ok _ _ _ hb
          rw [h1.ints] at h3
          have hrun := run_loadCells_list (P := c.P) w _ _ h3
          rw [h2] at hrun
          refine ⟨ρ, w, _, Ren.le_refl _, he, .string _, ?_⟩
          rw [run_convert_bytes_string w src dst e _ len (cap + y) hs hue hd, run_bytesToString w _ len (cap + y) ns hrun, hsn]
      · cases h
    · rename_i hue
      cases h
      cases hx
      refine ⟨ρ, w, _, Ren.le_refl _, he, .string _, ?_⟩
      rw [run_convert_bytes_string w src dst e _ len _ hs hue hd]
      simp [Conv.bytesToString]
    · cases h
  · rename_i e s hs hd
    split at h
    · rename_i hue hsz
      obtain ⟨hp', rfl⟩ := newSlice_spec h
      cases hx
      have hrun := run_bytes_of_string (P := c.P) w src dst e s hs hd hue
      have hg := grown_le w s.size 0 e
      refine ⟨_, _, _, he.le_put (Nat.le_refl _) (w.heap.size, grownCap w s.size 0 e - s.size), ?_, ?_, hrun⟩
      · refine he.drew.new hp' hsz ?_ ?_ ?_ (fun h => by cases h)
        · have hl : LR (VRel ρ) (s.data.toList.map fun b => Value.int .u8 b.toNat) (s.data.toList.map fun b => Value.int .u8 b.toNat) := ⟨rfl, fun i x y hx hy => by
            rw [hx] at hy; cases hy
            obtain ⟨b, _, rfl⟩ := List.mem_map.1 (List.mem_of_getElem? hx)
            exact .int _ _⟩
          have := hl.begins_append (Array.replicate (grownCap w s.size 0 e - s.size) (.int .u8 0))
          have e1 : bytesRow s (grownCap w s.size 0 e) = (s.data.toList.map fun b => Value.int .u8 b.toNat).toArray ++ Array.replicate (grownCap w s.size 0 e - s.size) (.int .u8 0) := by
            unfold bytesRow; congr 1; apply Array.ext'; simp
          rw [e1]; exact this
        · simp [bytesRow]
        · exact ⟨by simp, fun j hj => by simp; omega⟩
      · have := VRel.slice (ρ := ρ.put H.size (w.heap.size, grownCap w s.size 0 e - s.size)) H.size 0 s.size s.size w.heap.size _ (Ren.put_same _ _ _)
        rw [Nat.add_sub_cancel' hg] at this
        exact this
    · cases h
  · rename_i e1 e i off l cp hs hd
    split at h
    · rename_i b hb hue
      rw [pick2_eq] at h
      split at h
      · rename_i hc
        cases h
        simp only [Bool.and_eq_true, ble_dec, decide_eq_true_eq, Nat.beq_eq] at hc
        obtain ⟨hlk, rfl⟩ := hc
        have hd' := hd
        rw [hs] at hd'; cases hd'
        cases hx with
        | slice _ _ _ _ r y hr =>
          obtain ⟨hg, hl⟩ := alive_some hb
          obtain ⟨r', y', C, fr, s, k1, k2, k3, k4, k5, k6, k7⟩ := he.blk i b hg hl
          rw [hr] at k1; cases k1
          refine ⟨ρ, _, _, Ren.le_refl _, he.mark hb (Nat.le_trans he.lk hlk) hr k3, .slice i off l cp r y hr, ?_⟩
          simp [convert, run_underlying hs, run_underlying hue, run_underlying hd, markStringish, World.shape?, k3]
      · cases h
    · cases h
  · rename_i t i hs hd
    split at h
    · rename_i b n hb hn
      rw [pick2_eq] at h
      split at h
      · rename_i hc
        cases h
        cases hx with
        | ptr _ _ r y hr =>
          obtain ⟨hg, hl⟩ := alive_some hb
          obtain ⟨r', y', C, fr, s, k1, k2, k3, k4, k5, k6, k7⟩ := he.blk i b hg hl
          rw [hr] at k1; cases k1
          simp only [Bool.and_eq_true, ble_dec, decide_eq_true_eq] at hc
          obtain ⟨inf, hi, hsz⟩ := Option.map_eq_some_iff.1 hn
          refine ⟨ρ, w, _, Ren.le_refl _, he, .ptr i 0 r y hr, ?_⟩
          exact Lib.run_to_unsafe w ⟨r, 0, none⟩ hs hd hi (by omega) (e := b.elem) (cells := C.size) (by simp [World.shape?, k3]) (by show 0 < C.size; omega)
      · cases h
    · cases h
  · rename_i u i hs hd
    split at h
    · rename_i b n hb hn
      rw [pick2_eq] at h
      split at h
      · rename_i hc
        cases h
        cases hx with
        | ptr _ _ r y hr =>
          obtain ⟨hg, hl⟩ := alive_some hb
          obtain ⟨r', y', C, fr, s, k1, k2, k3, k4, k5, k6, k7⟩ := he.blk i b hg hl
          rw [hr] at k1; cases k1
          simp only [Bool.and_eq_true] at hc
          obtain ⟨inf, hi, hsz⟩ := Option.map_eq_some_iff.1 hn
          have hy := k5.2 hc.1
          subst hy
          have hC : C.size = b.cells.length := by simpa using k6
          refine ⟨ρ, w, _, Ren.le_refl _, he, .ptr i 0 r 0 hr, ?_⟩
          exact Lib.run_from_unsafe w ⟨r, 0, none⟩ hs hd hi (e := b.elem) (cells := C.size) (by simp [World.shape?, k3]) (by rw [hC]; exact hc.2)
      · cases h
    · cases h
  · cases h

theorem idxN_spec {i : Int} {len m : Nat} (h : idxN i len = some m) : i = (m : Int) ∧ m < len := by
  unfold idxN at h
  split at h
  · rename_i k
    rw [pick2_eq, ble_succ] at h
    split at h
    · rename_i hk; cases h; exact ⟨rfl, by simpa using hk⟩
    · cases h
  · cases h

theorem idx_ok {t : TypeId} {x x' i i' v : Value} (hx : VRel ρ x x') (hi : VRel ρ i i') (h : idxA P t x i = some v) (w : World) :
    ∃ v', (Instr.indexAt t x' i').run P w = .ok v' w ∧ VRel ρ v v' := by
  unfold idxA at h
  split at h
  · rename_i e b off len cap k n hu
    cases hi
    cases hx with
    | slice _ _ _ _ r y hr =>
      split at h
      · rename_i s m hs hm
        cases h
        obtain ⟨rfl, hlt⟩ := idxN_spec hm
        refine ⟨.pointer (some ⟨r, off + m * s, none⟩), ?_, .ptr _ _ _ _ hr⟩
        have h2 : (m : Int) < (len : Int) := by omega
        simp [Instr.indexAt, asIntOf, run_underlying hu, hlt, run_size hs, add_addr]
      · cases h
  · rename_i len e b off k n hu
    cases hi
    cases hx with
    | ptr _ _ r y hr =>
      split at h
      · rename_i s m hs hm
        cases h
        obtain ⟨rfl, hlt⟩ := idxN_spec hm
        refine ⟨.pointer (some ⟨r, off + m * s, none⟩), ?_, .ptr _ _ _ _ hr⟩
        simp [Instr.indexAt, asIntOf, run_underlying hu, Instr.sureAddr, hlt, run_size hs, add_addr]
      · cases h
  · cases h

theorem fieldAddr_ok {s : TypeId} {f : Nat} {x x' v : Value} (hx : VRel ρ x x') (h : fieldA P s x f = some v) (w : World) :
    ∃ v', (Instr.fieldAt s x' f).run P w = .ok v' w ∧ VRel ρ v v' := by
  unfold fieldA at h
  split at h
  · rename_i fs b off hu
    cases hx with
    | ptr _ _ r y hr =>
      split at h
      · rename_i fd hfd
        split at h
        · rename_i n hn
          split at h
          · cases h
          · rename_i hn0
            cases h
            exact ⟨_, by simp [Instr.fieldAt, run_underlying hu, hfd, Instr.sureAddr, fieldPlace, run_size hn, hn0, add_addr], .ptr _ _ _ _ hr⟩
        · cases h
      · cases h
  · cases h

inductive OR (R : Value → Value → Prop) : Option Value → Option Value → Prop where
  | none : OR R .none .none
  | some {v v' : Value} (h : R v v') : OR R (.some v) (.some v')

theorem bound_ok {x x' : Value} {y n : Nat} {c : BoundsCode} (hx : VRel ρ x x') (h : boundA x y = some n) (w : World) : (Instr.sliceBound x' y c).run P w = .ok n w ∧ n ≤ y := by
  unfold boundA at h
  split at h
  · split at h
    · rename_i hb
      cases h
      cases hx
      exact ⟨by simp [Instr.sliceBound, asIntOf, hb.1, hb.2], by omega⟩
    · cases h
  · cases h

theorem arrSlice_ok {c : Cx} {H : Mem} {w : World} (he : Emb c ρ H w) {t : TypeId} {x x' v : Value} {lo lo' hi hi' : Option Value} (hx : VRel ρ x x') (hlo : OR (VRel ρ) lo lo') (hhi : OR (VRel ρ) hi hi') (h : arrSlice c.P H t x lo hi = some v) :
    ∃ v', (Instr.sliceAt t x' lo' hi' none).run c.P w = .ok v' w ∧ VRel ρ v v' := by
  unfold arrSlice at h
  split at h
  · rename_i n e b off hu
    split at h
    · rename_i hN hh
      split at h
      · rename_i lN hl
        have hhr : (match hi' with | some v => Instr.sliceBound v n .sliceAlen | none => pure n : Sem Nat).run c.P w = .ok hN w := by
          cases hhi with
          | none => simp at hh; subst hh; rfl
          | some hv => exact (bound_ok hv hh w).1
        have hlr : (match lo' with | some v => Instr.sliceBound v hN .sliceB | none => pure 0 : Sem Nat).run c.P w = .ok lN w ∧ lN ≤ hN := by
          cases hlo with
          | none => simp at hl; subst hl; exact ⟨rfl, Nat.zero_le _⟩
          | some hv => exact bound_ok hv hl w
        have h1 : (Instr.sliceBounds false n n lo' hi' none).run c.P w = .ok (lN, hN, n) w := by
          cases hhi with
          | none =>
            simp only [Sem.run_pure, Result.ok.injEq] at hhr
            cases hlo with
            | none =>
              have := hlr.1
              simp only [Sem.run_pure, Result.ok.injEq] at this
              simp [Instr.sliceBounds, hhr.1, this.1]
            | some hv => simp [Instr.sliceBounds, hhr.1]; have := hlr.1; simp [this]
          | some hv' =>
            cases hlo with
            | none =>
              have := hlr.1
              simp only [Sem.run_pure, Result.ok.injEq] at this
              simp [Instr.sliceBounds, hhr, this.1]
            | some hv => simp [Instr.sliceBounds, hhr]; have := hlr.1; simp [this]
        split at h
        · rename_i k s hk hs
          rw [pick2_eq] at h
          split at h
          · rename_i hfx
            cases h
            cases hx with
            | ptr _ _ r y hr =>
              obtain ⟨ha, hb⟩ := alive_some hk
              obtain ⟨r', y', C, fr, s', k1, _, _, _, k5, _⟩ := he.blk b k ha hb
              rw [hr] at k1; cases k1
              obtain rfl := k5.2 hfx
              refine ⟨.slice (some ⟨r, if n = lN then off else off + lN * s, none⟩) (hN - lN) (n - lN + 0), ?_, ?_⟩
              · by_cases hm : n = lN
                · subst hm
                  simp [Instr.sliceAt, Instr.sureAddr, run_underlying hu, h1, run_size hs]
                · simp [Instr.sliceAt, Instr.sureAddr, run_underlying hu, h1, run_size hs, hm, add_addr]
              · have e2 : pick2 (Nat.beq n lN) off (Nat.add off (Nat.mul lN s)) = if n = lN then off else off + lN * s := by
                  rw [pick2_eq]
                  by_cases hm : n = lN
                  · rw [if_pos (by rw [Nat.beq_eq]; exact hm), if_pos hm]
                  · rw [if_neg (by rw [Nat.beq_eq]; exact hm), if_neg hm]; rfl
                rw [e2]
                exact .slice _ _ _ _ _ _ hr
          · cases h
        · cases h
      · cases h
    · cases h
  · cases h

theorem slice_ok {t : TypeId} {x x' v : Value} {lo lo' hi hi' : Option Value} (hx : VRel ρ x x') (hlo : OR (VRel ρ) lo lo') (hhi : OR (VRel ρ) hi hi') (h : sliceA P t x lo hi = some v) (w : World) :
    ∃ v', (Instr.sliceAt t x' lo' hi' none).run P w = .ok v' w ∧ VRel ρ v v' := by
  unfold sliceA at h
  split at h
  · rename_i e a len cap hu
    split at h
    · rename_i hN hh
      split at h
      · rename_i lN hl
        have hbounds : ∀ capR, cap ≤ capR → (Instr.sliceBounds true len capR lo' hi' none).run P w = .ok (lN, hN, capR) w ∧ lN ≤ hN := by
          intro capR hc
          have hhr : (match hi' with | some v => Instr.sliceBound v capR .sliceAcap | none => pure len : Sem Nat).run P w = .ok hN w := by
            cases hhi with
            | none => simp at hh; subst hh; rfl
            | some hv =>
              rename_i u u'
              simp only at hh ⊢
              have hh2 : boundA u capR = some hN := by
                unfold boundA at hh ⊢
                split at hh
                · split at hh
                  · rename_i hb; cases hh; rw [if_pos ⟨hb.1, by omega⟩]
                  · cases hh
                · cases hh
              exact (bound_ok hv hh2 w).1
          have hlr : (match lo' with | some v => Instr.sliceBound v hN .sliceB | none => pure 0 : Sem Nat).run P w = .ok lN w ∧ lN ≤ hN := by
            cases hlo with
            | none => simp at hl; subst hl; exact ⟨rfl, Nat.zero_le _⟩
            | some hv => exact bound_ok hv hl w
          refine ⟨?_, hlr.2⟩
          cases hhi with
          | none =>
            simp only [Sem.run_pure, Result.ok.injEq] at hhr
            cases hlo with
            | none =>
              have := hlr.1
              simp only [Sem.run_pure, Result.ok.injEq] at this
              simp [Instr.sliceBounds, hhr.1, this.1]
            | some hv => simp [Instr.sliceBounds, hhr.1]; have := hlr.1; simp [this]
          | some hv' =>
            cases hlo with
            | none =>
              have := hlr.1
              simp only [Sem.run_pure, Result.ok.injEq] at this
              simp [Instr.sliceBounds, hhr, this.1]
            | some hv => simp [Instr.sliceBounds, hhr]; have := hlr.1; simp [this]
        split at h
        · rename_i b off s hs
          split at h
          · cases h
          · rename_i hc
            cases h
            simp only [not_or] at hc
            cases hx with
            | slice _ _ _ _ r y hr =>
              obtain ⟨h1, h2⟩ := hbounds (cap + y) (by omega)
              refine ⟨.slice (some ⟨r, off + lN * s, none⟩) (hN - lN) (cap - lN + y), ?_, .slice _ _ _ _ _ _ hr⟩
              have e1 : cap + y - lN = cap - lN + y := by omega
              by_cases hm : cap + y = lN
              · have : lN = 0 := by omega
                subst this
                obtain rfl : cap = 0 := by omega
                obtain rfl : y = 0 := by omega
                simp at h1
                simp [Instr.sliceAt, Instr.slice, run_underlying hu, h1, run_size hs]
              · simp [Instr.sliceAt, Instr.slice, run_underlying hu, h1, run_size hs, hm, add_addr, e1]
        · rename_i s hs
          cases h
          cases hx
          obtain ⟨h1, h2⟩ := hbounds cap (Nat.le_refl _)
          exact ⟨_, by simp [Instr.sliceAt, Instr.slice, run_underlying hu, h1, run_size hs], .sliceNil _ _⟩
        · cases h
      · cases h
    · cases h
  · cases h

theorem part_ok {t : TypeId} {cs cs' : Array Value} {off : Nat} {v : Value} (hc : AR (VRel ρ) cs cs') (h : partA P t cs off = some v) (w : World) :
    ∃ v', (part t cs' off).run P w = .ok v' w ∧ VRel ρ v v' := by
  unfold partA at h
  split at h
  · rename_i n ha hs
    cases h
    refine ⟨.agg (cs'.extract off (off + n)), by simp [part, run_isAgg ha, run_size hs], .agg _ _ (by simp [hc.1]) fun i x y hx hy => ?_⟩
    rw [Array.getElem?_extract] at hx hy
    split at hx
    · split at hy
      · exact hc.2 _ x y hx hy
      · cases hy
    · cases hx
  · rename_i ha
    have hlt : off < cs.size := (Array.getElem?_eq_some_iff.1 h).1
    have hlt' : off < cs'.size := hc.1 ▸ hlt
    exact ⟨cs'[off], by simp [part, run_isAgg ha, hlt'], hc.2 off v _ h (by simp [hlt'])⟩
  · cases h

theorem fieldV_ok {t : TypeId} {x x' v : Value} {f : Nat} (hx : VRel ρ x x') (h : fieldVA P t x f = some v) (w : World) : ∃ v', (Instr.field t x' f).run P w = .ok v' w ∧ VRel ρ v v' := by
  unfold fieldVA at h
  split at h
  · rename_i fs cs hu
    split at h
    · rename_i fd hfd
      cases hx with
      | agg _ cs' sa ha =>
        obtain ⟨v', h1, h2⟩ := part_ok ⟨sa, ha⟩ h w
        exact ⟨v', by simp [Instr.field, run_underlying hu, hfd, asAgg, h1], h2⟩
    · cases h
  · cases h

theorem indexV_ok {t : TypeId} {x x' i i' v : Value} (hx : VRel ρ x x') (hi : VRel ρ i i') (h : indexVA P t x i = some v) (w : World) : ∃ v', (Instr.index t x' i').run P w = .ok v' w ∧ VRel ρ v v' := by
  unfold indexVA at h
  split at h
  · rename_i len e cs k n hu
    split at h
    · rename_i s m hs hm
      obtain ⟨rfl, hlt⟩ := idxN_spec hm
      cases hi
      cases hx with
      | agg _ cs' sa ha =>
        obtain ⟨v', h1, h2⟩ := part_ok ⟨sa, ha⟩ h w
        have h1' : (part e cs' (m * s)).run P w = .ok v' w := h1
        exact ⟨v', by simp [Instr.index, asIntOf, run_underlying hu, hlt, run_size hs, h1'], h2⟩
    · cases h
  · cases h

theorem indexStr_ok {t : TypeId} {x x' i i' v : Value} (hx : VRel ρ x x') (hi : VRel ρ i i') (h : indexStr P t x i = some v) (w : World) : ∃ v', (Instr.index t x' i').run P w = .ok v' w ∧ VRel ρ v v' := by
  unfold indexStr at h
  split at h
  · rename_i s k m hu
    split at h
    · rename_i b hb
      cases h
      cases hx
      cases hi
      refine ⟨.int .u8 b.toNat, ?_, .int _ _⟩
      have hlt : m < s.size := by
        have := (List.getElem?_eq_some_iff.1 hb).1; simpa using this
      have hb' : s[m]? = some b := by
        have h2 := (List.getElem?_eq_some_iff.1 hb).2
        simp only [Array.getElem_toList] at h2
        rw [getElem?_pos s m hlt]
        exact congrArg some h2
      have h0 : (0 : Int) ≤ Int.ofNat m := Int.natCast_nonneg m
      simp [Instr.index, asIntOf, run_underlying hu, hb']
    · cases h
  · cases h

theorem semPure_run {α : Type} : ∀ (s : Sem α) {v : α}, semPure P s = some v → ∀ w, s.run P w = .ok v w
  | .pure a, v, h, w => by simp only [semPure, Option.some.injEq] at h; subst h; rfl
  | .program k, v, h, w => by simp only [semPure] at h; exact semPure_run (k P) h w
  | .mark _ k, v, h, w => by simp only [semPure] at h; exact semPure_run k h w
  | .load .., _, h, _ => by simp [semPure] at h
  | .store .., _, h, _ => by simp [semPure] at h
  | .new .., _, h, _ => by simp [semPure] at h
  | .shape .., _, h, _ => by simp [semPure] at h
  | .freeze .., _, h, _ => by simp [semPure] at h
  | .frozen .., _, h, _ => by simp [semPure] at h
  | .getObj .., _, h, _ => by simp [semPure] at h
  | .setObj .., _, h, _ => by simp [semPure] at h
  | .choose .., _, h, _ => by simp [semPure] at h
  | .sys .., _, h, _ => by simp [semPure] at h
  | .halt .., _, h, _ => by simp [semPure] at h

theorem pure_ok {o : Oper} {ev ev' : Operand → Value} {v : Value} (hev : ∀ x ∈ o.op.operands, VRel ρ (ev x) (ev' x)) (h : pureA P ev o = some v) (w : World) :
    (execOp ev' o).run P w = .ok (.value v) w ∧ VRel ρ v v := by
  unfold pureA at h
  split at h
  · cases h
  · rename_i hsel
    split at h
    · rename_i hfree
      split at h
      · rename_i u hu
        split at h
        · rename_i hf
          cases h
          refine ⟨?_, refl_of_free _ hf⟩
          have hc : execOp ev' o = execOp ev o := execOp_congr o (fun cs b hb => hsel cs b hb) fun x hx => by
            refine eq_of_free (hev x hx) ?_
            have := List.all_eq_true.1 hfree x (by simpa using hx)
            exact this
          rw [hc]
          exact semPure_run _ hu w
        · cases h
      · cases h
    · cases h

end
end Go.Ev
