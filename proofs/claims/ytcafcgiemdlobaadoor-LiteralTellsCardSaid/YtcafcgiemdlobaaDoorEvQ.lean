/- The evaluator's operations, third part: append, copy, conversions, places; then all of them. -/
import Derived.Test.YtcafcgiemdlobaaDoorEvP
namespace Go.Ev
open Go.RowKit

theorem putArr_lt : ∀ (vs : List Value) (C : Array Value) (k j : Nat), j < k → (putArr C k vs)[j]? = C[j]?
  | [], _, _, _, _ => rfl
  | v :: vs, C, k, j, h => by
    simp only [putArr]
    rw [putArr_lt vs _ (k + 1) j (by omega), Array.getElem?_setIfInBounds, if_neg (by omega)]

theorem putArr_in : ∀ (vs : List Value) (C : Array Value) (k i : Nat) (v : Value), vs[i]? = some v → k + vs.length ≤ C.size → (putArr C k vs)[k + i]? = some v
  | [], _, _, _, _, h, _ => by simp at h
  | u :: vs, C, k, 0, v, h, hl => by
    simp at h; subst h
    simp only [List.length_cons] at hl
    simp only [putArr, Nat.add_zero]
    rw [putArr_lt _ _ _ _ (by omega), Array.getElem?_setIfInBounds]
    simp; omega
  | u :: vs, C, k, i + 1, v, h, hl => by
    simp only [List.length_cons] at hl
    simp only [putArr]
    have := putArr_in vs (C.setIfInBounds k u) (k + 1) i v (by simpa using h) (by simp; omega)
    rw [show k + (i + 1) = k + 1 + i by omega]; exact this

section
variable {c : Cx} {P : Program} {w : World} {ρ : Ren} {H : Mem}

set_option maxHeartbeats 1000000 in
theorem append_ok (he : Emb c ρ H w) {st xt ty : TypeId} {s s' x x' v : Value} {H' : Mem} {at_ : Array TypeId} {as : Array Value}
    (hat0 : at_[0]? = some st) (hat1 : at_[1]? = some xt) (has0 : as[0]? = some s') (has1 : as[1]? = some x')
    (hs : VRel ρ s s') (hx : VRel ρ x x') (h : appendA c.P H st xt s x = some (v, H')) :
    ∃ ρ' w' v', ρ.le ρ' ∧ Emb c ρ' H' w' ∧ VRel ρ' v v' ∧ (Builtin.append_ at_ ty as).run c.P w = .ok v' w' := by
  unfold appendA at h
  split at h
  · rename_i e base sLen sCap hu hxt
    split at h
    · rename_i inf z n hi hz hn
      obtain ⟨hzr, hzfree, i', hi', hiz⟩ := run_zero hz w
      rw [hi] at hi'; cases hi'
      split at h
      · rename_i new old hnew hold
        split at h
        · cases h
        · rename_i hbig
          simp only [not_or] at hbig
          obtain ⟨hb1, hb2, hb3, hb4, hb5, hzs, hpl⟩ := hbig
          have hzs : z.cells.size = inf.size := by omega
          have hsz : sizeA c.P e = some inf.size := by simp [sizeA, hi]
          obtain ⟨new', hrn, hln⟩ := first_ok he hx hnew
          have hlen := len_ok (P := c.P) hx hn w
          have grow : ∀ (cap : Nat), s' = .slice (match s' with | .slice q _ _ => q | _ => none) sLen cap → ¬ sLen + n ≤ cap → cap ≤ 2000000 + sCap → 
              ∀ {H0 H2 : Mem} {v : Value}, Emb c ρ H0 w → newSlice H0 e (old ++ new) (sLen + n) (sLen + n) = some (v, H2) → ∃ ρ' w' v', ρ.le ρ' ∧ Emb c ρ' H2 w' ∧ VRel ρ' v v' ∧ (Builtin.append_ at_ ty as).run c.P w = .ok v' w' := by
            intro cap hs' hroom hcap H0 H2 v he0 hns
            obtain ⟨hp', rfl⟩ := newSlice_spec hns
            obtain ⟨new1, hrn1, hln1⟩ := first_ok he.drew hx hnew
            obtain ⟨old1, hro1, hlo1⟩ := first_ok he.drew hs hold
            rw [hs'] at has0 hro1
            have hfit : Builtin.nextslicecap (sLen + n) cap * inf.bytes ≤ 281474976710656 := by
              have h1 := nextslicecap_le (need := sLen + n) (old := cap) (by omega)
              have h2 : Builtin.nextslicecap (sLen + n) cap * inf.bytes ≤ (2 * 1000000) * 100000 := Nat.mul_le_mul (by omega) (by omega)
              omega
            have hrun := app_grow (ty := ty) hat0 hat1 has0 has1 hu hxt hi hiz hlen hroom hb2 hfit (by omega) hro1 hrn1
            have hg := grown_le w (sLen + n) cap e
            have hl1 : (old ++ new).length = (sLen + n) * inf.size := by
              have e1 : old.length = sLen * inf.size := first_len hold
              have e2 : new.length = n * inf.size := first_len hnew
              rw [List.length_append, e1, e2, Nat.add_mul]
            have hC : (old1.toArray ++ (new1.toArray ++ Builtin.zeroCells z.cells (grownCap w (sLen + n) cap e - (sLen + n)))).size = (old ++ new).length + (grownCap w (sLen + n) cap e - (sLen + n)) * inf.size := by
              simp only [Array.size_append, List.size_toArray, zeroCells_size, hzs, List.length_append, hlo1.eq_length, hln1.eq_length]; omega
            refine ⟨_, _, _, he0.le_put (Nat.le_refl _) (w.heap.size, grownCap w (sLen + n) cap e - (sLen + n)), ?_, ?_, hrun⟩
            · refine he0.drew.new hp' hsz ?_ hC (unfrozen_zero _) (fun h => by cases h)
              have := (hlo1.append hln1).begins_append (Builtin.zeroCells z.cells (grownCap w (sLen + n) cap e - (sLen + n)))
              simpa [← Array.append_assoc] using this
            · have := VRel.slice (ρ := ρ.put H0.size (w.heap.size, grownCap w (sLen + n) cap e - (sLen + n))) H0.size 0 (sLen + n) (sLen + n) w.heap.size _ (Ren.put_same _ _ _)
              rw [Nat.add_sub_cancel' hg] at this
              exact this
          split at h
          · -- there is room that is known
            rename_i hroom
            split at h
            · rename_i b off
              simp only [Option.map_eq_some_iff] at h
              obtain ⟨H1, hw1, heq⟩ := h
              cases heq
              cases hs with
              | slice _ _ _ _ r y hr =>
                obtain ⟨w', hst, hemb, _⟩ := write_ok he hr hln hw1
                exact ⟨ρ, w', _, Ren.le_refl _, hemb, .slice _ _ _ _ _ _ hr, app_room hat0 hat1 has0 has1 hu hxt hi hlen (by omega) hrn hst⟩
            · split at h
              · rename_i hn0
                cases h
                subst hn0
                cases hs with
                | slice i off _ _ r y hr => rename_i hne; exact absurd rfl (hne i off)
                | sliceNil => exact ⟨ρ, w, _, Ren.le_refl _, he, .sliceNil _ _, app_nil hat0 hat1 has0 has1 hu hxt hi hlen hroom hrn⟩
              · cases h
          · rename_i hroom
            split at h
            · rename_i b off
              split at h
              · rename_i hcond
                obtain ⟨hoff, holen, hany⟩ := hcond
                split at h
                case h_2 => cases h
                rename_i H1 hkill
                obtain ⟨kl1, kl2, kl3, kl4, kl5⟩ := kill_spec hkill
                obtain ⟨hp', rfl⟩ := newSlice_spec h
                subst hoff
                obtain ⟨bk, hbk, hlenk⟩ := (Option.any_eq_true _ _).1 hany
                simp only [Bool.and_eq_true, decide_eq_true_eq, beq_iff_eq] at hlenk
                obtain ⟨hlenk, hel⟩ := hlenk
                cases hs with
                | slice _ _ _ _ r y hr =>
                  by_cases hfit : sLen + n ≤ sCap + y
                  · -- the machine finds room
                    obtain ⟨hb1', hb2'⟩ := alive_some hbk
                    obtain ⟨r', y', C, fr, s', k1, k2, k3, k4, k5, k6, k7⟩ := he.blk b bk hb1' hb2'
                    rw [hr] at k1; cases k1
                    rw [hel] at k5 k3
                    have k4 := k4.resolve_left (by have := he.lk; omega)
                    have k5 : sizeA c.P e = some s' := by
                      rcases k5.1 with k5 | k5
                      · have := he.lk; omega
                      · exact k5
                    rw [hsz] at k5; cases k5
                    have e1 : old.length = sLen * inf.size := holen
                    have e2 : new.length = n * inf.size := first_len hnew
                    have hroomC : sLen * inf.size + new'.length ≤ C.size := by
                      rw [hln.eq_length, e2, k6, hlenk, ← Nat.add_mul, ← Nat.add_mul]; exact Nat.mul_le_mul_right _ hfit
                    have hone : ∀ v ∈ new', v.oneCell' = true := by
                      intro v hm
                      obtain ⟨j, hj⟩ := List.getElem?_of_mem hm
                      have hlt' : j < new.length := by rw [← hln.eq_length]; exact (List.getElem?_eq_some_iff.1 hj).1
                      have hall : new.all plainCell = true := by simpa using hpl
                      exact (hln.2 j new[j] v (by simp [hlt']) hj).plain (List.all_eq_true.1 hall _ (List.getElem_mem hlt'))
                    have hst := run_stores (c := c) (off := 0 + sLen * inf.size) new' 0 C w k3 k4 (by omega) hone
                    have hrun := app_room (ty := ty) hat0 hat1 has0 has1 hu hxt hi hlen hfit hrn hst
                    refine ⟨ρ.put H1.size (r, sCap + y - (sLen + n)), _, _, (he.kill hkill).le_put (Nat.le_refl _) _, ?_, ?_, hrun⟩
                    · have hrs : r < w.heap.size := (Array.getElem?_eq_some_iff.1 k3).1
                      have hBr : c.B ≤ r := by
                        rcases k2 with k2 | k2
                        · have := he.lk; omega
                        · exact k2
                      refine (he.kill hkill).add hp' (s := inf.size) (C := putArr C (0 + sLen * inf.size + 0) new') (fr := fr) ?_ ?_ ?_ ?_ (withBlk_same _ _ _ hrs) hBr ?_ hsz ?_ ?_ (fun h => by cases h)
                      · exact he.below.trans ⟨rfl, rfl, rfl, by simp [withBlk], fun k hk => withBlk_heap _ _ _ _ (by omega)⟩
                      · simpa [withBlk] using he.base
                      · intro i bi hi' hli
                        obtain ⟨g1, g2⟩ := kl3 i bi hi' hli
                        obtain ⟨q, y2, E, er, s2, m1, m2, m3, m4⟩ := he.blk i bi g1 hli
                        have hne : q ≠ r := by
                          intro e0; subst e0
                          exact g2 (he.inj i b bi bk q y2 y g1 hli hb1' hb2' m1 hr)
                        exact ⟨q, y2, E, er, s2, m1, m2, by rw [withBlk_heap _ _ _ _ hne]; exact m3, m4⟩
                      · intro i bi q y2 hi' hli hq e0
                        subst e0
                        obtain ⟨g1, g2⟩ := kl3 i bi hi' hli
                        exact g2 (he.inj i b bi bk q y2 y g1 hli hb1' hb2' hq hr)
                      · exact ⟨k4.1, fun j hj => k4.2 j (by rw [putArr_size] at hj; exact hj)⟩
                      · rw [putArr_size, k6, hlenk, List.length_append, e1, e2, ← Nat.add_mul, ← Nat.add_mul, ← Nat.add_mul]
                        congr 1; omega
                      · refine ⟨by rw [putArr_size, k6, hlenk, List.length_append, e1, e2, ← Nat.add_mul, ← Nat.add_mul]; exact Nat.mul_le_mul_right _ (by omega), fun j u hu hju => ?_⟩
                        rw [List.getElem?_append] at hu
                        split at hu
                        · rename_i hj
                          have hold' : bk.cells[j]? = some u := by
                            simp only [firstA, readCells, hbk] at hold
                            split at hold
                            · rw [pick2_eq] at hold
                              split at hold
                              · cases hold
                              cases hold
                              rw [List.getElem?_take] at hu
                              split at hu
                              · simpa using hu
                              · cases hu
                            · cases hold
                          obtain ⟨u', p1, p2⟩ := k7.2 j u hold' hju
                          exact ⟨u', by rw [putArr_lt _ _ _ _ (by omega)]; exact p1, p2⟩
                        · rename_i hj
                          obtain ⟨u', p1, p2⟩ := hln.get hu
                          refine ⟨u', ?_, p2⟩
                          have := putArr_in new' C (0 + sLen * inf.size + 0) (j - old.length) u' p1 (by omega)
                          rw [show 0 + sLen * inf.size + 0 + (j - old.length) = j by omega] at this
                          exact this
                    · have := VRel.slice (ρ := ρ.put H1.size (r, sCap + y - (sLen + n))) H1.size 0 (sLen + n) (sLen + n) r _ (Ren.put_same _ _ _)
                      rw [Nat.add_sub_cancel' hfit] at this
                      exact this
                  · exact grow (sCap + y) rfl hfit (by omega) (he.kill hkill) h
              · cases h
            · cases hs
              exact grow sCap rfl hroom (by omega) he h
            · cases h
      · cases h
    · cases h
  · cases h

end
end Go.Ev
