/- The evaluator's operations, second part: slices, appends, copies, conversions. -/
import Derived.Test.YtcafcgiemdlobaaDoorEvO
import Derived.IntWalk
namespace Go.Ev
open Go.RowKit

section
variable {c : Cx} {P : Program} {w : World} {ρ : Ren} {H : Mem}

theorem zeros_cases {e : TypeId} {n s : Nat} {zs : Array Value} (hs : sizeA P e = some s) (h : zerosA P e n = some zs) :
    (n * s = 0 ∧ zs = #[]) ∨ (n * s ≠ 0 ∧ ∃ z, zeroA P e = some z ∧ zs = (Array.range (n * s)).map (z.cells[· % z.cells.size]!)) := by
  unfold zerosA at h
  split at h
  · rename_i s' z hs' hz
    rw [hs] at hs'; cases hs'
    split at h
    · rename_i h0; cases h; exact .inl ⟨h0, rfl⟩
    · rename_i h0; cases h; exact .inr ⟨h0, z, hz, rfl⟩
  · cases h

theorem buildSlice_ok (he : Emb c ρ H w) {t : TypeId} {len : Nat} {parts parts' : List (Nat × Value)} {v : Value} {H' : Mem} (hp : PR (VRel ρ) parts parts') (h : buildSliceA c.P H t len parts = some (v, H')) :
    ∃ ρ' w' v', ρ.le ρ' ∧ Emb c ρ' H' w' ∧ VRel ρ' v v' ∧ (Instr.buildSlice t len parts'.toArray).run c.P w = .ok v' w' := by
  unfold buildSliceA at h
  split at h
  · rename_i e hu
    split at h
    · rename_i s z hs hz
      split at h
      · cases h
      · rename_i hsz
        split at h
        · rename_i cs hf
          obtain ⟨hp', rfl⟩ := newSlice_spec h
          obtain ⟨s', hs', hzz, hzn, hrun⟩ := zeros_ok (ρ := ρ) hz w
          rw [hs] at hs'; cases hs'
          obtain ⟨cs', hf', hcs⟩ := fill_rel _ _ _ _ _ hp hzz hf
          obtain ⟨ρ', k1, k2, k3⟩ := new_ok he hp' hs hcs.list
          refine ⟨ρ', _, _, k1, k3, .slice _ _ _ _ _ _ k2, ?_⟩
          have hf2 : Instr.fill (fun i => some (i * s, s)) z parts' = some cs' := hf'
          rcases zeros_cases hs hz with ⟨h0, rfl⟩ | ⟨h0, y, hy, rfl⟩
          · have hr0 : Array.range 0 = #[] := rfl
            simp [Instr.buildSlice, run_underlying hu, run_size hs, h0, hr0, hf2, newRow]
          · obtain ⟨hy1, _⟩ := run_zero hy w
            have hsz' : ¬ (16777216 < len * s) := by simpa using hsz
            simp [Instr.buildSlice, run_underlying hu, run_size hs, h0, hsz', hy1, hf2, newRow]
        · cases h
    · cases h
  · cases h

theorem makeSlice_ok (he : Emb c ρ H w) {t : TypeId} {l l' cp cp' v : Value} {H' : Mem} (hl : VRel ρ l l') (hc : VRel ρ cp cp') (h : makeSliceA c.P H t l cp = some (v, H')) :
    ∃ ρ' w' v', ρ.le ρ' ∧ Emb c ρ' H' w' ∧ VRel ρ' v v' ∧ (Instr.makeSlice t l' cp').run c.P w = .ok v' w' := by
  unfold makeSliceA at h
  split at h
  · rename_i e k n k' m hu
    cases hl
    cases hc
    split at h
    · rename_i inf z hi hz
      split at h
      · rename_i hb
        obtain ⟨hp', rfl⟩ := newRoom_spec h
        obtain ⟨h0, h1, h2, h3⟩ := hb
        obtain ⟨s', hs', hzz, hzn, hrun⟩ := zeros_ok (ρ := ρ) hz w
        obtain ⟨ρ', k1, k2, k3⟩ := new_ok he hp' hs' hzz.list
        refine ⟨ρ', _, _, k1, k3, .slice _ _ _ _ _ _ k2, ?_⟩
        have w1 : IntKind.i64.wrap n = n := IntWalk.i64_in _ (by omega)
        have w2 : IntKind.i64.wrap m = m := IntWalk.i64_in _ (by omega)
        have hm : (inf.bytes : Int) * m ≤ 1000000 * 1000000 := Int.mul_le_mul (by omega) h2 (by omega) (by omega)
        have hbig : ¬ ((inf.bytes : Int) * m > 2 ^ 48) := by omega
        have hsz : inf.size = s' := by simpa [sizeA, hi] using hs'
        subst hsz
        have hc1 : (decide (m < 0) || decide ((inf.bytes : Int) * m > 2 ^ 48) || decide (n < 0) || decide (n > m)) = false := by
          simp; omega
        simp only [Bool.or_eq_false_iff, decide_eq_false_iff_not] at hc1
        obtain ⟨⟨⟨c1, c2⟩, c3⟩, c4⟩ := hc1
        have c2' : ¬ (281474976710656 < (inf.bytes : Int) * m) := by simpa using c2
        rcases zeros_cases hs' hz with ⟨h0, rfl⟩ | ⟨h0, y, hy, rfl⟩
        · have hr0 : Array.range 0 = #[] := rfl
          simp [Instr.makeSlice, run_underlying hu, asInt, asIntOf, typeInfo, sizeOf, hi, w1, w2, c1, c2', c3, c4, h0, hr0, newRow]
        · obtain ⟨hy1, _⟩ := run_zero hy w
          simp [Instr.makeSlice, run_underlying hu, asInt, asIntOf, typeInfo, sizeOf, hi, w1, w2, c1, c2', c3, c4, h0, hy1, newRow]
      · cases h
    · cases h
  · cases h

theorem first_ok (he : Emb c ρ H w) {s n : Nat} {x x' : Value} {l : List Value} (hx : VRel ρ x x') (h : firstA H s n x = some l) :
    ∃ l', (Builtin.firstCells s n x').run c.P w = .ok l'.toArray w ∧ LR (VRel ρ) l l' := by
  unfold firstA at h
  split at h
  · cases hx with
    | slice i off len cap r y hr =>
      obtain ⟨l', h1, h2, h3⟩ := he.read hr h
      refine ⟨l', ?_, h1⟩
      have := run_loadCells_list (P := c.P) w _ l' h3
      rw [h1.eq_length, h2] at this
      simpa [Builtin.firstCells] using this
  · cases hx
    split at h
    · cases h
      exact ⟨[], by simp [Builtin.firstCells], .nil⟩
    · cases h
  · cases hx
    rename_i q
    split at h
    case isFalse => cases h
    cases h
    refine ⟨(q.extract 0 n).data.toList.map fun b => .int .u8 b.toNat, by simp [Builtin.firstCells]; apply Array.ext'; simp, ?_⟩
    exact ⟨rfl, fun i x y hx hy => by
      rw [hx] at hy; cases hy
      obtain ⟨b, _, rfl⟩ := List.mem_map.1 (List.mem_of_getElem? hx)
      exact .int _ _⟩
  · cases h

theorem first_len {s n : Nat} {x : Value} {l : List Value} (h : firstA H s n x = some l) : l.length = n * s := by
  unfold firstA at h
  split at h
  · rename_i b off _ _
    unfold readCells at h
    split at h
    · split at h
      · rw [pick2_eq] at h
        split at h
        · cases h
        · cases h; simp; omega
      · cases h
    · cases h
  · split at h
    · rename_i h0; cases h; simp [h0]
    · cases h
  · split at h
    · rename_i h0; cases h; obtain ⟨rfl, h1⟩ := h0; simp; omega
    · cases h
  · cases h

theorem len_ok {x x' : Value} {n : Nat} (hx : VRel ρ x x') (h : lenA x = some n) (w : World) : (Builtin.lenOf x').run P w = .ok n w := by
  unfold lenA at h
  split at h
  · cases h
    cases hx <;> simp [Builtin.lenOf]
  · cases h
    cases hx
    simp [Builtin.lenOf]
  · cases h

theorem not_int {xt : TypeId} (h : isSliceType P xt = true) : (∃ e, P.underlying xt = some (.slice e)) ∨ P.underlying xt = some .string := by
  unfold isSliceType at h
  cases hu : P.underlying xt with
  | none => simp [hu] at h
  | some d =>
    cases d <;> simp [hu] at h
    · exact .inr rfl
    · exact .inl ⟨_, rfl⟩

theorem grown_le (w : World) (need old : Nat) (e : TypeId) : need ≤ grownCap w need old e := by
  simp only [grownCap, Question.cut]; omega

theorem zeroCells_size (z : Array Value) (n : Nat) : (Builtin.zeroCells z n).size = n * z.size := by simp [Builtin.zeroCells]

/-- The kit's own facts on types: a zero value has its type's size. -/
def zeroFits (P : Program) (e : TypeId) : Bool :=
  match P.info? e with
  | some i => match i.zero with
    | some z => z.cells.size == i.size
    | none => false
  | none => false

/-- The machine's append where there is room. -/
theorem app_room {st xt ty e : TypeId} {inf : TypeInfo} {at_ : Array TypeId} {as : Array Value} {r off sLen cap n : Nat} {x' : Value} {new : List Value} {w w' : World}
    (hat0 : at_[0]? = some st) (hat1 : at_[1]? = some xt) (has0 : as[0]? = some (.slice (some ⟨r, off, none⟩) sLen cap)) (has1 : as[1]? = some x')
    (hu : P.underlying st = some (.slice e)) (hxt : isSliceType P xt = true) (hi : P.info? e = some inf) (hn : (Builtin.lenOf x').run P w = .ok n w)
    (hroom : sLen + n ≤ cap) (hrn : (Builtin.firstCells inf.size n x').run P w = .ok new.toArray w) (hst : (storeCells ⟨r, off + sLen * inf.size, none⟩ new).run P w = .ok () w') :
    (Builtin.append_ at_ ty as).run P w = .ok (.slice (some ⟨r, off, none⟩) (sLen + n) cap) w' := by
  rcases not_int hxt with ⟨e', hd⟩ | hd
  · simp [Builtin.append_, hat0, hat1, has0, has1, run_underlying hu, run_underlying hd, sizeOf, typeInfo, hi, hn, hroom, hrn, add_addr, hst]
  · simp [Builtin.append_, hat0, hat1, has0, has1, run_underlying hu, run_underlying hd, sizeOf, typeInfo, hi, hn, hroom, hrn, add_addr, hst]

theorem app_nil {st xt ty e : TypeId} {inf : TypeInfo} {at_ : Array TypeId} {as : Array Value} {sLen cap n : Nat} {x' : Value} {new : List Value} {w : World}
    (hat0 : at_[0]? = some st) (hat1 : at_[1]? = some xt) (has0 : as[0]? = some (.slice none sLen cap)) (has1 : as[1]? = some x')
    (hu : P.underlying st = some (.slice e)) (hxt : isSliceType P xt = true) (hi : P.info? e = some inf) (hn : (Builtin.lenOf x').run P w = .ok n w)
    (hroom : sLen + n ≤ cap) (hrn : (Builtin.firstCells inf.size n x').run P w = .ok new.toArray w) :
    (Builtin.append_ at_ ty as).run P w = .ok (.slice none (sLen + n) cap) w := by
  rcases not_int hxt with ⟨e', hd⟩ | hd
  · simp [Builtin.append_, hat0, hat1, has0, has1, run_underlying hu, run_underlying hd, sizeOf, typeInfo, hi, hn, hroom, hrn]
  · simp [Builtin.append_, hat0, hat1, has0, has1, run_underlying hu, run_underlying hd, sizeOf, typeInfo, hi, hn, hroom, hrn]

theorem app_grow {st xt ty e : TypeId} {inf : TypeInfo} {z : Value} {at_ : Array TypeId} {as : Array Value} {base : Option Addr} {sLen cap n : Nat} {x' : Value} {old new : List Value} {w : World}
    (hat0 : at_[0]? = some st) (hat1 : at_[1]? = some xt) (has0 : as[0]? = some (.slice base sLen cap)) (has1 : as[1]? = some x')
    (hu : P.underlying st = some (.slice e)) (hxt : isSliceType P xt = true) (hi : P.info? e = some inf) (hz : inf.zero = some z) (hn : (Builtin.lenOf x').run P w = .ok n w)
    (hroom : ¬ sLen + n ≤ cap) (hb0 : inf.bytes ≠ 0) (hfit : Builtin.nextslicecap (sLen + n) cap * inf.bytes ≤ 281474976710656) (h63 : ((sLen + n : Nat) : Int) ≤ 9223372036854775807)
    (hro : (Builtin.firstCells inf.size sLen (.slice base sLen cap)).run P w.drew = .ok old.toArray w.drew) (hrn : (Builtin.firstCells inf.size n x').run P w.drew = .ok new.toArray w.drew) :
    (Builtin.append_ at_ ty as).run P w = .ok (.slice (some ⟨w.heap.size, 0, none⟩) (sLen + n) (grownCap w (sLen + n) cap e))
      (w.drew.alloc (.cells (old.toArray ++ (new.toArray ++ Builtin.zeroCells z.cells (grownCap w (sLen + n) cap e - (sLen + n)))) e)) := by
  have hfit' : ¬ (281474976710656 < Builtin.nextslicecap (sLen + n) cap * inf.bytes) := by omega
  have h63' : ¬ (9223372036854775807 < ((sLen : Int) + (n : Int))) := by omega
  rcases not_int hxt with ⟨e', hd⟩ | hd
  · simp [Builtin.append_, hat0, hat1, has0, has1, run_underlying hu, run_underlying hd, sizeOf, typeInfo, zeroValue, hi, hz, hn, hroom, hb0, hfit', hro, hrn, Question.forced, newRow, grownCap]
  · simp [Builtin.append_, hat0, hat1, has0, has1, run_underlying hu, run_underlying hd, sizeOf, typeInfo, zeroValue, hi, hz, hn, hroom, hb0, hfit', hro, hrn, Question.forced, newRow, grownCap]

end
end Go.Ev
