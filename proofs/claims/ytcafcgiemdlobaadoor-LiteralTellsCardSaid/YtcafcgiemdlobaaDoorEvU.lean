/- The evaluator's operations together; regions, bodies and calls. -/
import Derived.Test.YtcafcgiemdlobaaDoorEvS
namespace Go.Ev
open Go.RowKit

section
variable {c : Cx} {P : Program} {w : World} {ρ : Ren} {H : Mem}

/-- What the machine does at an operation is what the evaluator says. -/
def OpOk (c : Cx) (ρ : Ren) (o : Oper) (ev : Operand → Value) (w : World) (v : Value) (H' : Mem) : Prop :=
  ∃ ρ' w' v', ρ.le ρ' ∧ Emb c ρ' H' w' ∧ VRel ρ' v v' ∧ ((execOp ev o).run c.P w = .ok (.value v') w' ∨ ((execOp ev o).run c.P w = .ok .skip w' ∧ v' = undef))

/-- Operands, evaluated on both sides. -/
abbrev EvR (ρ : Ren) (ev ev' : Operand → Value) (o : Op) : Prop := ∀ x ∈ o.operands, VRel ρ (ev x) (ev' x)

theorem PR.parts {ev ev' : Operand → Value} : ∀ (l : List (Nat × Operand)), (∀ q ∈ l, VRel ρ (ev q.2) (ev' q.2)) → PR (VRel ρ) (l.map fun q => (q.1, ev q.2)) (l.map fun q => (q.1, ev' q.2))
  | [], _ => trivial
  | q :: l, h => ⟨rfl, h q (by simp), PR.parts l fun x hx => h x (by simp [hx])⟩

theorem or_map {ev ev' : Operand → Value} (x : Option Operand) (h : ∀ y, x = some y → VRel ρ (ev y) (ev' y)) : OR (VRel ρ) (x.map ev) (x.map ev') := by
  cases x with
  | none => exact .none
  | some y => exact .some (h y rfl)

theorem AR.map {ev ev' : Operand → Value} (xs : Array Operand) (h : ∀ y ∈ xs, VRel ρ (ev y) (ev' y)) : AR (VRel ρ) (xs.map ev) (xs.map ev') :=
  ⟨by simp, fun i x y hx hy => by
    simp only [Array.getElem?_map, Option.map_eq_some_iff] at hx hy
    obtain ⟨q, h1, rfl⟩ := hx
    obtain ⟨q', h2, rfl⟩ := hy
    rw [h1] at h2; cases h2
    exact h q (Array.mem_of_getElem? h1)⟩

theorem withMem_spec {H H' : Mem} {x : Option Value} {v : Value} (h : withMem H x = some (v, H')) : x = some v ∧ H' = H := by
  cases x with
  | none => cases h
  | some u =>
    have h' : some (u, H) = some (v, H') := h
    cases h'; exact ⟨rfl, rfl⟩

theorem withMem_some (H : Mem) (v : Value) : withMem H (some v) = some (v, H) := rfl

theorem orElse_spec {x y : Option Value} {v : Value} (h : orElse x y = some v) : x = some v ∨ (x = none ∧ y = some v) := by
  cases x with
  | none => exact .inr ⟨rfl, h⟩
  | some u => exact .inl h

theorem ltI_spec (a b : Int) : ltI a b = decide (a < b) := by
  unfold ltI
  split
  · rw [ble_succ]; rw [decide_eq_decide]; simp only [Int.ofNat_eq_natCast]; omega
  · simp only [Int.ofNat_eq_natCast, Int.negSucc_eq]; symm; simp; omega
  · simp only [Int.ofNat_eq_natCast, Int.negSucc_eq]; symm; simp; omega
  · rw [ble_succ]; rw [decide_eq_decide]; simp only [Int.negSucc_eq]; omega

theorem eqI_spec (a b : Int) : eqI a b = (a == b) := by
  unfold eqI
  split
  · rename_i m n; rw [Bool.eq_iff_iff]; simp [Nat.beq_eq]; omega
  · rename_i m n; rw [Bool.eq_iff_iff]; simp [Nat.beq_eq]
  · rename_i h1 h2
    cases a <;> cases b
    · exact absurd rfl (h1 _ _ rfl)
    · rfl
    · rfl
    · exact absurd rfl (h2 _ _ rfl)

theorem inI64_spec {n : Int} (h : inI64 n = true) : IntKind.i64.wrap n = n := by
  refine IntWalk.i64_in n ?_
  unfold inI64 at h
  split at h
  · simp only [Nat.blt_eq] at h; simp only [Int.ofNat_eq_natCast]; omega
  · simp only [Nat.blt_eq] at h; simp only [Int.negSucc_eq]; omega

theorem forced_eq (n : Int) : forced n = n := by
  unfold forced
  split <;> rfl

theorem eqKind_spec {k k' : IntKind} (h : eqKind k k' = true) : k = k' := by
  cases k <;> cases k' <;> first | rfl | (simp [eqKind] at h)

theorem fast_run {op : BinOp} {x y v : Value} (h : fastA op x y = some v) (t : TypeId) (p q : Operand) (w : World) :
    (do eqGuard op t p q x y; binOp op t x y : Sem Value).run P w = .ok v w ∧ addrFree v = true ∧ addrFree x = true ∧ addrFree y = true := by
  unfold fastA at h
  split at h
  · rename_i k a k' b
    rw [pick2_eq] at h
    split at h
    · rename_i hk
      have := eqKind_spec hk
      subst this
      have hg : (eqGuard op t p q (.int k a) (.int k b)).run P w = .ok () w := by
        unfold eqGuard
        cases op <;> rfl
      refine ⟨?_, ?_, rfl, rfl⟩
      · simp only [Sem.run_bind, hg, Result.andThen_ok]
        split at h
        · rename_i u hu
          cases h
          unfold fastInt at hu
          have n1 : ∀ a b : Int, (!decide (b < a)) = decide (a ≤ b) := fun a b => by
            rw [Bool.eq_iff_iff]; simp
          cases op <;> cases hu <;> simp [binOp, Op.intCmp, ltI_spec, eqI_spec, bne, n1]
        · split at h
          · rename_i n hn
            cases h
            unfold fastSum at hn
            split at hn
            · rw [pick2_eq] at hn
              split at hn
              · rename_i hr; cases hn
                have e : IntKind.i64.wrap (a + b) = a + b := inI64_spec hr
                have e2 : Int.add a b = a + b := rfl
                simp [binOp, Op.intArith, forced_eq, e]
              · cases hn
            · rw [pick2_eq] at hn
              split at hn
              · rename_i hr; cases hn
                have e : IntKind.i64.wrap (a - b) = a - b := inI64_spec hr
                have e2 : Int.sub a b = a - b := rfl
                simp [binOp, Op.intArith, forced_eq, e, e2]
              · cases hn
            · cases hn
          · cases h
      · split at h
        · cases h; rfl
        · split at h
          · cases h; rfl
          · cases h
    · cases h
  · cases h

theorem eq_run {t : TypeId} {x y : Value} {b : Bool} {op : BinOp} {v : Value} (p q : Operand) (w : World) (hg : ∀ op, (eqGuard op t p q x y).run P w = .ok () w) (he : (Op.equalIn 10000 t x y).run P w = .ok b w)
    (h1 : binOp .eql t x y = do pure (.bool (← Op.equal t x y))) (h2 : binOp .neq t x y = do pure (.bool (!(← Op.equal t x y))))
    (h : (op = .eql ∧ v = .bool b) ∨ (op = .neq ∧ v = .bool !b)) : (do eqGuard op t p q x y; binOp op t x y : Sem Value).run P w = .ok v w := by
  have he' : (Op.equal t x y).run P w = .ok b w := he
  rcases h with ⟨rfl, rfl⟩ | ⟨rfl, rfl⟩
  · simp only [Sem.run_bind, hg, Result.andThen_ok, h1, he', Sem.run_pure]
  · simp only [Sem.run_bind, hg, Result.andThen_ok, h2, he', Sem.run_pure]

theorem nil_run {op : BinOp} {x y v x' y' : Value} {t : TypeId} (hx : VRel ρ x x') (hy : VRel ρ y y') (h : nilA P op t x y = some v) (p q : Operand) (w : World) :
    (do eqGuard op t p q x' y'; binOp op t x' y' : Sem Value).run P w = .ok v w ∧ addrFree v = true := by
  unfold nilA at h
  split at h
  · rename_i a b hu
    cases hx
    cases hy
    have e : (Op.equalIn (9999 + 1) t (.bool a) (.bool b)).run P w = .ok (a == b) w := by
      unfold Op.equalIn
      simp [run_underlying hu]
    have hg : ∀ op, (eqGuard op t p q (.bool a) (.bool b)).run P w = .ok () w := fun op => by unfold eqGuard; cases op <;> rfl
    split at h
    · cases h
      refine ⟨eq_run p q w hg e rfl rfl (.inl ⟨rfl, ?_⟩), rfl⟩
      cases a <;> cases b <;> rfl
    · cases h
      refine ⟨eq_run p q w hg e rfl rfl (.inr ⟨rfl, ?_⟩), rfl⟩
      cases a <;> cases b <;> rfl
    · cases h
  · rename_i l cc l2 c2 hu
    cases hx with
    | slice i off _ _ r y2 hr =>
      cases hy with
      | sliceNil _ _ =>
        have e : (Op.equalIn (9999 + 1) t (.slice (some ⟨r, off, none⟩) l (cc + y2)) (.slice none l2 c2)).run P w = .ok false w := by
          unfold Op.equalIn
          simp [run_underlying hu]
        have hg : ∀ op, (eqGuard op t p q (.slice (some ⟨r, off, none⟩) l (cc + y2)) (.slice none l2 c2)).run P w = .ok () w := fun op => by unfold eqGuard; cases op <;> rfl
        split at h
        · cases h; exact ⟨eq_run p q w hg e rfl rfl (.inl ⟨rfl, rfl⟩), rfl⟩
        · cases h; exact ⟨eq_run p q w hg e rfl rfl (.inr ⟨rfl, rfl⟩), rfl⟩
        · cases h
  · rename_i hu
    cases hx with
    | ptr i off r y2 hr =>
      cases hy with
      | ptrNil =>
        have e : (Op.equalIn (9999 + 1) t (.pointer (some ⟨r, off, none⟩)) (.pointer none)).run P w = .ok false w := by
          unfold Op.equalIn
          simp [run_underlying hu]
        have hg : ∀ op, (eqGuard op t p q (.pointer (some ⟨r, off, none⟩)) (.pointer none)).run P w = .ok () w := fun op => by unfold eqGuard; cases op <;> rfl
        split at h
        · cases h; exact ⟨eq_run p q w hg e rfl rfl (.inl ⟨rfl, rfl⟩), rfl⟩
        · cases h; exact ⟨eq_run p q w hg e rfl rfl (.inr ⟨rfl, rfl⟩), rfl⟩
        · cases h
  · rename_i te i a j b hu
    rw [pick2_eq] at h
    split at h
    · rename_i hc
      simp only [Bool.and_eq_true, Nat.beq_eq] at hc
      obtain ⟨⟨rfl, rfl⟩, hsz⟩ := hc
      cases hx with
      | ptr _ _ r y hr =>
        cases hy with
        | ptr _ _ r2 y2 hr2 =>
          rw [hr] at hr2; cases hr2
          have e : (Op.equalIn (9999 + 1) t (.pointer (some ⟨r, a, none⟩)) (.pointer (some ⟨r, a, none⟩))).run P w = .ok true w := by
            obtain ⟨n, hn⟩ := Option.isSome_iff_exists.1 hsz
            obtain ⟨inf, hi, _⟩ := Option.map_eq_some_iff.1 hn
            unfold Op.equalIn
            simp [run_underlying hu, sizeOf, typeInfo, hi, run_sameAddr_same]
          have hg : ∀ op, (eqGuard op t p q (.pointer (some ⟨r, a, none⟩)) (.pointer (some ⟨r, a, none⟩))).run P w = .ok () w := fun op => by unfold eqGuard; cases op <;> rfl
          split at h
          · cases h; exact ⟨eq_run p q w hg e rfl rfl (.inl ⟨rfl, rfl⟩), rfl⟩
          · cases h; exact ⟨eq_run p q w hg e rfl rfl (.inr ⟨rfl, rfl⟩), rfl⟩
          · cases h
    · cases h
  · cases h

theorem widen_run {d : TypeId} {x x' v : Value} (hx : VRel ρ x x') (h : widenA P d x = some v) (s : TypeId) (hs : ∃ q, P.underlying s = some q) (w : World) : (convert s d x').run P w = .ok v w ∧ addrFree v = true := by
  obtain ⟨q, hq⟩ := hs
  unfold widenA at h
  split at h
  · rename_i n hu
    cases hx
    rw [pick2_eq] at h
    split at h
    · rename_i hn
      cases h
      refine ⟨?_, rfl⟩
      have hn' : n ≤ 255 := by simpa [Nat.ble_eq] using hn
      have e : IntKind.i64.wrap (n : Int) = n := IntWalk.i64_in _ (by omega)
      simp [convert, run_underlying hq, run_underlying hu, Conv.intToInt, e]
    · cases h
  · rename_i n hu
    cases hx
    rw [pick2_eq] at h
    split at h
    · rename_i hn
      cases h
      refine ⟨?_, rfl⟩
      simp [convert, run_underlying hq, run_underlying hu, Conv.intToInt, inI64_spec hn]
    · cases h
  · cases h


theorem next1 : Extern.allNextRows.lookup "internal/abi.NoEscape" = none := by kernel_rfl
theorem next2 : Extern.allNextRows.lookup "" = none := by kernel_rfl
theorem row1 : Extern.allGenericRows.lookup "internal/abi.NoEscape" = none := by kernel_rfl
theorem row2 : Extern.allTypedRows.lookup "internal/abi.NoEscape" = none := by kernel_rfl
theorem row3 : Extern.allRows.lookup "internal/abi.NoEscape" = some Extern.AbiNoEscape.same := by kernel_rfl

theorem same_run {o : Oper} {ev' : Operand → Value} {f y : Operand} {ats : Array TypeId} {id : FuncId} {fn : Func} (hop : o.op = .call { callee := .value f, args := #[y], argTypes := ats }) (hg : ev' f = .func (.func id) #[] #[]) (hfn : c.P.funcs[id]? = some fn) (hb : ¬ fn.body.isSome = true) (hname : fn.name = "internal/abi.NoEscape") (horg : fn.origin = "") (w : World) :
    (execOp ev' o).run c.P w = .ok (.value (ev' y)) w := by
  have hb' : fn.body.isNone = true := by simpa using hb
  have e1 : Extern.findNext fn = none := by
    simp only [Extern.findNext, hname, horg]; rw [next1, next2]; rfl
  have e2 : Extern.find fn = some Extern.AbiNoEscape.same := by
    simp only [Extern.find, hname, horg]; rw [row1, row2, row3]; rfl
  have hn : ¬ (fn.name = "runtime.NumGoroutine") := by rw [hname]; decide
  have hb2 : fn.body = none := by simpa using hb'
  simp only [execOp, hop, resolve, Deferred.ofValue, hg, invoke, callFunc]
  have e3 : Extern.AbiNoEscape.same #[ev' y] = pure (ev' y) := rfl
  simp [hfn, hn, hb2, e1, e2, e3]

set_option maxHeartbeats 1000000 in
theorem Emb.freeze {c : Cx} {ρ : Ren} {H H' : Mem} {w : World} (he : Emb c ρ H w) {i r x n : Nat} {b : Blk} (hi : alive H i = some b) (hk : Ev.kill H i = some H') (hr : ρ i = some (r, x)) : Emb c ρ H' (w.freeze ⟨r, 0, none⟩ n) := by
  have hk2 := he.kill hk
  obtain ⟨k1, k2, k3, k4⟩ := kill_spec hk
  obtain ⟨hg, hl⟩ := alive_some hi
  have hB : c.B ≤ r := by
    obtain ⟨r', x', C, fr, s, h1, h2, _⟩ := he.blk i b hg hl
    rw [hr] at h1; cases h1
    rcases h2 with h2 | h2
    · exfalso
      unfold Ev.kill at hk
      rw [hg] at hk
      obtain ⟨_, h3, _⟩ := Mem.set_spec hk
      have := he.lk
      omega
    · exact h2
  refine ⟨Lib.below_freeze hk2.below (p := ⟨r, 0, none⟩) hB n, by rw [freeze_size]; exact hk2.base, hk2.dom, hk2.lk, hk2.lsz, hk2.glob, fun j b' hj hl' => ?_, hk2.inj⟩
  obtain ⟨r', x', C, fr, s, h1, h2, h3, h4⟩ := hk2.blk j b' hj hl'
  obtain ⟨hj0, hne⟩ := k3 j b' hj hl'
  have hrr : r' ≠ r := fun e => hne (by subst e; exact he.inj j i b' b r' x' x hj0 hl' hg hl h1 hr)
  exact ⟨r', x', C, fr, s, h1, h2, by rw [freeze_other _ _ _ _ hrr]; exact h3, h4⟩

theorem byte_list : ∀ {cs : List Value} {acc s : ByteArray}, cs.all isByteV = true → bytesA cs acc = some s → ∃ l : List UInt8, cs = l.map (fun b => Value.int .u8 b.toNat) ∧ s.data.toList = acc.data.toList ++ l
  | [], acc, s, _, h => by cases h; exact ⟨[], rfl, by simp⟩
  | v :: cs, acc, s, ha, h => by
    simp only [List.all_cons, Bool.and_eq_true] at ha
    obtain ⟨h1, h2⟩ := ha
    unfold isByteV at h1
    split at h1
    · rename_i n
      have hn : n ≤ 255 := Nat.le_of_ble_eq_true h1
      simp only [bytesA, byteOfV] at h
      obtain ⟨l, e1, e2⟩ := byte_list h2 h
      refine ⟨UInt8.ofNat n :: l, ?_, ?_⟩
      · rw [e1]
        simp only [List.map_cons, List.cons.injEq, Value.int.injEq, true_and, and_true]
        have : (UInt8.ofNat n).toNat = n := by simp [UInt8.toNat_ofNat']; omega
        rw [this]; rfl
      · rw [e2]; simp
    · cases h1

theorem ustr_ok {c : Cx} {ρ : Ren} {H H' : Mem} {w : World} (he : Emb c ρ H w) {pt : TypeId} {p p' n n' v : Value} (hp : VRel ρ p p') (hn : VRel ρ n n') (h : ustrA c.P H pt p n = some (v, H')) (it ty : TypeId) :
    ∃ w' v', Emb c ρ H' w' ∧ VRel ρ v v' ∧ (Builtin.unsafeString_ #[pt, it] ty #[p', n']).run c.P w = .ok v' w' := by
  unfold ustrA at h
  split at h
  · rename_i a
    cases h
    cases hn
    have hp' : ∃ a', p' = .pointer a' := by cases hp <;> exact ⟨_, rfl⟩
    obtain ⟨a', rfl⟩ := hp'
    exact ⟨w, _, he, .string _, Lib.run_unsafeString_none w pt it ty a'⟩
  · rename_i i m e hu
    split at h
    · rename_i b cs hb hcs
      rw [pick2_eq] at h
      split at h
      · rename_i hc
        simp only [Bool.and_eq_true, Nat.beq_eq, beq_iff_eq] at hc
        obtain ⟨⟨⟨hel, hce⟩, hm⟩, hall⟩ := hc
        have hm := Nat.le_of_ble_eq_true hm
        split at h
        · rename_i s H1 hs hk
          cases h
          cases hn
          cases hp with
          | ptr _ _ r y hr =>
            obtain ⟨l', h1, h2, h3⟩ := he.read hr hcs
            obtain ⟨l, e1, e2⟩ := byte_list hall hs
            have hlen : l.length = m + 1 := by
              have : cs.length = m + 1 := h2
              rw [e1] at this; simpa using this
            obtain ⟨hg, hl⟩ := alive_some hb
            obtain ⟨r', y', C, fr, sz, k1, k2, k3, k4, k5, k6, k7⟩ := he.blk i b hg hl
            rw [hr] at k1; cases k1
            have hsl : s = ⟨l.toArray⟩ := by
              cases s with
              | mk d => 
                have : d.toList = l := by simpa using e2
                rw [← this]
            refine ⟨w.freeze ⟨r, 0, none⟩ (m + 1), _, he.freeze hb hk hr, .string _, ?_⟩
            have hlc : l.length ≤ C.size := by
              unfold readCells at hcs
              rw [hb] at hcs
              simp only at hcs
              split at hcs
              · rename_i hle; omega
              · cases hcs
            have hrun := Lib.run_unsafeString_row (P := c.P) w pt it ty e hu hce r C.size (by simp [World.shape?, k3, hel]) l (by intro h0; rw [h0] at hlen; simp at hlen) hlc (by omega) (fun j x hx => by
              have hj : cs[j]? = some (.int .u8 x.toNat) := by rw [e1]; simp [hx]
              obtain ⟨z, hz, hzr⟩ := h1.get hj
              cases hzr
              have := h3 j _ hz
              exact this)
            rw [hlen] at hrun
            rw [hsl]
            exact hrun
        · cases h
      · cases h
    · cases h
  · cases h


theorem opA_ok (he : Emb c ρ H w) {call : CallF} {o : Oper} {ev ev' : Operand → Value} (hev : EvR ρ ev ev' o.op) (hnc : ∀ cl, o.op = .call cl → ∀ f, cl.callee = .value f → opCall c.P call (ev f) (cl.args.toList.map ev) H = none) {v : Value} {H' : Mem} (h : opA c.P call ev o H = some (v, H')) :
    OpOk c ρ o ev' w v H' := by
  have hpure : ∀ {v : Value}, pureA c.P ev o = some v → OpOk c ρ o ev' w v H := by
    intro v hu
    obtain ⟨h1, h2⟩ := pure_ok (P := c.P) hev hu w
    exact ⟨ρ, w, _, Ren.le_refl _, he, h2, .inl h1⟩
  have same : ∀ {v v' : Value}, VRel ρ v v' → (execOp ev' o).run c.P w = .ok (.value v') w → OpOk c ρ o ev' w v H := fun h1 h2 => ⟨ρ, w, _, Ren.le_refl _, he, h1, .inl h2⟩
  unfold opA at h
  split at h
  case h_1 x hop =>
    cases h
    exact same (hev x (by simp [hop, Op.operands])) (by simp [execOp, hop])
  case h_2 x hop =>
    cases h
    exact same (hev x (by simp [hop, Op.operands])) (by simp [execOp, hop])
  case h_3 cc x y hop =>
    unfold opPick at h
    split at h
    · rename_i t hc
      cases h
      have hcc := hev cc (by simp [hop, Op.operands])
      rw [hc] at hcc
      generalize hq : ev' cc = q at hcc
      cases hcc
      refine same (v' := if t then ev' x else ev' y) ?_ (by simp [execOp, hop, hq, asBool])
      cases t
      · exact hev y (by simp [hop, Op.operands])
      · exact hev x (by simp [hop, Op.operands])
    · cases h
  case h_4 op t x y yt hop =>
    unfold opBin at h
    obtain ⟨hwm, rfl⟩ := withMem_spec h
    have hx := hev x (by simp [hop, Op.operands])
    have hy := hev y (by simp [hop, Op.operands])
    rcases orElse_spec hwm with h | ⟨_, h⟩
    · obtain ⟨h1, h2, h3, h4⟩ := fast_run (P := c.P) h t x y w
      rw [← eq_of_free hx h3, ← eq_of_free hy h4] at h1
      refine same (refl_of_free _ h2) ?_
      simp only [execOp, hop]
      rw [Sem.run_bind, h1]; rfl
    · rcases orElse_spec h with h | ⟨_, h⟩
      · obtain ⟨h1, h2⟩ := nil_run (P := c.P) hx hy h x y w
        refine same (refl_of_free _ h2) ?_
        simp only [execOp, hop]
        rw [Sem.run_bind, h1]; rfl
      · exact hpure h
  case h_5 t hop =>
    obtain ⟨ρ', w', v', h1, h2, h3, h4⟩ := alloc_ok he h
    exact ⟨ρ', w', v', h1, h2, h3, .inl (by simp [execOp, hop, h4])⟩
  case h_6 t x hop =>
    obtain ⟨ρ', w', v', h1, h2, h3, h4⟩ := box_ok he (hev x (by simp [hop, Op.operands])) h
    exact ⟨ρ', w', v', h1, h2, h3, .inl (by simp [execOp, hop, h4])⟩
  case h_7 t ps hop =>
    obtain ⟨hu, rfl⟩ := withMem_spec h
    have hp := PR.parts (ev := ev) (ev' := ev') ps.toList fun q hq => hev q.2 (by simp [hop, Op.operands]; exact ⟨q.1, by simpa using hq⟩)
    obtain ⟨v', h1, h2⟩ := build_ok hp hu w
    refine same h2 ?_
    have e1 : (ps.map fun q => (q.1, ev' q.2)) = (ps.toList.map fun q => (q.1, ev' q.2)).toArray := by apply Array.ext'; simp
    simp only [execOp, hop]
    simp only [Sem.run_bind]
    have : (Instr.build t (ps.map fun (i, x) => (i, ev' x))).run c.P w = .ok v' w := by
      rw [← h1, ← e1]
    rw [this]; rfl
  case h_8 t len ps hop =>
    have hp := PR.parts (ev := ev) (ev' := ev') ps.toList fun q hq => hev q.2 (by simp [hop, Op.operands]; exact ⟨q.1, by simpa using hq⟩)
    obtain ⟨ρ', w', v', h1, h2, h3, h4⟩ := buildSlice_ok he hp h
    refine ⟨ρ', w', v', h1, h2, h3, .inl ?_⟩
    have e1 : (ps.map fun q => (q.1, ev' q.2)) = (ps.toList.map fun q => (q.1, ev' q.2)).toArray := by apply Array.ext'; simp
    simp only [execOp, hop]
    simp only [Sem.run_bind]
    have : (Instr.buildSlice t len (ps.map fun (i, x) => (i, ev' x))).run c.P w = .ok v' w' := by
      rw [← h4, ← e1]
    rw [this]; rfl
  case h_9 t x hop =>
    obtain ⟨hu, rfl⟩ := withMem_spec h
    obtain ⟨v', h1, h2⟩ := load_ok he (hev x (by simp [hop, Op.operands])) hu
    exact same h2 (by simp [execOp, hop, h1])
  case h_10 t x y hop =>
    unfold opStore at h
    split at h
    · rename_i H1 hu
      cases h
      obtain ⟨w', h1, h2⟩ := store_ok he (hev x (by simp [hop, Op.operands])) (hev y (by simp [hop, Op.operands])) hu
      exact ⟨ρ, w', undef, Ren.le_refl _, h2, .undef, .inr ⟨by simp [execOp, hop, h1], rfl⟩⟩
    · cases h
  case h_11 x hop =>
    have hx := hev x (by simp [hop, Op.operands])
    unfold opNilCheck at h
    split at h
    · rename_i q hq
      cases h
      rw [hq] at hx
      generalize hq' : ev' x = q' at hx
      cases hx with
      | ptr i off r y hr => exact same (.ptr _ _ _ _ hr) (by simp [execOp, hop, hq'])
    · rename_i f p1 p2 hq
      cases h
      rw [hq] at hx
      generalize hq' : ev' x = q' at hx
      cases hx with
      | func _ _ a' _ b' sa ha sb hb => exact same (.func _ _ a' _ b' sa ha sb hb) (by simp [execOp, hop, hq'])
    · cases h
  case h_12 s x f hop =>
    obtain ⟨hu, rfl⟩ := withMem_spec h
    obtain ⟨v', h1, h2⟩ := fieldAddr_ok (P := c.P) (hev x (by simp [hop, Op.operands])) hu w
    exact same h2 (by simp [execOp, hop, h1])
  case h_13 t x ix hop =>
    obtain ⟨hu, rfl⟩ := withMem_spec h
    obtain ⟨v', h1, h2⟩ := idx_ok (P := c.P) (hev x (by simp [hop, Op.operands])) (hev ix (by simp [hop, Op.operands])) hu w
    exact same h2 (by simp [execOp, hop, h1])
  case h_14 x k hop =>
    have hx := hev x (by simp [hop, Op.operands])
    unfold opExtract at h
    split at h
    · rename_i vs hq
      obtain ⟨hu, rfl⟩ := withMem_spec h
      rw [hq] at hx
      generalize hq' : ev' x = q' at hx
      cases hx with
      | tuple _ vs' sa ha =>
        have hu' : vs[k]? = some v := by simpa using hu
        have hlt : k < vs.size := (Array.getElem?_eq_some_iff.1 hu').1
        have hlt' : k < vs'.size := sa ▸ hlt
        exact same (v' := vs'[k]) (ha k _ _ hu' (by simp [hlt'])) (by simp [execOp, hop, hq', Instr.extract, hlt'])
    · cases h
  case h_15 t l cp hop =>
    obtain ⟨ρ', w', v', h1, h2, h3, h4⟩ := makeSlice_ok he (hev l (by simp [hop, Op.operands])) (hev cp (by simp [hop, Op.operands])) h
    exact ⟨ρ', w', v', h1, h2, h3, .inl (by simp [execOp, hop, h4])⟩
  case h_16 fn first captured hop =>
    cases h
    have h1 := AR.map (ev := ev) (ev' := ev') first fun y hy => hev y (by simp [hop, Op.operands, hy])
    have h2 := AR.map (ev := ev) (ev' := ev') captured fun y hy => hev y (by simp [hop, Op.operands, hy])
    exact same (.func fn _ _ _ _ h1.1 h1.2 h2.1 h2.2) (by simp [execOp, hop, Instr.makeFunc])
  case h_17 t x lo hi hop =>
    unfold opSlice at h
    rw [pick2_eq] at h
    split at h
    · obtain ⟨hwm, rfl⟩ := withMem_spec h
      have hlo := or_map (ev := ev) (ev' := ev') lo fun y hy => hev y (by simp [hop, Op.operands, hy])
      have hhi := or_map (ev := ev) (ev' := ev') hi fun y hy => hev y (by simp [hop, Op.operands, hy])
      obtain ⟨v', h1, h2⟩ := arrSlice_ok he (hev x (by simp [hop, Op.operands])) hlo hhi hwm
      exact same h2 (by simp [execOp, hop, h1])
    obtain ⟨hwm, rfl⟩ := withMem_spec h
    rcases orElse_spec hwm with h | ⟨_, h⟩
    · have hlo := or_map (ev := ev) (ev' := ev') lo fun y hy => hev y (by simp [hop, Op.operands, hy])
      have hhi := or_map (ev := ev) (ev' := ev') hi fun y hy => hev y (by simp [hop, Op.operands, hy])
      obtain ⟨v', h1, h2⟩ := slice_ok (P := c.P) (hev x (by simp [hop, Op.operands])) hlo hhi h w
      exact same h2 (by simp [execOp, hop, h1])
    · exact hpure h
  case h_18 t x f hop =>
    obtain ⟨hu, rfl⟩ := withMem_spec h
    obtain ⟨v', h1, h2⟩ := fieldV_ok (P := c.P) (hev x (by simp [hop, Op.operands])) hu w
    exact same h2 (by simp [execOp, hop, h1])
  case h_19 t x ix hop =>
    unfold opIndex at h
    obtain ⟨hwm, rfl⟩ := withMem_spec h
    rcases orElse_spec hwm with h | ⟨_, h⟩
    · obtain ⟨v', h1, h2⟩ := indexStr_ok (P := c.P) (hev x (by simp [hop, Op.operands])) (hev ix (by simp [hop, Op.operands])) h w
      exact same h2 (by simp [execOp, hop, h1])
    · rcases orElse_spec h with h | ⟨_, h⟩
      · obtain ⟨v', h1, h2⟩ := indexV_ok (P := c.P) (hev x (by simp [hop, Op.operands])) (hev ix (by simp [hop, Op.operands])) h w
        exact same h2 (by simp [execOp, hop, h1])
      · exact hpure h
  case h_20 s d x hop =>
    unfold opConvert at h
    split at h
    · rename_i u hu
      cases h
      rcases orElse_spec hu with hu | ⟨_, hu⟩
      · split at hu
        · rename_i q hq
          obtain ⟨h1, h2⟩ := widen_run (P := c.P) (hev x (by simp [hop, Op.operands])) hu s ⟨q, hq⟩ w
          exact same (refl_of_free _ h2) (by simp [execOp, hop, h1])
        · cases hu
      · exact hpure hu
    · obtain ⟨ρ', w', v', h1, h2, h3, h4⟩ := convert_ok he (hev x (by simp [hop, Op.operands])) h
      exact ⟨ρ', w', v', h1, h2, h3, .inl (by simp [execOp, hop, h4])⟩
  case h_21 cl hop =>
    unfold opCalls at h
    split at h
    · rename_i f hf
      rw [hnc cl hop f hf] at h
      simp only at h
      have hfr := hev f (by simp [hop, hf, Op.operands, Call.operands])
      obtain ⟨callee, args, ats⟩ := cl
      simp only at hf h
      subst hf
      unfold opExt at h
      split at h
      · rename_i x hx
        rw [pick2_eq] at h
        split at h
        · rename_i hsame
          simp only [Option.some.injEq, Prod.mk.injEq] at h
          obtain ⟨hvx, rfl⟩ := h
          obtain ⟨y, hy, rfl⟩ : ∃ y, args = #[y] ∧ ev y = v := by
            have : args.toList.length = 1 := by have := congrArg List.length hx; simpa using this
            match hl : args.toList, this with
            | [y], _ =>
              rw [hl] at hx
              exact ⟨y, by rw [← Array.toArray_toList (xs := args), hl], by rw [← hvx]; simpa using hx⟩
          subst hy
          unfold isSame at hsame
          split at hsame
          · rename_i id hfv
            split at hsame
            · rename_i fn hfn
              rw [pick2_eq] at hsame
              split at hsame
              · cases hsame
              · rename_i hb
                rw [hfv] at hfr
                generalize hg' : ev' f = g' at hfr
                cases hfr with
                | func _ _ first' _ captured' s1 _ s2 _ =>
                  have e1 : first' = #[] := Array.eq_empty_of_size_eq_zero (by simpa using s1.symm)
                  have e2 : captured' = #[] := Array.eq_empty_of_size_eq_zero (by simpa using s2.symm)
                  subst e1 e2
                  have hname : fn.name = "internal/abi.NoEscape" ∧ fn.origin = "" := by simpa using hsame
                  refine same (hev y (by simp [hop, Op.operands, Call.operands])) ?_
                  exact same_run hop hg' hfn hb hname.1 hname.2 w
            · cases hsame
          · cases hsame
        · obtain ⟨hu, rfl⟩ := withMem_spec h
          exact hpure hu
      · obtain ⟨hu, rfl⟩ := withMem_spec h
        exact hpure hu
    · rename_i b hb
      obtain ⟨callee, args, ats⟩ := cl
      simp only at hb
      subst hb
      have harg : ∀ x ∈ args, VRel ρ (ev x) (ev' x) := fun x hx => hev x (by simp [hop, Op.operands, Call.operands]; exact hx)
      unfold opBuiltin at h
      split at h
      · unfold opLen at h
        split at h
        · rename_i x t hx0 ht0
          simp only at hx0 ht0
          obtain ⟨hwm, rfl⟩ := withMem_spec h
          rcases orElse_spec hwm with h | ⟨_, h⟩
          · have hx := harg x (Array.mem_of_getElem? hx0)
            unfold lenOfA at h
            split at h
            · rename_i e q n cc hu hq
              cases h
              rw [hq] at hx
              have hlen : ∃ q' c', ev' x = .slice q' n c' := by
                generalize ev' x = z at hx
                cases hx <;> exact ⟨_, _, rfl⟩
              obtain ⟨q', c', hq'⟩ := hlen
              exact same (.int _ _) (by simp [execOp, hop, resolve, invoke, builtin, Builtin.len_, ht0, hx0, run_underlying hu, hq', goInt])
            · rename_i s hu hq
              cases h
              rw [hq] at hx
              have hq' : ev' x = .string s := by
                generalize ev' x = z at hx
                cases hx; rfl
              exact same (.int _ _) (by simp [execOp, hop, resolve, invoke, builtin, Builtin.len_, ht0, hx0, run_underlying hu, hq', goInt])
            · cases h
          · exact hpure h
        · cases h
      · unfold opAppend at h
        split at h
        · rename_i s x st xt hs0 hx0 hst hxt
          have h1 := harg s (Array.mem_of_getElem? hs0)
          have h2 := harg x (Array.mem_of_getElem? hx0)
          obtain ⟨ρ', w', v', k1, k2, k3, k4⟩ := append_ok (ty := o.type) (as := args.map ev') he hst hxt (by simp [hs0]) (by simp [hx0]) h1 h2 h
          exact ⟨ρ', w', v', k1, k2, k3, .inl (by simp [execOp, hop, resolve, invoke, builtin, k4])⟩
        · cases h
      · unfold opCopy at h
        split at h
        · rename_i d x dt hd0 hx0 hdt
          have h1 := harg d (Array.mem_of_getElem? hd0)
          have h2 := harg x (Array.mem_of_getElem? hx0)
          obtain ⟨w', v', k2, k3, k4⟩ := copy_ok (ty := o.type) (as := args.map ev') he hdt (by simp [hd0]) (by simp [hx0]) h1 h2 h
          exact ⟨ρ, w', v', Ren.le_refl _, k2, k3, .inl (by simp [execOp, hop, resolve, invoke, builtin, k4])⟩
        · cases h
      · unfold opCap at h
        split at h
        · rename_i x t hx0 ht0
          simp only at hx0 ht0
          obtain ⟨hwm, rfl⟩ := withMem_spec h
          have hx := harg x (Array.mem_of_getElem? hx0)
          unfold capA at hwm
          split at hwm
          · rename_i e i off n cc hu hq
            split at hwm
            · rename_i b hb
              rw [pick2_eq] at hwm
              split at hwm
              · rename_i hfix
                cases hwm
                rw [hq] at hx
                have hlen : ∃ q', ev' x = .slice q' n cc := by
                  generalize ev' x = z at hx
                  cases hx with
                  | slice _ _ _ _ r y hr =>
                    obtain ⟨hg, hl⟩ := alive_some hb
                    obtain ⟨r', y', C, fr, s, k1, k2, k3, k4, ⟨k5, k6⟩, k7⟩ := he.blk i b hg hl
                    rw [hr] at k1; cases k1
                    have := k6 hfix
                    subst this
                    exact ⟨_, rfl⟩
                obtain ⟨q', hq'⟩ := hlen
                exact same (.int _ _) (by simp [execOp, hop, resolve, invoke, builtin, Builtin.cap_, ht0, hx0, run_underlying hu, hq', goInt])
              · cases hwm
            · cases hwm
          · rename_i e n cc hu hq
            cases hwm
            rw [hq] at hx
            have hq' : ev' x = .slice none n cc := by
              generalize ev' x = z at hx
              cases hx; rfl
            exact same (.int _ _) (by simp [execOp, hop, resolve, invoke, builtin, Builtin.cap_, ht0, hx0, run_underlying hu, hq', goInt])
          · cases hwm
        · cases h
      · unfold opSliceData at h
        split at h
        · rename_i x hx0
          obtain ⟨hwm, rfl⟩ := withMem_spec h
          have hargs : args = #[x] := by rw [← Array.toArray_toList (xs := args), hx0]
          subst hargs
          have hx := harg x (by simp)
          unfold sliceDataA at hwm
          split at hwm
          · rename_i a n cc hq
            rw [pick2_eq] at hwm
            split at hwm
            · cases hwm
            · rename_i hc0
              cases hwm
              rw [hq] at hx
              generalize hz : ev' x = z at hx
              cases hx with
              | slice i off _ _ r y hr =>
                have hc1 : cc + y ≠ 0 := by
                  have : cc ≠ 0 := fun h0 => hc0 (by rw [h0]; rfl)
                  omega
                exact same (.ptr i off r y hr) (by simp [execOp, hop, resolve, invoke, builtin, hz, Lib.run_unsafeSliceData_row w _ _ _ _ _ hc1])
          · rename_i n cc hq
            cases hwm
            rw [hq] at hx
            generalize hz : ev' x = z at hx
            cases hx
            exact same .ptrNil (by simp [execOp, hop, resolve, invoke, builtin, hz, Lib.run_unsafeSliceData_nil w])
          · cases hwm
        · cases h
      · unfold opUStr at h
        split at h
        · rename_i p n pt it hx0 ht0
          have hargs : args = #[p, n] := by rw [← Array.toArray_toList (xs := args), hx0]
          have hats : ats = #[pt, it] := by rw [← Array.toArray_toList (xs := ats), ht0]
          subst hargs hats
          obtain ⟨w', v', k1, k2, k3⟩ := ustr_ok he (harg p (by simp)) (harg n (by simp)) h it o.type
          exact ⟨ρ, w', v', Ren.le_refl _, k1, k2, .inl (by simp [execOp, hop, resolve, invoke, builtin, k3])⟩
        · cases h
      · obtain ⟨hu, rfl⟩ := withMem_spec h
        exact hpure hu
    · cases h
  case h_22 =>
    obtain ⟨hu, rfl⟩ := withMem_spec h
    exact hpure hu

end
end Go.Ev
