/- The layer's operations beside the evaluator's: those that change no memory. -/
import Derived.Test.YtcafcgiemdlobaaDoorTvE
namespace Go.Tv
open Go.Ev (Tr pick2 Leave Mem Blk alive pick2_eq alive_some semPure pureA opA addrFree withMem orElse)

/-- An operation, on both sides. -/
def OpSim (X : Cfg) (cf : Nat × Nat → Ev.CallF) (o : Oper) (ev : Operand → AV) (H : TMem) (v : AV) (H' : TMem) : Prop :=
  ∀ (S : Wo) (E : Mem) (evE : Operand → Value), Rel S H E → (∀ x ∈ o.op.operands, VR S (ev x) (evE x)) →
    ∃ S' vE E', (∃ N, ∀ n : Nat × Nat, N ≤ n.1 ∧ N ≤ n.2 → opA X.P (cf n) evE o E = some (vE, E')) ∧ S.le S' ∧ VR S' v vE ∧ Rel S' H' E' ∧ St S H E S' H' E'

section
variable {X : Cfg} {cf : Nat × Nat → Ev.CallF} {o : Oper} {ev : Operand → AV} {H : TMem} {β : Type} {r : β}

theorem OpSim.quiet {v : AV} (h : ∀ (S : Wo) (E : Mem) (evE : Operand → Value), Rel S H E → (∀ x ∈ o.op.operands, VR S (ev x) (evE x)) → ∃ vE, (∀ call, opA X.P call evE o E = some (vE, E)) ∧ VR S v vE) : OpSim X cf o ev H v H :=
  fun S E evE hr hev => let ⟨vE, h1, h2⟩ := h S E evE hr hev; ⟨S, vE, E, ⟨0, fun n _ => h1 (cf n)⟩, S.le_refl, h2, hr, St.refl _ _ _⟩

theorem pure_val {P : Program} {o : Oper} {ev : Operand → Value} {v : Value} (hs : ∀ a b, o.op ≠ .select a b) (hf : Ev.operandsFree ev o.op = true) (h : semPure P (execOp ev o) = some (.value v)) (hv : addrFree v = true) : pureA P ev o = some v := by
  unfold pureA
  split
  · rename_i a b h1; exact absurd h1 (hs a b)
  · rw [if_pos hf, h]; simp [hv]

theorem binOp_sim {op : BinOp} {t yt : TypeId} {p q : Operand} (hop : o.op = .binOp op t p q yt) {k : AV → Option β} (h : binT X op t (ev p) (ev q) k = some r) : ∃ v, k v = some r ∧ OpSim X cf o ev H v H := by
  obtain ⟨v, h1, h2⟩ := binT_sim h
  refine ⟨v, h1, .quiet fun S E evE hr hev => ?_⟩
  rw [hop] at hev
  obtain ⟨vE, _, h4⟩ := h2 S evE (fun _ _ _ => none) E o p q yt hop (hev p (by simp [Op.operands])) (hev q (by simp [Op.operands]))
  refine ⟨vE, fun call => ?_, h4⟩
  obtain ⟨vE', h5, h6⟩ := h2 S evE call E o p q yt hop (hev p (by simp [Op.operands])) (hev q (by simp [Op.operands]))
  rename_i h3
  have e1 : ∀ c1 c2, opA X.P c1 evE o E = opA X.P c2 evE o E := fun c1 c2 => by unfold opA; rw [hop]
  rw [e1 call (fun _ _ _ => none)]; exact h3

theorem un_sim {op : UnOp} {t : TypeId} {p : Operand} (hop : o.op = .unOp op t p) {k : AV → Option β} (h : unT op (ev p) k = some r) : ∃ v, k v = some r ∧ OpSim X cf o ev H v H := by
  have key : ∀ (v : AV) (vE : Value) (x : Value), (∀ S, VR S v vE) → addrFree vE = true → addrFree x = true → (∀ S y, VR S (ev p) y → y = x) → semPure X.P (Op.unary op x) = some vE → OpSim X cf o ev H v H := by
    intro v vE x hv hf hx hy hs
    refine .quiet fun S E evE hr hev => ⟨vE, fun call => ?_, hv S⟩
    rw [hop] at hev
    have e := hy S _ (hev p (by simp [Op.operands]))
    unfold opA
    rw [hop]
    show withMem E (pureA X.P evE o) = _
    rw [pure_val (v := vE) (fun a b => by rw [hop]; simp) (by rw [hop]; simp [Ev.operandsFree, Op.operands, e, hx]) ?_ hf]
    · rfl
    · unfold execOp; rw [hop]
      show semPure X.P (Op.unary op (evE p) >>= fun x => pure (Next.value x)) = _
      rw [semPure_bind, e, hs]; rfl
  unfold unT at h
  split at h
  · rename_i k0 n hp; exact ⟨_, h, key _ (.int k0 (k0.wrap (0 - n))) (.int k0 n) (fun S => .int _ _) rfl rfl (fun S y hy => by rw [hp] at hy; exact hy.int_inv) rfl⟩
  · rename_i k0 n hp; exact ⟨_, h, key _ (.int k0 _) (.int k0 n) (fun S => .int _ _) rfl rfl (fun S y hy => by rw [hp] at hy; exact hy.int_inv) rfl⟩
  · rename_i b hp; exact ⟨_, h, key _ (.bool (!b)) (.bool b) (fun S => .bool _) rfl rfl (fun S y hy => by rw [hp] at hy; exact hy.bool_inv) rfl⟩
  · cases h

theorem loadA_agg {P : Program} {E : Mem} {t : TypeId} {n : Nat} (ha : Ev.isAggA P t = some true) (hn : Ev.sizeA P t = some n) (i off : Nat) : Ev.loadA P E t (.pointer (some ⟨i, off, none⟩)) = (Ev.readCells E i off n).map fun l => .agg l.toArray := by
  simp only [Ev.loadA, ha, hn]
theorem loadA_one {P : Program} {E : Mem} {t : TypeId} {b : Blk} (ha : Ev.isAggA P t = some false) {i : Nat} (hb : alive E i = some b) (off : Nat) : Ev.loadA P E t (.pointer (some ⟨i, off, none⟩)) = Ev.known1 b.cells[off]? := by
  simp only [Ev.loadA, ha, hb]
theorem headT_nil {t : TypeId} {k : AV → Option β} : headT X t [] k = none := by
  unfold headT
  split
  · rename_i n _ _
    rw [pick2_eq]
    split
    · rename_i h; cases n <;> simp [Nat.ble_eq, Nat.beq_eq] at h
    · rfl
  · rfl
  · rfl

/-- Cells at a place, read. -/
theorem head_sim {t : TypeId} {cs : List AV} {k : AV → Option β} (h : headT X t cs k = some r) : ∃ v, k v = some r ∧
    (∀ (S : Wo) (E : Mem) (i off : Nat) (b : Blk) (mid post : List Value), alive E i = some b → off ≤ b.cells.length → b.cells.drop off = mid ++ post → LV S cs mid → ∃ vE, Ev.loadA X.P E t (.pointer (some ⟨i, off, none⟩)) = some vE ∧ VR S v vE) ∧
    (∀ (S : Wo) (L : List Value) (off : Nat), LV S cs (L.drop off) → ∃ vE, Ev.partA X.P t L.toArray off = some vE ∧ VR S v vE) := by
  unfold headT at h
  split at h
  · rename_i n ha hn
    rw [pick2_eq] at h
    split at h
    · rename_i hle
      have hle' : n ≤ cs.length := by
        simp only [Bool.and_eq_true, Nat.ble_eq] at hle; exact hle.1.1
      have hpl : (cs.take n).all plainT = true := by
        simp only [Bool.and_eq_true] at hle; exact hle.2
      refine ⟨_, h, fun S E i off b mid post hb ho hd hl => ?_, fun S L off hl => ?_⟩
      · have hlen : b.cells.length = off + (mid.length + post.length) := by
          have := congrArg List.length hd; simp at this; omega
        refine ⟨.agg (mid.take n).toArray, ?_, .agg _ _ (hl.take n).1 (hl.take n).2⟩
        rw [loadA_agg ha hn]
        unfold Ev.readCells
        rw [hb]
        have : off + n ≤ b.cells.length := by rw [hlen, ← hl.1]; omega
        have htk : (mid ++ post).take n = mid.take n := List.take_append_of_le_length (by rw [← hl.1]; exact hle')
        simp only [this, if_true, hd, htk]
        rw [(hl.take n).noJunk hpl]; rfl
      · refine ⟨.agg ((L.drop off).take n).toArray, ?_, .agg _ _ (hl.take n).1 (hl.take n).2⟩
        unfold Ev.partA
        rw [ha, hn]
        simp [List.extract_toArray, List.extract_eq_take_drop]
    · cases h
  · rename_i ha
    split at h
    · rename_i c cs'
      rw [pick2_eq] at h
      split at h
      case isFalse => cases h
      rename_i hpc
      refine ⟨_, h, fun S E i off b mid post hb ho hd hl => ?_, fun S L off hl => ?_⟩
      · obtain ⟨y, m', rfl, h1, h2⟩ := hl.cons_inv
        refine ⟨y, ?_, h1⟩
        rw [loadA_one ha hb]
        have h0 : (b.cells.drop off)[0]? = some y := by rw [hd]; rfl
        have h0 : b.cells[off]? = some y := by simpa using h0
        rw [h0]
        simp only [Ev.known1, h1.noJunk hpc]
      · obtain ⟨y, m', hm, h1, h2⟩ := hl.cons_inv
        refine ⟨y, ?_, h1⟩
        unfold Ev.partA
        rw [ha]
        have h0 : (L.drop off)[0]? = some y := by rw [hm]; rfl
        simp at h0
        cases Ev.sizeA X.P t <;> simpa using h0
    · cases h
  · cases h

theorem load_val {t : TypeId} {a : AV} {k : AV → Option β} (h : loadT X H t a k = some r) : ∃ v, k v = some r ∧ ∀ S E y, Rel S H E → VR S a y → ∃ vE, Ev.loadA X.P E t y = some vE ∧ VR S v vE := by
  unfold loadT at h
  split at h
  · rename_i id off
    split at h
    · rename_i cs hg
      obtain ⟨v, h1, h2, _⟩ := head_sim h
      refine ⟨v, h1, fun S E y hr hy => ?_⟩
      cases hy with
      | ptr _ _ i c s hρ =>
        obtain ⟨i', c', s', b, k1, k2, k3⟩ := hr.row id _ hg
        rw [hρ] at k1; cases k1
        by_cases ho : off ≤ b.cells.length
        · exact h2 S E i off b (b.cells.drop off) [] k2 ho (by simp) (k3.drop off)
        · exfalso
          have : cs.drop off = [] := List.drop_eq_nil_of_le (by rw [k3.1]; omega)
          rw [this] at h
          rw [headT_nil] at h; cases h
    · cases h
  · rename_i cs
    obtain ⟨v, h1, h2, _⟩ := head_sim h
    refine ⟨v, h1, fun S E y hr hy => ?_⟩
    cases hy with
    | fpt _ i pre mid post hF hl hc =>
      obtain ⟨b, k1, k2⟩ := hr.fz i _ hF
      exact h2 S E i pre.length b mid post k1 (by rw [k2]; simp) (by rw [k2]; simp) ⟨hl, hc⟩
  · rename_i id j fo ver cur
    split at h
    · rename_i t' e l ver' ex ro hg
      rw [pick2_eq] at h
      split at h
      · rename_i hv
        have hv' : ver = ver' := by simpa [Nat.beq_eq] using hv
        subst hv'
        obtain ⟨v, h1, h2, _⟩ := head_sim h
        refine ⟨v, h1, fun S E y hr hy => ?_⟩
        cases hy with
        | ept _ _ _ _ _ i c e' l' y' hρ hΓ hy' hc =>
          obtain ⟨g1, _, g3⟩ := hr.row id _ hg
          rw [g1] at hΓ
          cases hΓ
          rcases g3 with ⟨_, g4, _⟩ | ⟨i', cap, b, mid, post, q1, q2, q3, q4, q5, q6, q7, q8, q9, q10⟩
          · rw [hρ] at g4; cases g4
          · rw [hρ] at q1; cases q1
            obtain ⟨a, cc, bb, w1, w2, w3, w4, w5⟩ := q5.get (fun x c => CR.length e x c) hy'
            subst hc
            have hcc := CR.length e _ _ w3
            have hfl := flat_length e y'
            have hfo : fo ≤ e.size := by
              by_cases hh : fo ≤ e.size
              · exact hh
              · rw [List.drop_eq_nil_of_le (by omega), headT_nil] at h; cases h
            have hbc : b.cells = a ++ (cc ++ (bb ++ post)) := by rw [q4, w1]; simp
            refine h2 S E i (j * e.size + fo) b (cc.drop fo) (bb ++ post) q2 ?_ ?_ ((CR.flat e _ _ w3).drop fo)
            · rw [hbc]; simp; omega
            · rw [hbc, ← w2, ← List.drop_drop, List.drop_left, List.drop_append_of_le_length (by omega)]
      · cases h
    · cases h
  · cases h

theorem load_sim {t : TypeId} {p : Operand} (hop : o.op = .load t p) {k : AV → Option β} (h : loadT X H t (ev p) k = some r) : ∃ v, k v = some r ∧ OpSim X cf o ev H v H := by
  obtain ⟨v, h1, hv⟩ := load_val h
  refine ⟨v, h1, .quiet fun S E evE hr hev => ?_⟩
  rw [hop] at hev
  obtain ⟨vE, h1, h2⟩ := hv S E _ hr (hev p (by simp [Op.operands]))
  exact ⟨vE, fun call => by unfold opA; rw [hop]; show withMem E (Ev.loadA X.P E t (evE p)) = _; rw [h1]; rfl, h2⟩

theorem getI_spec {α : Type} {l : List α} {i : Int} {y : α} (h : getI l i = some y) : ∃ n : Nat, i = (n : Int) ∧ l[n]? = some y := by
  unfold getI at h
  split at h
  · rename_i n; exact ⟨n, rfl, h⟩
  · cases h

theorem orec_spec {α : Type} {m : Option α} {k : α → Option β} (h : Option.rec (motive := fun _ => Option β) none k m = some r) : ∃ y, m = some y ∧ k y = some r := by
  cases m with
  | none => cases h
  | some y => exact ⟨y, rfl, h⟩

theorem sel_spec {i : Int} {k : Nat → Option β} : ∀ (n j : Nat), selT i k n j = some r → ∃ m, j ≤ m ∧ m < j + n ∧ i = (m : Int) ∧ k m = some r
  | 0, j, h => by cases h
  | n + 1, j, h => by
    unfold selT at h
    rw [pick2_eq] at h
    split at h
    · rename_i hi; exact ⟨j, Nat.le_refl _, by omega, by rw [Ev.eqI_spec] at hi; simpa using hi, h⟩
    · obtain ⟨m, h1, h2, h3, h4⟩ := sel_spec n (j + 1) h
      exact ⟨m, by omega, by omega, h3, h4⟩

theorem idxN_of {i : Int} {n m : Nat} (hi : i = (m : Int)) (hm : m < n) : Ev.idxN i n = some m := by
  subst hi
  show pick2 (Nat.ble (Nat.succ m) n) (some m) none = some m
  rw [pick2_eq, Ev.ble_succ, if_pos (by simpa using hm)]

theorem get_lt {α : Type} {l : List α} {n : Nat} {y : α} (h : l[n]? = some y) : n < l.length := (List.getElem?_eq_some_iff.1 h).1

theorem idxA_slice {P : Program} {t te : TypeId} {s : Nat} (hu : P.underlying t = some (.slice te)) (hs : Ev.sizeA P te = some s) (b off len cap : Nat) (k : IntKind) (m : Nat) (hm : m < len) :
    Ev.idxA P t (.slice (some ⟨b, off, none⟩) len cap) (.int k (m : Int)) = some (.pointer (some ⟨b, off + m * s, none⟩)) := by
  simp only [Ev.idxA, hu, hs, idxN_of rfl hm]; rfl

theorem idxA_array {P : Program} {t te : TypeId} {s n : Nat} (hu : P.underlying t = some (.array n te)) (hs : Ev.sizeA P te = some s) (b off : Nat) (k : IntKind) (m : Nat) (hm : m < n) :
    Ev.idxA P t (.pointer (some ⟨b, off, none⟩)) (.int k (m : Int)) = some (.pointer (some ⟨b, off + m * s, none⟩)) := by
  simp only [Ev.idxA, hu, hs, idxN_of rfl hm]; rfl

theorem idx_sim {t : TypeId} {p q : Operand} (hop : o.op = .indexAddr t p q) {k : AV → Option β} (h : idxT X H t (ev p) (ev q) k = some r) : ∃ v, k v = some r ∧ OpSim X cf o ev H v H := by
  have fin : ∀ v, (∀ S E x y, Rel S H E → VR S (ev p) x → VR S (ev q) y → ∃ vE, Ev.idxA X.P t x y = some vE ∧ VR S v vE) → OpSim X cf o ev H v H := fun v hv => .quiet fun S E evE hr hev => by
    rw [hop] at hev
    obtain ⟨vE, h1, h2⟩ := hv S E _ _ hr (hev p (by simp [Op.operands])) (hev q (by simp [Op.operands]))
    exact ⟨vE, fun call => by unfold opA; rw [hop]; show withMem E (Ev.idxA X.P t (evE p) (evE q)) = _; rw [h1]; rfl, h2⟩
  unfold idxT at h
  split at h
  · rename_i te ki i hu hq
    split at h
    · rename_i s hs
      split at h
      · rename_i e l hp
        rw [pick2_eq] at h
        split at h
        · rename_i hse
          have hse' : s = e.size := by simpa [Nat.beq_eq] using hse
          obtain ⟨y, hy, h1⟩ := orec_spec h
          obtain ⟨n, rfl, hn⟩ := getI_spec hy
          refine ⟨_, h1, fin _ fun S E x z hr hx hz => ?_⟩
          rw [hp] at hx; rw [hq] at hz
          rw [hz.int_inv]
          cases hx with
          | lst _ _ _ hS =>
            rcases hS with ⟨hl, _⟩ | ⟨i0, pre, mid, post, cap, rfl, hF, hC, hcap⟩
            · subst hl; simp at hn
            · rw [idxA_slice hu hs _ _ _ _ _ _ (get_lt hn)]
              obtain ⟨a, cc, bb, w1, w2, w3, w4, w5⟩ := hC.get (fun x c => CR.length e x c) hn
              refine ⟨_, rfl, ?_⟩
              have := VR.fpt (S := S) (flat e y) i0 (pre ++ a) cc (bb ++ post) (by rw [hF, w1]; simp) (CR.flat e _ _ w3).1 (CR.flat e _ _ w3).2
              rw [List.length_append, w2, ← hse'] at this
              exact this
        · cases h
      · rename_i id n0 hp
        split at h
        · rename_i t' e l ver ex ro hg
          rw [pick2_eq] at h
          split at h
          · rename_i hse
            have hse' : s = e.size := by simpa [Nat.beq_eq] using hse
            obtain ⟨y, hy, h1⟩ := orec_spec h
            obtain ⟨n, rfl, hn⟩ := getI_spec hy
            refine ⟨_, h1, fin _ fun S E x z hr hx hz => ?_⟩
            rw [hp] at hx; rw [hq] at hz
            rw [hz.int_inv]
            obtain ⟨g1, ⟨_, g, g2, g2'⟩, g3⟩ := hr.row id _ hg
            cases hx with
            | own _ _ i0 cap0 s0 hρ g' hg' hn' =>
              rw [g2] at hg'; cases hg'
              rcases g3 with ⟨_, g5, _⟩ | ⟨i', cap, b, mid, post, q1, q2, q3, q4, q5, q6, q7, q8, q9, q10⟩
              · rw [hρ] at g5; cases g5
              · rw [hρ] at q1; cases q1
                rw [idxA_slice hu hs _ _ _ _ _ _ (by have := get_lt hn; omega)]
                refine ⟨_, rfl, ?_⟩
                have := VR.ept (S := S) id n 0 ver (flat e y) i0 cap0 e l y hρ g1 hn rfl
                rw [← hse'] at this
                simpa using this
            | ownNil _ g' hg' hn' =>
              rw [g2] at hg'; cases hg'
              have := get_lt hn; omega
          · cases h
        · cases h
      · rename_i id off len cap0 hp
        split at h
        · rename_i t' e l ver ex ro hg
          rw [pick2_eq] at h
          split at h
          · rename_i hse
            have hse' : s = e.size := by simpa [Nat.beq_eq] using hse
            obtain ⟨y, hy, h1⟩ := orec_spec h
            obtain ⟨n, rfl, hn⟩ := getI_spec hy
            refine ⟨_, h1, fin _ fun S E x z hr hx hz => ?_⟩
            rw [hp] at hx; rw [hq] at hz
            rw [hz.int_inv]
            obtain ⟨g1, _, g3⟩ := hr.row id _ hg
            rw [List.getElem?_take] at hn
            split at hn
            · rename_i hlt
              cases hx with
              | osl _ _ _ _ i0 c0 s0 hρ g' hg' hc hl =>
                rcases g3 with ⟨_, g5, _⟩ | ⟨i', cap, b, mid, post, q1, q2, q3, q4, q5, q6, q7, q8, q9, q10⟩
                · rw [hρ] at g5; cases g5
                · rw [hρ] at q1; cases q1
                  rw [idxA_slice hu hs _ _ _ _ _ _ hlt]
                  refine ⟨_, rfl, ?_⟩
                  have := VR.ept (S := S) id (off + n) 0 ver (flat e y) i0 c0 e l y hρ g1 (by simpa using hn) rfl
                  rw [← hse', Nat.add_mul] at this
                  rw [← hse']
                  simpa using this
            · cases hn
          · cases h
        · cases h
      · cases h
    · cases h
  · rename_i n te ki i hu hq
    split at h
    · rename_i s hs
      split at h
      · rename_i id off hp
        obtain ⟨m, _, hm, rfl, h1⟩ := sel_spec _ _ h
        refine ⟨_, h1, fin _ fun S E x z hr hx hz => ?_⟩
        rw [hp] at hx; rw [hq] at hz
        rw [hz.int_inv]
        cases hx with
        | ptr _ _ i0 c s0 hρ =>
          rw [idxA_array hu hs _ _ _ _ (by omega)]
          exact ⟨_, rfl, .ptr _ _ _ _ _ hρ⟩
      · rename_i cs hp
        obtain ⟨m, _, hm, rfl, h1⟩ := sel_spec _ _ h
        rw [pick2_eq] at h1
        split at h1
        · rename_i hle
          have hle' : m * s ≤ cs.length := by simpa [Nat.ble_eq] using hle
          refine ⟨_, h1, fin _ fun S E x z hr hx hz => ?_⟩
          rw [hp] at hx; rw [hq] at hz
          rw [hz.int_inv]
          cases hx with
          | fpt _ i0 pre mid post hF hl hc =>
            rw [idxA_array hu hs _ _ _ _ (by omega)]
            refine ⟨_, rfl, ?_⟩
            have hd := LV.drop (S := S) ⟨hl, hc⟩ (m * s)
            have := VR.fpt (S := S) (cs.drop (m * s)) i0 (pre ++ mid.take (m * s)) (mid.drop (m * s)) post (by rw [hF, List.append_assoc, ← List.append_assoc (mid.take (m * s)), List.take_append_drop]) hd.1 hd.2
            rw [List.length_append, List.length_take, Nat.min_eq_left (by omega)] at this
            exact this
        · cases h1
      · rename_i id n' hp
        split at h
        · rename_i t' e l ver ex ro hg
          rw [pick2_eq] at h
          split at h
          · rename_i hse
            simp only [Bool.and_eq_true, Nat.beq_eq] at hse
            obtain ⟨hse', rfl⟩ := hse
            obtain ⟨y, hy, h1⟩ := orec_spec h
            obtain ⟨m, rfl, hn⟩ := getI_spec hy
            refine ⟨_, h1, fin _ fun S E x z hr hx hz => ?_⟩
            rw [hp] at hx; rw [hq] at hz
            rw [hz.int_inv]
            obtain ⟨g1, ⟨_, g, g2, g2'⟩, g3⟩ := hr.row id _ hg
            cases hx with
            | apt _ _ i0 cap0 s0 hρ g' hg' hn' =>
              rw [g2] at hg'; cases hg'
              rcases g3 with ⟨_, g5, _⟩ | ⟨i', cap, b, mid, post, q1, q2, q3, q4, q5, q6, q7, q8, q9, q10⟩
              · rw [hρ] at g5; cases g5
              · rw [hρ] at q1; cases q1
                rw [idxA_array hu hs _ _ _ _ (by have := get_lt hn; omega)]
                refine ⟨_, rfl, ?_⟩
                have := VR.ept (S := S) id m 0 ver (flat e y) i0 cap0 e l y hρ g1 hn rfl
                rw [← hse'] at this
                simpa using this
          · cases h
        · cases h
      · cases h
    · cases h
  · cases h

theorem field_sim {s : TypeId} {p : Operand} {f : Nat} (hop : o.op = .fieldAddr s p f) {k : AV → Option β} (h : fieldT X s (ev p) f k = some r) : ∃ v, k v = some r ∧ OpSim X cf o ev H v H := by
  have fin : ∀ v, (∀ S x, VR S (ev p) x → ∃ vE, Ev.fieldA X.P s x f = some vE ∧ VR S v vE) → OpSim X cf o ev H v H := fun v hv => .quiet fun S E evE hr hev => by
    rw [hop] at hev
    obtain ⟨vE, h1, h2⟩ := hv S _ (hev p (by simp [Op.operands]))
    exact ⟨vE, fun call => by unfold opA; rw [hop]; show withMem E (Ev.fieldA X.P s (evE p) f) = _; rw [h1]; rfl, h2⟩
  unfold fieldT at h
  split at h
  · rename_i fs hu
    split at h
    · rename_i fd hfd
      split at h
      · rename_i n hn
        rw [pick2_eq] at h
        split at h
        · cases h
        · rename_i hz
          have hz' : ¬ n = 0 := by simpa [Nat.beq_eq] using hz
          have hA : ∀ b off, Ev.fieldA X.P s (.pointer (some ⟨b, off, none⟩)) f = some (.pointer (some ⟨b, off + fd.offset, none⟩)) := fun b off => by
            simp only [Ev.fieldA, hu, hfd, hn, if_neg hz']
          split at h
          · rename_i id off hp
            refine ⟨_, h, fin _ fun S x hx => ?_⟩
            rw [hp] at hx
            cases hx with
            | ptr _ _ i c s0 hρ => rw [hA]; exact ⟨_, rfl, .ptr _ _ _ _ _ hρ⟩
          · rename_i cs hp
            rw [pick2_eq] at h
            split at h
            · rename_i hle
              have hle' : fd.offset ≤ cs.length := by simpa [Nat.ble_eq] using hle
              refine ⟨_, h, fin _ fun S x hx => ?_⟩
              rw [hp] at hx
              cases hx with
              | fpt _ i0 pre mid post hF hl hc =>
                rw [hA]
                refine ⟨_, rfl, ?_⟩
                have hd := LV.drop (S := S) ⟨hl, hc⟩ fd.offset
                have := VR.fpt (S := S) (cs.drop fd.offset) i0 (pre ++ mid.take fd.offset) (mid.drop fd.offset) post (by rw [hF, List.append_assoc, ← List.append_assoc (mid.take fd.offset), List.take_append_drop]) hd.1 hd.2
                rw [List.length_append, List.length_take, Nat.min_eq_left (by omega)] at this
                exact this
            · cases h
          · rename_i id j fo ver cur hp
            refine ⟨_, h, fin _ fun S x hx => ?_⟩
            rw [hp] at hx
            cases hx with
            | ept _ _ _ _ _ i c e l y hρ hΓ hy hc =>
              rw [hA]
              refine ⟨_, rfl, ?_⟩
              have := VR.ept (S := S) id j (fo + fd.offset) ver cur i c e l y hρ hΓ hy hc
              rw [← Nat.add_assoc] at this
              exact this
          · cases h
      · cases h
    · cases h
  · cases h

theorem fieldV_sim {t : TypeId} {p : Operand} {f : Nat} {fs : Array Field} {cs : List AV} {fd : Field} (hop : o.op = .field t p f) (hu : X.P.underlying t = some (.struct fs)) (hp : ev p = .agg cs) (hfd : fs[f]? = some fd) {k : AV → Option β}
    (h : headT X fd.type (cs.drop fd.offset) k = some r) : ∃ v, k v = some r ∧ OpSim X cf o ev H v H := by
  obtain ⟨v, h1, _, h2⟩ := head_sim h
  refine ⟨v, h1, .quiet fun S E evE hr hev => ?_⟩
  rw [hop] at hev
  have hx := hev p (by simp [Op.operands])
  rw [hp] at hx
  generalize hA : evE p = A at hx
  cases hx with
  | agg _ L hl hv =>
    obtain ⟨vE, h3, h4⟩ := h2 S L fd.offset (LV.drop ⟨hl, hv⟩ _)
    refine ⟨vE, fun call => ?_, h4⟩
    unfold opA; rw [hop]
    show withMem E (Ev.fieldVA X.P t (evE p) f) = _
    rw [hA]
    simp only [Ev.fieldVA, hu, hfd, h3]
    rfl

theorem index_sim {t : TypeId} {p q : Operand} (hop : o.op = .index t p q) {k : AV → TMem → Option β}
    (h : (match X.P.underlying t, ev p, ev q with
    | some .string, .str s, .int _ i => Option.rec (motive := fun _ => Option β) none (fun c => k (.int .u8 (u8I c)) H) (getI s i)
    | some (.array n te), .agg cs, .int _ i => match Ev.sizeA X.P te with
      | some s => selT i (fun j => headT X te (cs.drop (Nat.mul j s)) fun v => k v H) n 0
      | none => none
    | _, _, _ => none) = some r) : ∃ v, k v H = some r ∧ OpSim X cf o ev H v H := by
  split at h
  · rename_i s ki i hu hp hq
    obtain ⟨c, hc, h1⟩ := orec_spec h
    obtain ⟨n, rfl, hn⟩ := getI_spec hc
    refine ⟨_, h1, .quiet fun S E evE hr hev => ⟨.int .u8 (u8I c), fun call => ?_, .int _ _⟩⟩
    rw [hop] at hev
    have hx := hev p (by simp [Op.operands])
    have hy := hev q (by simp [Op.operands])
    rw [hp] at hx; rw [hq] at hy
    unfold opA; rw [hop]
    show withMem E (orElse (Ev.indexStr X.P t (evE p) (evE q)) _) = _
    rw [hx.str_inv, hy.int_inv]
    have e : Ev.indexStr X.P t (.string ⟨s.toArray⟩) (.int ki (n : Int)) = some (.int .u8 (u8I c)) := by
      show (match X.P.underlying t, Value.string ⟨s.toArray⟩, Value.int ki (Int.ofNat n) with
        | some .string, .string s, .int _ (.ofNat i) => match s.data.toList[i]? with
          | some b => some (Value.int .u8 (.ofNat b.toNat))
          | none => none
        | _, _, _ => none) = _
      rw [hu]
      simp [hn, u8I]
    rw [e]; rfl
  · rename_i n te cs ki i hu hp hq
    split at h
    · rename_i s hs
      obtain ⟨m, _, hm, rfl, h1⟩ := sel_spec _ _ h
      obtain ⟨v, h2, _, h3⟩ := head_sim h1
      refine ⟨v, h2, .quiet fun S E evE hr hev => ?_⟩
      rw [hop] at hev
      have hx := hev p (by simp [Op.operands])
      have hy := hev q (by simp [Op.operands])
      rw [hp] at hx; rw [hq] at hy
      generalize hA : evE p = A at hx
      cases hx with
      | agg _ L hl hv =>
        obtain ⟨vE, h4, h5⟩ := h3 S L (m * s) (LV.drop ⟨hl, hv⟩ _)
        refine ⟨vE, fun call => ?_, h5⟩
        unfold opA; rw [hop]
        show withMem E (orElse (Ev.indexStr X.P t (evE p) (evE q)) (orElse (Ev.indexVA X.P t (evE p) (evE q)) _)) = _
        rw [hA, hy.int_inv]
        have e1 : Ev.indexStr X.P t (.agg L.toArray) (.int ki (m : Int)) = none := by simp only [Ev.indexStr, hu]
        have e2 : Ev.indexVA X.P t (.agg L.toArray) (.int ki (m : Int)) = some vE := by
          simp only [Ev.indexVA, hu, hs, idxN_of rfl (show m < n by omega)]
          exact h4
        rw [e1, e2]; rfl
    · cases h
  · cases h

theorem len_sim {c : Call} {x : Operand} {t : TypeId} (hop : o.op = .call c) (hc : c.callee = .builtin .len) (h0 : c.args[0]? = some x) (h1 : c.argTypes[0]? = some t) {k : AV → Option β} (h : lenT X t (ev x) k = some r) : ∃ v, k v = some r ∧ OpSim X cf o ev H v H := by
  have fin : ∀ n : Nat, (∀ S y, VR S (ev x) y → Ev.lenOfA X.P t y = some (goInt n)) → OpSim X cf o ev H (.int .i64 n) H := fun n hn => .quiet fun S E evE hr hev => by
    refine ⟨goInt n, fun call => ?_, .int _ _⟩
    rw [hop] at hev
    have hx := hev x (by
      have := Array.mem_of_getElem? h0
      simp only [Op.operands, Call.operands, hc]
      simpa using this)
    unfold opA; rw [hop]
    show Ev.opCalls X.P call evE o c E = _
    unfold Ev.opCalls
    rw [hc]
    show Ev.opLen X.P evE o c.args c.argTypes E = _
    unfold Ev.opLen
    rw [h0, h1]
    simp only [hn S _ hx]
    rfl
  unfold lenT at h
  split at h
  · rename_i hu hp
    refine ⟨_, h, fin _ fun S y hy => ?_⟩
    rw [hp] at hy
    cases hy with
    | lst _ _ _ hS =>
      rcases hS with ⟨rfl, rfl⟩ | ⟨i0, pre, mid, post, cap, rfl, _⟩
      · simp only [Ev.lenOfA, hu]; rfl
      · simp only [Ev.lenOfA, hu]
  · rename_i hu hp
    refine ⟨_, h, fin 0 fun S y hy => ?_⟩
    rw [hp] at hy
    cases hy; simp only [Ev.lenOfA, hu]
  · rename_i hu hp
    refine ⟨_, h, fin _ fun S y hy => ?_⟩
    rw [hp] at hy
    cases hy <;> simp only [Ev.lenOfA, hu]
  · rename_i hu hp
    refine ⟨_, h, fin _ fun S y hy => ?_⟩
    rw [hp] at hy
    cases hy; simp only [Ev.lenOfA, hu]
  · rename_i s hu hp
    refine ⟨_, h, fin _ fun S y hy => ?_⟩
    rw [hp] at hy
    rw [hy.str_inv]
    simp [Ev.lenOfA, hu, ByteArray.size]
  · cases h

end
end Go.Tv
