/- Structs held by ==; operations of one operand; conversions of numbers; bytes and parts of texts. -/
import Derived.Test.YtcafcgiemdlobaaDoorTvO
namespace Go.Tv
open Go.Ev (Tr pick2 Leave Mem Blk alive pick2_eq alive_some semPure pureA opA addrFree withMem orElse)

section
variable {P : Program}

theorem eqKs_cons {k : Nat} {ks : List Nat} {l m : List AV} {b : Bool} (h : eqKs (k :: ks) l m = some b) : ∃ x l' y m' a c, l = x :: l' ∧ m = y :: m' ∧ eqK k x y = some a ∧ eqKs ks l' m' = some c ∧ b = (a && c) := by
  cases l with
  | nil => cases m <;> simp [eqKs] at h
  | cons x l =>
    cases m with
    | nil => simp [eqKs] at h
    | cons y m =>
      unfold eqKs at h
      split at h
      · rename_i a ha
        split at h
        · split at h
          · cases h; exact ⟨x, [], y, [], b, true, rfl, rfl, ha, rfl, by simp⟩
          · cases h
        · split at h
          · rename_i c hc; cases h; exact ⟨x, l, y, m, a, c, rfl, rfl, ha, hc, rfl⟩
          · cases h
      · cases h

theorem eqKs_append : ∀ {ks ls : List Nat} {l m : List AV} {b : Bool}, eqKs (ks ++ ls) l m = some b → ∃ b1 b2, eqKs ks (l.take ks.length) (m.take ks.length) = some b1 ∧ eqKs ls (l.drop ks.length) (m.drop ks.length) = some b2 ∧ b = (b1 && b2)
  | [], ls, l, m, b, h => ⟨true, b, by simp [eqKs], by simpa using h, by simp⟩
  | k :: ks, ls, l, m, b, h => by
    obtain ⟨x, l', y, m', a, c, rfl, rfl, h1, h2, rfl⟩ := eqKs_cons (ks := ks ++ ls) h
    obtain ⟨b1, b2, e1, e2, rfl⟩ := eqKs_append h2
    refine ⟨a && b1, b2, ?_, by simpa using e2, by simp [Bool.and_assoc]⟩
    simp only [List.length_cons, List.take_succ_cons]
    unfold eqKs
    rw [h1]
    cases ks with
    | nil =>
      have : b1 = true := by simpa [eqKs] using e1.symm
      subst this; simp
    | cons k' ks' => simp only at e1 ⊢; rw [e1]

theorem eqKs_length : ∀ {ks : List Nat} {l m : List AV} {b : Bool}, eqKs ks l m = some b → l.length = ks.length ∧ m.length = ks.length
  | [], l, m, b, h => by cases l <;> cases m <;> simp [eqKs] at h ⊢
  | k :: ks, l, m, b, h => by
    obtain ⟨x, l', y, m', a, c, rfl, rfl, _, h2, _⟩ := eqKs_cons h
    obtain ⟨e1, e2⟩ := eqKs_length h2
    simp [e1, e2]

theorem one_of {S : Wo} {l : List AV} {L : List Value} (h : LV S l L) (h1 : l.length = 1) : ∃ x y, l = [x] ∧ L = [y] ∧ VR S x y := by
  match l, h1 with
  | [x], _ =>
    obtain ⟨y, m, rfl, h2, h3⟩ := h.cons_inv
    rw [h3.nil_inv]
    exact ⟨x, y, rfl, rfl, h2⟩

def isStr (P : Program) (t : TypeId) : Prop := ∃ fs, P.underlying t = some (.struct fs)

theorem part_agg {f : TypeId} {fs : Array Field} {n : Nat} (hu : P.underlying f = some (.struct fs)) (hn : Ev.sizeA P f = some n) (cs : Array Value) (off : Nat) : semPure P (part f cs off) = some (.agg (cs.extract off (off + n))) := by
  unfold part
  have h1 : semPure P (isAgg f) = some true := by
    unfold isAgg; rw [semPure_bind, semPure_underlying hu]; rfl
  have h2 : semPure P (sizeOf f) = some n := by
    unfold Ev.sizeA at hn
    cases hi : P.info? f with
    | none => rw [hi] at hn; cases hn
    | some i =>
      rw [hi] at hn; simp at hn; subst hn
      unfold sizeOf typeInfo
      rw [semPure_bind, semPure_program]
      simp only [hi]
      rfl
  rw [semPure_bind, h1]
  simp only [Option.bind_some, if_true]
  rw [semPure_bind, h2]; rfl

theorem part_one {f : TypeId} {d : TypeDesc} (hu : P.underlying f = some d) (h1 : ∀ fs, d ≠ .struct fs) (h2 : ∀ n e, d ≠ .array n e) (cs : Array Value) (off : Nat) {v : Value} (hv : cs[off]? = some v) : semPure P (part f cs off) = some v := by
  unfold part
  have h3 : semPure P (isAgg f) = some false := by
    unfold isAgg; rw [semPure_bind, semPure_underlying hu]
    cases d <;> first | rfl | exact absurd rfl (h1 _) | exact absurd rfl (h2 _ _)
  rw [semPure_bind, h3]
  simp only [Option.bind_some, Bool.false_eq_true, if_false, hv]
  rfl

theorem eqT_sem (S : Wo) : ∀ d, (∀ t ks, kindsT P d t = some ks → ∀ D, d ≤ D → ∀ l m b L M, eqKs ks l m = some b → LV S l L → LV S m M →
      (isStr P t ∧ semPure P (Op.equalIn D t (.agg L.toArray) (.agg M.toArray)) = some b) ∨
      (∃ u, P.underlying t = some u ∧ (∀ fs, u ≠ .struct fs) ∧ (∀ n e, u ≠ .array n e) ∧ ∃ x y, L = [x] ∧ M = [y] ∧ semPure P (Op.equalIn D t x y) = some b)) ∧
    (∀ off fs ks, kindsT.kindsF P d off fs = some ks → ∀ D, d ≤ D → ∀ l m b L M, eqKs ks (l.drop off) (m.drop off) = some b → LV S l L → LV S m M → semPure P (Op.eqFields D L.toArray M.toArray fs) = some b)
  | 0 => ⟨fun t ks h => by simp [kindsT] at h, fun off fs ks h => by simp [kindsT.kindsF] at h⟩
  | d + 1 => by
    obtain ⟨ih1, ih2⟩ := eqT_sem S d
    refine ⟨fun t ks h D hD l m b L M he hl hm => ?_, fun off fs ks h D hD l m b L M he hl hm => ?_⟩
    · obtain ⟨D', rfl⟩ : ∃ D', D = D' + 1 := ⟨D - 1, by omega⟩
      unfold kindsT at h
      have scal : ∀ k, ks = [k] → ∃ x y x' y' , l = [x] ∧ m = [y] ∧ L = [x'] ∧ M = [y'] ∧ VR S x x' ∧ VR S y y' ∧ eqK k x y = some b := fun k hk => by
        subst hk
        obtain ⟨e1, e2⟩ := eqKs_length he
        obtain ⟨x, x', rfl, rfl, h1⟩ := one_of hl (by simpa using e1)
        obtain ⟨y, y', rfl, rfl, h2⟩ := one_of hm (by simpa using e2)
        obtain ⟨_, _, _, _, a, c, r1, r2, h3, h4, rfl⟩ := eqKs_cons he
        cases r1; cases r2
        have : c = true := by simpa [eqKs] using h4.symm
        subst this
        exact ⟨x, y, x', y', rfl, rfl, rfl, rfl, h1, h2, by simpa using h3⟩
      split at h
      · rename_i k0 hu
        cases h
        obtain ⟨x, y, x', y', rfl, rfl, rfl, rfl, h1, h2, h3⟩ := scal 0 rfl
        refine .inr ⟨_, hu, fun fs => by simp, fun n e => by simp, x', y', rfl, rfl, ?_⟩
        unfold eqK at h3
        split at h3 <;> try (cases h3; done)
        · split at h3
          · rename_i hk; subst hk; cases h3; cases h1; cases h2
            exact equal_int hu _ _ _ _
          · cases h3
        · rename_i hh; cases hh
        · rename_i hh; cases hh
      · rename_i hu
        cases h
        obtain ⟨x, y, x', y', rfl, rfl, rfl, rfl, h1, h2, h3⟩ := scal 1 rfl
        refine .inr ⟨_, hu, fun fs => by simp, fun n e => by simp, x', y', rfl, rfl, ?_⟩
        unfold eqK at h3
        split at h3 <;> try (cases h3; done)
        · rename_i hh; cases hh
        · cases h3; cases h1; cases h2
          exact equal_bool hu _ _ _
        · rename_i hh; cases hh
      · rename_i hu
        cases h
        obtain ⟨x, y, x', y', rfl, rfl, rfl, rfl, h1, h2, h3⟩ := scal 2 rfl
        refine .inr ⟨_, hu, fun fs => by simp, fun n e => by simp, x', y', rfl, rfl, ?_⟩
        unfold eqK at h3
        split at h3 <;> try (cases h3; done)
        · rename_i hh; cases hh
        · rename_i hh; cases hh
        · cases h3; cases h1; cases h2
          exact equal_str hu _ _ _
      · rename_i fs hu
        rw [pick2_eq] at h
        split at h
        · cases h
        · rename_i hsi
          refine .inl ⟨⟨fs, hu⟩, ?_⟩
          rw [equal_struct hu (by simpa using hsi)]
          exact ih2 0 fs.toList ks h D' (by omega) l m b L M (by simpa using he) hl hm
      · cases h
    · cases fs with
      | nil =>
        simp only [kindsT.kindsF, Option.some.injEq] at h
        subst h
        have hb : b = true := by
          cases h1 : l.drop off <;> cases h2 : m.drop off <;> rw [h1, h2] at he <;> simp [eqKs] at he
          exact he
        subst hb; rfl
      | cons f fs =>
        simp only [kindsT.kindsF] at h
        split at h
        · rename_i k1 n hk1 hn
          rw [pick2_eq] at h
          split at h
          · rename_i hc
            simp only [Bool.and_eq_true, decide_eq_true_eq, Nat.beq_eq] at hc
            obtain ⟨⟨hnm, ho⟩, hkl⟩ := hc
            split at h
            · rename_i ls hls
              cases h
              subst ho
              obtain ⟨b1, b2, e1, e2, rfl⟩ := eqKs_append he
              rw [hkl] at e1 e2
              have g2 := ih2 (f.offset + n) fs ls hls D (by omega) l m b2 L M (by rw [List.drop_drop] at e2; rw [List.drop_drop] at e2; exact e2) hl hm
              have g1 := ih1 f.type k1 hk1 D (by omega) _ _ b1 _ _ e1 ((hl.drop f.offset).take n) ((hm.drop f.offset).take n)
              simp only [Op.eqFields]
              rw [if_pos hnm]
              have fin : ∀ a c, semPure P (part f.type L.toArray f.offset) = some a → semPure P (part f.type M.toArray f.offset) = some c → semPure P (Op.equalIn D f.type a c) = some b1 →
                  semPure P (do let a ← part f.type L.toArray f.offset; let b ← part f.type M.toArray f.offset; let r ← Op.equalIn D f.type a b; if (!r) = true then pure false else Op.eqFields D L.toArray M.toArray fs : Sem Bool) = some (b1 && b2) := fun a c h1 h2 h3 => by
                rw [semPure_bind, h1]; simp only [Option.bind_some]
                rw [semPure_bind, h2]; simp only [Option.bind_some]
                rw [semPure_bind, h3]; simp only [Option.bind_some]
                cases b1
                · rfl
                · simp only [Bool.not_true, Bool.false_eq_true, if_false, Bool.true_and]; exact g2
              rcases g1 with ⟨⟨fs', hu⟩, g1⟩ | ⟨u, hu, hu1, hu2, x, y, hx, hy, g1⟩
              · refine fin _ _ (part_agg hu hn _ _) (part_agg hu hn _ _) ?_
                have ex : ∀ L : List Value, L.toArray.extract f.offset (f.offset + n) = ((L.drop f.offset).take n).toArray := fun L => by
                  simp [List.extract_toArray, List.extract_eq_take_drop]
                rw [ex, ex]; exact g1
              · have ga : ∀ (L : List Value) x, (L.drop f.offset).take n = [x] → L.toArray[f.offset]? = some x := fun L x h => by
                  have h0 : ((L.drop f.offset).take n)[0]? = some x := by rw [h]; rfl
                  rw [List.getElem?_take] at h0
                  split at h0
                  · simpa using h0
                  · cases h0
                exact fin x y (part_one hu hu1 hu2 _ _ (ga L x hx)) (part_one hu hu1 hu2 _ _ (ga M y hy)) g1
            · cases h
          · cases h
        · cases h

/-- Cells that are held by == lead to no memory. -/
theorem eqKs_free {S : Wo} : ∀ {ks : List Nat} {l m : List AV} {b : Bool} {L M : List Value}, eqKs ks l m = some b → LV S l L → LV S m M → Ev.addrFreeL L = true ∧ Ev.addrFreeL M = true
  | [], l, m, b, L, M, h, hl, hm => by
    obtain ⟨e1, e2⟩ := eqKs_length h
    have h1 : L = [] := List.length_eq_zero_iff.1 (by rw [← hl.1]; simpa using e1)
    have h2 : M = [] := List.length_eq_zero_iff.1 (by rw [← hm.1]; simpa using e2)
    subst h1; subst h2; exact ⟨rfl, rfl⟩
  | k :: ks, l, m, b, L, M, h, hl, hm => by
    obtain ⟨x, l', y, m', a, c, rfl, rfl, h1, h2, _⟩ := eqKs_cons h
    obtain ⟨x', L', rfl, v1, hl'⟩ := hl.cons_inv
    obtain ⟨y', M', rfl, v2, hm'⟩ := hm.cons_inv
    obtain ⟨f1, f2⟩ := eqKs_free h2 hl' hm'
    have : addrFree x' = true ∧ addrFree y' = true := by
      unfold eqK at h1
      split at h1
      · cases v1; cases v2; exact ⟨rfl, rfl⟩
      · cases v1; cases v2; exact ⟨rfl, rfl⟩
      · cases v1; cases v2; exact ⟨rfl, rfl⟩
      · cases h1
    exact ⟨by simp [Ev.addrFreeL, this.1, f1], by simp [Ev.addrFreeL, this.2, f2]⟩

theorem guard_agg {op : BinOp} {t : TypeId} (p q : Operand) (xs ys : Array Value) (hm : P.eqGuardType P.depth t = false) : semPure P (eqGuard op t p q (.agg xs) (.agg ys)) = some () := by
  unfold eqGuard
  cases op <;> first
    | rfl
    | (show semPure P (program >>= fun P1 => program >>= fun P2 => if (!P1.eqGuardType P2.depth t) = true then pure () else _) = _
       rw [semPure_program, semPure_program, hm]; rfl)

theorem binT_sim {X : Cfg} {β : Type} {op : BinOp} {t : TypeId} {x y : AV} {c : AV → Option β} {r : β} (h : binT X op t x y c = some r) :
    ∃ v, c v = some r ∧ ∀ (S : Wo) (evE : Operand → Value) (call : Ev.CallF) (E : Mem) (o : Oper) (p q : Operand) (yt : TypeId), o.op = .binOp op t p q yt → VR S x (evE p) → VR S y (evE q) →
      ∃ vE, opA X.P call evE o E = some (vE, E) ∧ VR S v vE := by
  unfold binT at h
  split at h
  · rename_i k a k' b
    obtain ⟨v, vE, h1, h2, h3, h4⟩ := intT_spec h
    refine ⟨v, h1, fun S evE call E o p q yt hop hx hy => ⟨vE, ?_, h4 S⟩⟩
    have ex : evE p = .int k a := hx.int_inv
    have ey : evE q = .int k' b := hy.int_inv
    refine bin_pure hop (by rw [ex]; rfl) (by rw [ey]; rfl) h3 (fun u hu => ?_) (by rw [ex, ey]; exact intV_sem h2 t p q)
    rw [ex, ey] at hu
    unfold Ev.nilA at hu
    split at hu <;> first | (cases hu; done) | (rename_i h1 h2; cases h1)
  · rename_i a b
    obtain ⟨v, vE, h1, h2, h3, h4⟩ := strT_spec h
    refine ⟨v, h1, fun S evE call E o p q yt hop hx hy => ⟨vE, ?_, h4 S⟩⟩
    have ex : evE p = .string ⟨a.toArray⟩ := hx.str_inv
    have ey : evE q = .string ⟨b.toArray⟩ := hy.str_inv
    refine bin_pure hop (by rw [ex]; rfl) (by rw [ey]; rfl) h3 (fun u hu => ?_) (by rw [ex, ey]; exact strV_sem h2 t p q)
    rw [ex, ey] at hu
    unfold Ev.nilA at hu
    split at hu <;> first | (cases hu; done) | (rename_i h1 h2; cases h1)
  · rename_i a b
    have key : ∀ (op : BinOp) (w : Bool), (op = .eql ∧ w = (a == b)) ∨ (op = .neq ∧ w = !(a == b)) → X.P.underlying t = some .bool → ∀ (S : Wo) (evE : Operand → Value) (call : Ev.CallF) (E : Mem) (o : Oper) (p q : Operand) (yt : TypeId), o.op = .binOp op t p q yt → VR S (.bool a) (evE p) → VR S (.bool b) (evE q) →
        ∃ vE, opA X.P call evE o E = some (vE, E) ∧ VR S (.bool w) vE := by
      intro op w hw hu S evE call E o p q yt hop hx hy
      have ex : evE p = .bool a := hx.bool_inv
      have ey : evE q = .bool b := hy.bool_inv
      refine ⟨.bool w, bin_pure hop (by rw [ex]; rfl) (by rw [ey]; rfl) rfl (fun u hv => ?_) ?_, .bool w⟩
      · rw [ex, ey] at hv
        unfold Ev.nilA at hv
        rw [hu] at hv
        rcases hw with ⟨rfl, rfl⟩ | ⟨rfl, rfl⟩
        · simp only [Option.some.injEq] at hv; subst hv; cases a <;> cases b <;> rfl
        · simp only [Option.some.injEq] at hv; subst hv; cases a <;> cases b <;> rfl
      · rw [ex, ey, semPure_bind, guard_bool]
        rcases hw with ⟨rfl, rfl⟩ | ⟨rfl, rfl⟩
        · show semPure X.P (Op.equalIn (9999 + 1) t (.bool a) (.bool b) >>= fun b => pure (Value.bool b)) = _
          rw [semPure_bind, equal_bool hu]; rfl
        · show semPure X.P (Op.equalIn (9999 + 1) t (.bool a) (.bool b) >>= fun b => pure (Value.bool (!b))) = _
          rw [semPure_bind, equal_bool hu]; rfl
    split at h
    · rename_i hu; exact ⟨_, h, key _ _ (.inl ⟨rfl, rfl⟩) hu⟩
    · rename_i hu; exact ⟨_, h, key _ _ (.inr ⟨rfl, rfl⟩) hu⟩
    · cases h
  · rename_i l m
    rw [pick2_eq] at h
    split at h
    · cases h
    · rename_i hg
      have hg' : X.P.eqGuardType X.P.depth t = false := by simpa using hg
      split at h
      · rename_i fs0 ks hu0 hks
        have key : ∀ (op : BinOp) (b w : Bool), eqKs ks l m = some b → (op = .eql ∧ w = b) ∨ (op = .neq ∧ w = !b) → ∀ (S : Wo) (evE : Operand → Value) (call : Ev.CallF) (E : Mem) (o : Oper) (p q : Operand) (yt : TypeId), o.op = .binOp op t p q yt → VR S (.agg l) (evE p) → VR S (.agg m) (evE q) →
            ∃ vE, opA X.P call evE o E = some (vE, E) ∧ VR S (.bool w) vE := by
          intro op b w hb hw S evE call E o p q yt hop hx hy
          generalize hA : evE p = A at hx
          generalize hB : evE q = B at hy
          cases hx with
          | agg _ L hl hv =>
            cases hy with
            | agg _ M hl' hv' =>
              obtain ⟨f1, f2⟩ := eqKs_free hb ⟨hl, hv⟩ ⟨hl', hv'⟩
              have heq : semPure X.P (Op.equalIn 10000 t (.agg L.toArray) (.agg M.toArray)) = some b := by
                rcases (eqT_sem (P := X.P) S 40).1 t ks hks 10000 (by omega) l m b L M hb ⟨hl, hv⟩ ⟨hl', hv'⟩ with ⟨_, h1⟩ | ⟨u, hu, hu1, hu2, x, y, rfl, rfl, h1⟩
                · exact h1
                · rw [hu0] at hu; cases hu; exact absurd rfl (hu1 _)
              refine ⟨.bool w, bin_pure hop (by rw [hA]; exact f1) (by rw [hB]; exact f2) rfl (fun u hv => ?_) ?_, .bool w⟩
              · rw [hA, hB] at hv
                unfold Ev.nilA at hv
                split at hv <;> first | (cases hv; done) | (rename_i h1 h2; cases h1)
              · rw [hA, hB, semPure_bind, guard_agg _ _ _ _ hg']
                rcases hw with ⟨rfl, rfl⟩ | ⟨rfl, rfl⟩
                · show semPure X.P (Op.equalIn 10000 t (.agg L.toArray) (.agg M.toArray) >>= fun b => pure (Value.bool b)) = _
                  rw [semPure_bind, heq]; rfl
                · show semPure X.P (Op.equalIn 10000 t (.agg L.toArray) (.agg M.toArray) >>= fun b => pure (Value.bool (!b))) = _
                  rw [semPure_bind, heq]; rfl
        split at h
        · rename_i b hb; exact ⟨_, h, key _ _ _ hb (.inl ⟨rfl, rfl⟩)⟩
        · rename_i b hb; exact ⟨_, h, key _ _ _ hb (.inr ⟨rfl, rfl⟩)⟩
        · cases h
      · cases h
  · cases h

end
end Go.Tv
