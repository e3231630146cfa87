/- Contracts that are shown by runs alone: what a run leaves, told by a reckoning. -/
import Derived.Test.YtcafcgiemdlobaaDoorTvG
namespace Go.Tv
open Go.Ev (pick2 pick2_eq eqI eqI_spec ltI ltI_spec)
noncomputable section

def eqK1 : IntKind → IntKind → Bool
  | .i64, .i64 => true
  | .u8, .u8 => true
  | .i32, .i32 => true
  | .u64, .u64 => true
  | .u32, .u32 => true
  | .u16, .u16 => true
  | _, _ => false

def eqBs : List UInt8 → List UInt8 → Bool
  | [], [] => true
  | a :: l, b :: m => pick2 (Nat.beq a.toNat b.toNat) (eqBs l m) false
  | _, _ => false

def eqOne : AV → AV → Bool
  | .int k a, .int k' b => pick2 (eqK1 k k') (eqI a b) false
  | .bool a, .bool b => pick2 a b (!b)
  | .str a, .str b => eqBs a b
  | .flt a, .flt b => Nat.beq a b
  | .nils, .nils => true
  | .nilp, .nilp => true
  | _, _ => false

def eqAll : List AV → List AV → Bool
  | [], [] => true
  | a :: l, b :: m => pick2 (eqOne a b) (eqAll l m) false
  | _, _ => false

def eqAV : AV → AV → Bool
  | .agg l, .agg m => eqAll l m
  | a, b => eqOne a b

def eqDen : (e : Ty) → e.den → e.den → Bool
  | .int _, a, b => eqI a b
  | .bool, a, b => pick2 a b (!b)
  | .str, a, b => eqBs a b
  | .flt, a, b => Nat.beq a b
  | .unit, _, _ => true
  | .sl _, _, _ => false
  | .pair x y, a, b => pick2 (eqDen x a.1 b.1) (eqDen y a.2 b.2) false

def eqLs (e : Ty) : List e.den → List e.den → Bool
  | [], [] => true
  | a :: l, b :: m => pick2 (eqDen e a b) (eqLs e l m) false
  | _, _ => false

def rowIs (t : TypeId) (e : Ty) (l : List e.den) (room : Bool) : Option Row → Bool
  | some (.list t' e' l' _ ex ro) => pick2 (Nat.beq t t' && !ro && (pick2 room ex true)) (match castL e' e l' with
    | some m => eqLs e m l
    | none => false) false
  | _ => false

def resB (H : TMem) : List Nat → List AV → List PRes → Bool
  | _, [], [] => true
  | seen, v :: vs, .val w :: rs => pick2 (eqAV v w) (resB H seen vs rs) false
  | seen, .own id n :: vs, .list t e l :: rs => pick2 (e.flatB && Nat.beq n l.length && rowIs t e l false (H.get id) && !(seen.any (Nat.beq id))) (resB H (id :: seen) vs rs) false
  | seen, .nils :: vs, .list _ e l :: rs => pick2 (e.flatB && l.isEmpty) (resB H seen vs rs) false
  | seen, .osl id off len cap :: vs, .room t e l n :: rs => pick2 (e.flatB && Nat.beq off 0 && Nat.beq len n && Nat.beq cap l.length && rowIs t e l true (H.get id) && !(seen.any (Nat.beq id))) (resB H (id :: seen) vs rs) false
  | _, _, _ => false

/-- A run leaves just these results. -/
def leaves (rs : List PRes) : Option (AV × TMem) → Bool
  | some (.tup vs, H) => pick2 (Nat.beq vs.length 1) false (resB H [] vs rs)
  | some (v, H) => resB H [] [v] rs
  | none => false
end

theorem eqK1_spec {a b : IntKind} (h : eqK1 a b = true) : a = b := by
  cases a <;> cases b <;> first | rfl | cases h

theorem eqBs_spec : ∀ {a b : List UInt8}, eqBs a b = true → a = b
  | [], [], _ => rfl
  | [], _ :: _, h => by cases h
  | _ :: _, [], h => by cases h
  | a :: l, b :: m, h => by
    simp only [eqBs, pick2_eq, Nat.beq_eq] at h
    split at h
    · rename_i hab
      rw [eqBs_spec h, UInt8.toNat_inj.1 hab]
    · cases h

theorem eqBool_spec {a b : Bool} (h : pick2 a b (!b) = true) : a = b := by cases a <;> cases b <;> first | rfl | cases h

theorem eqOne_spec {a b : AV} (h : eqOne a b = true) : a = b ∧ scalB b = true := by
  unfold eqOne at h
  split at h
  · rw [pick2_eq] at h
    split at h
    · rename_i hk
      rw [eqI_spec] at h
      exact ⟨by rw [eqK1_spec hk, beq_iff_eq.1 h], rfl⟩
    · cases h
  · exact ⟨by rw [eqBool_spec h], rfl⟩
  · exact ⟨by rw [eqBs_spec h], rfl⟩
  · exact ⟨by rw [Nat.eq_of_beq_eq_true h], rfl⟩
  · exact ⟨rfl, rfl⟩
  · exact ⟨rfl, rfl⟩
  · cases h

theorem eqAll_spec : ∀ {l m : List AV}, eqAll l m = true → l = m ∧ scalB (.agg m) = true
  | [], [], _ => ⟨rfl, rfl⟩
  | [], _ :: _, h => by cases h
  | _ :: _, [], h => by cases h
  | a :: l, b :: m, h => by
    simp only [eqAll, pick2_eq] at h
    split at h
    · rename_i hab
      obtain ⟨rfl, hs⟩ := eqAll_spec h
      have hab' := hab
      obtain ⟨rfl, _⟩ := eqOne_spec hab
      refine ⟨rfl, ?_⟩
      unfold scalB at hs ⊢
      simp only [List.all_cons, Bool.and_eq_true]
      refine ⟨?_, hs⟩
      cases a <;> first | rfl | cases hab'
    · cases h

theorem eqAV_spec {a b : AV} (h : eqAV a b = true) : a = b ∧ scalB b = true := by
  unfold eqAV at h
  split at h
  · obtain ⟨rfl, h2⟩ := eqAll_spec h; exact ⟨rfl, h2⟩
  · exact eqOne_spec h

theorem eqDen_spec : ∀ (e : Ty) {a b : e.den}, eqDen e a b = true → a = b
  | .int _, a, b, h => by
    have h : eqI a b = true := h
    rw [eqI_spec] at h
    exact beq_iff_eq.1 h
  | .bool, a, b, h => eqBool_spec h
  | .str, a, b, h => eqBs_spec h
  | .flt, a, b, h => Nat.eq_of_beq_eq_true h
  | .unit, _, _, _ => rfl
  | .sl _, _, _, h => by cases h
  | .pair x y, a, b, h => by
    have h : pick2 (eqDen x a.1 b.1) (eqDen y a.2 b.2) false = true := h
    rw [pick2_eq] at h
    split at h
    · rename_i h1; exact Prod.ext (eqDen_spec x h1) (eqDen_spec y h)
    · cases h

theorem eqLs_spec (e : Ty) : ∀ {a b : List e.den}, eqLs e a b = true → a = b
  | [], [], _ => rfl
  | [], _ :: _, h => by cases h
  | _ :: _, [], h => by cases h
  | a :: l, b :: m, h => by
    simp only [eqLs, pick2_eq] at h
    split at h
    · rename_i hab; rw [eqDen_spec e hab, eqLs_spec e h]
    · cases h

theorem rowIs_spec {t : TypeId} {e : Ty} {l : List e.den} {room : Bool} {r : Option Row} (h : rowIs t e l room r = true) : ∃ ver ex, r = some (.list t e l ver ex false) ∧ (room = true → ex = true) := by
  unfold rowIs at h
  split at h
  · rename_i t' e' l' ver ex ro
    rw [pick2_eq] at h
    split at h
    · rename_i hc
      simp only [Bool.and_eq_true, Bool.not_eq_true', Nat.beq_eq] at hc
      obtain ⟨⟨rfl, rfl⟩, hx⟩ := hc
      split at h
      · rename_i m hm
        obtain ⟨he, hc⟩ := castL_spec hm
        subst he
        have hc : l' = m := hc
        subst hc
        have hl : l' = l := eqLs_spec _ h
        subst hl
        refine ⟨ver, ex, rfl, fun hr => ?_⟩
        subst hr; exact hx
      · cases h
    · cases h
  · cases h

theorem not_seen {id : Nat} {seen : List Nat} (h : (!(seen.any (Nat.beq id))) = true) : id ∉ seen := fun hm => by
  have : seen.any (Nat.beq id) = true := List.any_eq_true.2 ⟨id, hm, by rw [Nat.beq_eq]⟩
  rw [this] at h; cases h

theorem resB_spec {H : TMem} : ∀ {vs : List AV} {rs : List PRes} {seen : List Nat}, resB H seen vs rs = true → resAt H seen vs rs := by
  intro vs
  induction vs with
  | nil =>
    intro rs seen h
    cases rs with
    | nil => trivial
    | cons r rs => cases r <;> cases h
  | cons v vs ih =>
    intro rs seen h
    cases rs with
    | nil => cases v <;> cases h
    | cons r rs =>
      cases r with
      | val w =>
        have h : pick2 (eqAV v w) (resB H seen vs rs) false = true := by cases v <;> exact h
        rw [pick2_eq] at h
        split at h
        · rename_i hv
          obtain ⟨h1, h2⟩ := eqAV_spec hv
          exact ⟨h1, h2, ih h⟩
        · cases h
      | list t e l =>
        cases v <;> try (cases h; done)
        · simp only [resB, pick2_eq] at h
          split at h
          · rename_i hc
            simp only [Bool.and_eq_true, List.isEmpty_iff] at hc
            exact ⟨hc.1, .inr ⟨rfl, hc.2, ih h⟩⟩
          · cases h
        · rename_i id n
          simp only [resB, pick2_eq] at h
          split at h
          · rename_i hc
            simp only [Bool.and_eq_true, Nat.beq_eq] at hc
            obtain ⟨⟨⟨h1, rfl⟩, h3⟩, h4⟩ := hc
            obtain ⟨ver, ex, h5, _⟩ := rowIs_spec h3
            exact ⟨h1, .inl ⟨id, ver, ex, rfl, h5, not_seen h4, ih h⟩⟩
          · cases h
      | room t e l len =>
        cases v <;> try (cases h; done)
        rename_i id off n cap
        simp only [resB, pick2_eq] at h
        split at h
        · rename_i hc
          simp only [Bool.and_eq_true, Nat.beq_eq] at hc
          obtain ⟨⟨⟨⟨⟨h1, rfl⟩, rfl⟩, rfl⟩, h3⟩, h4⟩ := hc
          obtain ⟨ver, ex, h5, h6⟩ := rowIs_spec h3
          have := h6 rfl
          subst this
          exact ⟨h1, id, ver, rfl, h5, not_seen h4, ih h⟩
        · cases h

theorem leaves_spec {rs : List PRes} {r : Option (AV × TMem)} (h : leaves rs r = true) : ∃ vs H, r = some (oneT vs, H) ∧ resAt H [] vs rs := by
  unfold leaves at h
  split at h
  · rename_i vs H
    rw [pick2_eq] at h
    split at h
    · cases h
    · rename_i hn
      refine ⟨vs, H, ?_, resB_spec h⟩
      match vs, hn with
      | [], _ => rfl
      | [v], hn => exact absurd rfl hn
      | _ :: _ :: _, _ => rfl
  · rename_i v H hv
    exact ⟨[v], H, rfl, resB_spec h⟩
  · cases h

/-- A contract that runs show. -/
theorem con_runs {X : Cfg} {kn : Ev.Known} {f : FuncId} (hk : ∀ args, kn f args = none) {g : List AV → Option (Bool × List PRes)} {call : ∀ β, CallT β} (hcall : ∀ β, CallTOk X (cfOf X kn) (call β)) (an : FnAnn) (rounds : Nat)
    (h : ∀ args rs, g args = some (true, rs) → leaves rs (enterT X (call (AV × TMem)) an rounds f args TMem.empty (fun v H => some (v, H))) = true) : ConOk X (cfOf X kn) f g :=
  con_of hk hcall fun args rs hg => by
    obtain ⟨vs, H, h1, h2⟩ := leaves_spec (h args rs hg)
    exact ⟨vs, H, an, rounds, h1, h2⟩

theorem resAt_vals {H : TMem} : ∀ {vs : List AV} {seen : List Nat}, vs.all scalB = true → resAt H seen vs (vs.map .val)
  | [], _, _ => trivial
  | v :: vs, seen, h => by
    simp only [List.all_cons, Bool.and_eq_true] at h
    exact ⟨rfl, h.1, resAt_vals h.2⟩

/-- A contract whose results lead to no memory: the memory that a run leaves is not asked for. -/
theorem con_vals {X : Cfg} {kn : Ev.Known} {f : FuncId} (hk : ∀ args, kn f args = none) {g : List AV → Option (Bool × List PRes)} {call : ∀ β, CallT β} (hcall : ∀ β, CallTOk X (cfOf X kn) (call β))
    (h : ∀ args rs, g args = some (true, rs) → ∃ vs an rounds, enterT X (call AV) an rounds f args TMem.empty (fun v _ => some v) = some (oneT vs) ∧ rs = vs.map .val ∧ vs.all scalB = true) : ConOk X (cfOf X kn) f g := by
  intro args rs hg
  obtain ⟨vs, an, rounds, h1, h2, h3⟩ := h args rs hg
  subst h2
  obtain ⟨v', H1, k1, k2⟩ := enter_ok (nf := false) (hcall _) (fun h => by cases h) h1
  have k1 : v' = oneT vs := Option.some.inj k1
  subst k1
  refine ⟨vs, H1, fun S E argsE hr hgl hl => ?_, resAt_vals h3⟩
  obtain ⟨S', vE, E', a1, a2, a3, a4, _⟩ := k2 S E argsE hr hgl hl
  exact ⟨S', vE, E', call_of_enter hk a1, one_inv a2, a3, a4⟩

/-- A run that comes to one value, whatever memory it leaves. -/
theorem top_run {X : Cfg} {kn : Ev.Known} {id : FuncId} (hk : ∀ args, kn id args = none) {call : ∀ β, CallT β} (hcall : ∀ β, CallTOk X (cfOf X kn) (call β)) {an : FnAnn} {rounds : Nat} {args : List AV} {v : AV}
    (h : enterT X (call AV) an rounds id args TMem.empty (fun v _ => some v) = some v) : ∀ (S : Wo) (E : Ev.Mem) (argsE : List Value), Rel S TMem.empty E → GlobOk X S → LV S args argsE →
    ∃ S' vE E', (∃ N, ∀ n : Nat × Nat, N ≤ n.1 ∧ N ≤ n.2 → cfOf X kn n id argsE E = some (vE, E')) ∧ VR S' v vE := by
  obtain ⟨v', H1, h1, h2⟩ := enter_ok (nf := false) (hcall _) (fun h => by cases h) h
  cases h1
  intro S E argsE hr hg hl
  obtain ⟨S', vE, E', a1, a2, _, _, _⟩ := h2 S E argsE hr hg hl
  exact ⟨S', vE, E', call_of_enter hk a1, a2⟩

/-- The contract of a call without arguments that is known to be true. -/
noncomputable def gYes (args : List AV) : Option (Bool × List PRes) :=
  match args with
  | [] => some (true, [.val (.bool true)])
  | _ => none

theorem con_yes {X : Cfg} {kn : Ev.Known} {f : FuncId} (h : kn f [] = some (.bool true)) : ConOk X (cfOf X kn) f gYes :=
  con_known fun args rs hg => by
    unfold gYes at hg
    split at hg
    · injection hg with hg; injection hg with h1 h2
      subst h2
      refine ⟨.bool true, .bool true, rfl, rfl, fun S => .bool true, rfl, fun S argsE hl => ?_⟩
      have : argsE = [] := List.length_eq_zero_iff.1 hl.1.symm
      subst this
      exact ⟨h, rfl⟩
    · cases hg

theorem pickT {α : Type} (a b : α) : pick2 true a b = a := rfl
theorem pickF {α : Type} (a b : α) : pick2 false a b = b := rfl
end Go.Tv
