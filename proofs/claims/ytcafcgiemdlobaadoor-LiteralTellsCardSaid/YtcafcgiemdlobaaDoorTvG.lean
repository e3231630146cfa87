/- Calls by contracts, or by the callee's own text. -/
import Derived.Test.YtcafcgiemdlobaaDoorTvK
namespace Go.Tv
open Go.Ev (Tr pick2 Leave Mem Blk alive pick2_eq alive_some opA Fr)
noncomputable section

def normArg (H : TMem) : Option Ty → AV → Option AV
  | some e, a => match a with
    | .str _ => none
    | a => match viewL H e a with
      | some l => some (.lst e l)
      | none => none
  | none, a => pick2 (scalB a) (some a) none

def normArgs (H : TMem) : List (Option Ty) → List AV → Option (List AV)
  | [], [] => some []
  | s :: sig, a :: args => match normArg H s a with
    | some b => match normArgs H sig args with
      | some l => some (b :: l)
      | none => none
    | none => none
  | _, _ => none

/-- A call by a contract: which arguments are lists, under which condition, and what comes of them. -/
def conCall {β : Type} (sig : List (Option Ty)) (g : List AV → Option (Bool × List PRes)) (args : List AV) (H : TMem) (k : AV → TMem → Option β) : Option β :=
  match normArgs H sig args with
  | some args' => match g args' with
    | some (c, rs) => pick2 c (k (oneT (resOf rs H).1) (resOf rs H).2) none
    | none => none
  | none => none

def ConOk (X : Cfg) (cf : Nat × Nat → Ev.CallF) (f : FuncId) (g : List AV → Option (Bool × List PRes)) : Prop :=
  ∀ args' rs, g args' = some (true, rs) → ∃ vs H1, PureAt X cf f args' vs H1 ∧ resAt H1 [] vs rs

abbrev KT2 := FuncId → Option (List (Option Ty) × (List AV → Option (Bool × List PRes)))

def callT (X : Cfg) (K : KT2) (inl : FuncId → Bool) (rounds : Nat) (β : Type) : Nat → CallT β :=
  fun n => Nat.rec (motive := fun _ => CallT β) (fun _ _ _ _ => none)
    (fun _ go id args H k => match K id with
      | some (sig, g) => conCall sig g args H k
      | none => pick2 (inl id) (enterT X go ⟨.none, .none, X.trs id⟩ rounds id args H k) none) n

/-! Reading arguments of a contract. -/
def asL (e : Ty) : AV → Option (List e.den)
  | .lst e' l => castL e' e l
  | _ => none
def asI (k : IntKind) : AV → Option Int
  | .int k' n => if k = k' then some n else none
  | _ => none
def asB : AV → Option Bool
  | .bool b => some b
  | _ => none
def asS : AV → Option (List UInt8)
  | .str s => some s
  | _ => none
end

theorem asL_spec {e : Ty} {a : AV} {l : List e.den} (h : asL e a = some l) : a = .lst e l := by
  unfold asL at h
  split at h
  · obtain ⟨he, hc⟩ := castL_spec h
    subst he
    have hc : _ = l := hc
    rw [← hc]
  · cases h
theorem asI_spec {k : IntKind} {a : AV} {n : Int} (h : asI k a = some n) : a = .int k n := by
  unfold asI at h
  split at h
  · split at h
    · rename_i hk; subst hk; cases h; rfl
    · cases h
  · cases h
theorem asB_spec {a : AV} {b : Bool} (h : asB a = some b) : a = .bool b := by
  unfold asB at h
  split at h
  · cases h; rfl
  · cases h
theorem asS_spec {a : AV} {s : List UInt8} (h : asS a = some s) : a = .str s := by
  unfold asS at h
  split at h
  · cases h; rfl
  · cases h

theorem normArgs_spec {H : TMem} : ∀ {sig : List (Option Ty)} {args args' : List AV}, normArgs H sig args = some args' → args.length = args'.length ∧ ∀ (j : Nat) a b, args[j]? = some a → args'[j]? = some b → ArgAt H a b
  | [], [], args', h => by cases h; exact ⟨rfl, fun j a b ha => by simp at ha⟩
  | [], _ :: _, args', h => by cases h
  | _ :: _, [], args', h => by cases h
  | s :: sig, a :: args, args', h => by
    unfold normArgs at h
    split at h
    · rename_i b hb
      split at h
      · rename_i l hl
        cases h
        obtain ⟨h1, h2⟩ := normArgs_spec hl
        refine ⟨by simp [h1], fun j x y hx hy => ?_⟩
        cases j with
        | succ j => exact h2 j x y (by simpa using hx) (by simpa using hy)
        | zero =>
          simp at hx hy; subst hx; subst hy
          unfold normArg at hb
          split at hb
          · split at hb
            · cases hb
            · rename_i e _ hne
              split at hb
              · rename_i l' hl'
                cases hb
                exact .inr ⟨_, l', rfl, hl', fun s hs => hne s hs⟩
              · cases hb
          · rw [pick2_eq] at hb
            split at hb
            · rename_i hs; cases hb; exact .inl ⟨rfl, hs⟩
            · cases hb
      · cases h
    · cases h

section
variable {X : Cfg} {cf : Nat × Nat → Ev.CallF}

theorem conCall_ok {β : Type} {f : FuncId} {sig : List (Option Ty)} {g : List AV → Option (Bool × List PRes)} (hc : ConOk X cf f g) {args : List AV} {H : TMem} {k : AV → TMem → Option β} {r : β} (h : conCall sig g args H k = some r) : ∃ v H', k v H' = some r ∧ CSim X cf f args H v H' := by
  unfold conCall at h
  split at h
  · rename_i args' ha
    split at h
    · rename_i c rs hg
      rw [pick2_eq] at h
      split at h
      · rename_i hc'
        subst hc'
        obtain ⟨vs, H1, h1, h2⟩ := hc args' rs hg
        obtain ⟨l1, l2⟩ := normArgs_spec ha
        exact ⟨_, _, h, h1.csim h2 l1 l2⟩
      · cases h
    · cases h
  · cases h

theorem callT_ok {kn : Ev.Known} {K : KT2} {inl : FuncId → Bool} (hK : ∀ id sig g, K id = some (sig, g) → ConOk X (cfOf X kn) id g) (hi : ∀ id, inl id = true → ∀ args, kn id args = none) (rounds : Nat) : ∀ (n : Nat) (β : Type), CallTOk X (cfOf X kn) (callT X K inl rounds β n)
  | 0, β => fun f args H k r h => by cases h
  | n + 1, β => fun f args H k r h => by
    have h : (match K f with
      | some (sig, g) => conCall sig g args H k
      | none => pick2 (inl f) (enterT X (callT X K inl rounds β n) ⟨.none, .none, X.trs f⟩ rounds f args H k) none) = some r := h
    split at h
    · rename_i sig g hk; exact conCall_ok (hK f sig g hk) h
    · rw [pick2_eq] at h
      split at h
      · rename_i hin
        obtain ⟨v, H', h1, h2⟩ := enter_ok (nf := true) (callT_ok hK hi rounds n β) (fun _ => ⟨rfl, rfl⟩) h
        refine ⟨v, H', h1, fun S E argsE hr hg hl => ?_⟩
        obtain ⟨S', vE, E', a1, a2, a3, a4, a5⟩ := h2 S E argsE hr hg hl
        exact ⟨S', vE, E', call_of_enter (hi f hin) a1, (a5 rfl).1, a2, a3, (a5 rfl).2⟩
      · cases h

/-- A contract out of a walk. -/
theorem con_of {kn : Ev.Known} {f : FuncId} (hk : ∀ args, kn f args = none) {g : List AV → Option (Bool × List PRes)} {call : ∀ β, CallT β} (hcall : ∀ β, CallTOk X (cfOf X kn) (call β))
    (h : ∀ args' rs, g args' = some (true, rs) → ∃ vs H1 an rounds, enterT X (call (AV × TMem)) an rounds f args' TMem.empty (fun v H => some (v, H)) = some (oneT vs, H1) ∧ resAt H1 [] vs rs) : ConOk X (cfOf X kn) f g := by
  intro args' rs hg
  obtain ⟨vs, H1, an, rounds, h1, h2⟩ := h args' rs hg
  refine ⟨vs, H1, fun S E argsE hr hgl hl => ?_, h2⟩
  obtain ⟨S', vE, E', a1, a2, a3, a4⟩ := pure_of hk hcall h1 S E argsE hr hgl hl
  exact ⟨S', vE, E', a1, one_inv a2, a3, a4⟩

/-- A contract that is known already: scalars in, a scalar out. -/
theorem con_known {kn : Ev.Known} {f : FuncId} {g : List AV → Option (Bool × List PRes)}
    (h : ∀ args' rs, g args' = some (true, rs) → ∃ v vE, rs = [.val v] ∧ scalB v = true ∧ (∀ S, VR S v vE) ∧ Ev.addrFree vE = true ∧ ∀ S argsE, LV S args' argsE → kn f argsE = some vE ∧ Ev.addrFreeL argsE = true) : ConOk X (cfOf X kn) f g := by
  intro args' rs hg
  obtain ⟨v, vE, rfl, hs, hv, hfree, hkn⟩ := h args' rs hg
  refine ⟨[v], TMem.empty, fun S E argsE hr hgl hl => ?_, ⟨rfl, hs, trivial⟩⟩
  obtain ⟨k1, k2⟩ := hkn S argsE hl
  refine ⟨S, vE, E, ⟨1, fun n hn => ?_⟩, ⟨[vE], rfl, LV.cons (hv S) LV.nil⟩, hr, StC.refl _ _ _⟩
  obtain ⟨R, D⟩ := n
  obtain ⟨D', rfl⟩ : ∃ D', D = D' + 1 := ⟨D - 1, by have := hn.2; simp only at this; omega⟩
  show Ev.callA X.P X.G kn R (D' + 1) f argsE E = _
  rw [Ev.callA_succ, k1]
  simp [k2, hfree]

end
end Go.Tv
