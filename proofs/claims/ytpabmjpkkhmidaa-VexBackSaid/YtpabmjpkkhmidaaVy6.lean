/- VexBack: a function from one place of its code to a later one. -/
import Derived.Test.YtpabmjpkkhmidaaVy5
import Derived.Test.YtpabmjpkkhmidaaTd
namespace Go.Tv
open Go.Ev
noncomputable section
variable {β : Type}
/-- A function from a place of its code to a later one. -/
def midT (X : Cfg) (call : CallT β) (an : FnAnn) (rounds : Nat) (id : FuncId) (p q : List Bool) (k : AV → TMem → Option β) (K : TFr → TMem → Option β) (f : TFr) (H : TMem) : Option β :=
  match X.P.funcs[id]? with
  | some fn => match fn.body with
    | some c => codeT X call an.tr (jumpsT X call an.tr an.ja rounds rounds) rounds (preC (codeAt c p) q) (bareAnn (annAt an.ann p)) f H (seqK (fun f H => atT (annAt (annAt an.ann p) q) f H K) (returnK X fn k))
    | none => none
  | none => none
theorem on_app : ∀ (p q : List Bool) (c : Code), onSeq c (p ++ q) = true → onSeq (codeAt c p) q = true
  | [], _, _, h => h
  | false :: p, q, c, h => by cases c <;> cases h
  | true :: p, q, c, h => by
    cases c with
    | seq x y => exact on_app p q y h
    | _ => cases h
theorem at_app : ∀ (p q : List Bool) (c : Code), codeAt c (p ++ q) = codeAt (codeAt c p) q
  | [], _, _ => rfl
  | d :: p, q, c => at_app p q (inside c d)
theorem note_app : ∀ (p q : List Bool) (a : Ann), annAt a (p ++ q) = annAt (annAt a p) q
  | [], _, _ => rfl
  | d :: p, q, a => note_app p q (pick2 d a.r a.l)
theorem bare_at (a : Ann) (d : Bool) (q : List Bool) : annAt (bareAnn a) (d :: q) = annAt a (d :: q) := by
  cases a with
  | none => rfl
  | node o l r => rfl
theorem on_pre : ∀ (p q : List Bool) (c : Code), onSeq c (p ++ q) = true → onSeq c p = true
  | [], q, c, h => by
    cases c with
    | seq x y => rfl
    | _ => cases q with
      | nil => cases h
      | cons d q => cases d <;> cases h
  | false :: p, q, c, h => by cases c <;> cases h
  | true :: p, q, c, h => by
    cases c with
    | seq x y => exact on_pre p q y h
    | _ => cases h
theorem from_from {X : Cfg} {call : CallT β} {an : FnAnn} {rounds : Nat} {id : FuncId} {p q : List Bool} (hp : seqAt X id (p ++ (true :: q)) = true) (k : AV → TMem → Option β) (f : TFr) (H : TMem) :
    codeFrom X call an rounds id p k f H = midT X call an rounds id p (true :: q) k (codeFrom X call an rounds id (p ++ (true :: q)) k) f H := by
  unfold seqAt at hp
  unfold midT
  rw [codeFrom]
  cases hf : X.P.funcs[id]? with
  | none => rfl
  | some fn =>
    rw [hf] at hp
    simp only at hp ⊢
    cases hb : fn.body with
    | none => rfl
    | some c =>
      rw [hb] at hp
      simp only at hp ⊢
      have h1 := on_app p (true :: q) c hp
      rw [ctx_seq X call an.tr _ rounds p c (on_pre p (true :: q) c hp), code_split X call an.tr _ rounds (true :: q) (codeAt c p) h1]
      have e : (fun f H => codeT X call an.tr (jumpsT X call an.tr an.ja rounds rounds) rounds (codeAt (codeAt c p) (true :: q)) (annAt (bareAnn (annAt an.ann p)) (true :: q)) f H (returnK X fn k)) =
          fun f H => atT (annAt (annAt an.ann p) (true :: q)) f H (codeFrom X call an rounds id (p ++ (true :: q)) k) := by
        funext f H
        rw [bare_at, code_note X call an.tr _ rounds (true :: q) (codeAt c p) h1]
        congr 1
        funext f H
        unfold codeFrom
        rw [hf]
        simp only
        rw [hb]
        simp only
        rw [ctx_seq X call an.tr _ rounds (p ++ (true :: q)) c hp, at_app, note_app]
      rw [e]
end
end Go.Tv
