/- Loops over what is known by terms alone: a loop of a function's code as a function of its rounds and of the slots that are kept at its head. -/
import Derived.Test.YtcafcgiemdlobaaDoorTvL
namespace Go.Tv
open Go.Ev (pick2 Leave)
noncomputable section
variable {β : Type}

/-- A part of code: the left one (or the inner one), the right one. -/
def inside : Code → Bool → Code
  | .seq a b, d => pick2 d b a
  | .cond _ a b, d => pick2 d b a
  | .block _ a, _ => a
  | .loop a, _ => a
  | .scope a, _ => a
  | c, _ => c

def codeAt (c : Code) : List Bool → Code
  | [] => c
  | d :: p => codeAt (inside c d) p

def annAt (a : Ann) : List Bool → Ann
  | [] => a
  | d :: p => annAt (pick2 d a.r a.l) p

/-- Notes that keep these slots at one place alone. -/
def annOf (keep : List Tmp) : List Bool → Ann
  | [] => .node (some keep) .none .none
  | d :: p => pick2 d (.node none .none (annOf keep p)) (.node none (annOf keep p) .none)

/-- What follows a part of code. -/
def ctxK (X : Cfg) (call : CallT β) (tr : List Tmp) (J : JumpT β) (rounds : Nat) : List Bool → Code → Ann → KT β → KT β
  | [], _, _, k => k
  | false :: p, .seq x y, a, k => ctxK X call tr J rounds p x a.l (seqK (fun f H => codeT X call tr J rounds y a.r f H k) k)
  | true :: p, .seq _ y, a, k => ctxK X call tr J rounds p y a.r k
  | false :: p, .cond _ x _, a, k => ctxK X call tr J rounds p x a.l k
  | true :: p, .cond _ _ y, a, k => ctxK X call tr J rounds p y a.r k
  | _ :: p, .block id b, a, k => ctxK X call tr J rounds p b a.l (blockK id k)
  | _ :: p, .scope b, a, k => ctxK X call tr J rounds p b a.l (scopeK b J k)
  | _ :: _, _, _, k => k

/-- A loop that stands in no other loop: n rounds more at most. -/
def loopN (X : Cfg) (call : CallT β) (an : FnAnn) (rounds : Nat) (id : FuncId) (p : List Bool) (k : AV → TMem → Option β) (n : Nat) (f : TFr) (H : TMem) : Option β :=
  match X.P.funcs[id]? with
  | some fn => match fn.body with
    | some c => loopT (annAt an.ann p) (fun f H k => codeT X call an.tr (jumpsT X call an.tr an.ja rounds rounds) rounds (codeAt c (p ++ [false])) (annAt an.ann p).l f H k)
        (ctxK X call an.tr (jumpsT X call an.tr an.ja rounds rounds) rounds p c an.ann (returnK X fn k)) n f H
    | none => none
  | none => none

/-- Jumps to a label of a scope that stands in no loop: n more at most. -/
def jumpN (X : Cfg) (call : CallT β) (an : FnAnn) (rounds : Nat) (id : FuncId) (p : List Bool) (l : Nat) (k : AV → TMem → Option β) (n : Nat) (f : TFr) (H : TMem) : Option β :=
  match X.P.funcs[id]? with
  | some fn => match fn.body with
    | some c => match findLabel (codeAt c (p ++ [false])) l with
      | some rest => jumpsR X call an.tr an.ja rounds n (codeAt c (p ++ [false])) rest f H (ctxK X call an.tr (jumpsT X call an.tr an.ja rounds rounds) rounds p c an.ann (returnK X fn k))
      | none => none
    | none => none
  | none => none

/-- A frame of just these slots, a memory of just these rows. -/
def frOf (n : Nat) (l : List (Tmp × AV)) : TFr := l.foldl (fun g q => g.put (some q.1) q.2) ⟨n, .e⟩
def memOf (l : List Row) : TMem := l.foldl (fun M r => M.push r) ⟨0, 0, 0, .e⟩
end
end Go.Tv
