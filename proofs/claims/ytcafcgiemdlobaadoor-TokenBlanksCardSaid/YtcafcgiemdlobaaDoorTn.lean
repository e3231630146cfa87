/- A loop inside a loop: m rounds more of the inner one, n rounds more of the outer one behind it. -/
import Derived.Test.YtcafcgiemdlobaaDoorTk10
namespace Go.Tv
open Go.Ev (pick2 Leave)
variable {β : Type}

noncomputable def loopIn (X : Cfg) (call : CallT β) (an : FnAnn) (rounds : Nat) (id : FuncId) (p q : List Bool) (k : AV → TMem → Option β) (n m : Nat) (f : TFr) (H : TMem) : Option β :=
  match X.P.funcs[id]? with
  | some fn => match fn.body with
    | some c => loopT (annAt an.ann (p ++ false :: q)) (fun f H k => codeT X call an.tr (jumpsT X call an.tr an.ja rounds rounds) rounds (codeAt c (p ++ false :: (q ++ [false]))) (annAt an.ann (p ++ false :: q)).l f H k)
        (ctxK X call an.tr (jumpsT X call an.tr an.ja rounds rounds) rounds q (codeAt c (p ++ [false])) (annAt an.ann p).l
          (seqK (fun f H => atT (annAt an.ann p) f H (loopN X call an rounds id p k n)) (ctxK X call an.tr (jumpsT X call an.tr an.ja rounds rounds) rounds p c an.ann (returnK X fn k)))) m f H
    | none => none
  | none => none
/-- Notes that keep slots at two places, one inside the other. -/
noncomputable def annIn (keep : List Tmp) (keep2 : List Tmp) (q : List Bool) : List Bool → Ann
  | [] => .node (some keep) (annOf keep2 q) .none
  | d :: p => pick2 d (.node none .none (annIn keep keep2 q p)) (.node none (annIn keep keep2 q p) .none)
end Go.Tv
namespace Go.Proofs.YtcafcgiemdlobaaDoor.lt
open Go.Tv Go.Ev
noncomputable def M6 : List Con := [(14, [], gYes), (15, [none], gLex)]
theorem M6_ok : TabOk (Xg gvS) (cfOf (Xg gvS) noKnown) M6 := .cons con14 (.cons con15 .nil)
noncomputable def d6 (β : Type) : CallT β := callT (Xg gvS) (tab M6) inl 200 β 20
theorem d6_ok (β : Type) : CallTOk (Xg gvS) (cfOf (Xg gvS) noKnown) (d6 β) := callT_ok M6_ok (fun _ _ _ => rfl) 200 20 β
def pPa : List Bool := [true, true, true, true, true, false, true, false]
def qPa : List Bool := [true, false, false, true, true, false, true, false]
noncomputable def anPa : FnAnn := ⟨annIn [0, 3, 4, 6, 7] [0, 3, 4, 6, 7, 8, 9] qPa pPa, .none, []⟩
end Go.Proofs.YtcafcgiemdlobaaDoor.lt
