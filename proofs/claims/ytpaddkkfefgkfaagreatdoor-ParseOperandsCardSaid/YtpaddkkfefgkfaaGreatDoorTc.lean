/- ParseBlanks: the law's run, and that it answers true. -/
import Derived.Test.YtpaddkkfefgkfaaGreatDoorTb
set_option linter.unusedVariables false
set_option linter.unusedSimpArgs false
namespace Go.Proofs.YtpaddkkfefgkfaaGreatDoor.ps
open Go.Tv Go.Ev Go.Px Go.Pp Go.Proofs.YtpaddkkfefgkfaaGreatDoor.ex
set_option maxRecDepth 100000
noncomputable section
theorem YH:lt.kn 23 []=some (.bool true):=by kernel_rfl
theorem TP:aI ex.X0 cI 23 Zs :=
 Bk λargs rs hg=>by
  unfold Zs at hg;split at hg
  .
   simp only[Option.some.injEq,Prod.mk.injEq] at hg;obtain ⟨_,rfl⟩:=hg;refine ⟨_,.bool true,rfl,rfl,λS=>.bool _,rfl,λS aB hl=>?_⟩
   rw[hl.dI];exact ⟨YH,rfl⟩
  cases hg
def Q6:List kH:=(23,[],Zs)::(28,[some aH],lt.Ve)::S1
def pPb:List Bool:=[true,true,true,true,true,true,true,true,false,true,false]
def agz:bG:=⟨cG [5,6,8,9,10,11,12] pPb,.none,[]⟩
def jPb (bl:List UInt8) (L:List Tok) (c:Ap) (q m:Nat) (i:Int) (t:List UInt8):Option AV:=cK ex.X0 (cN Q6 NS3 _) agz q 9 pPb (λv _=>some v) m (fY 94 [(5,.bool true),(6,.own 0 L.length),(8,.ptr 1 0),(9,.ptr 2 0),(10,.str bl),(11,.str t),(12,.int .i64 i)])
 (iC [.list 106 aH L 0 false true,.cells 34 [.int .i64 c.1,.int .i64 c.2.1,.bA jX c.2.2.1],.cells 56 [.int .i64 c.2.2.2.1,.int .i64 c.2.2.2.2]])
def fiP (c:Ap) (t:List UInt8):Option AV :=
 pick2 (ltI 1000 t.length) yT (pick2 (Nat.ble (lt.bM t).1.length 200000) (pick2 (eqI (lt.bM t).2.1 0) (pick2 (okR c.2.2.1) (pick2 (decide (c.1=(aF (lt.bM t).1 0).1)&&decide (c.2.1=(aF (lt.bM t).1 0).2.1)&&wP c.2.2.1 (aF (lt.bM t).1 0).2.2.1)
  (some (.bool (decide (c.2.2.2.1=(aF (lt.bM t).1 0).2.2.2.1)&&decide (c.2.2.2.2=(aF (lt.bM t).1 0).2.2.2.2)))) nT) none) nT) none)
def akn:List UInt8:=[32,32,32,32,32,32,32,32,32,32]
def agA (bl:List UInt8):List Tok->List UInt8
 |[]=>[]
 |y::l=>bl++[32]++lt.qc y++agA bl l
end
end Go.Proofs.YtpaddkkfefgkfaaGreatDoor.ps
