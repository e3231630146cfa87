/- SourceOnce, as it runs. -/
import Derived.Test.YtfggompceldfgaaGreatDoorGxe
set_option linter.unusedVariables false
set_option linter.unusedSimpArgs false
namespace Go.Tv
open Go.Ev (ah iD)
noncomputable section
def ahx {β:Type}(X:gU)(call:cI β)(an:eD)(rounds:Nat)(id:FuncId)(p q:List Bool)(k:AV->aH->Option β)(n m:Nat)(f:fF)(H:aH):Option β :=
 match X.P.funcs[id]? with
 |some fn=>match fn.body with
  |some c=>KL (jX an.C3 (p++false::q)) (λf H k=>gY X call an.tr (ng X call an.tr an.ja rounds rounds) rounds (jL c (p++false::(q++[false]))) (jX an.C3 (p++false::q)).l f H k)
   (Bu X call an.tr (ng X call an.tr an.ja rounds rounds) rounds q (jL c (p++[false])) (jX an.C3 p).l
    (xU (λf H=>Cd (jX an.C3 p) f H (jf X call an rounds id p k n)) (Bu X call an.tr (ng X call an.tr an.ja rounds rounds) rounds p c an.C3 (pn X fn k)))) m f H
  |none=>none
 |none=>none
end
end Go.Tv
namespace Go.Proofs.YtfggompceldfgaaGreatDoor.ps.sr
open Go.Tv Go.Ev Go.Px Go.Pp Go.Proofs.YtfggompceldfgaaGreatDoor.ex
set_option maxRecDepth 100000
noncomputable section
def gYs (args:List AV):Option (Bool×List fN) :=
 match args with
 |[]=>some (true,[.val (.bool true)])
 |_=>none
theorem alh:lt.kn 13 []=some (.bool true):=by kernel_rfl
theorem ahy:dh X0 gW 13 gYs :=
 R4 λargs rs hg=>by
  unfold gYs at hg;split at hg
  .simp only[aq,ax]at hg;obtain⟨_,rfl⟩:=hg;refine⟨_,.bool true,rfl,rfl,λS=>.bool _,rfl,λS bM hl=>?_⟩;rw[hl.jq];exact⟨alh,rfl⟩
  cases hg
def S2:List xX:=(13,[],gYs)::S1
theorem ali:jx X0 gW S2:=.cons ahy qN
abbrev c7:cI AV:=cV S2 N4 G7 _
def pO1:List Bool:=[true,true,true,true,true,true,false,true,false]
def pO2:List Bool:=[true,true,true,true,true,true,true,true,false,true,false]
def pO3:List Bool:=[true,true,true,true,true,true,true,true,true,false,true,false]
def qO3:List Bool:=[true,false,false,false,true,false]
def anO:eD:=⟨qt (gZ [3,4,6,7] pO1) (qt (gZ [3,4,6,8,9] pO2) (qt (gZ [3,6,11] pO3) (gZ [3,6,11,12] (pO3++false::qO3)))),.none,[]⟩
def liR (o:Int)(a b:Nat)(aB:List Sy)(au:List It):Row:=.cells 33 [.int .i64 o,.own a aB.length,.own b au.length]
def m0 (o:Int)(aB:List Sy)(au:List It):aH:=pz [liR o 1 2 aB au,.list 61 kj aB 0 false false,.list 56 x6 au 0 false false]
def m1 (o:Int)(aB:List Sy)(au:List It)(nm:List (List UInt8)):aH:=pz [liR o 2 3 aB au,.list 9 .str nm 0 false false,.list 61 kj aB 0 false false,.list 56 x6 au 0 false false]
def m3 (nm:List (List UInt8)):aH:=pz [.list 9 .str nm 0 false false]
def fO1 (v:AV)(i:Int):fF:=lz 129 [(3,.bool true),(4,.ptr 0 0),(6,v),(7,.int .i64 i)]
def fO2 (v:AV)(last i:Int):fF:=lz 129 [(3,.bool true),(4,.ptr 0 0),(6,v),(8,.int .i64 last),(9,.int .i64 i)]
def fO3 (v:AV)(i:Int):fF:=lz 129 [(3,.bool true),(6,v),(11,.int .i64 i)]
def fO4 (v:AV)(i k:Int):fF:=lz 129 [(3,.bool true),(6,v),(11,.int .i64 i),(12,.int .i64 k)]
abbrev lO (p:List Bool)(r m:Nat)(f:fF)(H:aH):Option AV:=jf X0 c7 anO r 6 p (λv _=>some v) m f H
def XY (o:Int)(aB:List Sy)(au:List It)(r m:Nat)(i:Int):Option AV:=lO pO1 r m (fO1 .dg i) (m0 o aB au)
def jB1 (o:Int)(aB:List Sy)(au:List It)(r m:Nat)(nm:List (List UInt8))(c:Nat)(i:Int):Option AV:=lO pO1 r m (fO1 (.own 1 c) i) (m1 o aB au nm)
def jA2 (o:Int)(aB:List Sy)(au:List It)(r m:Nat)(last i:Int):Option AV:=lO pO2 r m (fO2 .dg last i) (m0 o aB au)
def jB2 (o:Int)(aB:List Sy)(au:List It)(r m:Nat)(nm:List (List UInt8))(c:Nat)(last i:Int):Option AV:=lO pO2 r m (fO2 (.own 1 c) last i) (m1 o aB au nm)
def jA3 (r m:Nat):Option AV:=lO pO3 r m (fO3 .dg 0) (pz [])
def jB3 (r m:Nat)(nm:List (List UInt8))(c:Nat)(i:Int):Option AV:=lO pO3 r m (fO3 (.own 0 c) i) (m3 nm)
def jI3 (r n m:Nat)(nm:List (List UInt8))(c:Nat)(i k:Int):Option AV:=ahx X0 c7 anO r 6 pO3 qO3 (λv _=>some v) n m (fO4 (.own 0 c) i k) (m3 nm)
def tT:Option AV:=some (.bool true)
def tF:Option AV:=some (.bool false)
def JR {α:Type}(l:List α)(i:Int)(k:α->Option AV):Option AV:=Option.rec (motive:=λ_=>Option AV) none k (dX l i)
theorem Pn {α:Type}(pre rest:List α)(y:α)(k:α->Option AV):JR (pre++y::rest) (pre.length:Int) k=k y:=by
 unfold JR;rw[lX]
theorem JB (o:Int)(aB:List Sy)(au:List It)(r m:Nat)(i:Int):XY o aB au r (m+1) i =
 ah (bB i aB.length) (JR aB i λy=>jB1 o aB au r m [y.1] 1 (IntKind.wrap .i64 (i+1))) (jA2 o aB au r r 1 0):=by kernel_rfl
theorem Yp (o:Int)(aB:List Sy)(au:List It)(r m:Nat)(nm:List (List UInt8))(c:Nat)(i:Int):jB1 o aB au r (m+1) nm c i =
 ah (bB i aB.length) (JR aB i λy=>ah (Nat.ble (nm.length+1) 2000000) (jB1 o aB au r m (nm++[y.1]) (nm.length+1) (IntKind.wrap .i64 (i+1))) none) (jB2 o aB au r r nm c 1 0):=by kernel_rfl
theorem Yq (o:Int)(aB:List Sy)(au:List It)(r m:Nat)(last i:Int):jA2 o aB au r (m+1) last i =
 ah (bB i au.length) (JR au i λy=>ah (bB y.1 last) tF (ah (bB y.2.1 1) tF (ah (bB 5 y.2.1) tF (ah (bI y.2.1 1) (jB2 o aB au r m [y.2.2.1] 1 y.1 (IntKind.wrap .i64 (i+1))) (jA2 o aB au r m y.1 (IntKind.wrap .i64 (i+1))))))) (jA3 r r):=by kernel_rfl
theorem Yr (o:Int)(aB:List Sy)(au:List It)(r m:Nat)(nm:List (List UInt8))(c:Nat)(last i:Int):jB2 o aB au r (m+1) nm c last i =
 ah (bB i au.length) (JR au i λy=>ah (bB y.1 last) tF (ah (bB y.2.1 1) tF (ah (bB 5 y.2.1) tF (ah (bI y.2.1 1) (ah (Nat.ble (nm.length+1) 2000000) (jB2 o aB au r m (nm++[y.2.2.1]) (nm.length+1) y.1 (IntKind.wrap .i64 (i+1))) none) (jB2 o aB au r m nm c y.1 (IntKind.wrap .i64 (i+1))))))) (jB3 r r nm c 0):=by kernel_rfl
theorem ahz (r m:Nat):jA3 r (m+1)=tT:=by kernel_rfl
theorem Ys (r m:Nat)(nm:List (List UInt8))(c:Nat)(i:Int):jB3 r (m+1) nm c i=ah (bB i c) (ah (bB c 400) (jI3 r m r nm c i 0) tT) tT:=by kernel_rfl
theorem Yt (r n m:Nat)(nm:List (List UInt8))(c:Nat)(i k:Int):jI3 r n (m+1) nm c i k =
 ah (bB k i) (JR nm i λa=>JR nm k λb=>ah (decide (a=b)) tF (jI3 r n m nm c i (IntKind.wrap .i64 (k+1))))
  (JR nm i λa=>ah (bB 60 a.length) tF (JR nm i λb=>ah (decide (b=[])) tF (jB3 r n nm c (IntKind.wrap .i64 (i+1))))):=by kernel_rfl
theorem ahA (s:List UInt8)(r:Nat):aT X0 c7 anO r 6 [.str s] aH.empty (λv _=>some v) =
 ah (bB 4000 s.length) tT (ah (Nat.ble s.length 200000) (ah (!(decide ((vP s).2.1=0)&&decide ((vP s).2.2=0)))
  (ah (bI (vP s).1.2.2.length 0) (some (.bool (bI (vP s).1.2.1.length 0))) tF) (XY (vP s).1.1 (vP s).1.2.1 (vP s).1.2.2 r r 0)) none):=by kernel_rfl
end
end Go.Proofs.YtfggompceldfgaaGreatDoor.ps.sr
