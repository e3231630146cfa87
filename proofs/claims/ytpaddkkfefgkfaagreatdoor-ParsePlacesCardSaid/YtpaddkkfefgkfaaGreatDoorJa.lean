/- ParsePlaces: the law's run. -/
import Derived.Test.YtpaddkkfefgkfaaGreatDoorIf
set_option linter.unusedVariables false
set_option linter.unusedSimpArgs false
namespace Go.Proofs.YtpaddkkfefgkfaaGreatDoor.ps.iq
open Go.Tv Go.Ev Go.Px Go.Pp Go.Proofs.YtpaddkkfefgkfaaGreatDoor.ex
set_option maxRecDepth 100000
noncomputable section
def zN (sc:Int):List UInt8:=if sc=1 then [49] else if sc=2 then [50] else if sc=4 then [52] else [56]
def gDc (args:List AV):Option (Bool×List aZ) :=
 match args with
 |[.int .i64 n]=>some (cO n,[.val (.str (zN n))])
 |_=>none
theorem agJ:ag ex.X0 (cN V2 JS AV) ex.bK 5 39 [.int .i64 1] aa.empty (λv _=>some v)=some (.str [49]):=by kernel_rfl
theorem agK:ag ex.X0 (cN V2 JS AV) ex.bK 5 39 [.int .i64 2] aa.empty (λv _=>some v)=some (.str [50]):=by kernel_rfl
theorem agL:ag ex.X0 (cN V2 JS AV) ex.bK 5 39 [.int .i64 4] aa.empty (λv _=>some v)=some (.str [52]):=by kernel_rfl
theorem agM:ag ex.X0 (cN V2 JS AV) ex.bK 5 39 [.int .i64 8] aa.empty (λv _=>some v)=some (.str [56]):=by kernel_rfl
theorem YT:aI ex.X0 cI 39 gDc :=
 aG (nk rfl) (bR Qm Ib) λargs rs hg=>by
  unfold gDc at hg;split at hg
  .
   rename_i n;simp only[Option.some.injEq,Prod.mk.injEq] at hg;obtain ⟨h1,rfl⟩:=hg;have h1:n=1\/n=2\/n=4\/n=8:=of_decide_eq_true h1;rcases h1 with rfl|rfl|rfl|rfl
   .
    exact ⟨[.str [49]],ex.bK,5,agJ,rfl,rfl⟩
   .
    exact ⟨[.str [50]],ex.bK,5,agK,rfl,rfl⟩
   .
    exact ⟨[.str [52]],ex.bK,5,agL,rfl,rfl⟩
   exact ⟨[.str [56]],ex.bK,5,agM,rfl,rfl⟩
  cases hg
def V3:List kH:=(39,[none],gDc)::V2
theorem acS:cg ex.X0 cI V3:=.cons YT Qm
def vO:List (List UInt8):=[[],[98,121,116,101,32],[119,111,114,100,32],[100,119,111,114,100,32],[113,119,111,114,100,32],[111,119,111,114,100,32],[121,119,111,114,100,32]]
def Ij:List Int:=[0,1,2,4,8,16,32]
def T1 (m:Mm):List AV:=[.int .i64 m.1.1,.int .i64 m.1.2,.int .i64 m.2.1.1,.int .i64 m.2.1.2,.int .i64 m.2.2.1,.int .i64 m.2.2.2.1,.int .i64 m.2.2.2.2]
def pP1:List Bool:=[true,true,true,true,true,false,true,false]
def pP2:List Bool:=[true,true,true,true,true,true,true,true,true,true,true,true,false,true,false]
def T2:bG:=⟨Dz (.node none (cG [1,2,5,6,7,8,9] [true,false]) (cG [2,5,6,8,11,12] [true,true,true,true,true,true,false,true,false])) [true,true,true,true,true],.none,[]⟩
def LC (m:Mm) (part:Int) (q n:Nat) (which i:Int):Option AV:=cK ex.X0 (cN V3 JS AV) T2 q 8 pP1 (λv _=>some v) n (fY 116 [(1,.int .i64 part),(2,.ptr 0 0),(5,.bool true),(6,.own 1 7),(7,.own 2 7),(8,.int .i64 which),(9,.int .i64 i)])
 (iC [.cells 43 (T1 m),.list 9 .str vO 0 false false,.list 3 (.int .i64) Ij 0 false false])
def QV (m:Mm) (which:Int) (a b c:List UInt8) (q n:Nat) (i:Int):Option AV:=cK ex.X0 (cN V3 JS AV) T2 q 8 pP2 (λv _=>some v) n (fY 116 [(2,.ptr 0 0),(5,.bool true),(6,.own 1 7),(8,.int .i64 which),(11,.own 2 3),(12,.int .i64 i)])
 (iC [.cells 43 (T1 m),.list 9 .str vO 0 false false,.list 9 .str [a,b,c] 0 false false])
def ls3 (X:Nat) (K:Option AV):Option AV:=eL X K
def YU (o:Option (List UInt8)) (k:List UInt8->Option AV):Option AV:=Option.rec (motive:=λ_=>Option AV) none k o
def mI:List UInt8:=[108,101,97,32,101,97,120,44,32]
def isP (m:Mm) (s:List UInt8) (K:Option AV):Option AV:=pick2 (eR s).2 (pick2 (eqI (eR s).1.1 12) (pick2 (Nat.ble (eR s).1.2.length 900000) (pick2 (!wP (eR s).1.2 [j3 4 0,(2,(0,0),m,0)]) nT K) none) nT) nT
theorem Qr (m:Mm) (which:Int) (a b c:List UInt8) (q n:Nat) (i:Int):QV m which a b c q (n+1) i =
 pick2 (ltI i 3) (YU (aS vO which) λw=>eL (9+w.length) (eL ((mI++w).length+1) (YU (aS [a,b,c] i) λt=>eL ((mI++w++[91]).length+t.length) (eL ((mI++w++[91]++t).length+1) (isP m (mI++w++[91]++t++[93]) (QV m which a b c q n (IntKind.wrap .i64 (i+1)))))))) yT:=by kernel_rfl
def Zv (n:Int) (K:Option AV):Option AV:=pick2 (!ltI n (-9223372036854775808)&&ltI n 9223372036854775808) K none
def JW (c x:Int) (K:List UInt8->Option AV):Option AV:=pick2 (!(decide (c=0)&&decide (x=0))) (eL (3+(av c x).length) (K ([]++[32,43,32]++av c x))) (K [])
def T3 (c x sc:Int) (r:List UInt8) (K:List UInt8->Option AV):Option AV :=
 pick2 (!(decide (c=0)&&decide (x=0))) (eL (r.length+3) (eL ((r++[32,43,32]).length+(av c x).length) (eL ((r++[32,43,32]++av c x).length+1) (pick2 (cO sc) (eL ((r++[32,43,32]++av c x++[42]).length+(zN sc).length) (K (r++[32,43,32]++av c x++[42]++zN sc))) none)))) (K r)
def Qs (r:List UInt8) (d part:Int) (K:List UInt8->List UInt8->List UInt8->Option AV):Option AV :=
 Zv d (eL (r.length+(eZ d).length) (Zv d (eL ((eZ d).length+r.length) (Zv part (eL ((eZ part).length+r.length) (Zv (IntKind.wrap .i64 (d-part)) (eL ((eZ part++r).length+(eZ (IntKind.wrap .i64 (d-part))).length)
  (K (r++eZ d) (eZ d++r) (eZ part++r++eZ (IntKind.wrap .i64 (d-part)))))))))))
def Ik (m:Mm) (which part:Int) (q:Nat):Option AV :=
 pick2 (!eqI (vI m) 0) yT (pick2 (ltI which 0) yT (pick2 (eqI m.2.2.2.1 (-2147483648)) yT
  ((
   λgo:Int->Option AV=>pick2 (ltI (Int.tmod part 1073741824) 0) (go (IntKind.wrap .i64 (Int.tmod part 1073741824+1073741824))) (go (Int.tmod part 1073741824))) λpart =>
   JW m.1.1 m.1.2 λr=>T3 m.2.1.1 m.2.1.2 m.2.2.1 r λr=>Qs r m.2.2.2.1 part λa b c=>QV m which a b c q q 0)))
def agN (o:Option Int) (k:Int->Option AV):Option AV:=Option.rec (motive:=λ_=>Option AV) none k o
theorem Qt (m:Mm) (part:Int) (q n:Nat) (which i:Int):LC m part q (n+1) which i =
 pick2 (ltI i 7) (agN (aS Ij i) λy=>pick2 (eqI y m.2.2.2.2) (LC m part q n i (IntKind.wrap .i64 (i+1))) (LC m part q n which (IntKind.wrap .i64 (i+1)))) (Ik m which part q):=by kernel_rfl
theorem T4 (m:Mm) (part:Int) (q:Nat):ag ex.X0 (cN V3 JS AV) T2 q 8 [.agg (T1 m),.int .i64 part] aa.empty (λv _=>some v)=LC m part q q (-1) 0:=by kernel_rfl
end
end Go.Proofs.YtpaddkkfefgkfaaGreatDoor.ps.iq
