/- Lists of nodes, instructions held against themselves. -/
import Derived.Test.YtbeckacfibledaaGreatDoorGrg
import Derived.Test.YtbeckacfibledaaGreatDoorGxe
import Derived.Test.YtbeckacfibledaaGreatDoorGva
import Derived.Test.YtbeckacfibledaaGreatDoorGrj
import Derived.Test.YtbeckacfibledaaGreatDoorGxb
set_option linter.unusedVariables false
set_option linter.unusedSimpArgs false

namespace Go.Proofs.YtbeckacfibledaaGreatDoor.ps
open Go.Tv Go.Ev Go.Px Go.Pp Go.Proofs.YtbeckacfibledaaGreatDoor.ex
set_option maxRecDepth 100000
noncomputable section
theorem Sa {id:FuncId}(g:lt.inl id=true){M:List xw}{N:List rf}(i:jy X0 gR M)(j:jc X0 gR N){sig:List (Option (TypeId×Tv.Ty))}{f:aI->Option (Bool×aI)}(d sg:List (List (Option Tv.Ty)))
 (h:∀vs b,f vs=some (true,b)->b.all Gj=true/\∃an rounds,aT X0 (cN M N _) an rounds id (Gz d vs) aH.empty (tn sg)=some b):iI X0 gR id ⟨none,sig,gV f⟩:=by
 intro ins outs rs a;have a:gV f ins=some (true,outs,rs):=a;unfold gV at a;split at a;case h_2=>cases a
 rename_i vs k;split at a;case h_2=>cases a
 rename_i c b l;simp only[aq,az]at a;obtain⟨rfl,_,rfl⟩:=a;obtain⟨m,an,rounds,n⟩:=h vs b l;have hi:=sH k;subst hi;intro _;obtain⟨M1,o⟩:=Ji (nk g) (kP i j _) n;refine⟨b,M1,?_,yu m⟩;rw[uj,wT];exact λS E p q e r=>o S E p q e (GB d r)
def HN {α:Type}(a b:α):Bool:=@decide (a=b) (Classical.propDecidable _)
theorem tB {α:Type}{a b:α}:HN a b=true↔a=b:=by
 unfold HN;exact @decide_eq_true_iff _ (Classical.propDecidable _)
theorem v9 {α:Type}(a:α):HN a a=true:=tB.2 rfl
theorem zk {α β:Type}{x:List α}(n:x.length<=2000000){ok:α->Bool}{T:Option β}{j:Nat->Int->Option β}
 (step:∀m i a,i<(x.length:Int)->eL x i=some a->ok a=true->j (m+1) i=j m (IntKind.wrap .i64 (i+1))) (stop:∀m,j (m+1) x.length=T) :
 ∀(rest pre:List α) (m:Nat),x=pre++rest->rest.length<m->(∀a∈rest,ok a=true)->j m pre.length=T:=by
 intro rest;induction rest with
 |nil =>
  intro pre m c f _;obtain⟨m,rfl⟩:∃g,m=g+1:=⟨m-1,by simp at f;omega⟩;have h:x.length=pre.length:=by rw[c];simp
  rw[<-h];exact stop m
 |cons a rest k =>
  intro pre m c f d;obtain⟨m,rfl⟩:∃g,m=g+1:=⟨m-1,by simp at f;omega⟩;have h:x.length=pre.length+(rest.length+1):=by rw[c];simp
  have e:=k (pre++[a]) m (by rw[c];simp) (by simp at f;omega) (λb l=>d b (by simp[l]));rw[aA]at e;rw[step m pre.length a (by omega) (by rw[c];exact mc pre rest a) (d a (by simp)),i64_in (by omega) (by omega)];exact e
def afv (x y:Nd):Bool:=decide (x.1=y.1)&&(decide (x.2.1=y.2.1)&&(decide (x.2.2.1=y.2.2.1)&&(decide (x.2.2.2.1=y.2.2.2.1)&&decide (x.2.2.2.2=y.2.2.2.2))))
def pSn:eJ:=[true,true,false,true,false]
def afw:fe:=⟨iM [0,1,4,5] pSn,.none,[]⟩
def jSn (x y:bz)(r m:Nat)(i:Int):bx:=jo X0 (cN P3 [] AV) afw r 24 pSn (λv _=>some v) m (lS 26 [(0,.eC fA x),(1,.eC fA y),(4,.bool false),(5,.int .i64 i)]) (oL [])
theorem abr (x y:bz)(r m:Nat)(i:Int):jSn x y r (m+1) i=ah (bN i x.length) (Option.rec (motive:=λ_=>bx) none (λa=>Option.rec (motive:=λ_=>bx) none (λb=>ah (!afv a b) (some (.bool false)) (jSn x y r m (IntKind.wrap .i64 (i+1)))) (eL y i)) (eL x i)) (some (.bool true)):=by kernel_rfl
theorem afx (x y:bz)(r:Nat):aT X0 (cN P3 [] AV) afw r 24 [.eC fA x,.eC fA y] aH.empty (λv _=>some v)=ah (!bS x.length y.length) (some (.bool false)) (jSn x y r r 0):=by kernel_rfl
theorem aqd {x:bz}(b:x.length<=2000000):aT X0 (cN P3 [] AV) afw (x.length+1) 24 [.eC fA x,.eC fA x] aH.empty (λv _=>some v)=some (.bool true):=by
 rw[afx,cF,ag rfl];refine zk b (ok:=λ_=>true) (j:=jSn x x (x.length+1)) (λm i a hi c _=>?_) (λm=>?_) x [] _ rfl (by omega) (λ_ _=>rfl)
 .rw[abr,rC hi,c];have:afv a a=true:=by simp[afv]
  show ah (!afv a a) _ _=_;rw[this];rfl
 rw[abr,gB (by omega)]
def gSn (args:aI):Option (Bool×List gj) :=
 match args with
 |[L,R]=>match IX fA L,IX fA R with
  |some x,some y=>some (HN (α:=bz) x y&&Nat.ble x.length 2000000,[.val (.bool true)])
  |_,_=>none
 |_=>none
theorem alV:dQ X0 gR 24 gSn :=
 dG (nk rfl) (kP Ju n0) λargs rs a=>by
  unfold gSn at a;split at a;case h_2=>cases a
  split at a;case h_2=>cases a
  rename_i x y b hy;have c:=jn b;have e2:=jn hy;subst c;subst e2;simp only[aq,az,ak]at a;obtain⟨⟨e,d⟩,rfl⟩:=a;have e:=tB.1 e;subst e;exact⟨[.bool true],afw,x.length+1,aqd (aB d),rfl,rfl⟩
def S1:List xw:=(24,[some fA,some fA],gSn)::P3
theorem oT:jy X0 gR S1:=.cons alV Ju
def Um (A:aI):Option Raw:=match A with
 |[.int .i64 k,.int .i64 c,.int .i64 n,.int .i64 bc,.int .i64 bn,.int .i64 ic,.int .i64 ix,.int .i64 sc,.int .i64 d,.int .i64 z,X,.bool r]=>match IX fA X with
  |some x=>some (k,(c,n),((bc,bn),(ic,ix),sc,d,z),x,r)
  |none=>none
 |_=>none
theorem HA {A:aI}{a:Raw}(h:Um A=some a):A=VD a:=by
 unfold Um at h;split at h
 .split at h
  .rename_i x b;cases h;rw[jn b];rfl
  cases h
 cases h
def afy:List (Option Tv.Ty):=[none,none,none,none,none,none,none,none,none,none,some fA,none]
def Wg (a:Raw):Bool:=Nat.ble a.2.2.2.1.length 2000000
def fSr (vs:aI):Option (Bool×aI) :=
 match Gz [afy,afy] vs with
 |[.agg A,.agg B]=>match Um A,Um B with
  |some a,some b=>some (HN (α:=Raw) a b&&Wg a,[.bool true])
  |_,_=>none
 |_=>none
def sg1:List (List (Option Tv.Ty)):=[[none]]
abbrev abt:=Option aI
def FS:abt:=some [.bool false]
def TS':abt:=some [.bool true]
theorem alW (k c n bc bn ic ix sc d z:Int)(x:bz)(r:Bool):aT X0 (cN S1 NR _) gC 5 57 [.agg (VD (k,(c,n),((bc,bn),(ic,ix),sc,d,z),x,r)),.agg (VD (k,(c,n),((bc,bn),(ic,ix),sc,d,z),x,r))] aH.empty (tn sg1) =
 ah (bS k k) (ah (decide (c=c)&&decide (n=n)) (ah (decide (bc=bc)&&(decide (bn=bn)&&(decide (ic=ic)&&(decide (ix=ix)&&(decide (sc=sc)&&(decide (d=d)&&decide (z=z)))))))
  (ah (HN (α:=bz) x x&&Nat.ble x.length 2000000) (some [.bool (r==r)]) none) FS) FS) FS:=by kernel_rfl
theorem aqe {a:Raw}(h:Wg a=true):aT X0 (cN S1 NR _) gC 5 57 [.agg (VD a),.agg (VD a)] aH.empty (tn sg1)=TS':=by
 obtain⟨k,⟨c,n⟩,⟨⟨bc,bn⟩,⟨ic,ix⟩,sc,d,z⟩,x,r⟩:=a;have h:Nat.ble x.length 2000000=true:=h;rw[alW,h,v9];simp only[fD,decide_true,pI,mo];rfl
theorem alX:iI X0 gR 57 ⟨none,[none,none],gV fSr⟩ :=
 Sa rfl oT agJ [afy,afy] sg1 λvs h c=>by
  unfold fSr at c;split at c;case h_2=>cases c
  rename_i A B d;split at c;case h_2=>cases c
  rename_i a b f g;simp only[aq,az,ak]at c;obtain⟨⟨e,g0⟩,rfl⟩:=c;have e:=tB.1 e;subst e;refine⟨rfl,gC,5,?_⟩;rw[d,HA f,HA g];exact aqe g0
def NS1:List rf:=(57,⟨none,[none,none],gV fSr⟩)::NR
theorem abu:jc X0 gR NS1:=.cons alX agJ
def pSc:eJ:=[true,true,false,true,false]
def afz:fe:=⟨iM [2,3,4,5] pSc,.none,[]⟩
def Wh (o h:Int)(a:eO):aI:=[.int .i64 o,.int .i64 h,.eC lD a]
def jSc (o h:Int)(a:eO)(r m:Nat)(i:Int):abt:=jo X0 (cN S1 NS1 _) afz r 23 pSc (tn sg1) m (lS 46 [(2,.ptr 0 0),(3,.ptr 1 0),(4,.bool false),(5,.int .i64 i)]) (oL [.cells 36 (Wh o h a),.cells 36 (Wh o h a)])
theorem abv (o h:Int)(a:eO)(r m:Nat)(i:Int):jSc o h a r (m+1) i =
 ah (bN i a.length) (Option.rec (motive:=λ_=>abt) none (λx=>Option.rec (motive:=λ_=>abt) none (λy=>ah (HN (α:=Raw) x y&&Wg x) (jSc o h a r m (IntKind.wrap .i64 (i+1))) none) (eL a i)) (eL a i)) TS':=by kernel_rfl
theorem afA (o h:Int)(a:eO)(r:Nat):aT X0 (cN S1 NS1 _) afz r 23 [.agg (Wh o h a),.agg (Wh o h a)] aH.empty (tn sg1) =
 ah (!bS o o) FS (ah (!bS h h) FS (ah (!bS a.length a.length) FS (jSc o h a r r 0))):=by kernel_rfl
def okR (l:eO):Bool:=Nat.ble l.length 2000000&&l.all Wg
def Pc:List (Option Tv.Ty):=[none,none,some lD]
def fSc (vs:aI):Option (Bool×aI) :=
 match Gz [Pc,Pc] vs with
 |[.agg [.int .i64 o,.int .i64 h,L],.agg [.int .i64 c,.int .i64 d,e]]=>match IX lD L,IX lD e with
  |some a,some b=>some ((HN o c&&(HN h d&&HN (α:=eO) a b))&&okR a,[.bool true])
  |_,_=>none
 |_=>none
theorem aqg {a:eO}(b:okR a=true)(o h:Int):aT X0 (cN S1 NS1 _) afz (a.length+1) 23 [.agg (Wh o h a),.agg (Wh o h a)] aH.empty (tn sg1)=TS':=by
 unfold okR at b;rw[ak,aN]at b;obtain⟨c,d⟩:=b;have c:=aB c;rw[afA,cF,ag rfl,cF,ag rfl,cF,ag rfl];refine zk c (ok:=Wg) (j:=jSc o h a (a.length+1)) (λm i x hi e f=>?_) (λm=>?_) a [] _ rfl (by omega) d
 .rw[abv,rC hi,e];show ah (HN x x&&Wg x) _ none=_;rw[v9,f];rfl
 rw[abv,gB (by omega)]
theorem alY:iI X0 gR 23 ⟨none,[none,none],gV fSc⟩ :=
 Sa rfl oT abu [Pc,Pc] sg1 λvs j c=>by
  unfold fSc at c;split at c;case h_2=>cases c
  rename_i o h L k l m f;split at c;case h_2=>cases c
  rename_i a b g i;simp only[aq,az,ak]at c;obtain⟨⟨⟨d,e2,e⟩,g0⟩,rfl⟩:=c;have d:=tB.1 d;have e2:=tB.1 e2;have e:=tB.1 e;subst d;subst e2;subst e;refine⟨rfl,afz,a.length+1,?_⟩;rw[f,jn g,jn i];exact aqg g0 o h
def NS2:List rf:=(23,⟨none,[none,none],gV fSc⟩)::NS1
theorem abw:jc X0 gR NS2:=.cons alY abu
end
end Go.Proofs.YtbeckacfibledaaGreatDoor.ps
namespace Go.Tv
open Go.Ev (ah jx)
noncomputable section
end
end Go.Tv
namespace Go.Proofs.YtbeckacfibledaaGreatDoor.ps.sr
open Go.Tv Go.Ev Go.Px Go.Pp Go.Proofs.YtbeckacfibledaaGreatDoor.ex
set_option maxRecDepth 100000
noncomputable section
def gYs (args:aI):Option (Bool×List gj) :=
 match args with
 |[]=>some (true,[.val (.bool true)])
 |_=>none
theorem aqc:lt.kn 6 []=some (.bool true):=by kernel_rfl
theorem alU:dQ X0 gR 6 gYs :=
 U7 λargs rs a=>by
  unfold gYs at a;split at a
  .simp only[aq,az]at a;obtain⟨_,rfl⟩:=a;refine⟨_,.bool true,rfl,rfl,λS=>.bool _,rfl,λS c b=>?_⟩;rw[b.kI];exact⟨aqc,rfl⟩
  cases a
def S2:List xw:=(6,[],gYs)::S1
theorem abp:jy X0 gR S2:=.cons alU oT
abbrev c7:dz AV:=cV S2 N4 G7 _
def tT:bx:=some (.bool true)
def tF:bx:=some (.bool false)
def Wz {α:Type}(l:List α)(i:Int)(k:α->bx):bx:=Option.rec (motive:=λ_=>bx) none k (eL l i)
theorem abq {α:Type}(pre rest:List α)(y:α)(k:α->bx):Wz (pre++y::rest) (pre.length:Int) k=k y:=by
 unfold Wz;rw[mc]
end
end Go.Proofs.YtbeckacfibledaaGreatDoor.ps.sr
namespace Go.Proofs.YtbeckacfibledaaGreatDoor.ps.sr
open Go.Tv Go.Ev Go.Px Go.Pp Go.Proofs.YtbeckacfibledaaGreatDoor.ex
set_option maxRecDepth 100000
noncomputable section
def Ei (y:It):Bool:=okR y.2.2.2.1.2.2&&(Nat.ble y.2.2.2.2.1.length 2000000&&Nat.ble y.2.2.2.2.2.1.length 2000000)
def itA (y:It):aI:=[.int .i64 y.1,.int .i64 y.2.1,.str y.2.2.1,.int .i64 y.2.2.2.1.1,.int .i64 y.2.2.2.1.2.1,.eC lD y.2.2.2.1.2.2,.eC fA y.2.2.2.2.1,.eC (.int .u8) y.2.2.2.2.2.1,.int .i64 y.2.2.2.2.2.2]
theorem afB (y:It):aT X0 (cN ps.S1 NS2 _) gC 5 17 [.agg (itA y),.agg (itA y)] aH.empty (tn sg1)=ah (bS y.1 y.1) (ah (bS y.2.1 y.2.1) (ah (decide (y.2.2.1=y.2.2.1))
 (ah ((HN y.2.2.2.1.1 y.2.2.2.1.1&&(HN y.2.2.2.1.2.1 y.2.2.2.1.2.1&&HN (α:=eO) y.2.2.2.1.2.2 y.2.2.2.1.2.2))&&okR y.2.2.2.1.2.2) (ah (HN (α:=bz) y.2.2.2.2.1 y.2.2.2.2.1&&Nat.ble y.2.2.2.2.1.length 2000000)
  (ah (decide (y.2.2.2.2.2.1.map iU8=y.2.2.2.2.2.1.map iU8)) (some [.bool (bS y.2.2.2.2.2.2 y.2.2.2.2.2.2)]) FS) none) none) FS) FS) FS:=by kernel_rfl
theorem aqi {y:It}(h:Ei y=true):aT X0 (cN ps.S1 NS2 _) gC 5 17 [.agg (itA y),.agg (itA y)] aH.empty (tn sg1)=TS':=by
 unfold Ei at h;rw[ak,ak]at h;obtain⟨a,b,c⟩:=h;rw[afB,a,b];simp only[v9,fD,decide_true,pI,mo];rfl
def afC:List (Option Tv.Ty):=[none,none,none,none,none,some lD,some fA,some (.int .u8),none]
def afD (A:aI):Option It:=match A with
 |[.int .i64 a,.int .i64 b,.str c,.int .i64 d,.int .i64 e,R,X,B,.int .i64 n]=>match IX lD R,IX fA X,IX (.int .u8) B with
  |some r,some x,some l=>some (a,b,c,(d,e,r),x,l,n)
  |_,_,_=>none
 |_=>none
theorem JR {A:aI}{a:It}(h:afD A=some a):A=itA a:=by
 unfold afD at h;split at h
 .split at h
  .rename_i r x l b c d;cases h;rw[jn b,jn c,jn d];rfl
  cases h
 cases h
def fSi (vs:aI):Option (Bool×aI) :=
 match Gz [afC,afC] vs with
 |[.agg A,.agg B]=>match afD A,afD B with
  |some a,some b=>some (HN (α:=It) a b&&Ei a,[.bool true])
  |_,_=>none
 |_=>none
theorem alZ:iI X0 gR 17 ⟨none,[none,none],gV fSi⟩ :=
 Sa rfl ps.oT abw [afC,afC] sg1 λvs i c=>by
  unfold fSi at c;split at c;case h_2=>cases c
  rename_i A B d;split at c;case h_2=>cases c
  rename_i a b f g;simp only[aq,az,ak]at c;obtain⟨⟨e,h⟩,rfl⟩:=c;have e:=tB.1 e;subst e;refine⟨rfl,gC,5,?_⟩;rw[d,JR f,JR g];exact aqi h
def NI:List rf:=(17,⟨none,[none,none],gV fSi⟩)::NS2
theorem ahe:jc X0 gR NI:=.cons alZ abw
def pSi:eJ:=[true,true,false,true,false]
def Py:fe:=⟨iM [0,1,4,5] pSi,.none,[]⟩
def jSi (x y:cK)(r m:Nat)(i:Int):bx:=jo X0 (cN ps.S1 NI AV) Py r 9 pSi (λv _=>some v) m (lS 27 [(0,.eC sJ x),(1,.eC sJ y),(4,.bool false),(5,.int .i64 i)]) (oL [])
theorem abx (x y:cK)(r m:Nat)(i:Int):jSi x y r (m+1) i=ah (bN i x.length) (Wz x i λa=>Wz y i λb=>ah (HN (α:=It) a b&&Ei a) (jSi x y r m (IntKind.wrap .i64 (i+1))) none) tT:=by kernel_rfl
theorem afE (x y:cK)(r:Nat):aT X0 (cN ps.S1 NI AV) Py r 9 [.eC sJ x,.eC sJ y] aH.empty (λv _=>some v)=ah (!bS x.length y.length) tF (jSi x y r r 0):=by kernel_rfl
theorem aqj {x:cK}(b:x.length<=2000000)(c:∀y∈x,Ei y=true):aT X0 (cN ps.S1 NI AV) Py (x.length+1) 9 [.eC sJ x,.eC sJ x] aH.empty (λv _=>some v)=tT:=by
 rw[afE,cF,ag rfl];refine zk b (ok:=Ei) (j:=jSi x x (x.length+1)) (λm i a hi d e=>?_) (λm=>?_) x [] _ rfl (by omega) c
 .rw[abx,rC hi];unfold Wz;rw[d];show ah (HN a a&&Ei a) _ none=_;rw[v9,e];rfl
 rw[abx,gB (by omega)]
def gSi (args:aI):Option (Bool×List gj) :=
 match args with
 |[L,R]=>match IX sJ L,IX sJ R with
  |some x,some y=>some (HN (α:=cK) x y&&(Nat.ble x.length 2000000&&x.all Ei),[.val (.bool true)])
  |_,_=>none
 |_=>none
theorem afF:dQ X0 gR 9 gSi :=
 dG (nk rfl) (kP ps.oT ahe) λargs rs a=>by
  unfold gSi at a;split at a;case h_2=>cases a
  split at a;case h_2=>cases a
  rename_i x y c hy;have d:=jn c;have e2:=jn hy;subst d;subst e2;simp only[aq,az,ak]at a;obtain⟨⟨e,b,f⟩,rfl⟩:=a;have e:=tB.1 e;subst e;have b:=aB b;refine⟨[.bool true],Py,x.length+1,?_,rfl,rfl⟩;exact aqj b (aN.1 f)
def afG (a b:Sy):Bool:=decide (a.1=b.1)&&(decide (a.2.1=b.2.1)&&decide (a.2.2=b.2.2))
def jSy (x y:List Sy)(r m:Nat)(i:Int):bx:=jo X0 (cN ps.S1 NI AV) Py r 10 pSi (λv _=>some v) m (lS 26 [(0,.eC je x),(1,.eC je y),(4,.bool false),(5,.int .i64 i)]) (oL [])
theorem aby (x y:List Sy)(r m:Nat)(i:Int):jSy x y r (m+1) i=ah (bN i x.length) (Wz x i λa=>Wz y i λb=>ah (!afG a b) tF (jSy x y r m (IntKind.wrap .i64 (i+1)))) tT:=by kernel_rfl
theorem afH (x y:List Sy)(r:Nat):aT X0 (cN ps.S1 NI AV) Py r 10 [.eC je x,.eC je y] aH.empty (λv _=>some v)=ah (!bS x.length y.length) tF (jSy x y r r 0):=by kernel_rfl
theorem Wi (a:Sy):afG a a=true:=by simp[afG]
theorem aqk {x:List Sy}(b:x.length<=2000000):aT X0 (cN ps.S1 NI AV) Py (x.length+1) 10 [.eC je x,.eC je x] aH.empty (λv _=>some v)=tT:=by
 rw[afH,cF,ag rfl];refine zk b (ok:=λ_=>true) (j:=jSy x x (x.length+1)) (λm i a hi c _=>?_) (λm=>?_) x [] _ rfl (by omega) (λ_ _=>rfl)
 .rw[aby,rC hi];unfold Wz;rw[c];show ah (!afG a a) _ _=_;rw[Wi];rfl
 rw[aby,gB (by omega)]
def gSy (args:aI):Option (Bool×List gj) :=
 match args with
 |[L,R]=>match IX je L,IX je R with
  |some x,some y=>some (HN (α:=List Sy) x y&&Nat.ble x.length 2000000,[.val (.bool true)])
  |_,_=>none
 |_=>none
theorem afI:dQ X0 gR 10 gSy :=
 dG (nk rfl) (kP ps.oT ahe) λargs rs a=>by
  unfold gSy at a;split at a;case h_2=>cases a
  split at a;case h_2=>cases a
  rename_i x y c hy;have d:=jn c;have e2:=jn hy;subst d;subst e2;simp only[aq,az,ak]at a;obtain⟨⟨e,b⟩,rfl⟩:=a;have e:=tB.1 e;subst e;have b:=aB b;refine⟨[.bool true],Py,x.length+1,?_,rfl,rfl⟩;exact aqk b
theorem Pw:∀(l:cA) (s:SS) (k:Nat),wg s (2*k) (1048576*k) 1100->wg (sR l s).1 (2*(k+l.length)) (1048576*((k+l.length:Nat):Int)) 1100
 |[],s,k,h=>h
 |w::l,s,k,h=>by
  obtain⟨f,g⟩:=bd.Hx w;have a:=L8 h (s.av+1);have b:wg (jd iz gG nW { s with av:=s.av+1 } (di w).1).1 (2*(k+1)) (1048576*((k+1:Nat):Int)) 1100:=by
   rw[show 2*(k+1)=2*k+2 by omega,show (1048576*((k+1:Nat):Int))=1048576*(k:Int)+1048576 by omega];exact ahd a f g
  have e:k+(w::l).length=(k+1)+l.length:=by simp only[aJ];omega
  unfold sR;rw[kg,e];by_cases c:(di w).2.1≠0
  .rw[ag c];exact a.up (by omega) (by omega)
  rw[aa c];by_cases d:(jd iz gG nW { s with av:=s.av+1 } (di w).1).2≠0
  .rw[ag d];exact(L8 b _).up (by omega) (by omega)
  rw[aa d];exact Pw l _ (k+1) b
theorem Hz (s:au):(l6 s).length<=s.length+1:=by rw[tM,cO];exact AZ s
theorem Ul (s:au):(oy s).1.2.1.length<=2*(s.length+1)/\(oy s).1.2.2.length<=20000:=by
 have h:=Pw (l6 s) kf 0 aqb;have d:=Hz s;have b:=h.aK;have c:=h.ax;by_cases a:(oy s).2.1=0
 .obtain ⟨_,_,e⟩:=Z5 iz gG nW di a;have e:oy s=_:=e;rw[e];exact⟨bA b (by omega),c⟩
 have e:=Z6 iz gG nW di a;have e:(oy s).1=_:=e;rw[e];exact⟨cJ _,cJ _⟩
end
end Go.Proofs.YtbeckacfibledaaGreatDoor.ps.sr
namespace Go.Proofs.YtbeckacfibledaaGreatDoor.ps.sr
open Go.Tv Go.Ev Go.Px Go.Pp Go.Proofs.YtbeckacfibledaaGreatDoor.ex
noncomputable section
theorem afS:∀g:Nat,g<8->g≠0->X0.gv g=[]
 |0,_,h=>by first|rfl|exact absurd rfl h
 |1,_,h=>by first|rfl|exact absurd rfl h
 |2,_,_=>rfl
 |3,_,_=>rfl
 |4,_,_=>rfl
 |5,_,_=>rfl
 |6,_,_=>rfl
 |7,_,_=>rfl
 |g+8,a,_=>absurd a (by omega)
theorem kE {w:World}{rows:List kV}(d:∃b,rows[0]? = some b/\b.live=true/\b.cells=lt.C5)(e:mG rows w):gi X0 (wO w):=by
 refine I1 e λg f h=>?_
 by_cases a:g=0
 .subst a;obtain⟨b,i,e2,c⟩:=d;exact⟨b,i,e2,by rw[c];rfl,by rw[c];kernel_rfl⟩
 exact absurd (afS g f a) h
end
end Go.Proofs.YtbeckacfibledaaGreatDoor.ps.sr
namespace Go.Proofs.YtbeckacfibledaaGreatDoor.ps.sr
open Go.Tv Go.Ev Go.Px Go.Pp Go.Proofs.YtbeckacfibledaaGreatDoor.ex
set_option maxRecDepth 100000
noncomputable section
def Al (P:It->Prop)(s t:SS):Prop:=∀y∈t.ax,y∈s.ax\/P y
theorem Al.rfl' {P:It->Prop}(s:SS):Al P s s:=λ_ h=>.inl h
theorem Al.same {P:It->Prop}{s t:SS}(h:t.ax=s.ax):Al P s t:=λy hy=>.inl (h ▸ hy)
theorem Al.trans {P:It->Prop}{a b c:SS}(h:Al P a b)(k:Al P b c):Al P a c:=λy hy=>by
 rcases k y hy with q|q
 .exact h y q
 exact .inr q
theorem Dr {P:It->Prop}(s:SS)(a b c:Int){l:cK}(h:∀y∈l,P y):Al P s (jW s a b c l).1:=by
 unfold jW;split
 .exact .rfl' s
 split
 .exact .rfl' s
 intro y hy;rcases cg.1 hy with q|q
 .exact .inl q
 obtain⟨m,d,q⟩:=List.mem_flatten.1 q;rw[(List.mem_replicate.1 d).2]at q;exact .inr (h y q)
theorem HB {P:It->Prop}{s:SS}{w:au}{k:SR'}(h:Al P s k.1):Al P s (sQ s w k).1:=by
 unfold sQ;split
 .exact .rfl' s
 exact h
theorem yN {P:It->Prop}{s:SS}{x:bz}{k:Int->SR'}(h:∀n,Al P s (k n).1):Al P s (qu iz gG s x k).1:=by
 unfold qu;split
 .exact .rfl' s
 exact h _
def yO (n:Int):Prop:=0<=n/\n<=1000000
def OkI (y:It):Prop:=Ei y=true/\yO y.1
theorem HC {n k:Int}{w:au}{c:Int×Int×eO}{x:bz}{b:cZ}{m:Int}(a:okR c.2.2=true)(d:x.length<=2000000)(e:b.length<=2000000)(f:yO n):OkI (n,k,w,c,x,b,m):=by
 refine⟨?_,f⟩;show (okR c.2.2&&(Nat.ble x.length 2000000&&Nat.ble b.length 2000000))=true;rw[a,eN d,eN e];rfl
theorem EO:okR []=true:=rfl
theorem abz {s:SS}(a:yO s.av){b:cZ}(h:b.length<=2000000):OkI (itB s b):=HC EO (by decide) h a
theorem abA {s:SS}(a:yO s.av)(w:au):Al OkI s (B8 s w).1:=by
 unfold B8;refine HB ?_;split
 .exact .same rfl
 exact Al.trans (b:={ s with lab:=if w.take 1=[46] then s.lab else w,aL:=jv s.aL (iE (cy s) w) 0 }) (.same rfl) (Dr _ _ _ _ λy hy=>by
  rw[dP.1 hy];exact HC EO (by decide) (by decide) a)
theorem HF {x:bz}(h:fq x=true):x.length<=2000000:=by
 unfold fq at h;rw[ak]at h;exact aB h.1
theorem afJ {c:au}{l:eO}(h:pW l=true):okR (GU c l).1=true:=by
 obtain⟨a,b⟩:=DT h;unfold okR GU;rw[ak,cO,eN a,aN];refine⟨rfl,λr d=>?_⟩;obtain⟨q,e,rfl⟩:=cG.1 d;refine eN ?_;show ((dL c q.2.2.2.1).1).length<=_;unfold dL;rw[cO];exact HF (b q e)
theorem al0 {s:SS}(a:yO s.av){sz:Int}(b:sz=1\/sz=2\/sz=4\/sz=8){d:Dt}(e:d.1.length<=1000000)(c:fq d.2=true):OkI (dtC s sz d):=by
 unfold dtC;split
 .refine abz a ?_;have:=Cg (n:=d.1.length) b;unfold ZY;rw[aA,cO,jz];omega
 refine HC EO ?_ (by decide) a;unfold dL;rw[cO];exact HF c
theorem afK {s:SS}(c:yO s.av){x:RS}(f:Pq x)(n:Int):Al OkI s (nS iz gG nW s x n).1:=by
 unfold nS;split
 .unfold yF;split
  .exact .rfl' s
  exact Dr _ _ _ _ λy hy=>by
   rw[dP.1 hy];exact HC (afJ f.args) (by decide) (by decide) c
 split
 .rename_i g;obtain⟨h,_⟩:=f.k2 g;unfold zW;split
  .exact .rfl' s
  refine Dr _ _ _ _ λy hy=>?_
  obtain⟨d,i,rfl⟩:=cG.1 hy;obtain⟨a,b⟩:=(ux f.data).2 d i;exact al0 c (uw h) a b
 split
 .exact HB (yN λn=>.same rfl)
 split
 .exact yN λn=>by
   split
   .exact .rfl' s
   exact Dr _ _ _ _ λy hy=>by
    rw[dP.1 hy];exact HC EO (by decide) (by decide) c
 split
 .exact yN λn=>by
   split
   .exact .rfl' s
   split
   .exact .rfl' s
   exact .same rfl
 split
 .exact .same rfl
 split
 .exact HB (.same rfl)
 split
 .rename_i g;have h:=uw (f.k8 g);exact yN λn=>by
   split
   .exact .rfl' s
   split
   .exact .rfl' s
   rename_i k j;have l:0<=n*x.sz/\n*x.sz<=1048576:=by
    rcases h with e|e|e|e<;>rw[e]at j ⊢
    .have:Int.tdiv 1048576 1=1048576:=by decide
     omega
    .have:Int.tdiv 1048576 2=524288:=by decide
     omega
    .have:Int.tdiv 1048576 4=262144:=by decide
     omega
    have:Int.tdiv 1048576 8=131072:=by decide
    omega
   split
   .exact .same rfl
   exact Dr _ _ _ _ λy hy=>by
    rw[dP.1 hy];exact abz c (by rw[jz];omega)
 split
 .unfold GW;split
  .exact .rfl' s
  unfold powC;split
  .exact .rfl' s
  exact Dr _ _ _ _ λy hy=>by
   rw[dP.1 hy];exact abz c (bA (aa3 _ _ _) (by decide))
 exact .rfl' s
theorem Un {s:SS}(a:yO s.av){x:RS}(b:Pq x)(n:Int):Al OkI s (uo iz gG nW s x n).1:=by
 unfold uo;split
 .exact .rfl' s
 exact afK a b n
theorem Pz {s:SS}(a:yO s.av){x:RS}(b:Pq x):Al OkI s (qv iz gG nW s x).1:=by
 unfold qv;split
 .exact Un a b 1
 exact yN λn=>by
  split
  .exact .rfl' s
  exact Un a b n
theorem afL {s:SS}(a:yO s.av){x:RS}(b:Pq x):Al OkI s (jd iz gG nW s x).1:=by
 unfold jd;split
 .split
  .exact abA a _
  exact(abA a _).trans (Pz (by rw[GX];exact a) b)
 exact Pz a b
theorem PA:∀(l:cA) (s:SS),0<=s.av->s.av+l.length<=1000000->Al OkI s (sR l s).1
 |[],s,_,_=>.rfl' s
 |w::l,s,i,d=>by
  obtain⟨f,_⟩:=bd.Hx w;simp only[aJ]at d;have g:yO (s.av+1):=⟨by omega,by omega⟩;have h:=afL (s:={ s with av:=s.av+1 }) g f;have a:Al OkI s { s with av:=s.av+1 }:=.same rfl;unfold sR;rw[kg];by_cases b:(di w).2.1≠0
  .rw[ag b];exact a
  rw[aa b];by_cases c:(jd iz gG nW { s with av:=s.av+1 } (di w).1).2≠0
  .rw[ag c];exact a.trans (h.trans (.same rfl))
  rw[aa c];have e:(jd iz gG nW { s with av:=s.av+1 } (di w).1).1.av=s.av+1:=JB iz gG nW _ _;exact a.trans (h.trans (PA l _ (by rw[e];omega) (by rw[e];omega)))
theorem al1 (l:cA)(b:l.length<=1000000):∀y∈(zF iz gG nW di l).1.2.2,Ei y=true/\yO y.1:=by
 by_cases a:(zF iz gG nW di l).2.1=0
 .obtain ⟨_,_,e⟩:=Z5 iz gG nW di a;rw[e];intro y hy;rcases PA l kf (bL _) (by show (0:Int)+_<=_;omega) y hy with q|q
  .cases q
  exact q
 rw[Z6 iz gG nW di a];intro y hy;cases hy
end
end Go.Proofs.YtbeckacfibledaaGreatDoor.ps.sr
namespace Go.Proofs.YtbeckacfibledaaGreatDoor.ps.sr
open Go.Tv Go.Ev Go.Px Go.Pp Go.Proofs.YtbeckacfibledaaGreatDoor.ex
noncomputable section
def abB (c:UInt8)(l:cA):cA:=if c=10 then []::l else match l with
 |p::ps=>(c::p)::ps
 |[]=>[[c]]
theorem uY (c:UInt8)(r:au):sl.dV (c::r)=abB c (sl.dV r):=rfl
theorem HG:∀(a b:au),sl.dV (a++10::b)=sl.dV a++sl.dV b
 |[],b=>by
  show sl.dV (10::b)=[[]]++sl.dV b;rw[uY];rfl
 |c::a,b=>by
  have e:=HG a b;show sl.dV (c::(a++10::b))=sl.dV (c::a)++sl.dV b;rw[uY,uY,e];unfold abB;by_cases d:c=10
  .rw[ag d,ag d];rfl
  rw[aa d,aa d];cases h:sl.dV a with
  |nil=>exact absurd h (sl.qI a)
  |cons p ps=>rfl
theorem Sb (a b:au):l6 (a++10::b)=l6 a++l6 b:=by
 rw[tM,tM,tM,HG,fj]
theorem HH:∀(a:au),(∀c∈a,c≠10)->sl.dV a=[a]
 |[],_=>rfl
 |c::a,h=>by
  have b:=HH a λx d=>h x (by simp[d])
  rw[uY,b];unfold abB;rw[aa (h c (by simp))]
end
end Go.Proofs.YtbeckacfibledaaGreatDoor.ps.sr
namespace Go.Proofs.YtbeckacfibledaaGreatDoor.ps.sr
open Go.Tv Go.Ev Go.Px Go.Pp Go.Proofs.YtbeckacfibledaaGreatDoor.ex
set_option maxRecDepth 100000
noncomputable section
def w4:au:=[116,105,109,101]
def w3:au:=[114,101,115]
def yP:au->Bool
 |[]=>true
 |c::r=>if 4<=(c::r).length then (if (c::r).take 4=w4\/(c::r).take 3=w3 then false else yP r) else true
theorem DX (c:UInt8)(r:au):yP (c::r)=if 4<=r.length+1 then (if (c::r).take 4=w4\/(c::r).take 3=w3 then false else yP r) else true:=rfl
def vo (s:au):Bool:=decide (s.length<=2000)&&yP s
def pSh:eJ:=[true,true,false,true,false]
def afM:fe:=⟨iM [0,3] pSh,.none,[]⟩
def jSh (s:au)(r m:Nat)(i:Int):bx:=jo X0 c7 afM r 7 pSh (λv _=>some v) m (lS 28 [(0,.str s),(3,.int .i64 i)]) (oL [])
def inS (s:au)(i j:Int)(k:bx):bx:=ah (!bN i 0 && !bN j i && !bN s.length j) k none
theorem abC (s:au)(r m:Nat)(i:Int):jSh s r (m+1) i=ah (!bN s.length (IntKind.wrap .i64 (i+4))) (inS s i (IntKind.wrap .i64 (i+4)) (ah (decide (dZ s i (IntKind.wrap .i64 (i+4))=w4)) tF
 (inS s i (IntKind.wrap .i64 (i+3)) (ah (decide (dZ s i (IntKind.wrap .i64 (i+3))=w3)) tF (jSh s r m (IntKind.wrap .i64 (i+1))))))) tT:=by kernel_rfl
theorem afN (s:au)(r:Nat):aT X0 c7 afM r 7 [.str s] aH.empty (λv _=>some v)=ah (bN 2000 s.length) tF (jSh s r r 0):=by kernel_rfl
theorem abD {s:au}{i j:Int}(a:0<=i)(b:i<=j)(c:j<=s.length)(k:bx):inS s i j k=k:=by
 unfold inS;rw[gB (by omega),gB (by omega),gB (by omega)];rfl
theorem al2 {s:au}(o:s.length<=2000)(r:Nat):∀(rest pre:au) (m:Nat),s=pre++rest->rest.length<m->jSh s r m pre.length=some (.bool (yP rest)):=by
 intro rest;induction rest with
 |nil =>
  intro pre m b d;obtain⟨m,rfl⟩:∃g,m=g+1:=⟨m-1,by simp at d;omega⟩;have i:s.length=pre.length:=by rw[b];simp
  rw[abC,i64_in (by omega) (by omega),jM,aa (by omega)];rfl
 |cons c rest j =>
  intro pre m b d;obtain⟨m,rfl⟩:∃g,m=g+1:=⟨m-1,by simp at d;omega⟩;have i:s.length=pre.length+(rest.length+1):=by rw[b];simp
  have a:=j (pre++[c]) m (by rw[b];simp) (by simp at d;omega);rw[aA]at a;have a:jSh s r m ((pre.length:Int)+1)=some (.bool (yP rest)):=a;rw[abC,i64_in (n:=(pre.length:Int)+4) (by omega) (by omega),i64_in (n:=(pre.length:Int)+3) (by omega) (by omega),i64_in (n:=(pre.length:Int)+1) (by omega) (by omega),a,jM];rw[DX];by_cases h:4<=rest.length+1
  .have k:dZ s (pre.length:Int) ((pre.length:Int)+4)=(c::rest).take 4:=by
    unfold dZ;rw[show ((pre.length:Int)).toNat=pre.length by omega,show ((pre.length:Int)+4).toNat-pre.length=4 by omega,b,eI]
   have l:dZ s (pre.length:Int) ((pre.length:Int)+3)=(c::rest).take 3:=by
    unfold dZ;rw[show ((pre.length:Int)).toNat=pre.length by omega,show ((pre.length:Int)+3).toNat-pre.length=3 by omega,b,eI]
   rw[ag (by omega),ag h,abD (by omega) (by omega) (by omega),abD (by omega) (by omega) (by omega),k,l];by_cases e:(c::rest).take 4=w4
   .rw[bg e,ag (.inl e)];rfl
   rw[aY e];by_cases f:(c::rest).take 3=w3
   .rw[bg f,ag (.inr f)];rfl
   rw[aY f,aa (λq=>q.elim e f)]
  rw[aa (by omega),aa h];rfl
def gSh (args:aI):Option (Bool×List gj) :=
 match args with
 |[.str s]=>some (true,[.val (.bool (vo s))])
 |_=>none
theorem aqm (s:au):aT X0 c7 afM (s.length+1) 7 [.str s] aH.empty (λv _=>some v)=some (.bool (vo s)):=by
 rw[afN,de];unfold vo;by_cases h:s.length<=2000
 .rw[aa (by omega),bg h];exact al2 h _ s [] _ rfl (by omega)
 rw[ag (by omega),aY h];rfl
theorem al3:dQ X0 gR 7 gSh :=
 dG (nk rfl) (rF abp Ui abo) λargs rs a=>by
  unfold gSh at a;split at a;case h_2=>cases a
  rename_i s;simp only[aq,az]at a;obtain⟨_,rfl⟩:=a;exact⟨[.bool (vo s)],afM,s.length+1,aqm s,rfl,rfl⟩
def S3:List xw:=(9,[some sJ,some sJ],gSi)::(10,[some je,some je],gSy)::(7,[none],gSh)::S2
theorem aqn:jy X0 gR S3:=.cons afF (.cons afI (.cons al3 abp))
def Sc (x y:cK)(k:bx):bx:=ah (HN (α:=cK) x y&&(Nat.ble x.length 2000000&&x.all Ei)) k none
def Sd (x y:List Sy)(k:bx):bx:=ah (HN (α:=List Sy) x y&&Nat.ble x.length 2000000) k none
theorem PB {x:cK}(h:x.length<=2000000)(a:∀y∈x,Ei y=true)(k:bx):Sc x x k=k:=by
 unfold Sc;rw[v9,eN h,aN.2 a];rfl
theorem PC {x:List Sy}(h:x.length<=2000000)(k:bx):Sd x x k=k:=by
 unfold Sd;rw[v9,eN h];rfl
end
end Go.Proofs.YtbeckacfibledaaGreatDoor.ps.sr
