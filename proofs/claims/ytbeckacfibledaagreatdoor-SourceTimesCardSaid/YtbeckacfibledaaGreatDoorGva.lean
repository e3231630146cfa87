/- Sources: what a line adds, as plain functions; what stays ahead. -/
import Derived.Test.YtbeckacfibledaaGreatDoorGrg
set_option linter.unusedVariables false
set_option linter.unusedSimpArgs false

namespace Go.Proofs.YtbeckacfibledaaGreatDoor.ps.sr
open Go.Tv Go.Ev Go.Px Go.Pp Go.Proofs.YtbeckacfibledaaGreatDoor.ex
set_option maxRecDepth 100000
noncomputable section
abbrev It:=Int×Int×au×(Int×Int×eO)×bz×cZ×Int
abbrev cK:=List It
abbrev Sy:=au×Int×Bool
structure SS where
 gu:Int
 aK:List Sy
 ax:cK
 aL:List (au×Int)
 lab:au
 opn:Bool
 bw:au
 aP:Int
 aV:Bool
 aD:Int
 av:Int
def kf:SS:=⟨0,[],[],[],[],false,[],0,false,0,0⟩
abbrev SR':=SS×Int
section
variable (ev:bz->List Sy->Int×Bool×Int) (fJ:bz->cA) (pw:Int->Int->Int->cZ×Int)
def cy (s:SS):au:=if s.opn=true then s.bw else s.lab
def iE (c w:au):au:=if w.take 1=[46] then c++w else w
def OK (c:au)(y:Nd):Nd:=if y.1=2 then (y.1,y.2.1,iE c y.2.2.1,y.2.2.2) else y
def ndB (c:au)(y:Nd):Bool := !decide (y.1=2)||Nat.ble (iE c y.2.2.1).length 60
def dL (c:au)(x:bz):bz×Bool:=(x.map (OK c),x.all (ndB c))
def GS (c:au)(r:Raw):Raw:=(r.1,r.2.1,r.2.2.1,(dL c r.2.2.2.1).1,r.2.2.2.2)
def GU (c:au)(l:eO):eO×Bool:=(l.map (GS c),l.all λr=>(dL c r.2.2.2.1).2)
def rz (s:SS)(w:au):Option Sy:=if 0<ju s.aL w then eL s.aK (ju s.aL w-1) else none
def cR (s:SS)(x:bz):Int×Int :=
 if (dL (cy s) x).2=false then (0,3)
 else if (ev (dL (cy s) x).1 ((fJ (dL (cy s) x).1).filterMap (rz s))).2.2≠0 then (0,(ev (dL (cy s) x).1 ((fJ (dL (cy s) x).1).filterMap (rz s))).2.2)
 else if (ev (dL (cy s) x).1 ((fJ (dL (cy s) x).1).filterMap (rz s))).2.1=true then (0,5)
 else ((ev (dL (cy s) x).1 ((fJ (dL (cy s) x).1).filterMap (rz s))).1,0)
def qu (s:SS)(x:bz)(k:Int->SR'):SR':=if (cR ev fJ s x).2≠0 then (s,(cR ev fJ s x).2) else k (cR ev fJ s x).1
def yD (s:SS)(w:au):Int:=if sN s.aL w=true then 7 else if 60<w.length then 3 else 0
def sQ (s:SS)(w:au)(k:SR'):SR':=if yD s w≠0 then (s,yD s w) else k
def Rz (s:SS)(w:au)(n:Int):SS:={ s with aK:=s.aK++[(w,n,false)],aL:=jv s.aL w ((s.aK.length+1:Nat):Int) }
def jW (s:SS)(ax aD ai:Int)(l:cK):SR' :=
 if 0<ax/\Int.tdiv (20000-s.ax.length) ax<ai then (s,3)
 else if 0<aD/\Int.tdiv (1048576-s.aD) aD<ai then (s,3)
 else ({ s with aD:=s.aD+aD*ai,ax:=s.ax++(List.replicate ai.toNat l).flatten },0)
def itL (s:SS)(w:au):It:=(s.av,1,w,(0,0,[]),[],[],0)
def itB (s:SS)(b:cZ):It:=(s.av,4,[],(0,0,[]),[],b,0)
def B8 (s:SS)(w:au):SR' :=
 sQ s (iE (cy s) w) (if s.opn=true then (Rz s (iE (cy s) w) s.aP,0)
  else jW { s with lab:=if w.take 1=[46] then s.lab else w,aL:=jv s.aL (iE (cy s) w) 0 } 1 0 1 [itL s (iE (cy s) w)])
def OM (s:SS)(x:RS):Bool :=
 if s.opn=true then (if x.aC=1\/x.aC=2\/x.aC=4\/x.aC=5\/x.aC=9\/x.aC=6 then false else decide (x.ai=[])) else !decide (x.aC=7)
def yF (s:SS)(x:RS)(ai:Int):SR':=if (GU (cy s) x.args).2=false then (s,3) else jW s 1 0 ai [(s.av,2,[],(x.op,x.aM,(GU (cy s) x.args).1),[],[],0)]
def zD (n sz:Int):Int:=Int.tdiv (n+sz-1) sz*sz
def ZY (t:au)(sz:Int):cZ:=t.map cS++List.replicate ((zD t.length sz).toNat-t.length) 0
def dtC (s:SS)(sz:Int)(d:Dt):It:=if d.2=[] then itB s (ZY d.1 sz) else (s.av,3,[],(0,0,[]),(dL (cy s) d.2).1,[],sz)
def LI (sz:Int)(d:Dt):Int:=if d.2=[] then zD d.1.length sz else sz
def zW (s:SS)(x:RS)(ai:Int):SR' :=
 if x.data.all (λd=>decide (d.2=[])||(dL (cy s) d.2).2)=false then (s,3)
 else jW s x.data.length (x.data.foldl (λn d=>n+LI x.sz d) 0) ai (x.data.map (dtC s x.sz))
def ZZ (s:SS)(x:RS):SR':=sQ s (iE (cy s) x.lab) (qu ev fJ s x.x λn=>(Rz s (iE (cy s) x.lab) n,0))
def DP:au:=[95,115,105,122,101]
def Z0 (s:SS):SR':=sQ s (s.bw++DP) ({ Rz s (s.bw++DP) s.aP with opn:=false },0)
def pow2 (n:Int):Bool:=decide (n=1\/n=2\/n=4\/n=8\/n=16\/n=32\/n=64\/n=128\/n=256\/n=512\/n=1024\/n=2048\/n=4096)
def GV (s:SS)(x:RS):SR':=qu ev fJ s x.x λn=>if pow2 n=false then (s,5) else jW s 1 0 1 [(s.av,5,[],(0,0,[]),[],[],n)]
def Z1 (s:SS)(x:RS):SR':=qu ev fJ s x.x λn=>if s.aV=true\/s.ax≠[] then (s,8) else if n<0\/140737488355328<n then (s,5) else ({ s with gu:=n,aV:=true },0)
def Z2 (s:SS)(x:RS)(ai:Int):SR':=qu ev fJ s x.x λn=>if n<0 then (s,5) else if Int.tdiv 1048576 x.sz<n then (s,3)
 else if s.opn=true then ({ s with aP:=s.aP+n*x.sz },0) else jW s 1 (n*x.sz) ai [itB s (List.replicate (n*x.sz).toNat 0)]
def qN (s:SS):List Dt->cZ×Int
 |[]=>([],0)
 |d::l=>if (cR ev fJ s d.2).2≠0 then ([],(cR ev fJ s d.2).2) else if (qN s l).2≠0 then ([],(qN s l).2) else ((cR ev fJ s d.2).1::(qN s l).1,0)
def powC (s:SS)(ai:Int)(q:cZ×Int):SR':=if q.2≠0 then (s,q.2) else jW s 1 q.1.length ai [itB s q.1]
def GW (s:SS)(x:RS)(ai:Int):SR':=if (qN ev fJ s x.data).2≠0 then (s,(qN ev fJ s x.data).2)
 else powC s ai (pw ((qN ev fJ s x.data).1.getD 0 0) ((qN ev fJ s x.data).1.getD 1 0) ((qN ev fJ s x.data).1.getD 2 1))
def nS (s:SS)(x:RS)(ai:Int):SR' :=
 if x.aC=1 then yF s x ai else if x.aC=2 then zW s x ai else if x.aC=3 then ZZ ev fJ s x else if x.aC=4 then GV ev fJ s x else if x.aC=5 then Z1 ev fJ s x
 else if x.aC=6 then ({ s with bw:=iE (cy s) x.lab,aP:=0,opn:=true },0) else if x.aC=7 then Z0 s else if x.aC=8 then Z2 ev fJ s x ai
 else if x.aC=9 then GW ev fJ pw s x ai else (s,0)
def uo (s:SS)(x:RS)(ai:Int):SR':=if OM s x=false then (s,8) else nS ev fJ pw s x ai
def qv (s:SS)(x:RS):SR':=if x.ai=[] then uo ev fJ pw s x 1 else qu ev fJ s x.ai λn=>if n<0 then (s,5) else uo ev fJ pw s x n
def jd (s:SS)(x:RS):SR' :=
 if x.lab≠[]/\x.aC≠3/\x.aC≠6 then (if (B8 s x.lab).2≠0 then B8 s x.lab else qv ev fJ pw (B8 s x.lab).1 x) else qv ev fJ pw s x
structure Ah (s t:SS):Prop where
 ax:∃l,t.ax=s.ax++l
 aK:∃l,t.aK=s.aK++l
variable (rd:au->RS×Int×Int)
def dR:cA->SS->SS×Int
 |[],s=>(s,0)
 |w::l,s=>if (rd w).2.1≠0 then ({ s with av:=s.av+1 },(rd w).2.1)
  else if (jd ev fJ pw { s with av:=s.av+1 } (rd w).1).2≠0 then ({ (jd ev fJ pw { s with av:=s.av+1 } (rd w).1).1 with av:=s.av+1 },(jd ev fJ pw { s with av:=s.av+1 } (rd w).1).2)
  else dR l (jd ev fJ pw { s with av:=s.av+1 } (rd w).1).1
theorem kg (w:au)(l:cA)(s:SS):dR ev fJ pw rd (w::l) s=if (rd w).2.1≠0 then ({ s with av:=s.av+1 },(rd w).2.1)
 else if (jd ev fJ pw { s with av:=s.av+1 } (rd w).1).2≠0 then ({ (jd ev fJ pw { s with av:=s.av+1 } (rd w).1).1 with av:=s.av+1 },(jd ev fJ pw { s with av:=s.av+1 } (rd w).1).2)
 else dR ev fJ pw rd l (jd ev fJ pw { s with av:=s.av+1 } (rd w).1).1:=rfl
theorem VL (a b:cA)(s:SS):dR ev fJ pw rd (a++b) s=if (dR ev fJ pw rd a s).2≠0 then dR ev fJ pw rd a s else dR ev fJ pw rd b (dR ev fJ pw rd a s).1:=by
 induction a generalizing s with
 |nil=>rfl
 |cons w a e =>
  rw[cB,kg,kg];by_cases c:(rd w).2.1≠0
  .rw[ag c,ag c,ag c]
  rw[aa c,aa c];by_cases d:(jd ev fJ pw { s with av:=s.av+1 } (rd w).1).2≠0
  .rw[ag d,ag d,ag d]
  rw[aa d,aa d];exact e _
end
def atB (y:It):Option au:=if y.2.1=1 then some y.2.2.1 else none
def Z3 (s:SS):cA:=s.aK.map (·.1)++s.ax.filterMap atB
structure Iv (s:SS):Prop where
 nd:(Z3 s).Nodup
 ok:∀w∈Z3 s,w≠[]/\w.length<=60/\sN s.aL w=true
 it:∀y∈s.ax,1<=y.1/\y.1<=s.av/\1<=y.2.1/\y.2.1<=5
 up:(s.ax.map (·.1)).Pairwise (· <= ·)
section
variable (ev:bz->List Sy->Int×Bool×Int) (fJ:bz->cA) (pw:Int->Int->Int->cZ×Int)
theorem vR (s:SS)(a b c:Int)(l:cK):(jW s a b c l).1.av=s.av:=by
 unfold jW;split
 .rfl
 split<;>rfl
theorem GX (s:SS)(w:au):(B8 s w).1.av=s.av:=by
 unfold B8 sQ;split
 .rfl
 split
 .rfl
 rw[vR]
end
end
end Go.Proofs.YtbeckacfibledaaGreatDoor.ps.sr
namespace Go.Proofs.YtbeckacfibledaaGreatDoor.ps.sr
open Go.Tv Go.Ev Go.Px Go.Pp Go.Proofs.YtbeckacfibledaaGreatDoor.ex
set_option maxRecDepth 100000
noncomputable section
section
variable (ev:bz->List Sy->Int×Bool×Int) (fJ:bz->cA) (pw:Int->Int->Int->cZ×Int)
theorem uq {s:SS}{x:bz}{k:Int->SR'}(h:∀n,(k n).1.av=s.av):(qu ev fJ s x k).1.av=s.av:=by
 unfold qu;split
 .rfl
 exact h _
theorem GY {s:SS}{w:au}{k:SR'}(h:k.1.av=s.av):(sQ s w k).1.av=s.av:=by
 unfold sQ;split
 .rfl
 exact h
theorem VM (s:SS)(x:RS)(n:Int):(nS ev fJ pw s x n).1.av=s.av:=by
 unfold nS;split
 .unfold yF;split
  .rfl
  exact vR _ _ _ _ _
 split
 .unfold zW;split
  .rfl
  exact vR _ _ _ _ _
 split
 .exact GY (uq ev fJ λn=>rfl)
 split
 .exact uq ev fJ λn=>by
   split
   .rfl
   exact vR _ _ _ _ _
 split
 .exact uq ev fJ λn=>by
   split
   .rfl
   split<;>rfl
 split
 .rfl
 split
 .exact GY rfl
 split
 .exact uq ev fJ λn=>by
   split
   .rfl
   split
   .rfl
   split
   .rfl
   exact vR _ _ _ _ _
 split
 .unfold GW;split
  .rfl
  unfold powC;split
  .rfl
  exact vR _ _ _ _ _
 rfl
theorem JA (s:SS)(x:RS)(n:Int):(uo ev fJ pw s x n).1.av=s.av:=by
 unfold uo;split
 .rfl
 exact VM ev fJ pw s x n
theorem GZ (s:SS)(x:RS):(qv ev fJ pw s x).1.av=s.av:=by
 unfold qv;split
 .exact JA ev fJ pw s x 1
 exact uq ev fJ λn=>by
  split
  .rfl
  exact JA ev fJ pw s x n
theorem JB (s:SS)(x:RS):(jd ev fJ pw s x).1.av=s.av:=by
 unfold jd;split
 .split
  .exact GX s _
  rw[GZ,GX]
 exact GZ ev fJ pw s x
variable (rd:au->RS×Int×Int)
end
end
end Go.Proofs.YtbeckacfibledaaGreatDoor.ps.sr
namespace Go.Proofs.YtbeckacfibledaaGreatDoor.ps.sr
open Go.Tv Go.Ev Go.Px Go.Pp Go.Proofs.YtbeckacfibledaaGreatDoor.ex
set_option maxRecDepth 100000
noncomputable section
theorem TG {M a n:Int}(b:0<=M)(c:0<a):Int.tdiv M a<n↔M<n*a:=by
 rw[cP b,Int.ediv_lt_iff_lt_mul c]
def zE (s:SS)(a b n:Int):Prop:=¬(0<a/\20000-(s.ax.length:Int)<n*a)/\¬(0<b/\1048576-s.aD<n*b)
theorem LJ {s:SS}{a b n:Int}{l:cK}(c:(s.ax.length:Int)<=20000)(d:s.aD<=1048576)(h:zE s a b n):jW s a b n l=({ s with aD:=s.aD+b*n,ax:=s.ax++(List.replicate n.toNat l).flatten },0):=by
 unfold jW;rw[aa λq=>h.1 ⟨q.1,(TG (by omega) q.1).1 q.2⟩,aa λq=>h.2 ⟨q.1,(TG (by omega) q.1).1 q.2⟩]
theorem RA {s:SS}{a b n:Int}{l:cK}(d:(s.ax.length:Int)<=20000)(e:s.aD<=1048576)(h:¬zE s a b n):jW s a b n l=(s,3):=by
 unfold jW;by_cases q1:0<a/\20000-(s.ax.length:Int)<n*a
 .rw[ag ⟨q1.1,(TG (by omega) q1.1).2 q1.2⟩]
 by_cases q2:0<b/\1048576-s.aD<n*b
 .rw[ag (c:=0<b/\_) ⟨q2.1,(TG (by omega) q2.1).2 q2.2⟩];split<;>rfl
 exact absurd ⟨q1,q2⟩ h
def C7 (a b:Int)(L:Int->cK):Nat->SS->SR'
 |0,s=>(s,0)
 |n+1,s=>if (jW { s with av:=s.av+1 } a b 1 (L (s.av+1))).2≠0 then jW { s with av:=s.av+1 } a b 1 (L (s.av+1)) else C7 a b L n (jW { s with av:=s.av+1 } a b 1 (L (s.av+1))).1
def blocks (L:Int->cK):Nat->Int->cK
 |0,_=>[]
 |n+1,i=>L (i+1)++blocks L n (i+1)
theorem LK {a b:Int}{L:Int->cK}(o:0<=b)(f:∀i,((L i).length:Int)=a):∀(n:Nat) (s:SS),(s.ax.length:Int)<=20000->s.aD<=1048576 ->
 (zE s a b n->C7 a b L n s=({ s with av:=s.av+n,aD:=s.aD+b*n,ax:=s.ax++blocks L n s.av },0))/\(¬zE s a b n->(C7 a b L n s).2=3)
 |0,s,g,j=>by
  have:zE s a b (0:Nat):=⟨λq=>by have:=q.2;simp at this;omega,λq=>by have:=q.2;simp at this;omega⟩;refine⟨λ_=>?_,λh=>absurd this h⟩;show (s,(0:Int))=_;simp[blocks]
 |n+1,s,g,j=>by
  have t:0<=a:=by rw[<-f 0];omega
  have p:((n+1:Nat):Int)*a=n*a+a:=by rw[pF,Int.add_mul,Int.one_mul]
  have e2:((n+1:Nat):Int)*b=n*b+b:=by rw[pF,Int.add_mul,Int.one_mul]
  have z:0<=(n:Int)*a:=iU (by omega) t;have A:0<=(n:Int)*b:=iU (by omega) o;by_cases d:zE { s with av:=s.av+1 } a b 1
  .have e:=LJ (s:={ s with av:=s.av+1 }) (l:=L (s.av+1)) g j d;have k:(List.replicate (1:Int).toNat (L (s.av+1))).flatten=L (s.av+1):=by simp
   rw[k]at e;have m1:¬(0<a/\20000-(s.ax.length:Int)<1*a):=d.1;have B:¬(0<b/\1048576-s.aD<1*b):=d.2;have hlen:(((s.ax++L (s.av+1)).length:Nat):Int)=s.ax.length+a:=by rw[aA];have:=f (s.av+1);omega
   obtain⟨u,v⟩:=LK o f n { s with av:=s.av+1,aD:=s.aD+b*1,ax:=s.ax++L (s.av+1) } (by
    show (((s.ax++L (s.av+1)).length:Nat):Int)<=20000;rw[hlen];omega) (by show s.aD+b*1<=1048576;omega)
   have c:zE { s with av:=s.av+1,aD:=s.aD+b*1,ax:=s.ax++L (s.av+1) } a b n↔zE s a b (n+1:Nat):=by
    unfold zE;show (¬(0<a/\20000-(((s.ax++L (s.av+1)).length:Nat):Int)<n*a)/\¬(0<b/\1048576-(s.aD+b*1)<n*b))↔_;rw[hlen,p,e2];constructor
    .rintro ⟨q1,q2⟩;exact⟨λq=>q1 ⟨q.1,by omega⟩,λq=>q2 ⟨q.1,by omega⟩⟩
    rintro⟨q1,q2⟩;exact⟨λq=>q1 ⟨q.1,by omega⟩,λq=>q2 ⟨q.1,by omega⟩⟩
   have w:C7 a b L (n+1) s=C7 a b L n { s with av:=s.av+1,aD:=s.aD+b*1,ax:=s.ax++L (s.av+1) }:=by
    rw[C7,e];rfl
   rw[w];refine⟨λh=>?_,λh=>v λq=>h (c.1 q)⟩;rw[u (c.2 h)];have x:s.av+1+(n:Int)=s.av+((n+1:Nat):Int):=by omega
   have y:s.aD+b*1+b*(n:Int)=s.aD+b*((n+1:Nat):Int):=by
    rw[pF,Int.mul_add,Int.mul_one];omega
   show ((⟨_,_,_,_,_,_,_,_,_,_,_⟩:SS),(0:Int))=((⟨_,_,_,_,_,_,_,_,_,_,_⟩:SS),(0:Int));simp only[x,y,bC,blocks]
  have e:=RA (s:={ s with av:=s.av+1 }) (l:=L (s.av+1)) g j d;have m:¬zE s a b (n+1:Nat):=λq=>d (by
   obtain⟨q1,q2⟩:=q;rw[p]at q1;rw[e2]at q2;exact⟨λr=>q1 ⟨r.1,by have:20000-(s.ax.length:Int)<1*a:=r.2;omega⟩,λr=>q2 ⟨r.1,by have:1048576-s.aD<1*b:=r.2;omega⟩⟩)
  refine⟨λh=>absurd h m,λ_=>?_⟩;rw[C7,e];rfl
end
end Go.Proofs.YtbeckacfibledaaGreatDoor.ps.sr
namespace Go.Proofs.YtbeckacfibledaaGreatDoor.ps.sr
open Go.Tv Go.Ev Go.Px Go.Pp Go.Proofs.YtbeckacfibledaaGreatDoor.ex
set_option maxRecDepth 100000
noncomputable section
section
variable (ev:bz->List Sy->Int×Bool×Int) (fJ:bz->cA) (pw:Int->Int->Int->cZ×Int) (rd:au->RS×Int×Int)
def Quiet (x:RS):Prop:=x.lab=[]/\x.aC=0/\x.ai=[]
theorem RB {x:RS}(h:Quiet x)(s:SS):jd ev fJ pw s x=(s,0):=by
 obtain⟨c,a,b⟩:=h;unfold jd;rw[aa λq=>q.1 c];unfold qv;rw[ag b];unfold uo;have d:OM s x=true:=by
  unfold OM;rw[a,b];split
  .rfl
  rfl
 rw[d,aa (by decide)];unfold nS;rw[a];rfl
theorem DQ {w:au}(a:(rd w).2.1=0)(h:Quiet (rd w).1)(l:cA):∀(n:Nat) (s:SS),dR ev fJ pw rd (List.replicate n w++l) s=dR ev fJ pw rd l { s with av:=s.av+n }
 |0,s=>by
  show dR ev fJ pw rd l s=_;congr 1
  show s=SS.mk _ _ _ _ _ _ _ _ _ _ (s.av+0);rw[Int.add_zero]
 |n+1,s=>by
  rw[eX,cB,kg,aa λq=>q a,RB ev fJ pw h,aa (by intro q;exact q rfl)];show dR ev fJ pw rd (List.replicate n w++l) { s with av:=s.av+1 }=_;rw[DQ a h l n];congr 1
  show SS.mk _ _ _ _ _ _ _ _ _ _ (s.av+1+(n:Int))=SS.mk _ _ _ _ _ _ _ _ _ _ (s.av+((n+1:Nat):Int));congr 1
  omega
structure Ag (s t:SS):Prop where
 opn:t.opn=s.opn
 lab:t.lab=s.lab
 bw:t.bw=s.bw
 aL:t.aL=s.aL
 aK:t.aK=s.aK
theorem Ag.scope {s t:SS}(h:Ag s t):cy t=cy s:=by unfold cy;rw[h.opn,h.lab,h.bw]
theorem Ag.const {s t:SS}(h:Ag s t)(x:bz):cR ev fJ t x=cR ev fJ s x:=by
 have a:rz t=rz s:=by funext w;unfold rz;rw[h.aL,h.aK]
 unfold cR;rw[h.scope,a]
theorem Ag.aj8 {s t:SS}(h:Ag s t):∀l:List Dt,qN ev fJ t l=qN ev fJ s l
 |[]=>rfl
 |d::l=>by rw[qN,qN,Ag.aj8 h l,h.const ev fJ]
structure aj9 (s:SS)(x:RS)(a b:Int)(L:Int->cK):Prop where
 b0:0<=b
 len:∀i,((L i).length:Int)=a
 set:∀i j,(L i).map (λy=>(j,y.2))=L j
 put:∀t,Ag s t->∀n,nS ev fJ pw t x n=jW t a b n (L t.av)
theorem aka {n:Nat}{sz:Int}(h:0<sz):0<=zD n sz:=by
 unfold zD;refine iU ?_ (by omega);rw[cP (by omega)];exact Int.ediv_nonneg (by omega) (by omega)
theorem Z4 {sz:Int}(h:0<sz):∀(l:List Dt) (m:Int),0<=m->0<=l.foldl (λn d=>n+LI sz d) m
 |[],m,a=>a
 |d::l,m,a=>by
  refine Z4 h l _ ?_;have:0<=LI sz d:=by
   unfold LI;split
   .exact aka h
   omega
  show 0<=m+LI sz d;omega
theorem JC (s:SS){x:RS}(g:x.aC=1\/x.aC=2\/x.aC=9)(k:0<x.sz\/x.aC≠2):(∃e,e≠0/\∀t,Ag s t->∀n,nS ev fJ pw t x n=(t,e))\/∃a b L,aj9 ev fJ pw s x a b L:=by
 rcases g with g|g|g
 .have e:∀t n,nS ev fJ pw t x n=yF t x n:=λt n=>by unfold nS;rw[ag g]
  cases f:(GU (cy s) x.args).2 with
  |false=>exact .inl ⟨3,by decide,λt c n=>by rw[e];unfold yF;rw[c.scope,f];rfl⟩
  |true=>exact .inr ⟨1,0,λi=>[(i,2,[],(x.op,x.aM,(GU (cy s) x.args).1),[],[],0)],bL _,λi=>rfl,λi j=>rfl,λt c n=>by rw[e];unfold yF;rw[c.scope,f];rfl⟩
 .have e:∀t n,nS ev fJ pw t x n=zW t x n:=λt n=>by unfold nS;rw[aa (by omega),ag g]
  have k:0<x.sz:=k.resolve_right λq=>q g
  cases f:x.data.all (λd=>decide (d.2=[])||(dL (cy s) d.2).2) with
  |false=>exact .inl ⟨3,by decide,λt c n=>by rw[e];unfold zW;rw[c.scope,f];rfl⟩
  |true =>
   refine .inr ⟨x.data.length,x.data.foldl (λn d=>n+LI x.sz d) 0,λi=>x.data.map (dtC { s with av:=i } x.sz),Z4 k _ _ (bL _),λi=>by simp,λi j=>?_,λt c n=>?_⟩
   .rw[nC];refine iW λd _=>?_
    show (j,(dtC { s with av:=i } x.sz d).2)=dtC { s with av:=j } x.sz d;unfold dtC;split<;>rfl
   rw[e];unfold zW;rw[c.scope,f,aa (by decide)];congr 1
   refine iW λd _=>?_
   unfold dtC;rw[c.scope];rfl
 have e:∀t n,nS ev fJ pw t x n=GW ev fJ pw t x n:=λt n=>by unfold nS;rw[aa (by omega),aa (by omega),aa (by omega),aa (by omega),aa (by omega),aa (by omega),aa (by omega),aa (by omega),ag g]
 by_cases f:(qN ev fJ s x.data).2≠0
 .exact .inl ⟨_,f,λt c n=>by rw[e];unfold GW;rw[c.aj8 ev fJ,ag f]⟩
 generalize l:pw ((qN ev fJ s x.data).1.getD 0 0) ((qN ev fJ s x.data).1.getD 1 0) ((qN ev fJ s x.data).1.getD 2 1)=q;have e2:∀t,Ag s t->∀n,nS ev fJ pw t x n=powC t n q:=λt c n=>by rw[e];unfold GW;rw[c.aj8 ev fJ,aa f,l]
 by_cases h:q.2≠0
 .exact .inl ⟨_,h,λt c n=>by rw[e2 t c];unfold powC;rw[ag h]⟩
 exact .inr ⟨1,q.1.length,λi=>[(i,4,[],(0,0,[]),[],q.1,0)],by omega,λi=>rfl,λi j=>rfl,λt c n=>by rw[e2 t c];unfold powC;rw[aa h];rfl⟩
end
end
end Go.Proofs.YtbeckacfibledaaGreatDoor.ps.sr
namespace Go.Proofs.YtbeckacfibledaaGreatDoor.ps.sr
open Go.Tv Go.Ev Go.Px Go.Pp Go.Proofs.YtbeckacfibledaaGreatDoor.ex
set_option maxRecDepth 100000
noncomputable section
section
variable (ev:bz->List Sy->Int×Bool×Int) (fJ:bz->cA) (pw:Int->Int->Int->cZ×Int) (rd:au->RS×Int×Int)
theorem Ag.rfl' (s:SS):Ag s s:=⟨rfl,rfl,rfl,rfl,rfl⟩
theorem akb {s t:SS}(h:Ag s t)(a b c:Int)(l:cK):Ag s (jW t a b c l).1:=by
 unfold jW;split
 .exact h
 split
 .exact h
 exact⟨h.opn,h.lab,h.bw,h.aL,h.aK⟩
structure Plain (s:SS)(x:RS):Prop where
 lab:x.lab=[]
 aC:x.aC=1\/x.aC=2\/x.aC=9
 opn:s.opn=false
theorem G0 {s t:SS}{x:RS}(h:Plain s x)(a:Ag s t)(n:Int):uo ev fJ pw t x n=nS ev fJ pw t x n:=by
 have b:OM t x=true:=by
  unfold OM;rw[a.opn,h.opn,aa (by decide)];have:=h.aC;rw[aY (by omega)];rfl
 unfold uo;rw[b,aa (by decide)]
theorem G8 {s t:SS}{x:RS}(h:Plain s x)(a:Ag s t)(b:x.ai=[]):jd ev fJ pw t x=nS ev fJ pw t x 1:=by
 unfold jd;rw[aa λq=>q.1 h.lab];unfold qv;rw[ag b,G0 ev fJ pw h a]
theorem DR {s t:SS}{x:RS}(h:Plain s x)(a:Ag s t){X:bz}(b:X≠[]){n:Int}(e:0<=n)(c:cR ev fJ t X=(n,0)):jd ev fJ pw t { x with ai:=X }=nS ev fJ pw t x n:=by
 unfold jd;rw[aa λq=>q.1 h.lab];unfold qv;rw[aa b];unfold qu;rw[c,aa (by intro q;exact q rfl)];show (if n<0 then (t,(5:Int)) else uo ev fJ pw t { x with ai:=X } n)=_;rw[aa (by omega)];have d:Plain s { x with ai:=X }:=⟨h.lab,h.aC,h.opn⟩;rw[G0 ev fJ pw d a];rfl
theorem yG {w:au}(g:(rd w).2.1=0){s:SS}(h:Plain s (rd w).1)(i:(rd w).1.ai=[]){a b:Int}{L:Int->cK}(j:aj9 ev fJ pw s (rd w).1 a b L):∀(n:Nat) (t:SS),Ag s t ->
 (dR ev fJ pw rd (List.replicate n w) t).2=(C7 a b L n t).2/\((C7 a b L n t).2=0->dR ev fJ pw rd (List.replicate n w) t=C7 a b L n t)
 |0,t,_=>⟨rfl,λ_=>rfl⟩
 |n+1,t,d=>by
  have c:Ag s { t with av:=t.av+1 }:=⟨d.opn,d.lab,d.bw,d.aL,d.aK⟩;have e:jd ev fJ pw { t with av:=t.av+1 } (rd w).1=jW { t with av:=t.av+1 } a b 1 (L (t.av+1)):=by
   rw[G8 ev fJ pw h c i];exact j.put _ c 1
  rw[eX,kg,aa λq=>q g,e,C7];by_cases f:(jW { t with av:=t.av+1 } a b 1 (L (t.av+1))).2≠0
  .rw[ag f,ag f];exact⟨rfl,λq=>absurd q f⟩
  rw[aa f,aa f];exact yG g h i j n _ (akb c _ _ _ _)
theorem G9 {a b:Int}{s:SS}{x:RS}{L:Int->cK}(c:aj9 ev fJ pw s x a b L)(j:Int):∀(n:Nat) (i:Int),(blocks L n i).map (λy=>(j,y.2))=(List.replicate n (L j)).flatten
 |0,_=>rfl
 |n+1,i=>by
  rw[blocks,fj,c.set,G9 c j n,eX,jH]
theorem OO {w v:au}(j:(rd w).2.1=0)(f:Plain kf (rd w).1)(k:(rd w).1.ai=[])(u:0<(rd w).1.sz\/(rd w).1.aC≠2){n:Nat}{X:bz}(x:X≠[])
 (l:(rd v).2.1=0/\(rd v).1={ (rd w).1 with ai:=X }) (y:∀t,Ag kf t->cR ev fJ t X=((n:Int),0)) :
 (dR ev fJ pw rd [v] kf).2=(dR ev fJ pw rd (List.replicate n w) kf).2\/n=0:=by
 have d:Ag kf { kf with av:=kf.av+1 }:=⟨rfl,rfl,rfl,rfl,rfl⟩;have i:jd ev fJ pw { kf with av:=kf.av+1 } (rd v).1=nS ev fJ pw { kf with av:=kf.av+1 } (rd w).1 n:=by
  rw[l.2];exact DR ev fJ pw f d x (by omega) (y _ d)
 have e0:(dR ev fJ pw rd [v] kf).2=(nS ev fJ pw { kf with av:=kf.av+1 } (rd w).1 n).2:=by
  rw[kg,aa λq=>q l.1,i];split
  .rfl
  rename_i z;exact(cD.1 z).symm
 rcases JC ev fJ pw kf f.aC u with⟨e,A,o⟩|⟨a,b,L,g⟩
 .rcases nZ n with p|p
  .exact .inr p
  left
  rw[e0,o _ d];obtain⟨m,rfl⟩:∃m,n=m+1:=⟨n-1,by omega⟩;rw[eX,kg,aa λq=>q j,G8 ev fJ pw f d k,o _ d,ag A]
 left
 rw[e0,g.put _ d,(yG ev fJ pw rd j f k g n kf (.rfl' _)).1];obtain⟨r1,B⟩:=LK g.b0 g.len n kf (by simp[kf]) (by simp[kf]);have r:(({ kf with av:=kf.av+1 }:SS).ax.length:Int)<=20000:=by simp[kf]
 have s:({ kf with av:=kf.av+1 }:SS).aD<=1048576:=by simp[kf]
 by_cases h:zE kf a b n
 .have c:zE { kf with av:=kf.av+1 } a b n:=h;rw[r1 h,LJ r s c]
 have c:¬zE { kf with av:=kf.av+1 } a b n:=h;rw[B h,RA r s c]
theorem OQ {w v:au}(p:(rd w).2.1=0)(i:Plain kf (rd w).1)(r:(rd w).1.ai=[])(s:0<(rd w).1.sz\/(rd w).1.aC≠2){n:Nat}{X:bz}(u:X≠[])
 (k:(rd v).2.1=0/\(rd v).1={ (rd w).1 with ai:=X }) (x:∀t,Ag kf t->cR ev fJ t X=((n:Int),0)) (c:(dR ev fJ pw rd [v] kf).2=0) :
 (dR ev fJ pw rd (List.replicate n w) kf).2=0/\(dR ev fJ pw rd [v] kf).1.ax=(dR ev fJ pw rd (List.replicate n w) kf).1.ax.map (λy=>((1:Int),y.2)) /\
 (dR ev fJ pw rd [v] kf).1.aK=[]/\(dR ev fJ pw rd (List.replicate n w) kf).1.aK=[]/\(dR ev fJ pw rd [v] kf).1.gu=0/\(dR ev fJ pw rd (List.replicate n w) kf).1.gu=0 /\
 (dR ev fJ pw rd [v] kf).1.opn=false/\(dR ev fJ pw rd (List.replicate n w) kf).1.opn=false:=by
 have g:Ag kf { kf with av:=kf.av+1 }:=⟨rfl,rfl,rfl,rfl,rfl⟩;have j:jd ev fJ pw { kf with av:=kf.av+1 } (rd v).1=nS ev fJ pw { kf with av:=kf.av+1 } (rd w).1 n:=by
  rw[k.2];exact DR ev fJ pw i g u (by omega) (x _ g)
 rw[kg,aa λq=>q k.1,j]at c ⊢;rcases JC ev fJ pw kf i.aC s with⟨e,l,z⟩|⟨a,b,L,f⟩
 .rw[z _ g,ag l]at c;exact absurd c l
 rw[f.put _ g]at c ⊢;obtain⟨r1,B⟩:=LK f.b0 f.len n kf (by simp[kf]) (by simp[kf]);have m:(({ kf with av:=kf.av+1 }:SS).ax.length:Int)<=20000:=by simp[kf]
 have o:({ kf with av:=kf.av+1 }:SS).aD<=1048576:=by simp[kf]
 by_cases h:zE kf a b n
 .have d:zE { kf with av:=kf.av+1 } a b n:=h;obtain⟨C,k2⟩:=yG ev fJ pw rd p i r f n kf (.rfl' _);have A:=k2 (by rw[r1 h]);rw[LJ m o d,aa (by intro q;exact q rfl),A,r1 h];refine⟨rfl,?_,rfl,rfl,rfl,rfl,rfl,rfl⟩;show ([]:cK)++(List.replicate (n:Int).toNat (L 1)).flatten=([]++blocks L n 0).map λy:It=>(((1:Int),y.2):It)
  rw[cE,cE,G9 ev fJ pw f 1 n 0,bf]
 have d:¬zE { kf with av:=kf.av+1 } a b n:=h;rw[RA m o d,ag (by decide)]at c;exact absurd c (by decide)
end
end
end Go.Proofs.YtbeckacfibledaaGreatDoor.ps.sr
namespace Go.Proofs.YtbeckacfibledaaGreatDoor.ps.sr
open Go.Tv Go.Ev Go.Px Go.Pp Go.Proofs.YtbeckacfibledaaGreatDoor.ex
set_option maxRecDepth 100000
noncomputable section
section
variable (ev:bz->List Sy->Int×Bool×Int) (fJ:bz->cA) (pw:Int->Int->Int->cZ×Int) (rd:au->RS×Int×Int)
abbrev Ls:=Int×List Sy×cK
def apo (s:SS):Ls:=(s.gu,s.aK,s.ax)
def zLs:Ls:=(0,[],[])
def zF (l:cA):Ls×Int×Int :=
 if (dR ev fJ pw rd l kf).2≠0 then (zLs,(dR ev fJ pw rd l kf).2,(dR ev fJ pw rd l kf).1.av)
 else if (dR ev fJ pw rd l kf).1.opn=true then (zLs,8,(dR ev fJ pw rd l kf).1.av) else (apo (dR ev fJ pw rd l kf).1,0,0)
theorem Z5 {l:cA}(h:(zF ev fJ pw rd l).2.1=0):(dR ev fJ pw rd l kf).2=0/\(dR ev fJ pw rd l kf).1.opn=false/\zF ev fJ pw rd l=(apo (dR ev fJ pw rd l kf).1,0,0):=by
 unfold zF at h ⊢;split at h
 .rename_i a;exact absurd h a
 rename_i a;rw[aa a];split at h
 .exact absurd h (by show ¬((8:Int)=0);decide)
 rename_i b;rw[aa b];exact⟨cD.1 a,by simpa using b,rfl⟩
theorem Z6 {l:cA}(h:(zF ev fJ pw rd l).2.1≠0):(zF ev fJ pw rd l).1=zLs:=by
 unfold zF at h ⊢;split
 .rfl
 rename_i a;rw[aa a]at h;split
 .rfl
 rename_i b;rw[aa b]at h;exact absurd rfl h
theorem RC {w:au}(b:(rd w).2.1=0)(h:Quiet (rd w).1)(l:cA):(dR ev fJ pw rd (l++[w]) kf).2=(dR ev fJ pw rd l kf).2 /\
 ((dR ev fJ pw rd l kf).2=0->(dR ev fJ pw rd (l++[w]) kf).1={ (dR ev fJ pw rd l kf).1 with av:=(dR ev fJ pw rd l kf).1.av+1 }):=by
 rw[VL];by_cases a:(dR ev fJ pw rd l kf).2≠0
 .rw[ag a];exact⟨rfl,λq=>absurd q a⟩
 rw[aa a];have e:=DQ ev fJ pw rd b h [] 1 (dR ev fJ pw rd l kf).1;have e:dR ev fJ pw rd [w] (dR ev fJ pw rd l kf).1=({ (dR ev fJ pw rd l kf).1 with av:=(dR ev fJ pw rd l kf).1.av+1 },0):=e;rw[e];exact⟨(cD.1 a).symm,λ_=>rfl⟩
end
theorem akc {n:Int}{l:aX}(b:∀t∈l,t.1=1->t.2.2.1≠[])(i:Int){t:au}(h:nA l i=some t):t≠[]:=by
 unfold nA at h;split at h
 .rename_i c a;split at h
  .rename_i d;cases h;have:c∈l:=by
    unfold at? at a;split at a
    .exact bu a
    cases a
   exact b c this d
  cases h
 cases h
end
end Go.Proofs.YtbeckacfibledaaGreatDoor.ps.sr
