/- Sources: what a line adds, as plain functions; what stays ahead. Sources: names but once, items in order. Sources: all lines' items; lines further on. Sources: items so many times over, or one after the other. Sources: lines that say nothing; a line so many times. Sources: a line so many times over, or in so many lines. Sources: what they come to; the plain laws. -/
import Derived.Test.YtbeckacfibledaaGreatDoorGrg
set_option linter.unusedVariables false
set_option linter.unusedSimpArgs false

namespace Go.Proofs.YtbeckacfibledaaGreatDoor.ps.sr
open Go.Tv Go.Ev Go.Px Go.Pp Go.Proofs.YtbeckacfibledaaGreatDoor.ex
set_option maxRecDepth 100000
noncomputable section
abbrev It:=Int×Int×List UInt8×(Int×Int×List Raw)×List Nd×List Int×Int
abbrev Sy:=List UInt8×Int×Bool
structure SS where
 fM:Int
 aH:List Sy
 av:List It
 aI:List (List UInt8×Int)
 lab:List UInt8
 opn:Bool
 bp:List UInt8
 aN:Int
 aR:Bool
 aD:Int
 au:Int
def ye:SS:=⟨0,[],[],[],[],false,[],0,false,0,0⟩
abbrev SR':=SS×Int
section
variable (ev:List Nd->List Sy->Int×Bool×Int) (fK:List Nd->List (List UInt8)) (pw:Int->Int->Int->List Int×Int)
def cj (s:SS):List UInt8:=if s.opn=true then s.bp else s.lab
def gu (c w:List UInt8):List UInt8:=if w.take 1=[46] then c++w else w
def MG (c:List UInt8)(y:Nd):Nd:=if y.1=2 then (y.1,y.2.1,gu c y.2.2.1,y.2.2.2) else y
def ndB (c:List UInt8)(y:Nd):Bool := !decide (y.1=2)||Nat.ble (gu c y.2.2.1).length 60
def de (c:List UInt8)(x:List Nd):List Nd×Bool:=(x.map (MG c),x.all (ndB c))
def Fy (c:List UInt8)(r:Raw):Raw:=(r.1,r.2.1,r.2.2.1,(de c r.2.2.2.1).1,r.2.2.2.2)
def JZ (c:List UInt8)(l:List Raw):List Raw×Bool:=(l.map (Fy c),l.all λr=>(de c r.2.2.2.1).2)
def sX (s:SS)(w:List UInt8):Option Sy:=if 0<iJ s.aI w then dQ s.aH (iJ s.aI w-1) else none
def cO (s:SS)(x:List Nd):Int×Int :=
 if (de (cj s) x).2=false then (0,3)
 else if (ev (de (cj s) x).1 ((fK (de (cj s) x).1).filterMap (sX s))).2.2≠0 then (0,(ev (de (cj s) x).1 ((fK (de (cj s) x).1).filterMap (sX s))).2.2)
 else if (ev (de (cj s) x).1 ((fK (de (cj s) x).1).filterMap (sX s))).2.1=true then (0,5)
 else ((ev (de (cj s) x).1 ((fK (de (cj s) x).1).filterMap (sX s))).1,0)
def nE (s:SS)(x:List Nd)(k:Int->SR'):SR':=if (cO ev fK s x).2≠0 then (s,(cO ev fK s x).2) else k (cO ev fK s x).1
def xB (s:SS)(w:List UInt8):Int:=if ri s.aI w=true then 7 else if 60<w.length then 3 else 0
def oT (s:SS)(w:List UInt8)(k:SR'):SR':=if xB s w≠0 then (s,xB s w) else k
def PL (s:SS)(w:List UInt8)(n:Int):SS:={ s with aH:=s.aH++[(w,n,false)],aI:=iw s.aI w ((s.aH.length+1:Nat):Int) }
def jW (s:SS)(av aD ai:Int)(l:List It):SR' :=
 if 0<av/\Int.tdiv (20000-s.av.length) av<ai then (s,3)
 else if 0<aD/\Int.tdiv (1048576-s.aD) aD<ai then (s,3)
 else ({ s with aD:=s.aD+aD*ai,av:=s.av++(List.replicate ai.toNat l).flatten },0)
def itL (s:SS)(w:List UInt8):It:=(s.au,1,w,(0,0,[]),[],[],0)
def itB (s:SS)(b:List Int):It:=(s.au,4,[],(0,0,[]),[],b,0)
def vH (s:SS)(w:List UInt8):SR' :=
 oT s (gu (cj s) w) (if s.opn=true then (PL s (gu (cj s) w) s.aN,0)
  else jW { s with lab:=if w.take 1=[46] then s.lab else w,aI:=iw s.aI (gu (cj s) w) 0 } 1 0 1 [itL s (gu (cj s) w)])
def TK (s:SS)(x:RS):Bool :=
 if s.opn=true then (if x.aF=1\/x.aF=2\/x.aF=4\/x.aF=5\/x.aF=9\/x.aF=6 then false else decide (x.ai=[])) else !decide (x.aF=7)
def xC (s:SS)(x:RS)(ai:Int):SR':=if (JZ (cj s) x.args).2=false then (s,3) else jW s 1 0 ai [(s.au,2,[],(x.op,x.aM,(JZ (cj s) x.args).1),[],[],0)]
def AQ (n sz:Int):Int:=Int.tdiv (n+sz-1) sz*sz
def XO (t:List UInt8)(sz:Int):List Int:=t.map cY++List.replicate ((AQ t.length sz).toNat-t.length) 0
def dtC (s:SS)(sz:Int)(d:Dt):It:=if d.2=[] then itB s (XO d.1 sz) else (s.au,3,[],(0,0,[]),(de (cj s) d.2).1,[],sz)
def Rq (sz:Int)(d:Dt):Int:=if d.2=[] then AQ d.1.length sz else sz
def yN (s:SS)(x:RS)(ai:Int):SR' :=
 if x.data.all (λd=>decide (d.2=[])||(de (cj s) d.2).2)=false then (s,3)
 else jW s x.data.length (x.data.foldl (λn d=>n+Rq x.sz d) 0) ai (x.data.map (dtC s x.sz))
def MH (s:SS)(x:RS):SR':=oT s (gu (cj s) x.lab) (nE ev fK s x.x λn=>(PL s (gu (cj s) x.lab) n,0))
def CL:List UInt8:=[95,115,105,122,101]
def MI (s:SS):SR':=oT s (s.bp++CL) ({ PL s (s.bp++CL) s.aN with opn:=false },0)
def pow2 (n:Int):Bool:=decide (n=1\/n=2\/n=4\/n=8\/n=16\/n=32\/n=64\/n=128\/n=256\/n=512\/n=1024\/n=2048\/n=4096)
def xD (s:SS)(x:RS):SR':=nE ev fK s x.x λn=>if pow2 n=false then (s,5) else jW s 1 0 1 [(s.au,5,[],(0,0,[]),[],[],n)]
def MJ (s:SS)(x:RS):SR':=nE ev fK s x.x λn=>if s.aR=true\/s.av≠[] then (s,8) else if n<0\/140737488355328<n then (s,5) else ({ s with fM:=n,aR:=true },0)
def MK (s:SS)(x:RS)(ai:Int):SR':=nE ev fK s x.x λn=>if n<0 then (s,5) else if Int.tdiv 1048576 x.sz<n then (s,3)
 else if s.opn=true then ({ s with aN:=s.aN+n*x.sz },0) else jW s 1 (n*x.sz) ai [itB s (List.replicate (n*x.sz).toNat 0)]
def rG (s:SS):List Dt->List Int×Int
 |[]=>([],0)
 |d::l=>if (cO ev fK s d.2).2≠0 then ([],(cO ev fK s d.2).2) else if (rG s l).2≠0 then ([],(rG s l).2) else ((cO ev fK s d.2).1::(rG s l).1,0)
def powC (s:SS)(ai:Int)(q:List Int×Int):SR':=if q.2≠0 then (s,q.2) else jW s 1 q.1.length ai [itB s q.1]
def Fz (s:SS)(x:RS)(ai:Int):SR':=if (rG ev fK s x.data).2≠0 then (s,(rG ev fK s x.data).2)
 else powC s ai (pw ((rG ev fK s x.data).1.getD 0 0) ((rG ev fK s x.data).1.getD 1 0) ((rG ev fK s x.data).1.getD 2 1))
def tM (s:SS)(x:RS)(ai:Int):SR' :=
 if x.aF=1 then xC s x ai else if x.aF=2 then yN s x ai else if x.aF=3 then MH ev fK s x else if x.aF=4 then xD ev fK s x else if x.aF=5 then MJ ev fK s x
 else if x.aF=6 then ({ s with bp:=gu (cj s) x.lab,aN:=0,opn:=true },0) else if x.aF=7 then MI s else if x.aF=8 then MK ev fK s x ai
 else if x.aF=9 then Fz ev fK pw s x ai else (s,0)
def sY (s:SS)(x:RS)(ai:Int):SR':=if TK s x=false then (s,8) else tM ev fK pw s x ai
def mM (s:SS)(x:RS):SR':=if x.ai=[] then sY ev fK pw s x 1 else nE ev fK s x.ai λn=>if n<0 then (s,5) else sY ev fK pw s x n
def iu (s:SS)(x:RS):SR' :=
 if x.lab≠[]/\x.aF≠3/\x.aF≠6 then (if (vH s x.lab).2≠0 then vH s x.lab else mM ev fK pw (vH s x.lab).1 x) else mM ev fK pw s x
structure Ah (s t:SS):Prop where
 av:∃l,t.av=s.av++l
 aH:∃l,t.aH=s.aH++l
variable (rd:List UInt8->RS×Int×Int)
def gj:List (List UInt8)->SS->SS×Int
 |[],s=>(s,0)
 |w::l,s=>if (rd w).2.1≠0 then ({ s with au:=s.au+1 },(rd w).2.1)
  else if (iu ev fK pw { s with au:=s.au+1 } (rd w).1).2≠0 then ({ (iu ev fK pw { s with au:=s.au+1 } (rd w).1).1 with au:=s.au+1 },(iu ev fK pw { s with au:=s.au+1 } (rd w).1).2)
  else gj l (iu ev fK pw { s with au:=s.au+1 } (rd w).1).1
theorem oU (w:List UInt8)(l:List (List UInt8))(s:SS):gj ev fK pw rd (w::l) s=if (rd w).2.1≠0 then ({ s with au:=s.au+1 },(rd w).2.1)
 else if (iu ev fK pw { s with au:=s.au+1 } (rd w).1).2≠0 then ({ (iu ev fK pw { s with au:=s.au+1 } (rd w).1).1 with au:=s.au+1 },(iu ev fK pw { s with au:=s.au+1 } (rd w).1).2)
 else gj ev fK pw rd l (iu ev fK pw { s with au:=s.au+1 } (rd w).1).1:=rfl
end
def ap2 (y:It):Option (List UInt8):=if y.2.1=1 then some y.2.2.1 else none
def XP (s:SS):List (List UInt8):=s.aH.map (·.1)++s.av.filterMap ap2
structure Iv (s:SS):Prop where
 nd:(XP s).Nodup
 ok:∀w∈XP s,w≠[]/\w.length<=60/\ri s.aI w=true
 it:∀y∈s.av,1<=y.1/\y.1<=s.au/\1<=y.2.1/\y.2.1<=5
 up:(s.av.map (·.1)).Pairwise (· <= ·)
section
variable (ev:List Nd->List Sy->Int×Bool×Int) (fK:List Nd->List (List UInt8)) (pw:Int->Int->Int->List Int×Int)
theorem uI (s:SS)(a b c:Int)(l:List It):(jW s a b c l).1.au=s.au:=by
 unfold jW;split
 .rfl
 split<;>rfl
theorem FA (s:SS)(w:List UInt8):(vH s w).1.au=s.au:=by
 unfold vH oT;split
 .rfl
 split
 .rfl
 rw[uI]
end
def F5 (k:Int)(y:It):It:=(y.1+k,y.2)
def wj (k:Int)(s:SS):SS:={ s with av:=s.av.map (F5 k),au:=s.au+k }
def Db (k:Int)(r:SR'):SR':=(wj k r.1,r.2)
theorem kE (k:Int)(c:Prop)[Decidable c](a b:SR'):Db k (if c then a else b)=if c then Db k a else Db k b:=by split<;>rfl
theorem XQ (k:Int)(s:SS)(a b c:Int)(l:List It):jW (wj k s) a b c (l.map (F5 k))=Db k (jW s a b c l):=by
 unfold jW;rw[kE,kE];have e1:(wj k s).av.length=s.av.length:=by simp[wj]
 rw[e1];have e2:(wj k s).av++(List.replicate c.toNat (l.map (F5 k))).flatten=(s.av++(List.replicate c.toNat l).flatten).map (F5 k):=by
  rw[eo,List.map_flatten,List.map_replicate];rfl
 rw[e2];rfl
theorem FB (k:Int)(s:SS)(w:List UInt8)(q:SR'):oT (wj k s) w (Db k q)=Db k (oT s w q):=by
 unfold oT;rw[kE];rfl
section
variable (ev:List Nd->List Sy->Int×Bool×Int) (fK:List Nd->List (List UInt8)) (pw:Int->Int->Int->List Int×Int)
theorem HU (k:Int)(s:SS)(x:List Nd):cO ev fK (wj k s) x=cO ev fK s x:=rfl
theorem xF (k:Int)(s:SS)(x:List Nd){f g:Int->SR'}(h:∀n,f n=Db k (g n)):nE ev fK (wj k s) x f=Db k (nE ev fK s x g):=by
 unfold nE;rw[kE,HU,h];rfl
theorem xG (k:Int)(s:SS):cj (wj k s)=cj s:=rfl
theorem ahh (k:Int)(s:SS)(w:List UInt8):vH (wj k s) w=Db k (vH s w):=by
 unfold vH;rw[xG,<-FB,kE];congr 1
 have e:=XQ k { s with lab:=if w.take 1=[46] then s.lab else w,aI:=iw s.aI (gu (cj s) w) 0 } 1 0 1 [itL s (gu (cj s) w)];rw[<-e];rfl
theorem Rs (k:Int)(s:SS):∀l:List Dt,rG ev fK (wj k s) l=rG ev fK s l
 |[]=>rfl
 |d::l=>by rw[rG,rG,Rs k s l,HU]
theorem aby (k:Int)(s:SS)(x:RS)(n:Int):tM ev fK pw (wj k s) x n=Db k (tM ev fK pw s x n):=by
 have pt:∀(a b c:Int) (l l':List It),l'=l.map (F5 k)->jW (wj k s) a b c l'=Db k (jW s a b c l):=λa b c l l' h=>by rw[h];exact XQ k s a b c l
 unfold tM;simp only[kE];have e1:xC (wj k s) x n=Db k (xC s x n):=by
  unfold xC;rw[kE,xG];congr 1
  exact pt _ _ _ _ _ rfl
 have e2:yN (wj k s) x n=Db k (yN s x n):=by
  unfold yN;rw[kE,xG];congr 1
  refine pt _ _ _ _ _ ?_;rw[j8];refine jq λd _=>?_
  show dtC (wj k s) x.sz d=F5 k (dtC s x.sz d);unfold dtC;split<;>rfl
 have e3:MH ev fK (wj k s) x=Db k (MH ev fK s x):=by
  unfold MH;rw[xG,<-FB];congr 1
  exact xF ev fK k s x.x λn=>rfl
 have e4:xD ev fK (wj k s) x=Db k (xD ev fK s x):=by
  unfold xD;refine xF ev fK k s x.x λn=>?_
  rw[kE];congr 1
  exact pt _ _ _ _ _ rfl
 have e5:MJ ev fK (wj k s) x=Db k (MJ ev fK s x):=by
  unfold MJ;refine xF ev fK k s x.x λn=>?_
  rw[kE,kE];have:((wj k s).aR=true\/(wj k s).av≠[])=(s.aR=true\/s.av≠[]):=by
   show (s.aR=true\/s.av.map (F5 k)≠[])=_;simp
  simp only[this];rfl
 have e7:MI (wj k s)=Db k (MI s):=by
  unfold MI;rw[<-FB];rfl
 have e8:MK ev fK (wj k s) x n=Db k (MK ev fK s x n):=by
  unfold MK;refine xF ev fK k s x.x λm=>?_
  rw[kE,kE,kE];congr 1
  congr 1
  congr 1
  exact pt _ _ _ _ _ rfl
 have e9:Fz ev fK pw (wj k s) x n=Db k (Fz ev fK pw s x n):=by
  unfold Fz;rw[kE,Rs];congr 1
  unfold powC;rw[kE];congr 1
  exact pt _ _ _ _ _ rfl
 rw[e1,e2,e3,e4,e5,e7,e8,e9,xG];rfl
theorem Rt (k:Int)(s:SS)(x:RS)(n:Int):sY ev fK pw (wj k s) x n=Db k (sY ev fK pw s x n):=by
 unfold sY;rw[kE,aby];rfl
theorem ML (k:Int)(s:SS)(x:RS):mM ev fK pw (wj k s) x=Db k (mM ev fK pw s x):=by
 unfold mM;rw[kE,Rt];congr 1
 refine xF ev fK k s x.ai λn=>?_
 rw[kE,Rt];rfl
theorem abz (k:Int)(s:SS)(x:RS):iu ev fK pw (wj k s) x=Db k (iu ev fK pw s x):=by
 unfold iu;rw[kE,kE,ahh,ML];have e:mM ev fK pw (Db k (vH s x.lab)).1 x=Db k (mM ev fK pw (vH s x.lab).1 x):=ML ev fK pw k _ x;rw[e];rfl
theorem sZ {s:SS}{x:List Nd}{k:Int->SR'}(h:∀n,(k n).1.au=s.au):(nE ev fK s x k).1.au=s.au:=by
 unfold nE;split
 .rfl
 exact h _
theorem FC {s:SS}{w:List UInt8}{k:SR'}(h:k.1.au=s.au):(oT s w k).1.au=s.au:=by
 unfold oT;split
 .rfl
 exact h
theorem TL (s:SS)(x:RS)(n:Int):(tM ev fK pw s x n).1.au=s.au:=by
 unfold tM;split
 .unfold xC;split
  .rfl
  exact uI _ _ _ _ _
 split
 .unfold yN;split
  .rfl
  exact uI _ _ _ _ _
 split
 .exact FC (sZ ev fK λn=>rfl)
 split
 .exact sZ ev fK λn=>by
   split
   .rfl
   exact uI _ _ _ _ _
 split
 .exact sZ ev fK λn=>by
   split
   .rfl
   split<;>rfl
 split
 .rfl
 split
 .exact FC rfl
 split
 .exact sZ ev fK λn=>by
   split
   .rfl
   split
   .rfl
   split
   .rfl
   exact uI _ _ _ _ _
 split
 .unfold Fz;split
  .rfl
  unfold powC;split
  .rfl
  exact uI _ _ _ _ _
 rfl
theorem HV (s:SS)(x:RS)(n:Int):(sY ev fK pw s x n).1.au=s.au:=by
 unfold sY;split
 .rfl
 exact TL ev fK pw s x n
theorem FD (s:SS)(x:RS):(mM ev fK pw s x).1.au=s.au:=by
 unfold mM;split
 .exact HV ev fK pw s x 1
 exact sZ ev fK λn=>by
  split
  .rfl
  exact HV ev fK pw s x n
theorem Cd (s:SS)(x:RS):(iu ev fK pw s x).1.au=s.au:=by
 unfold iu;split
 .split
  .exact FA s _
  rw[FD,FA]
 exact FD ev fK pw s x
variable (rd:List UInt8->RS×Int×Int)
theorem XR (k:Int)(l:List (List UInt8))(s:SS):gj ev fK pw rd l (wj k s)=(wj k (gj ev fK pw rd l s).1,(gj ev fK pw rd l s).2):=by
 induction l generalizing s with
 |nil=>rfl
 |cons w l ih =>
  have e0:{ wj k s with au:=(wj k s).au+1 }=wj k { s with au:=s.au+1 }:=by
   show SS.mk _ _ _ _ _ _ _ _ _ _ _=SS.mk _ _ _ _ _ _ _ _ _ _ _;congr 1
   show s.au+k+1=s.au+1+k;omega
  rw[oU,oU,e0,abz];by_cases h1:(rd w).2.1≠0
  .rw[ag h1,ag h1]
  rw[aa h1,aa h1];have h0:(Db k (iu ev fK pw { s with au:=s.au+1 } (rd w).1)).2=(iu ev fK pw { s with au:=s.au+1 } (rd w).1).2:=rfl;rw[h0];by_cases h2:(iu ev fK pw { s with au:=s.au+1 } (rd w).1).2≠0
  .rw[ag h2,ag h2];have e1:(wj k s).au+1=s.au+1+k:=by show s.au+k+1=_;omega
   rw[e1];rfl
  rw[aa h2,aa h2];exact ih _
end
end
end Go.Proofs.YtbeckacfibledaaGreatDoor.ps.sr
namespace Go.Proofs.YtbeckacfibledaaGreatDoor.ps.sr
open Go.Tv Go.Ev Go.Px Go.Pp Go.Proofs.YtbeckacfibledaaGreatDoor.ex
set_option maxRecDepth 100000
noncomputable section
section
variable (ev:List Nd->List Sy->Int×Bool×Int) (fK:List Nd->List (List UInt8)) (pw:Int->Int->Int->List Int×Int) (rd:List UInt8->RS×Int×Int)
def Quiet (x:RS):Prop:=x.lab=[]/\x.aF=0/\x.ai=[]
theorem PM {x:RS}(h:Quiet x)(s:SS):iu ev fK pw s x=(s,0):=by
 obtain⟨h1,h2,h3⟩:=h;unfold iu;rw[aa λq=>q.1 h1];unfold mM;rw[ag h3];unfold sY;have hm:TK s x=true:=by
  unfold TK;rw[h2,h3];split
  .rfl
  rfl
 rw[hm,aa (by decide)];unfold tM;rw[h2];rfl
theorem CM {w:List UInt8}(h0:(rd w).2.1=0)(h:Quiet (rd w).1)(l:List (List UInt8)):∀(n:Nat) (s:SS),gj ev fK pw rd (List.replicate n w++l) s=gj ev fK pw rd l { s with au:=s.au+n }
 |0,s=>by
  show gj ev fK pw rd l s=_;congr 1
  show s=SS.mk _ _ _ _ _ _ _ _ _ _ (s.au+0);rw[Int.add_zero]
 |n+1,s=>by
  rw[gQ,fR,oU,aa λq=>q h0,PM ev fK pw h,aa (by intro q;exact q rfl)];show gj ev fK pw rd (List.replicate n w++l) { s with au:=s.au+1 }=_;rw[CM h0 h l n];congr 1
  show SS.mk _ _ _ _ _ _ _ _ _ _ (s.au+1+(n:Int))=SS.mk _ _ _ _ _ _ _ _ _ _ (s.au+((n+1:Nat):Int));congr 1
  omega
theorem MM {w:List UInt8}(h0:(rd w).2.1=0)(h:Quiet (rd w).1)(l:List (List UInt8))(n:Nat):gj ev fK pw rd (List.replicate n w++l) ye=(wj n (gj ev fK pw rd l ye).1,(gj ev fK pw rd l ye).2):=by
 rw[CM ev fK pw rd h0 h,<-XR];congr 1
structure Ag (s t:SS):Prop where
 opn:t.opn=s.opn
 lab:t.lab=s.lab
 bp:t.bp=s.bp
 aI:t.aI=s.aI
 aH:t.aH=s.aH
structure atd (s:SS)(x:RS)(a b:Int)(L:Int->List It):Prop where
 b0:0<=b
 len:∀i,((L i).length:Int)=a
 set:∀i j,(L i).map (λy=>(j,y.2))=L j
 put:∀t,Ag s t->∀n,tM ev fK pw t x n=jW t a b n (L t.au)
end
end
end Go.Proofs.YtbeckacfibledaaGreatDoor.ps.sr
namespace Go.Proofs.YtbeckacfibledaaGreatDoor.ps.sr
open Go.Tv Go.Ev Go.Px Go.Pp Go.Proofs.YtbeckacfibledaaGreatDoor.ex
set_option maxRecDepth 100000
noncomputable section
section
variable (ev:List Nd->List Sy->Int×Bool×Int) (fK:List Nd->List (List UInt8)) (pw:Int->Int->Int->List Int×Int) (rd:List UInt8->RS×Int×Int)
structure Plain (s:SS)(x:RS):Prop where
 lab:x.lab=[]
 aF:x.aF=1\/x.aF=2\/x.aF=9
 opn:s.opn=false
end
end
end Go.Proofs.YtbeckacfibledaaGreatDoor.ps.sr
namespace Go.Proofs.YtbeckacfibledaaGreatDoor.ps.sr
open Go.Tv Go.Ev Go.Px Go.Pp Go.Proofs.YtbeckacfibledaaGreatDoor.ex
set_option maxRecDepth 100000
noncomputable section
section
variable (ev:List Nd->List Sy->Int×Bool×Int) (fK:List Nd->List (List UInt8)) (pw:Int->Int->Int->List Int×Int) (rd:List UInt8->RS×Int×Int)
abbrev Ls:=Int×List Sy×List It
def al4 (s:SS):Ls:=(s.fM,s.aH,s.av)
def zLs:Ls:=(0,[],[])
def pW (l:List (List UInt8)):Ls×Int×Int :=
 if (gj ev fK pw rd l ye).2≠0 then (zLs,(gj ev fK pw rd l ye).2,(gj ev fK pw rd l ye).1.au)
 else if (gj ev fK pw rd l ye).1.opn=true then (zLs,8,(gj ev fK pw rd l ye).1.au) else (al4 (gj ev fK pw rd l ye).1,0,0)
theorem XS {l:List (List UInt8)}(h:(pW ev fK pw rd l).2.1=0):(gj ev fK pw rd l ye).2=0/\(gj ev fK pw rd l ye).1.opn=false/\pW ev fK pw rd l=(al4 (gj ev fK pw rd l ye).1,0,0):=by
 unfold pW at h ⊢;split at h
 .rename_i h1;exact absurd h h1
 rename_i h1;rw[aa h1];split at h
 .exact absurd h (by show ¬((8:Int)=0);decide)
 rename_i h2;rw[aa h2];exact⟨eN.1 h1,by simpa using h2,rfl⟩
theorem XT {l:List (List UInt8)}(h:(pW ev fK pw rd l).2.1≠0):(pW ev fK pw rd l).1=zLs:=by
 unfold pW at h ⊢;split
 .rfl
 rename_i h1;rw[aa h1]at h;split
 .rfl
 rename_i h2;rw[aa h2]at h;exact absurd rfl h
theorem TM {w:List UInt8}(h0:(rd w).2.1=0)(h:Quiet (rd w).1)(l:List (List UInt8))(n:Nat) :
 (pW ev fK pw rd (List.replicate n w++l)).2.1=(pW ev fK pw rd l).2.1/\((pW ev fK pw rd l).2.1≠0->(pW ev fK pw rd (List.replicate n w++l)).2.2=(pW ev fK pw rd l).2.2+n) /\
 (pW ev fK pw rd (List.replicate n w++l)).1=((pW ev fK pw rd l).1.1,(pW ev fK pw rd l).1.2.1,(pW ev fK pw rd l).1.2.2.map (F5 n)):=by
 unfold pW;rw[MM ev fK pw rd h0 h];by_cases h1:(gj ev fK pw rd l ye).2≠0
 .rw[ag h1,ag h1];exact⟨rfl,λ_=>rfl,rfl⟩
 rw[aa h1,aa h1];by_cases h2:(gj ev fK pw rd l ye).1.opn=true
 .rw[ag h2,ag (show (wj (n:Int) (gj ev fK pw rd l ye).1).opn=true from h2)];exact⟨rfl,λ_=>rfl,rfl⟩
 rw[aa h2,aa (show ¬(wj (n:Int) (gj ev fK pw rd l ye).1).opn=true from h2)];exact⟨rfl,λq=>absurd rfl q,rfl⟩
end
end
end Go.Proofs.YtbeckacfibledaaGreatDoor.ps.sr
