/- Sources: what a line adds, as plain functions; what stays ahead. Sources: names but once, items in order. Sources: all lines' items; lines further on. Sources: items so many times over, or one after the other. Sources: lines that say nothing; a line so many times. Sources: a line so many times over, or in so many lines. Sources: what they come to; the plain laws. -/
import Derived.Test.YtfggompceldfgaaGreatDoorGrg
set_option linter.unusedVariables false
set_option linter.unusedSimpArgs false

namespace Go.Proofs.YtfggompceldfgaaGreatDoor.ps.sr
open Go.Tv Go.Ev Go.Px Go.Pp Go.Proofs.YtfggompceldfgaaGreatDoor.ex
set_option maxRecDepth 100000
noncomputable section
abbrev It:=Int×Int×List UInt8×(Int×Int×List Raw)×List Nd×List Int×Int
abbrev Sy:=List UInt8×Int×Bool
structure SS where
 fq:Int
 aB:List Sy
 au:List It
 aI:List (List UInt8×Int)
 lab:List UInt8
 opn:Bool
 bp:List UInt8
 aM:Int
 aR:Bool
 aF:Int
 ay:Int
def BP:SS:=⟨0,[],[],[],[],false,[],0,false,0,0⟩
abbrev SR':=SS×Int
section
variable (ev:List Nd->List Sy->Int×Bool×Int) (iZ:List Nd->List (List UInt8)) (pw:Int->Int->Int->List Int×Int)
def cg (s:SS):List UInt8:=if s.opn=true then s.bp else s.lab
def fO (c w:List UInt8):List UInt8:=if w.take 1=[46] then c++w else w
def L8 (c:List UInt8)(y:Nd):Nd:=if y.1=2 then (y.1,y.2.1,fO c y.2.2.1,y.2.2.2) else y
def ndB (c:List UInt8)(y:Nd):Bool := !decide (y.1=2)||Nat.ble (fO c y.2.2.1).length 60
def dm (c:List UInt8)(x:List Nd):List Nd×Bool:=(x.map (L8 c),x.all (ndB c))
def E9 (c:List UInt8)(r:Raw):Raw:=(r.1,r.2.1,r.2.2.1,(dm c r.2.2.2.1).1,r.2.2.2.2)
def OV (c:List UInt8)(l:List Raw):List Raw×Bool:=(l.map (E9 c),l.all λr=>(dm c r.2.2.2.1).2)
def sL (s:SS)(w:List UInt8):Option Sy:=if 0<iz s.aI w then dX s.aB (iz s.aI w-1) else none
def cQ (s:SS)(x:List Nd):Int×Int :=
 if (dm (cg s) x).2=false then (0,3)
 else if (ev (dm (cg s) x).1 ((iZ (dm (cg s) x).1).filterMap (sL s))).2.2≠0 then (0,(ev (dm (cg s) x).1 ((iZ (dm (cg s) x).1).filterMap (sL s))).2.2)
 else if (ev (dm (cg s) x).1 ((iZ (dm (cg s) x).1).filterMap (sL s))).2.1=true then (0,5)
 else ((ev (dm (cg s) x).1 ((iZ (dm (cg s) x).1).filterMap (sL s))).1,0)
def pH (s:SS)(x:List Nd)(k:Int->SR'):SR':=if (cQ ev iZ s x).2≠0 then (s,(cQ ev iZ s x).2) else k (cQ ev iZ s x).1
def qi (s:SS)(w:List UInt8):Int:=if iA s.aI w=true then 7 else if 60<w.length then 3 else 0
def qX (s:SS)(w:List UInt8)(k:SR'):SR':=if qi s w≠0 then (s,qi s w) else k
def CN (s:SS)(w:List UInt8)(n:Int):SS:={ s with aB:=s.aB++[(w,n,false)],aI:=fk s.aI w ((s.aB.length+1:Nat):Int) }
def kz (s:SS)(au aF ai:Int)(l:List It):SR' :=
 if 0<au/\Int.tdiv (20000-s.au.length) au<ai then (s,3)
 else if 0<aF/\Int.tdiv (1048576-s.aF) aF<ai then (s,3)
 else ({ s with aF:=s.aF+aF*ai,au:=s.au++(List.replicate ai.toNat l).flatten },0)
def itL (s:SS)(w:List UInt8):It:=(s.ay,1,w,(0,0,[]),[],[],0)
def itB (s:SS)(b:List Int):It:=(s.ay,4,[],(0,0,[]),[],b,0)
def Aq (s:SS)(w:List UInt8):SR' :=
 qX s (fO (cg s) w) (if s.opn=true then (CN s (fO (cg s) w) s.aM,0)
  else kz { s with lab:=if w.take 1=[46] then s.lab else w,aI:=fk s.aI (fO (cg s) w) 0 } 1 0 1 [itL s (fO (cg s) w)])
def aax (s:SS)(x:RS):Bool :=
 if s.opn=true then (if x.aC=1\/x.aC=2\/x.aC=4\/x.aC=5\/x.aC=9\/x.aC=6 then false else decide (x.ai=[])) else !decide (x.aC=7)
def Cr (s:SS)(x:RS)(ai:Int):SR':=if (OV (cg s) x.args).2=false then (s,3) else kz s 1 0 ai [(s.ay,2,[],(x.op,x.aL,(OV (cg s) x.args).1),[],[],0)]
def Ar (n sz:Int):Int:=Int.tdiv (n+sz-1) sz*sz
def aay (t:List UInt8)(sz:Int):List Int:=t.map cU++List.replicate ((Ar t.length sz).toNat-t.length) 0
def dtC (s:SS)(sz:Int)(d:Dt):It:=if d.2=[] then itB s (aay d.1 sz) else (s.ay,3,[],(0,0,[]),(dm (cg s) d.2).1,[],sz)
def QC (sz:Int)(d:Dt):Int:=if d.2=[] then Ar d.1.length sz else sz
def Fa (s:SS)(x:RS)(ai:Int):SR' :=
 if x.data.all (λd=>decide (d.2=[])||(dm (cg s) d.2).2)=false then (s,3)
 else kz s x.data.length (x.data.foldl (λn d=>n+QC x.sz d) 0) ai (x.data.map (dtC s x.sz))
def WY (s:SS)(x:RS):SR':=qX s (fO (cg s) x.lab) (pH ev iZ s x.x λn=>(CN s (fO (cg s) x.lab) n,0))
def Au:List UInt8:=[95,115,105,122,101]
def WZ (s:SS):SR':=qX s (s.bp++Au) ({ CN s (s.bp++Au) s.aM with opn:=false },0)
def pow2 (n:Int):Bool:=decide (n=1\/n=2\/n=4\/n=8\/n=16\/n=32\/n=64\/n=128\/n=256\/n=512\/n=1024\/n=2048\/n=4096)
def Fb (s:SS)(x:RS):SR':=pH ev iZ s x.x λn=>if pow2 n=false then (s,5) else kz s 1 0 1 [(s.ay,5,[],(0,0,[]),[],[],n)]
def W0 (s:SS)(x:RS):SR':=pH ev iZ s x.x λn=>if s.aR=true\/s.au≠[] then (s,8) else if n<0\/140737488355328<n then (s,5) else ({ s with fq:=n,aR:=true },0)
def W5 (s:SS)(x:RS)(ai:Int):SR':=pH ev iZ s x.x λn=>if n<0 then (s,5) else if Int.tdiv 1048576 x.sz<n then (s,3)
 else if s.opn=true then ({ s with aM:=s.aM+n*x.sz },0) else kz s 1 (n*x.sz) ai [itB s (List.replicate (n*x.sz).toNat 0)]
def vG (s:SS):List Dt->List Int×Int
 |[]=>([],0)
 |d::l=>if (cQ ev iZ s d.2).2≠0 then ([],(cQ ev iZ s d.2).2) else if (vG s l).2≠0 then ([],(vG s l).2) else ((cQ ev iZ s d.2).1::(vG s l).1,0)
def powC (s:SS)(ai:Int)(q:List Int×Int):SR':=if q.2≠0 then (s,q.2) else kz s 1 q.1.length ai [itB s q.1]
def L9 (s:SS)(x:RS)(ai:Int):SR':=if (vG ev iZ s x.data).2≠0 then (s,(vG ev iZ s x.data).2)
 else powC s ai (pw ((vG ev iZ s x.data).1.getD 0 0) ((vG ev iZ s x.data).1.getD 1 0) ((vG ev iZ s x.data).1.getD 2 1))
def yo (s:SS)(x:RS)(ai:Int):SR' :=
 if x.aC=1 then Cr s x ai else if x.aC=2 then Fa s x ai else if x.aC=3 then WY ev iZ s x else if x.aC=4 then Fb ev iZ s x else if x.aC=5 then W0 ev iZ s x
 else if x.aC=6 then ({ s with bp:=fO (cg s) x.lab,aM:=0,opn:=true },0) else if x.aC=7 then WZ s else if x.aC=8 then W5 ev iZ s x ai
 else if x.aC=9 then L9 ev iZ pw s x ai else (s,0)
def wZ (s:SS)(x:RS)(ai:Int):SR':=if aax s x=false then (s,8) else yo ev iZ pw s x ai
def qY (s:SS)(x:RS):SR':=if x.ai=[] then wZ ev iZ pw s x 1 else pH ev iZ s x.ai λn=>if n<0 then (s,5) else wZ ev iZ pw s x n
def lD (s:SS)(x:RS):SR' :=
 if x.lab≠[]/\x.aC≠3/\x.aC≠6 then (if (Aq s x.lab).2≠0 then Aq s x.lab else qY ev iZ pw (Aq s x.lab).1 x) else qY ev iZ pw s x
structure Ah (s t:SS):Prop where
 au:∃l,t.au=s.au++l
 aB:∃l,t.aB=s.aB++l
variable (rd:List UInt8->RS×Int×Int)
def ny:List (List UInt8)->SS->SS×Int
 |[],s=>(s,0)
 |w::l,s=>if (rd w).2.1≠0 then ({ s with ay:=s.ay+1 },(rd w).2.1)
  else if (lD ev iZ pw { s with ay:=s.ay+1 } (rd w).1).2≠0 then ({ (lD ev iZ pw { s with ay:=s.ay+1 } (rd w).1).1 with ay:=s.ay+1 },(lD ev iZ pw { s with ay:=s.ay+1 } (rd w).1).2)
  else ny l (lD ev iZ pw { s with ay:=s.ay+1 } (rd w).1).1
theorem zf (w:List UInt8)(l:List (List UInt8))(s:SS):ny ev iZ pw rd (w::l) s=if (rd w).2.1≠0 then ({ s with ay:=s.ay+1 },(rd w).2.1)
 else if (lD ev iZ pw { s with ay:=s.ay+1 } (rd w).1).2≠0 then ({ (lD ev iZ pw { s with ay:=s.ay+1 } (rd w).1).1 with ay:=s.ay+1 },(lD ev iZ pw { s with ay:=s.ay+1 } (rd w).1).2)
 else ny ev iZ pw rd l (lD ev iZ pw { s with ay:=s.ay+1 } (rd w).1).1:=rfl
end
def qj (y:It):Option (List UInt8):=if y.2.1=1 then some y.2.2.1 else none
def iL (s:SS):List (List UInt8):=s.aB.map (·.1)++s.au.filterMap qj
structure Iv (s:SS):Prop where
 nd:(iL s).Nodup
 ok:∀w∈iL s,w≠[]/\w.length<=60/\iA s.aI w=true
 it:∀y∈s.au,1<=y.1/\y.1<=s.ay/\1<=y.2.1/\y.2.1<=5
 up:(s.au.map (·.1)).Pairwise (· <= ·)
theorem Df:∀(l:List (List UInt8×Int)) (w v:List UInt8) (n:Int),iA (fk l w n) v=(decide (v=w)||iA l v)
 |[],w,v,n=>by
  show ah (decide (v=w)) true false=_;cases decide (v=w)<;>rfl
 |q::l,w,v,n=>by
  rw[fk];by_cases h:w=q.1
  .rw[bf h];show ah (decide (v=q.1)) true (iA l v)=(decide (v=w)||ah (decide (v=q.1)) true (iA l v));rw[h];cases decide (v=q.1)<;>rfl
  rw[aU h];show ah (decide (v=q.1)) true (iA (fk l w n) v)=(decide (v=w)||ah (decide (v=q.1)) true (iA l v));rw[Df l w v n];cases decide (v=q.1)<;>cases decide (v=w)<;>rfl
theorem Av {s t:SS}(h:Iv s)(h1:t.au=s.au)(h2:t.aB=s.aB)(h3:t.aI=s.aI)(h4:s.ay<=t.ay):Iv t:=by
 have e:iL t=iL s:=by unfold iL;rw[h1,h2]
 refine⟨by rw[e];exact h.nd,by rw[e,h3];exact h.ok,λy hy=>?_,by rw[h1];exact h.up⟩;rw[h1]at hy;obtain⟨a,b,c,d⟩:=h.it y hy;exact⟨a,by omega,c,d⟩
theorem Ma {s:SS}{w:List UInt8}(h:qi s w=0):iA s.aI w=false/\w.length<=60:=by
 unfold qi at h;split at h
 .cases h
 rename_i h1;split at h
 .cases h
 exact⟨by simpa using h1,by omega⟩
theorem OW {s:SS}(h:Iv s){w:List UInt8}(hw:w≠[])(hf:qi s w=0)(n:Int):Iv (CN s w n):=by
 obtain⟨f1,f2⟩:=Ma hf;have e:iL (CN s w n)=s.aB.map (·.1)++w::s.au.filterMap qj:=by unfold iL CN;simp
 have hp:(iL (CN s w n)).Perm (w::iL s):=by rw[e];exact nP
 have hno:w ∉ iL s:=λhm=>by rw[(h.ok w hm).2.2]at f1;cases f1
 refine⟨hp.nodup_iff.2 (jG.2 ⟨hno,h.nd⟩),λv hv=>?_,h.it,h.up⟩;have hk:iA (CN s w n).aI v=(decide (v=w)||iA s.aI v):=Df _ _ _ _;rw[hk];rcases bw.1 (hp.mem_iff.1 hv) with rfl|hv
 .exact ⟨hw,f2,by simp⟩
 obtain⟨a,b,c⟩:=h.ok v hv;exact⟨a,b,by rw[c];simp⟩
theorem W6 {s:SS}(h:Iv s)(h1:1<=s.ay){l:List It}(hl:∀y∈l,y.1=s.ay/\2<=y.2.1/\y.2.1<=5)(b:Int):Iv { s with aF:=b,au:=s.au++l }:=by
 have e0:l.filterMap qj=[]:=List.filterMap_eq_nil_iff.2 λy hy=>by
  have:=(hl y hy).2.1;unfold qj;rw[aa (by omega)]
 have e:iL { s with aF:=b,au:=s.au++l }=iL s:=by
  show s.aB.map (·.1)++(s.au++l).filterMap qj=_
  rw[List.filterMap_append,e0,eO];rfl
 refine⟨by rw[e];exact h.nd,by rw[e];exact h.ok,λy hy=>?_,?_⟩
 .rcases cr.1 hy with hy|hy
  .exact h.it y hy
  obtain⟨a,b,c⟩:=hl y hy;exact⟨by omega,by show y.1<=s.ay;omega,by omega,c⟩
 show ((s.au++l).map (·.1)).Pairwise (· <= ·)
 rw[ei,iR];refine⟨h.up,?_,λa ha b hb=>?_⟩
 .refine List.pairwise_iff_forall_sublist.2 λ{a b} hs=>?_
  have ha:a∈l.map (·.1):=hs.subset (by simp)
  have hb:b∈l.map (·.1):=hs.subset (by simp)
  obtain⟨y,hy,rfl⟩:=bJ.1 ha;obtain⟨z,hz,rfl⟩:=bJ.1 hb;have:=(hl y hy).1;have:=(hl z hz).1;omega
 obtain⟨y,hy,rfl⟩:=bJ.1 ha;obtain⟨z,hz,rfl⟩:=bJ.1 hb;have:=(h.it y hy).2.1;have:=(hl z hz).1;omega
theorem Fc {s:SS}(h:Iv s)(h1:1<=s.ay){l:List It}(hl:∀y∈l,y.1=s.ay/\2<=y.2.1/\y.2.1<=5)(a b c:Int):Iv (kz s a b c l).1:=by
 unfold kz;split
 .exact h
 split
 .exact h
 refine W6 h h1 (λy hy=>?_) _;obtain⟨m,hm,hy⟩:=List.mem_flatten.1 hy;rw[(List.mem_replicate.1 hm).2]at hy;exact hl y hy
theorem W7 {s:SS}(h:Iv s)(h1:1<=s.ay){w:List UInt8}(hw:w≠[])(hf:qi s w=0)(L:List UInt8)(b:Int):Iv { s with lab:=L,aI:=fk s.aI w 0,aF:=b,au:=s.au++[itL s w] }:=by
 obtain⟨f1,f2⟩:=Ma hf;have e:iL { s with lab:=L,aI:=fk s.aI w 0,aF:=b,au:=s.au++[itL s w] }=iL s++[w]:=by
  show s.aB.map (·.1)++(s.au++[itL s w]).filterMap qj=_
  rw[List.filterMap_append,<-bQ];rfl
 have hno:w ∉ iL s:=λhm=>by rw[(h.ok w hm).2.2]at f1;cases f1
 refine⟨?_,?_,λy hy=>?_,?_⟩
 .rw[e,List.nodup_append];exact⟨h.nd,by simp,λa ha b hb=>by rw[dP.1 hb];exact λe=>hno (e ▸ ha)⟩
 .rw[e];intro v hv;have hk:iA (fk s.aI w 0) v=(decide (v=w)||iA s.aI v):=Df _ _ _ _;show v≠[]/\v.length<=60/\iA (fk s.aI w 0) v=true;rw[hk];rcases cr.1 hv with hv|hv
  .obtain ⟨a,b,c⟩:=h.ok v hv;exact⟨a,b,by rw[c];simp⟩
  rw[dP.1 hv];exact⟨hw,f2,by simp⟩
 .rcases cr.1 hy with hy|hy
  .exact h.it y hy
  rw[dP.1 hy];exact⟨h1,bx _,by show (1:Int)<=1;omega,by show (1:Int)<=5;omega⟩
 show ((s.au++[itL s w]).map (·.1)).Pairwise (· <= ·)
 rw[ei,iR];refine⟨h.up,by simp,λa ha b hb=>?_⟩;obtain⟨y,hy,rfl⟩:=bJ.1 ha;have:=(h.it y hy).2.1;have:b=s.ay:=by simpa[itL] using hb
 omega
theorem QD {c w:List UInt8}(h:w≠[]):fO c w≠[]:=by
 unfold fO;split
 .intro e;exact h (List.append_eq_nil_iff.1 e).2
 exact h
theorem Fe {s:SS}{w:List UInt8}{k:SR'}(h:Iv s)(hk:qi s w=0->Iv k.1):Iv (qX s w k).1:=by
 unfold qX;split
 .exact h
 rename_i h0;exact hk (dH.1 h0)
section
variable (ev:List Nd->List Sy->Int×Bool×Int) (iZ:List Nd->List (List UInt8)) (pw:Int->Int->Int->List Int×Int)
theorem w9 {s:SS}{x:List Nd}{k:Int->SR'}(h:Iv s)(hk:∀n,Iv (k n).1):Iv (pH ev iZ s x k).1:=by
 unfold pH;split
 .exact h
 exact hk _
theorem uv (s:SS)(a b c:Int)(l:List It):(kz s a b c l).1.ay=s.ay:=by
 unfold kz;split
 .rfl
 split<;>rfl
theorem Ff (s:SS)(w:List UInt8):(Aq s w).1.ay=s.ay:=by
 unfold Aq qX;split
 .rfl
 split
 .rfl
 rw[uv]
theorem afY {s:SS}(h:Iv s)(h1:1<=s.ay){w:List UInt8}(hw:w≠[]):Iv (Aq s w).1:=by
 unfold Aq;refine Fe h λhf=>?_
 have hn:=QD (c:=cg s) hw;split
 .exact OW h hn hf _
 generalize (if w.take 1=[46] then s.lab else w)=L;unfold kz;have hx:∀L,Iv { s with lab:=L,aI:=fk s.aI (fO (cg s) w) 0 }:=λL=>by
  refine⟨h.nd,λv hv=>?_,h.it,h.up⟩;obtain⟨a,b,c⟩:=h.ok v hv;have hk:iA (fk s.aI (fO (cg s) w) 0) v=(decide (v=fO (cg s) w)||iA s.aI v):=Df _ _ _ _;exact⟨a,b,by show iA (fk s.aI (fO (cg s) w) 0) v=true;rw[hk,c];simp⟩
 split
 .exact hx _
 split
 .exact hx _
 exact W7 h h1 hn hf _ _
theorem aaz {s:SS}(h:Iv s)(h1:1<=s.ay){x:RS}(hx:x.aC=3\/x.aC=6->x.lab≠[])(n:Int):Iv (yo ev iZ pw s x n).1:=by
 have TA:∀(k:Int) (c:Int×Int×List Raw) (X:List Nd) (B:List Int) (N:Int),2<=k->k<=5->∀y∈[((s.ay,k,[],c,X,B,N):It)],y.1=s.ay/\2<=y.2.1/\y.2.1<=5:=λk c X B N h2 h5 y hy=>by
  rw[dP.1 hy];exact⟨rfl,h2,h5⟩
 unfold yo;split
 .unfold Cr;split
  .exact h
  exact Fc h h1 (TA 2 _ _ _ _ (by omega) (by omega)) _ _ _
 split
 .unfold Fa;split
  .exact h
  refine Fc h h1 (λy hy=>?_) _ _ _;obtain⟨d,_,rfl⟩:=bJ.1 hy;unfold dtC;split
  .exact ⟨rfl,by show (2:Int)<=4;omega,by show (4:Int)<=5;omega⟩
  exact⟨rfl,by show (2:Int)<=3;omega,by show (3:Int)<=5;omega⟩
 split
 .rename_i hk;exact Fe h λhf=>w9 ev iZ h λn=>OW h (QD (hx (.inl hk))) hf n
 split
 .exact w9 ev iZ h λn=>by
   split
   .exact h
   exact Fc h h1 (TA 5 _ _ _ _ (by omega) (by omega)) _ _ _
 split
 .exact w9 ev iZ h λn=>by
   split
   .exact h
   split
   .exact h
   exact Av h rfl rfl rfl (bx _)
 split
 .exact Av h rfl rfl rfl (bx _)
 split
 .exact Fe h λhf=>Av (OW h (by simp[Au]) hf _) rfl rfl rfl (bx _)
 split
 .exact w9 ev iZ h λn=>by
   split
   .exact h
   split
   .exact h
   split
   .exact Av h rfl rfl rfl (bx _)
   exact Fc h h1 (TA 4 _ _ _ _ (by omega) (by omega)) _ _ _
 split
 .unfold L9;split
  .exact h
  unfold powC;split
  .exact h
  exact Fc h h1 (TA 4 _ _ _ _ (by omega) (by omega)) _ _ _
 exact h
theorem QE {s:SS}(h:Iv s)(h1:1<=s.ay){x:RS}(hx:x.aC=3\/x.aC=6->x.lab≠[])(n:Int):Iv (wZ ev iZ pw s x n).1:=by
 unfold wZ;split
 .exact h
 exact aaz ev iZ pw h h1 hx n
theorem Mb {s:SS}(h:Iv s)(h1:1<=s.ay){x:RS}(hx:x.aC=3\/x.aC=6->x.lab≠[]):Iv (qY ev iZ pw s x).1:=by
 unfold qY;split
 .exact QE ev iZ pw h h1 hx 1
 exact w9 ev iZ h λn=>by
  split
  .exact h
  exact QE ev iZ pw h h1 hx n
theorem aaA {s:SS}(h:Iv s)(h1:1<=s.ay){x:RS}(hx:x.aC=3\/x.aC=6->x.lab≠[]):Iv (lD ev iZ pw s x).1:=by
 unfold lD;split
 .rename_i hl;have hq:=afY h h1 hl.1;split
  .exact hq
  exact Mb ev iZ pw hq (by rw[Ff];exact h1) hx
 exact Mb ev iZ pw h h1 hx
end
theorem aou:Iv BP:=⟨by simp[iL,BP],λw hw=>by simp[iL,BP]at hw,λy hy=>by simp[BP]at hy,by simp[BP]⟩
section
variable (ev:List Nd->List Sy->Int×Bool×Int) (iZ:List Nd->List (List UInt8)) (pw:Int->Int->Int->List Int×Int)
theorem sM {s:SS}{x:List Nd}{k:Int->SR'}(h:∀n,(k n).1.ay=s.ay):(pH ev iZ s x k).1.ay=s.ay:=by
 unfold pH;split
 .rfl
 exact h _
theorem Fg {s:SS}{w:List UInt8}{k:SR'}(h:k.1.ay=s.ay):(qX s w k).1.ay=s.ay:=by
 unfold qX;split
 .rfl
 exact h
theorem SM (s:SS)(x:RS)(n:Int):(yo ev iZ pw s x n).1.ay=s.ay:=by
 unfold yo;split
 .unfold Cr;split
  .rfl
  exact uv _ _ _ _ _
 split
 .unfold Fa;split
  .rfl
  exact uv _ _ _ _ _
 split
 .exact Fg (sM ev iZ λn=>rfl)
 split
 .exact sM ev iZ λn=>by
   split
   .rfl
   exact uv _ _ _ _ _
 split
 .exact sM ev iZ λn=>by
   split
   .rfl
   split<;>rfl
 split
 .rfl
 split
 .exact Fg rfl
 split
 .exact sM ev iZ λn=>by
   split
   .rfl
   split
   .rfl
   split
   .rfl
   exact uv _ _ _ _ _
 split
 .unfold L9;split
  .rfl
  unfold powC;split
  .rfl
  exact uv _ _ _ _ _
 rfl
theorem Hp (s:SS)(x:RS)(n:Int):(wZ ev iZ pw s x n).1.ay=s.ay:=by
 unfold wZ;split
 .rfl
 exact SM ev iZ pw s x n
theorem Fh (s:SS)(x:RS):(qY ev iZ pw s x).1.ay=s.ay:=by
 unfold qY;split
 .exact Hp ev iZ pw s x 1
 exact sM ev iZ λn=>by
  split
  .rfl
  exact Hp ev iZ pw s x n
theorem Hq (s:SS)(x:RS):(lD ev iZ pw s x).1.ay=s.ay:=by
 unfold lD;split
 .split
  .exact Ff s _
  rw[Fh,Ff]
 exact Fh ev iZ pw s x
variable (rd:List UInt8->RS×Int×Int)
theorem W8 (hrd:∀w,(rd w).2.1=0->((rd w).1.aC=3\/(rd w).1.aC=6->(rd w).1.lab≠[]))(l:List (List UInt8)):∀(s:SS),Iv s->0<=s.ay->(ny ev iZ pw rd l s).2=0->Iv (ny ev iZ pw rd l s).1:=by
 induction l with
 |nil=>exact λs h _ _=>h
 |cons w l ih =>
  intro s h hl h0;rw[zf]at h0 ⊢;by_cases h1:(rd w).2.1≠0
  .rw[ag h1]at h0;exact absurd h0 h1
  rw[aa h1]at h0 ⊢;by_cases h2:(lD ev iZ pw { s with ay:=s.ay+1 } (rd w).1).2≠0
  .rw[ag h2]at h0;exact absurd h0 h2
  rw[aa h2]at h0 ⊢;have hi:Iv { s with ay:=s.ay+1 }:=Av h rfl rfl rfl (by show s.ay<=s.ay+1;omega);refine ih _ (aaA ev iZ pw hi (by show 1<=s.ay+1;omega) (hrd w (dH.1 h1))) ?_ h0;rw[Hq];show 0<=s.ay+1;omega
end
end
end Go.Proofs.YtfggompceldfgaaGreatDoor.ps.sr
namespace Go.Proofs.YtfggompceldfgaaGreatDoor.ps.sr
open Go.Tv Go.Ev Go.Px Go.Pp Go.Proofs.YtfggompceldfgaaGreatDoor.ex
set_option maxRecDepth 100000
noncomputable section
section
variable (ev:List Nd->List Sy->Int×Bool×Int) (iZ:List Nd->List (List UInt8)) (pw:Int->Int->Int->List Int×Int) (rd:List UInt8->RS×Int×Int)
structure Ag (s t:SS):Prop where
 opn:t.opn=s.opn
 lab:t.lab=s.lab
 bp:t.bp=s.bp
 aI:t.aI=s.aI
 aB:t.aB=s.aB
structure arv (s:SS)(x:RS)(a b:Int)(L:Int->List It):Prop where
 b0:0<=b
 len:∀i,((L i).length:Int)=a
 set:∀i j,(L i).map (λy=>(j,y.2))=L j
 put:∀t,Ag s t->∀n,yo ev iZ pw t x n=kz t a b n (L t.ay)
end
end
end Go.Proofs.YtfggompceldfgaaGreatDoor.ps.sr
namespace Go.Proofs.YtfggompceldfgaaGreatDoor.ps.sr
open Go.Tv Go.Ev Go.Px Go.Pp Go.Proofs.YtfggompceldfgaaGreatDoor.ex
set_option maxRecDepth 100000
noncomputable section
section
variable (ev:List Nd->List Sy->Int×Bool×Int) (iZ:List Nd->List (List UInt8)) (pw:Int->Int->Int->List Int×Int) (rd:List UInt8->RS×Int×Int)
structure Plain (s:SS)(x:RS):Prop where
 lab:x.lab=[]
 aC:x.aC=1\/x.aC=2\/x.aC=9
 opn:s.opn=false
end
end
end Go.Proofs.YtfggompceldfgaaGreatDoor.ps.sr
namespace Go.Proofs.YtfggompceldfgaaGreatDoor.ps.sr
open Go.Tv Go.Ev Go.Px Go.Pp Go.Proofs.YtfggompceldfgaaGreatDoor.ex
set_option maxRecDepth 100000
noncomputable section
section
variable (ev:List Nd->List Sy->Int×Bool×Int) (iZ:List Nd->List (List UInt8)) (pw:Int->Int->Int->List Int×Int) (rd:List UInt8->RS×Int×Int)
abbrev Ls:=Int×List Sy×List It
def aaB (s:SS):Ls:=(s.fq,s.aB,s.au)
def zLs:Ls:=(0,[],[])
def zg (l:List (List UInt8)):Ls×Int×Int :=
 if (ny ev iZ pw rd l BP).2≠0 then (zLs,(ny ev iZ pw rd l BP).2,(ny ev iZ pw rd l BP).1.ay)
 else if (ny ev iZ pw rd l BP).1.opn=true then (zLs,8,(ny ev iZ pw rd l BP).1.ay) else (aaB (ny ev iZ pw rd l BP).1,0,0)
theorem W9 {l:List (List UInt8)}(h:(zg ev iZ pw rd l).2.1=0):(ny ev iZ pw rd l BP).2=0/\(ny ev iZ pw rd l BP).1.opn=false/\zg ev iZ pw rd l=(aaB (ny ev iZ pw rd l BP).1,0,0):=by
 unfold zg at h ⊢;split at h
 .rename_i h1;exact absurd h h1
 rename_i h1;rw[aa h1];split at h
 .exact absurd h (by show ¬((8:Int)=0);decide)
 rename_i h2;rw[aa h2];exact⟨dH.1 h1,by simpa using h2,rfl⟩
theorem Xa {l:List (List UInt8)}(h:(zg ev iZ pw rd l).2.1≠0):(zg ev iZ pw rd l).1=zLs:=by
 unfold zg at h ⊢;split
 .rfl
 rename_i h1;rw[aa h1]at h;split
 .rfl
 rename_i h2;rw[aa h2]at h;exact absurd rfl h
theorem Xb (hrd:∀w,(rd w).2.1=0->((rd w).1.aC=3\/(rd w).1.aC=6->(rd w).1.lab≠[])){l:List (List UInt8)}(h:(zg ev iZ pw rd l).2.1=0) :
 ∃s,Iv s/\zg ev iZ pw rd l=(aaB s,0,0):=by
 obtain⟨h1,_,h3⟩:=W9 ev iZ pw rd h;exact⟨_,W8 ev iZ pw rd hrd l BP aou (bx _) h1,h3⟩
end
theorem afZ {n:Int}{l:List Tok}(hl:∀t∈l,t.1=1->t.2.2.1≠[])(i:Int){t:List UInt8}(h:qM l i=some t):t≠[]:=by
 unfold qM at h;split at h
 .rename_i c hc;split at h
  .rename_i hk;cases h;have:c∈l:=by
    unfold at? at hc;split at hc
    .exact bg hc
    cases hc
   exact hl c this hk
  cases h
 cases h
end
end Go.Proofs.YtfggompceldfgaaGreatDoor.ps.sr
