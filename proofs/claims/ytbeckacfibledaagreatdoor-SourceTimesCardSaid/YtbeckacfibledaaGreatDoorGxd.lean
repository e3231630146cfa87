/- Sources: what lines do, as it runs: data, dcx. -/
import Derived.Test.YtbeckacfibledaaGreatDoorGxc
import Derived.Test.YtbeckacfibledaaGreatDoorGrf
set_option linter.unusedVariables false
set_option linter.unusedSimpArgs false

namespace Go.Proofs.YtbeckacfibledaaGreatDoor.ps.sr
open Go.Tv Go.Ev Go.Px Go.Pp Go.Proofs.YtbeckacfibledaaGreatDoor.ex
set_option maxRecDepth 100000
noncomputable section
def nW (a b n:Int):cZ×Int:=(sp.pwF a b n,if sp.L3 a b n=true then 5 else 0)
def fPw (args:aI):Option (Bool×aI) :=
 match args with
 |[.int .i64 a,.int .i64 b,.int .i64 n]=>some (true,[.eC (.int .u8) (nW a b n).1,.int .i64 (nW a b n).2])
 |_=>none
theorem RY:iI X0 gR 94 ⟨none,[none,none,none],gV fPw⟩:=by
 intro ins outs rs d hlen;clear hlen;have d:gV fPw ins=some (true,outs,rs):=d;unfold gV at d;split at d;case h_2=>cases d
 rename_i vs p;split at d;case h_2=>cases d
 rename_i c A h;simp only[aq,az]at d;obtain⟨rfl,_,rfl⟩:=d;obtain rfl:=sH p;clear p;unfold fPw at h;split at h;case h_2=>cases h
 rename_i a b n;simp only[aq,az]at h;obtain⟨_,rfl⟩:=h;obtain⟨vs,g,q,i⟩:=sp.RZ [.int .i64 a,.int .i64 b,.int .i64 n] _ rfl;have f:D9 X0 gR 94 [.int .i64 a,.int .i64 b,.int .i64 n] aH.empty vs g:=q
 match vs,i with
 |[v,w],i =>
  obtain⟨_,i⟩:=i;rcases i with⟨id,iL,ex,rfl,d,_,j⟩|⟨rfl,k,j⟩
  .obtain ⟨rfl,_,_⟩:=j;have r:qL g [.val .lG,.val .lG] [.own id (nW a b n).1.length,.int .i64 (nW a b n).2]=some ([.eC (.int .u8) (nW a b n).1,.int .i64 (nW a b n).2],g.put id (.list 5 (.int .u8) (nW a b n).1 iL ex true)):=by
    unfold qL;have e:kG g [.own id (nW a b n).1.length]=some ([.eC (.int .u8) (nW a b n).1],g.put id (.list 5 (.int .u8) (nW a b n).1 iL ex true)):=by
     unfold kG;have d:g.get id=some (.list 5 (.int .u8) (nW a b n).1 iL ex false):=d;rw[d];rfl
    simp only[e];rfl
   exact⟨_,_,f.Y4 r,rfl,rfl,rfl,rfl,trivial⟩
  obtain⟨rfl,_,_⟩:=j;refine⟨[.eC (.int .u8) (nW a b n).1,.int .i64 (nW a b n).2],g,λS E s t l o=>?_,rfl,rfl,rfl,rfl,trivial⟩;obtain⟨S',B,E',a1,⟨xs,rfl,a2⟩,u,y⟩:=f S E s t l o;obtain⟨x,m,rfl,z,k2⟩:=a2.cons_inv;have k:(nW a b n).1=[]:=k;rw[k];exact⟨S',_,E',a1,⟨_,rfl,LV.cons (Ll (some (.int .u8)) z) k2⟩,u,y⟩
def pDa:eJ:=[true,true,true,false,true,false]
def ae4:fe:=⟨iM [3,4,7,2,8,16,17,18] pDa,.none,[]⟩
def mDa (s:SS)(x:RS)(c:au):aH:=fT 2 [.cells 70 (rdX 1 5 6 s.aK.length s.ax.length s),.mp 68 s.aL,RX 0,Pe x,scR c,.list 59 je s.aK 0 false false,.list 52 sJ s.ax 0 false false]
def jDa (s:SS)(x:RS)(c:au)(ai:Int)(r m:Nat)(a len i:Int):OG:=jo X0 (cV S1 N2 G4 _) ae4 r 47 pDa iN m (lS 56 [(3,.ptr 2 0),(4,.ptr 3 0),(7,.ptr 4 0),(2,.int .i64 ai),(8,.int .i64 a),(16,.eC GG x.data),(17,.int .i64 len),(18,.int .i64 i)]) (mDa s x c)
def stepDa' (s:SS)(x:RS)(c:au)(ai a len i:Int)(J:Int->OG):OG :=
 ah (bN i len) (uF x.data i λy=>ah (bS (y.2.length:Int) 0) (ah (bS x.sz 0) none (J (IntKind.wrap .i64 (a+aaJ y.1.length x.sz))))
  (ah (Nat.ble c.length 2000000&&fq y.2) (ah (!(dL c y.2).2) (ke [] s 3) (J (IntKind.wrap .i64 (a+x.sz)))) none))
  (V3 s (Nat.ble c.length 2000000&&(DU x.sz&&(Mf x.data&&Nat.ble 1 x.data.length))) x.data.length x.data.length a ai (it3 s.av x c))
theorem aaZ (a0:Int)(d:au)(aC sz op aM:Int)(args:eO)(data:List Dt)(e f:bz)(e0 g:Int)(c:au)(gu:Int)(aK:List Sy)(ax:cK)(aL:List (au×Int))(lab:au)(opn:Bool)(bw:au)(aP:Int)(aV:Bool)(aD av:Int)(ai:Int)(r m:Nat)(a len i:Int) :
 jDa ⟨gu,aK,ax,aL,lab,opn,bw,aP,aV,aD,av⟩ ⟨a0,d,aC,sz,op,aM,args,data,e,f,e0,g⟩ c ai r (m+1) a len i =
 stepDa' ⟨gu,aK,ax,aL,lab,opn,bw,aP,aV,aD,av⟩ ⟨a0,d,aC,sz,op,aM,args,data,e,f,e0,g⟩ c ai a len i λb=>jDa ⟨gu,aK,ax,aL,lab,opn,bw,aP,aV,aD,av⟩ ⟨a0,d,aC,sz,op,aM,args,data,e,f,e0,g⟩ c ai r m b len (IntKind.wrap .i64 (i+1)):=by kernel_rfl
theorem ae5 (a0:Int)(a:au)(aC sz op aM:Int)(args:eO)(data:List Dt)(b d:bz)(e0 e:Int)(gu:Int)(aK:List Sy)(ax:cK)(aL:List (au×Int))(lab:au)(opn:Bool)(bw:au)(aP:Int)(aV:Bool)(aD av:Int)(ai:Int)(r:Nat) :
 aT X0 (cV S1 N2 G4 _) ae4 r 47 [.ptr 0 0,.agg (La ⟨a0,a,aC,sz,op,aM,args,data,b,d,e0,e⟩),.int .i64 ai] (fT 2 (wW ⟨gu,aK,ax,aL,lab,opn,bw,aP,aV,aD,av⟩ [])) iN =
 VJ ⟨gu,aK,ax,aL,lab,opn,bw,aP,aV,aD,av⟩ λc=>jDa ⟨gu,aK,ax,aL,lab,opn,bw,aP,aV,aD,av⟩ ⟨a0,a,aC,sz,op,aM,args,data,b,d,e0,e⟩ c ai r r 0 data.length 0:=by kernel_rfl
def N3:List rf:=(94,⟨none,[none,none,none],gV fPw⟩)::N2
theorem ag5:jc X0 gR N3:=.cons RY vU
def pDx:eJ:=[true,true,false,true,false]
def ae6:fe:=⟨iM [3,4,7,2,16,17,18] pDx,.none,[]⟩
def mDx (s:SS)(x:RS)(v0 v1 v2:Int):aH:=fT 2 [.cells 70 (rdX 1 5 6 s.aK.length s.ax.length s),.mp 68 s.aL,RX 0,Pe x,.cells 126 [.int .i64 v0,.int .i64 v1,.int .i64 v2],.list 59 je s.aK 0 false false,.list 52 sJ s.ax 0 false false]
def Ua (s:SS)(x:RS)(ai:Int)(r m:Nat)(v0 v1 v2 len i:Int):OG:=jo X0 (cV S1 N3 G4 _) ae6 r 55 pDx iN m (lS 56 [(3,.ptr 2 0),(4,.ptr 3 0),(7,.ptr 4 0),(2,.int .i64 ai),(16,.eC GG x.data),(17,.int .i64 len),(18,.int .i64 i)]) (mDx s x v0 v1 v2)
def Pj (s:SS)(ai:Int)(q:cZ×Int):OG:=ah (!bS q.2 0) (ke [] s q.2) (V3 s (Nat.ble q.1.length 2000000) 1 1 q.1.length ai (it6 s.av q.1))
def Pk (s:SS)(x:RS)(ai:Int)(v0 v1 v2 len i:Int)(J:Int->Int->Int->OG):OG :=
 ah (bN i len) (uF x.data i λy=>ah (lnB s.aK.length s.ax.length&&(A4 s&&fq y.2)) (ah (!bS (cR iz gG s y.2).2 0) (ke [] s (cR iz gG s y.2).2)
  (ah (bS i 0) (J (cR iz gG s y.2).1 v1 v2) (ah (bS i 1) (J v0 (cR iz gG s y.2).1 v2) (ah (bS i 2) (J v0 v1 (cR iz gG s y.2).1) none)))) none)
  (Pj s ai (nW v0 v1 v2))
theorem alc (a0:Int)(d:au)(aC sz op aM:Int)(args:eO)(data:List Dt)(e f:bz)(e0 g:Int)(gu:Int)(aK:List Sy)(ax:cK)(aL:List (au×Int))(lab:au)(opn:Bool)(bw:au)(aP:Int)(aV:Bool)(aD av:Int)(ai:Int)(r m:Nat)(v0 v1 v2 len i:Int) :
 Ua ⟨gu,aK,ax,aL,lab,opn,bw,aP,aV,aD,av⟩ ⟨a0,d,aC,sz,op,aM,args,data,e,f,e0,g⟩ ai r (m+1) v0 v1 v2 len i =
 Pk ⟨gu,aK,ax,aL,lab,opn,bw,aP,aV,aD,av⟩ ⟨a0,d,aC,sz,op,aM,args,data,e,f,e0,g⟩ ai v0 v1 v2 len i λa b c=>Ua ⟨gu,aK,ax,aL,lab,opn,bw,aP,aV,aD,av⟩ ⟨a0,d,aC,sz,op,aM,args,data,e,f,e0,g⟩ ai r m a b c len (IntKind.wrap .i64 (i+1)):=by kernel_rfl
theorem ae7 (a0:Int)(a:au)(aC sz op aM:Int)(args:eO)(data:List Dt)(b c:bz)(e0 d:Int)(gu:Int)(aK:List Sy)(ax:cK)(aL:List (au×Int))(lab:au)(opn:Bool)(bw:au)(aP:Int)(aV:Bool)(aD av:Int)(ai:Int)(r:Nat) :
 aT X0 (cV S1 N3 G4 _) ae6 r 55 [.ptr 0 0,.agg (La ⟨a0,a,aC,sz,op,aM,args,data,b,c,e0,d⟩),.int .i64 ai] (fT 2 (wW ⟨gu,aK,ax,aL,lab,opn,bw,aP,aV,aD,av⟩ [])) iN =
 Ua ⟨gu,aK,ax,aL,lab,opn,bw,aP,aV,aD,av⟩ ⟨a0,a,aC,sz,op,aM,args,data,b,c,e0,d⟩ ai r r 0 0 1 data.length 0:=by kernel_rfl
theorem AX {β:Type}(s:SS)(go:au->Option β):VJ s go=go (cy s):=by
 unfold VJ cy;cases s.opn<;>rfl
theorem L4 {s:SS}(h:knB s=true)(w:au){n:Int}{m:Nat}(c:s.aK.length<=m)(d:n.toNat<=m):((jv s.aL w n).all λq=>Nat.ble q.2.toNat m)=true:=by
 have:∀l:List (au×Int),(l.all λq=>Nat.ble q.2.toNat s.aK.length)=true->((jv l w n).all λq=>Nat.ble q.2.toNat m)=true:=by
  intro l;induction l with
  |nil=>intro _;show (Nat.ble n.toNat m&&true)=true;rw[eN d];rfl
  |cons q l e =>
   intro a;rw[ck,ak]at a;rw[jv,ay];have f:(l.all λq=>Nat.ble q.2.toNat m)=true:=aN.2 λg b=>eN (bA (aB (aN.1 a.2 g b)) c)
   split
   .rw[ck,f];show (Nat.ble n.toNat m&&true)=true;rw[eN d];rfl
   rw[ck,e a.2,eN (bA (aB a.1) c)];rfl
 exact this s.aL h
theorem aa0 {s:SS}(a:knB s=true)(b:s.lab.length<=1000000)(c:s.bw.length<=1000000)(d:s.aK.length<=1000000)(e:s.ax.length<=20000):A4 s=true:=by
 unfold A4 akG;rw[a,eN b,eN c,eN d,eN e];rfl
theorem Dp {s:SS}{a q b ai:Int}(c:A4 s=true)(d:okB s=true)(e:q=a)(f:0<=b)(g:b<=1000000000000)(h:0<=ai):JN s a q b ai=true:=by
 unfold JN;rw[c,d,e,gB (a:=b) (b:=0) (by omega),gB (a:=1000000000000) (by omega),gB (a:=ai) (b:=0) (by omega),fD];simp
theorem EL {s:SS}{g:Bool}(c:g=true){a q b ai:Int}(h:JN s a q b ai=true)(l:cK):V3 s g a q b ai l=fG [] (jW s q b ai l):=by
 unfold V3;rw[sK,c,h];rfl
theorem Pm {s:SS}{a q b ai:Int}(h:JN s a q b ai=true)(l:cK):Ph s a q b ai l=fG [] (jW s q b ai l):=by
 unfold Ph;rw[sK,h];rfl
theorem R2 (s:SS)(w:au){go:OG}{K:SR'}(h:go=fG [] K):frT s w go=fG [] (sQ s w K):=by
 unfold frT sQ;rw[ay,de,h];by_cases a:sN s.aL w=true
 .have e:yD s w=7:=by unfold yD;rw[ag a]
  rw[ag a,e,ag (by decide)];rfl
 by_cases b:60<w.length
 .have e:yD s w=3:=by unfold yD;rw[aa a,ag b]
  rw[aa a,ag (by omega),e,ag (by decide)];rfl
 have e:yD s w=0:=by unfold yD;rw[aa a,aa b]
 rw[aa a,aa (by omega),e,aa (by decide)]
theorem aa1 {s:SS}(h:s.aK.length<=1000000)(w:au)(n:Int):syT s w n=fG [] (Rz s w n,0):=uy h _
theorem Ub {s:SS}(b:A4 s=true){x:bz}(c:fq x=true){go:Int->OG}{K:Int->SR'}(h:∀n,go n=fG [] (K n)):kT s x go=fG [] (qu iz gG s x K):=by
 unfold kT qu;rw[sK,b,c];show ah _ _ _=_;rw[cF];by_cases a:(cR iz gG s x).2=0
 .rw[ag a,aa (by simp[a]),h];rfl
 rw[aa a,ag a];rfl
def okG (s:SS):Bool := !bN s.aP 0 && !bN 1000000000000000 s.aP
theorem Pn {s:SS}(h:okG s=true):0<=s.aP/\s.aP<=1000000000000000:=by
 unfold okG at h;rw[dc,dc]at h;simp at h;omega
theorem ald {c w:au}:(iE c w).length<=c.length+w.length:=by
 unfold iE;split
 .rw[aA];exact aG _
 omega
theorem ale {s:SS}(e:A4 s=true)(g:okB s=true){w:au}(h:w.length<=1000000):labT' s w=fG [] (B8 s w):=by
 have i:=tL e;obtain⟨j,⟨k2,k⟩,f,l⟩:=uv e;unfold labT' B8;rw[AX,LY (by omega)];refine R2 s _ ?_;rw[ay];by_cases c:s.opn=true
 .rw[ag c,ag c];exact aa1 f _ _
 rw[aa c,aa c];have key:∀L:au,L.length<=1000000->Ph { s with lab:=L,aL:=jv s.aL (iE (cy s) w) 0 } 1 1 0 1 (it1 s.av (iE (cy s) w))=fG [] (jW { s with lab:=L,aL:=jv s.aL (iE (cy s) w) 0 } 1 0 1 [itL s (iE (cy s) w)]):=λL m =>
  Pm (a:=1) (q:=1) (b:=0) (ai:=1) (Dp (aa0 (s:={ s with lab:=L,aL:=jv s.aL (iE (cy s) w) 0 }) (L4 j (iE (cy s) w) (n:=0) (aG _) (cJ _)) m k f l) g rfl (by decide) (by decide) (by decide)) _
 unfold lt.preB;by_cases d:w.take 1=[46]
 .rw[ag d,show (decide (w.take ([46]:au).length=[46]))=true from bg d];exact key _ k2
 rw[aa d,show (decide (w.take ([46]:au).length=[46]))=false from aY d];exact key _ h
theorem ae8 {s:SS}(a:A4 s=true)(b:okB s=true){x:RS}(c:pW x.args=true){ai:Int}(d:0<=ai):T6 s x.op x.aM x.args ai=fG [] (yF s x ai):=by
 have e:=tL a;unfold T6 yF;rw[AX,eN (by omega),c];show ah _ _ _=_;cases f:(GU (cy s) x.args).2 with
 |false=>rw[ag rfl];rfl
 |true =>
  rw[aa (by decide)];exact EL rfl (Dp a b rfl (by decide) (by decide) d) _
theorem alf {s:SS}(a:A4 s=true){x:RS}(e:x.lab.length<=1000000)(b:fq x.x=true):aeV s x=fG [] (ZZ iz gG s x):=by
 have c:=tL a;obtain⟨_,_,d,_⟩:=uv a;unfold aeV ZZ;rw[AX,LY (by omega)];exact R2 s _ (Ub a b λn=>aa1 d _ _)
theorem alg {s:SS}(a:A4 s=true):endT' s=fG [] (Z0 s):=by
 obtain⟨_,⟨_,c⟩,b,_⟩:=uv a;unfold endT' Z0;have e:s.bw.length+DP.length<=9223372036854775807:=by
  have:DP.length=5:=rfl;omega
 rw[eN e];exact R2 s _ (uy b _)
theorem alh {s:SS}(f:A4 s=true){x:RS}(g:fq x.x=true):aeW s x=fG [] (Z1 iz gG s x):=by
 unfold aeW Z1;refine Ub f g λn=>?_
 show ah s.aV _ (ah _ _ (ah _ _ (ah _ _ _)))=_;rw[ay,de,de,de];by_cases a:s.aV=true
 .rw[ag a,ag (.inl a)];rfl
 rw[aa a];by_cases b:(0:Int)<(s.ax.length:Int)
 .rw[ag b,ag (.inr λe=>by rw[e]at b;exact absurd b (by decide))];rfl
 have h:s.ax=[]:=aS.1 (by omega);have i:¬(s.aV=true\/s.ax≠[]):=λq=>q.elim a λq=>q h
 rw[aa b,aa i];by_cases c:n<0
 .rw[ag c,ag (.inl c)];rfl
 rw[aa c];by_cases d:140737488355328<n
 .have e2:n<0\/140737488355328<n:=.inr d;rw[ag d,ag e2];rfl
 have e2:¬(n<0\/140737488355328<n):=λq=>q.elim c d
 rw[aa d,aa e2];rfl
def aua:Bool:=(List.range 4096).all λk=>(bS (ak3 ((k+1:Nat):Int)) 0)==pow2 ((k+1:Nat):Int)
theorem V8:aua=true:=by kernel_rfl
theorem pow_eq {n:Int}(a:1<=n)(b:n<=4096):bS (ak3 n) 0=pow2 n:=by
 obtain⟨k,rfl⟩:∃k:Nat,n=((k+1:Nat):Int):=⟨n.toNat-1,by omega⟩;have:=aN.1 V8 k (by rw[List.mem_range];omega);exact eq_of_beq this
theorem ali {s:SS}(a:A4 s=true)(d:okB s=true){x:RS}(e:fq x.x=true):aeX s x=fG [] (GV iz gG s x):=by
 unfold aeX GV;refine Ub a e λn=>?_
 rw[de,de];by_cases b:n<1
 .rw[ag b,ag (by unfold pow2;exact aY (by omega))];rfl
 rw[aa b];by_cases c:4096<n
 .rw[ag c,ag (by unfold pow2;exact aY (by omega))];rfl
 rw[aa c,pow_eq (by omega) (by omega)];cases f:pow2 n with
 |false=>rw[ag rfl];rfl
 |true =>
  rw[aa (by decide)];exact Pm (Dp a d rfl (by decide) (by decide) (by decide)) _
theorem alj {s:SS}(h:A4 s=true)(i:okB s=true)(j:okG s=true){x:RS}(k:fq x.x=true)(d:DU x.sz=true){ai:Int}(l:0<=ai):aeY s x ai=fG [] (Z2 iz gG s x ai):=by
 have d:=uw d;obtain⟨g0,g1⟩:=Pn j;unfold aeY Z2;refine Ub h k λn=>?_
 rw[de];by_cases f:n<0
 .rw[ag f,ag f];rfl
 rw[aa f,aa f,y9 (by omega)];have o:Int.tdiv 1048576 x.sz=1048576\/Int.tdiv 1048576 x.sz=524288\/Int.tdiv 1048576 x.sz=262144\/Int.tdiv 1048576 x.sz=131072:=by
  rcases d with e|e|e|e<;>rw[e]<;>decide
 rw[i64_in (n:=Int.tdiv 1048576 x.sz) (by omega) (by omega)];show ah _ _ _=_;rw[de];by_cases c:Int.tdiv 1048576 x.sz<n
 .rw[ag c,ag c];rfl
 have m:0<=n*x.sz/\n*x.sz<=1048576:=by
  rcases d with e|e|e|e<;>rw[e]at c ⊢
  .have:Int.tdiv 1048576 1=1048576:=by decide
   omega
  .have:Int.tdiv 1048576 2=524288:=by decide
   omega
  .have:Int.tdiv 1048576 4=262144:=by decide
   omega
  have:Int.tdiv 1048576 8=131072:=by decide
  omega
 rw[aa c,aa c,i64_in (n:=n*x.sz) (by omega) (by omega),i64_in (n:=s.aP+n*x.sz) (by omega) (by omega),ay];by_cases g:s.opn=true
 .rw[ag g,ag g];rfl
 rw[aa g,aa g];refine(EL (by rw[gB (a:=n*x.sz) (b:=0) (by omega),gB (a:=2000000) (by omega)];rfl) (Dp h i rfl m.1 (by omega) l) _).trans ?_;unfold it5 itB;rw[aeO]
theorem aa2 {sz:Int}(a:sz=1\/sz=2\/sz=4\/sz=8){d:Dt}(b:d.1.length<=1000000):0<=LI sz d/\LI sz d<=1000007:=by
 unfold LI;split
 .have:=Cg (n:=d.1.length) a;omega
 omega
theorem alk {s:SS}(o:A4 s=true)(w:okB s=true){x:RS}(p:DU x.sz=true)(t:Mf x.data=true)(z:1<=x.data.length){ai:Int}(A:0<=ai)(r:Nat):∀(rest pre:List Dt) (m:Nat) (b:Int),x.data=pre++rest->rest.length<m->0<=b->b<=1000007*(pre.length:Int) ->
 jDa s x (cy s) ai r m b x.data.length pre.length=fG [] (if rest.all (λd=>decide (d.2=[])||(dL (cy s) d.2).2)=false then (s,3) else jW s x.data.length (rest.foldl (λn d=>n+LI x.sz d) b) ai (x.data.map (dtC s x.sz))):=by
 have B:=tL o;have c:=uw p;obtain⟨d1,d2⟩:=ux t;intro rest;induction rest with
 |nil =>
  intro pre m b a i f C;obtain⟨m,rfl⟩:∃j,m=j+1:=⟨m-1,by simp at i;omega⟩;have G:x.data.length=pre.length:=by rw[a];simp
  have e:jDa s x (cy s) ai r (m+1) b x.data.length pre.length=stepDa' s x (cy s) ai b x.data.length pre.length λb=>jDa s x (cy s) ai r m b x.data.length (IntKind.wrap .i64 ((pre.length:Int)+1)):=by
   cases s;cases x;exact aaZ ..
  rw[e];unfold stepDa';rw[gB (by omega),aa (by simp)];exact EL (by rw[eN (by omega),p,t,eN z];rfl) (Dp o w rfl f (by omega) A) _
 |cons y rest D =>
  intro pre m b a i f C;obtain⟨m,rfl⟩:∃j,m=j+1:=⟨m-1,by simp at i;omega⟩;have H:x.data.length=pre.length+(rest.length+1):=by rw[a];simp
  obtain⟨u,E⟩:=d2 y (by rw[a];simp);have I:=aa2 c u;have e:jDa s x (cy s) ai r (m+1) b x.data.length pre.length=stepDa' s x (cy s) ai b x.data.length pre.length λb=>jDa s x (cy s) ai r m b x.data.length (IntKind.wrap .i64 ((pre.length:Int)+1)):=by
   cases s;cases x;exact aaZ ..
  have go:((decide (y.2=[])||(dL (cy s) y.2).2)=true)->jDa s x (cy s) ai r m (IntKind.wrap .i64 (b+LI x.sz y)) x.data.length (IntKind.wrap .i64 ((pre.length:Int)+1))=fG [] (if (y::rest).all (λd=>decide (d.2=[])||(dL (cy s) d.2).2)=false then (s,3) else jW s x.data.length ((y::rest).foldl (λn d=>n+LI x.sz d) b) ai (x.data.map (dtC s x.sz))):=λhy=>by
   rw[i64_in (n:=(pre.length:Int)+1) (by omega) (by omega),i64_in (n:=b+LI x.sz y) (by omega) (by omega),ck,hy,eF,iF];have:=D (pre++[y]) m (b+LI x.sz y) (by rw[a];simp) (by simp at i;omega) (by omega) (by rw[aA];show _<=1000007*(((pre.length+1:Nat)):Int);omega);rw[aA]at this;exact this
  rw[e];unfold stepDa';rw[rC (by omega)];show uF _ _ _=_;rw[si a,cH];by_cases k:(y.2.length:Int)=0
  .have g:y.2=[]:=aS.1 (by omega);rw[ag k,y9 (by omega),T5 c u];have h:=go (by rw[bg g];rfl);have l:LI x.sz y=zD y.1.length x.sz:=by unfold LI;rw[ag g]
   rw[l]at h;exact h
  have g:y.2≠[]:=λq=>k (by rw[q];rfl)
  rw[aa k,eN (by omega),E];show ah _ _ _=_;have l:LI x.sz y=x.sz:=by unfold LI;rw[aa g]
  cases v:(dL (cy s) y.2).2 with
  |false =>
   have F:((y::rest).all λd=>decide (d.2=[])||(dL (cy s) d.2).2)=false:=by rw[ck,v,aY g];rfl
   rw[ag F];rfl
  |true =>
   have h:=go (by rw[v,Bool.or_true]);rw[l]at h;exact h
theorem zi {s:SS}(y:Dt)(l:List Dt):qN iz gG s (y::l)=if (cR iz gG s y.2).2≠0 then ([],(cR iz gG s y.2).2) else if (qN iz gG s l).2≠0 then ([],(qN iz gG s l).2) else ((cR iz gG s y.2).1::(qN iz gG s l).1,0):=rfl
theorem ae9 {s:SS}(b:A4 s=true)(c:okB s=true){ai:Int}(d:0<=ai)(q:cZ×Int)(e:q.1.length<=2000000):Pj s ai q=fG [] (powC s ai q):=by
 unfold Pj powC;rw[cF];by_cases a:q.2=0
 .rw[ag a,aa (by simp[a])];exact EL (eN e) (Dp b c rfl (by omega) (by omega) d) _
 rw[aa a,ag a];rfl
theorem aa3 (a b c:Int):(nW a b c).1.length<=2000:=by
 unfold nW sp.pwF;by_cases h:sp.L3 a b c=true
 .rw[ag h];simp
 rw[aa h,sp.T9];unfold sp.L3 at h;simp only[dA,aZ,mq]at h;omega
theorem vX {s:SS}(c:A4 s=true){x:RS}{ai v0 v1 v2:Int}{pre rest:List Dt}{y:Dt}(b:x.data=pre++y::rest)(hy:fq y.2=true)(J:Int->Int->Int->OG):Pk s x ai v0 v1 v2 x.data.length pre.length J =
 if (cR iz gG s y.2).2≠0 then fG [] (s,(cR iz gG s y.2).2) else ah (bS pre.length 0) (J (cR iz gG s y.2).1 v1 v2) (ah (bS pre.length 1) (J v0 (cR iz gG s y.2).1 v2) (ah (bS pre.length 2) (J v0 v1 (cR iz gG s y.2).1) none)):=by
 have d:x.data.length=pre.length+(rest.length+1):=by rw[b];simp
 unfold Pk;rw[rC (by omega)];show uF _ _ _=_;rw[si b,sK,c,hy];show ah _ _ _=_;rw[cF];by_cases a:(cR iz gG s y.2).2=0
 .rw[ag a,aa (by simp[a])];rfl
 rw[aa a,ag a];rfl
theorem uA (s:SS)(x:RS)(ai:Int)(r m:Nat)(v0 v1 v2 len i:Int):Ua s x ai r (m+1) v0 v1 v2 len i=Pk s x ai v0 v1 v2 len i λa b c=>Ua s x ai r m a b c len (IntKind.wrap .i64 (i+1)):=by
 cases s;cases x;exact alc ..
theorem EM (s:SS)(x:RS)(ai:Int)(r m:Nat)(v0 v1 v2:Int):Ua s x ai r (m+1) v0 v1 v2 x.data.length x.data.length=Pj s ai (nW v0 v1 v2):=by
 rw[uA];unfold Pk;rw[gB (by omega)]
theorem alm {s:SS}(h:A4 s=true)(r:okB s=true){x:RS}(t:Mf x.data=true)(o:x.data.length<=3){ai:Int}(u:0<=ai):Ua s x ai 5 5 0 0 1 x.data.length 0=fG [] (GW iz gG nW s x ai):=by
 obtain⟨_,d2⟩:=ux t;have fin:∀a b c,Pj s ai (nW a b c)=fG [] (powC s ai (nW a b c)):=λa b c=>ae9 h r u _ (by have:=aa3 a b c;omega)
 have w0:IntKind.wrap .i64 (((([]:List Dt).length:Nat):Int)+1)=1:=by decide
 unfold GW
 match d:x.data,o with
 |[],_ =>
  have:=EM s x ai 5 4 0 0 1;rw[d]at this;refine this.trans ((fin 0 0 1).trans ?_);rfl
 |[a],_ =>
  have k:=(d2 a (by rw[d];simp)).2;rw[<-d];have l:=uA s x ai 5 4 0 0 1 x.data.length 0;have e2:=vX (ai:=ai) (v0:=0) (v1:=0) (v2:=1) h (pre:=[]) (rest:=[]) d k λa b c=>Ua s x ai 5 4 a b c x.data.length (IntKind.wrap .i64 (0+1))
  refine(l.trans e2).trans ?_;rw[d,zi];by_cases e:(cR iz gG s a.2).2≠0
  .rw[ag e,ag e,ag e]
  rw[aa e,aa e];have g:=EM s x ai 5 3 (cR iz gG s a.2).1 0 1;rw[d]at g;exact g.trans (fin _ 0 1)
 |[a,b],_ =>
  have k:=(d2 a (by rw[d];simp)).2;have i:=(d2 b (by rw[d];simp)).2;rw[<-d];have l:=uA s x ai 5 4 0 0 1 x.data.length 0;have e2:=vX (ai:=ai) (v0:=0) (v1:=0) (v2:=1) h (pre:=[]) (rest:=[b]) d k λa b c=>Ua s x ai 5 4 a b c x.data.length (IntKind.wrap .i64 (0+1))
  refine(l.trans e2).trans ?_;rw[d,zi,zi];by_cases e:(cR iz gG s a.2).2≠0
  .rw[ag e,ag e,ag e]
  rw[aa e,aa e];have g:=uA s x ai 5 3 (cR iz gG s a.2).1 0 1 x.data.length 1;have m:=vX (ai:=ai) (v0:=(cR iz gG s a.2).1) (v1:=0) (v2:=1) h (pre:=[a]) (rest:=[]) d i λa b c=>Ua s x ai 5 3 a b c x.data.length (IntKind.wrap .i64 (1+1))
  rw[d]at g m;refine(g.trans m).trans ?_;by_cases f:(cR iz gG s b.2).2≠0
  .rw[ag f,ag f,ag f,ag f]
  rw[aa f,aa f];have n:=EM s x ai 5 2 (cR iz gG s a.2).1 (cR iz gG s b.2).1 1;rw[d]at n;exact n.trans (fin _ _ 1)
 |[a,b,c],_ =>
  have k:=(d2 a (by rw[d];simp)).2;have i:=(d2 b (by rw[d];simp)).2;have v:=(d2 c (by rw[d];simp)).2;rw[<-d];have l:=uA s x ai 5 4 0 0 1 x.data.length 0;have e2:=vX (ai:=ai) (v0:=0) (v1:=0) (v2:=1) h (pre:=[]) (rest:=[b,c]) d k λa b c=>Ua s x ai 5 4 a b c x.data.length (IntKind.wrap .i64 (0+1))
  refine(l.trans e2).trans ?_;rw[d,zi,zi,zi];by_cases e:(cR iz gG s a.2).2≠0
  .rw[ag e,ag e,ag e]
  rw[aa e,aa e];have g:=uA s x ai 5 3 (cR iz gG s a.2).1 0 1 x.data.length 1;have m:=vX (ai:=ai) (v0:=(cR iz gG s a.2).1) (v1:=0) (v2:=1) h (pre:=[a]) (rest:=[c]) d i λa b c=>Ua s x ai 5 3 a b c x.data.length (IntKind.wrap .i64 (1+1))
  rw[d]at g m;refine(g.trans m).trans ?_;by_cases f:(cR iz gG s b.2).2≠0
  .rw[ag f,ag f,ag f,ag f]
  rw[aa f,aa f];have n:=uA s x ai 5 2 (cR iz gG s a.2).1 (cR iz gG s b.2).1 1 x.data.length 2;have p:=vX (ai:=ai) (v0:=(cR iz gG s a.2).1) (v1:=(cR iz gG s b.2).1) (v2:=1) h (pre:=[a,b]) (rest:=[]) d v λa b c=>Ua s x ai 5 2 a b c x.data.length (IntKind.wrap .i64 (2+1))
  rw[d]at n p;refine(n.trans p).trans ?_;by_cases j:(cR iz gG s c.2).2≠0
  .rw[ag j,ag j,ag j,ag j,ag j]
  rw[aa j,aa j];have q:=EM s x ai 5 1 (cR iz gG s a.2).1 (cR iz gG s b.2).1 (cR iz gG s c.2).1;rw[d]at q;exact q.trans (fin _ _ _)
 |_::_::_::_::_,o=>simp at o
def Hu (s:SS):Bool:=A4 s&&(okB s&&okG s)
theorem nT {s:SS}(h:Hu s=true):A4 s=true/\okB s=true/\okG s=true:=by
 unfold Hu at h;simp only[ak]at h;exact⟨h.1,h.2.1,h.2.2⟩
theorem afa {s:SS}(b:A4 s=true)(d:okB s=true){x:RS}(e:DU x.sz=true)(a:Mf x.data=true)(f:1<=x.data.length){ai:Int}(g:0<=ai):VJ s (λc=>jDa s x c ai 100001 100001 0 x.data.length 0)=fG [] (zW s x ai):=by
 rw[AX];have:=(ux a).1;exact alk b d e a f g 100001 x.data [] 100001 0 rfl (by omega) (by decide) (by simp)
def aln (args:aI)(rows:cQ):OP :=
 match args,rows with
 |[.ptr 0 0,.str w],c::l=>match vV 0 c l with
  |some (b,s)=>some (b&&(Hu s&&(Nat.ble w.length 1000000)),qd [] (B8 s w))
  |_=>none
 |_,_=>none
theorem afb:lK X0 gR 43 aln :=
 o8 (λargs=>lt.cn rfl args) (rF oT vU zX) λargs rows v outs a=>by
  unfold aln at a;split at a;case h_2=>cases a
  rename_i w c l;split at a;case h_2=>cases a
  rename_i b s d;simp only[qd,aq,az,ak]at a;obtain⟨⟨rfl,f,g⟩,rfl,rfl⟩:=a;obtain⟨h,i,j⟩:=nT f;obtain⟨rfl,rfl⟩:=ig d;refine⟨gC,5,?_⟩;have e:aT X0 (cV S1 N2 G4 _) gC 5 43 [.ptr 0 0,.str w] (fT 2 (wW s [])) iN=labT' s w:=by
   cases s;exact aaQ ..
  exact e.trans (ale h i (aB g))
def alo (args:aI)(rows:cQ):OP :=
 match args,rows with
 |[.ptr 0 0],c::l=>match vV 0 c l with
  |some (b,s)=>some (b&&(Hu s&&(true)),qd [] (Z0 s))
  |_=>none
 |_,_=>none
theorem afc:lK X0 gR 53 alo :=
 o8 (λargs=>lt.cn rfl args) (rF oT vU zX) λargs rows v outs a=>by
  unfold alo at a;split at a;case h_2=>cases a
  rename_i c l;split at a;case h_2=>cases a
  rename_i b s d;simp only[qd,aq,az,ak]at a;obtain⟨⟨rfl,f,h⟩,rfl,rfl⟩:=a;obtain⟨g,i,j⟩:=nT f;obtain⟨rfl,rfl⟩:=ig d;refine⟨gC,5,?_⟩;have e:aT X0 (cV S1 N2 G4 _) gC 5 53 [.ptr 0 0] (fT 2 (wW s [])) iN=endT' s:=by
   cases s;exact aaS ..
  exact e.trans (alg g)
def aa4 (args:aI)(rows:cQ):OP :=
 match args,rows with
 |[.ptr 0 0,.agg [.int .i64 op,.int .i64 aM,.eC e x],.int .i64 ai],c::l=>match jl e lD x,vV 0 c l with
  |some x,some (b,s)=>some (b&&(Hu s&&(pW x && !bN ai 0)),qd [] (yF s ⟨0,[],0,0,op,aM,x,[],[],[],0,0⟩ ai))
  |_,_=>none
 |_,_=>none
theorem aa5:lK X0 gR 46 aa4 :=
 o8 (λargs=>lt.cn rfl args) (rF oT vU zX) λargs rows v outs a=>by
  unfold aa4 at a;split at a;case h_2=>cases a
  rename_i op aM e x ai c l;split at a;case h_2=>cases a
  rename_i g b s d h;simp only[qd,aq,az,ak]at a;obtain⟨⟨rfl,i,f⟩,rfl,rfl⟩:=a;obtain⟨j,k,m⟩:=nT i;obtain⟨rfl,d⟩:=cr d;have d:x=g:=d;subst d;obtain⟨rfl,rfl⟩:=ig h;refine⟨gC,5,?_⟩;have e:aT X0 (cV S1 N2 G4 _) gC 5 46 [.ptr 0 0,.agg [.int .i64 op,.int .i64 aM,.eC lD x],.int .i64 ai] (fT 2 (wW s [])) iN=T6 s op aM x ai:=by
   cases s;exact V4 ..
  exact e.trans (ae8 (x:=⟨0,[],0,0,op,aM,x,[],[],[],0,0⟩) j k f.1 (by have:=f.2;rw[dc]at this;simpa using this))
def alp (args:aI)(rows:cQ):OP :=
 match args,rows with
 |[.ptr 0 0,.agg cs],c::l=>match Ht (.cells 40 cs),vV 0 c l with
  |some (b0,x),some (b,s)=>some (b&&(Hu s&&(b0&&(Nat.ble x.lab.length 1000000&&fq x.x))),qd [] (ZZ iz gG s x))
  |_,_=>none
 |_,_=>none
theorem afd:lK X0 gR 48 alp :=
 o8 (λargs=>lt.cn rfl args) (rF oT vU zX) λargs rows v outs a=>by
  unfold alp at a;split at a;case h_2=>cases a
  rename_i cs c l;split at a;case h_2=>cases a
  rename_i b0 x b s d h;simp only[qd,aq,az,ak]at a;obtain⟨⟨rfl,i,f⟩,rfl,rfl⟩:=a;obtain⟨j,k,m⟩:=nT i;obtain⟨g,f⟩:=f;subst g;have d:=o9 d;simp only[Pe,Row.cells.injEq,kO]at d;subst d;obtain⟨rfl,rfl⟩:=ig h;refine⟨gC,5,?_⟩;have e:aT X0 (cV S1 N2 G4 _) gC 5 48 [.ptr 0 0,.agg (La x)] (fT 2 (wW s [])) iN=aeV s x:=by
   cases s;cases x;exact aaR ..
  exact e.trans (alf j (aB f.1) f.2)
def alq (args:aI)(rows:cQ):OP :=
 match args,rows with
 |[.ptr 0 0,.agg cs],c::l=>match Ht (.cells 40 cs),vV 0 c l with
  |some (b0,x),some (b,s)=>some (b&&(Hu s&&(b0&&(fq x.x))),qd [] (GV iz gG s x))
  |_,_=>none
 |_,_=>none
theorem afe:lK X0 gR 49 alq :=
 o8 (λargs=>lt.cn rfl args) (rF oT vU zX) λargs rows v outs a=>by
  unfold alq at a;split at a;case h_2=>cases a
  rename_i cs c l;split at a;case h_2=>cases a
  rename_i b0 x b s d h;simp only[qd,aq,az,ak]at a;obtain⟨⟨rfl,i,f⟩,rfl,rfl⟩:=a;obtain⟨j,k,m⟩:=nT i;obtain⟨g,f⟩:=f;subst g;have d:=o9 d;simp only[Pe,Row.cells.injEq,kO]at d;subst d;obtain⟨rfl,rfl⟩:=ig h;refine⟨gC,5,?_⟩;have e:aT X0 (cV S1 N2 G4 _) gC 5 49 [.ptr 0 0,.agg (La x)] (fT 2 (wW s [])) iN=aeX s x:=by
   cases s;cases x;exact aaU ..
  exact e.trans (ali j k f)
def alr (args:aI)(rows:cQ):OP :=
 match args,rows with
 |[.ptr 0 0,.agg cs],c::l=>match Ht (.cells 40 cs),vV 0 c l with
  |some (b0,x),some (b,s)=>some (b&&(Hu s&&(b0&&(fq x.x))),qd [] (Z1 iz gG s x))
  |_,_=>none
 |_,_=>none
theorem aff:lK X0 gR 50 alr :=
 o8 (λargs=>lt.cn rfl args) (rF oT vU zX) λargs rows v outs a=>by
  unfold alr at a;split at a;case h_2=>cases a
  rename_i cs c l;split at a;case h_2=>cases a
  rename_i b0 x b s d h;simp only[qd,aq,az,ak]at a;obtain⟨⟨rfl,i,f⟩,rfl,rfl⟩:=a;obtain⟨j,k,m⟩:=nT i;obtain⟨g,f⟩:=f;subst g;have d:=o9 d;simp only[Pe,Row.cells.injEq,kO]at d;subst d;obtain⟨rfl,rfl⟩:=ig h;refine⟨gC,5,?_⟩;have e:aT X0 (cV S1 N2 G4 _) gC 5 50 [.ptr 0 0,.agg (La x)] (fT 2 (wW s [])) iN=aeW s x:=by
   cases s;cases x;exact aaT ..
  exact e.trans (alh j f)
def Q3 (args:aI)(rows:cQ):OP :=
 match args,rows with
 |[.ptr 0 0,.agg cs,.int .i64 ai],c::l=>match Ht (.cells 40 cs),vV 0 c l with
  |some (b0,x),some (b,s)=>some (b&&(Hu s&&(b0&&((fq x.x&&DU x.sz) && !bN ai 0))),qd [] (Z2 iz gG s x ai))
  |_,_=>none
 |_,_=>none
theorem afg:lK X0 gR 54 Q3 :=
 o8 (λargs=>lt.cn rfl args) (rF oT vU zX) λargs rows v outs a=>by
  unfold Q3 at a;split at a;case h_2=>cases a
  rename_i cs ai c l;split at a;case h_2=>cases a
  rename_i b0 x b s f h;simp only[qd,aq,az,ak]at a;obtain⟨⟨rfl,i,d⟩,rfl,rfl⟩:=a;obtain⟨j,k,m⟩:=nT i;obtain⟨g,d⟩:=d;subst g;have f:=o9 f;simp only[Pe,Row.cells.injEq,kO]at f;subst f;obtain⟨rfl,rfl⟩:=ig h;refine⟨gC,5,?_⟩;have e:aT X0 (cV S1 N2 G4 _) gC 5 54 [.ptr 0 0,.agg (La x),.int .i64 ai] (fT 2 (wW s [])) iN=aeY s x ai:=by
   cases s;cases x;exact aaV ..
  exact e.trans (alj j k m d.1.1 d.1.2 (by have:=d.2;rw[dc]at this;simpa using this))
def aa6 (args:aI)(rows:cQ):OP :=
 match args,rows with
 |[.ptr 0 0,.agg cs,.int .i64 ai],c::l=>match Ht (.cells 40 cs),vV 0 c l with
  |some (b0,x),some (b,s)=>some (b&&(Hu s&&(b0&&((DU x.sz&&(Mf x.data&&Nat.ble 1 x.data.length)) && !bN ai 0))),qd [] (zW s x ai))
  |_,_=>none
 |_,_=>none
theorem aa7:lK X0 gR 47 aa6 :=
 o8 (λargs=>lt.cn rfl args) (rF oT vU zX) λargs rows v outs a=>by
  unfold aa6 at a;split at a;case h_2=>cases a
  rename_i cs ai c l;split at a;case h_2=>cases a
  rename_i b0 x b s f h;simp only[qd,aq,az,ak]at a;obtain⟨⟨rfl,i,d⟩,rfl,rfl⟩:=a;obtain⟨j,k,m⟩:=nT i;obtain⟨g,d⟩:=d;subst g;have f:=o9 f;simp only[Pe,Row.cells.injEq,kO]at f;subst f;obtain⟨rfl,rfl⟩:=ig h;refine⟨ae4,100001,?_⟩;have e:aT X0 (cV S1 N2 G4 _) ae4 100001 47 [.ptr 0 0,.agg (La x),.int .i64 ai] (fT 2 (wW s [])) iN=VJ s (λc=>jDa s x c ai 100001 100001 0 x.data.length 0):=by
   cases s;cases x;exact ae5 ..
  exact e.trans (afa j k d.1.1 d.1.2.1 (aB d.1.2.2) (by have:=d.2;rw[dc]at this;simpa using this))
def als (args:aI)(rows:cQ):OP :=
 match args,rows with
 |[.ptr 0 0,.agg cs,.int .i64 ai],c::l=>match Ht (.cells 40 cs),vV 0 c l with
  |some (b0,x),some (b,s)=>some (b&&(Hu s&&(b0&&((Mf x.data&&Nat.ble x.data.length 3) && !bN ai 0))),qd [] (GW iz gG nW s x ai))
  |_,_=>none
 |_,_=>none
theorem afh:lK X0 gR 55 als :=
 o8 (λargs=>lt.cn rfl args) (rF oT ag5 zX) λargs rows v outs a=>by
  unfold als at a;split at a;case h_2=>cases a
  rename_i cs ai c l;split at a;case h_2=>cases a
  rename_i b0 x b s f h;simp only[qd,aq,az,ak]at a;obtain⟨⟨rfl,i,d⟩,rfl,rfl⟩:=a;obtain⟨j,k,m⟩:=nT i;obtain⟨g,d⟩:=d;subst g;have f:=o9 f;simp only[Pe,Row.cells.injEq,kO]at f;subst f;obtain⟨rfl,rfl⟩:=ig h;refine⟨ae6,5,?_⟩;have e:aT X0 (cV S1 N3 G4 _) ae6 5 55 [.ptr 0 0,.agg (La x),.int .i64 ai] (fT 2 (wW s [])) iN=Ua s x ai 5 5 0 0 1 x.data.length 0:=by
   cases s;cases x;exact ae7 ..
  exact e.trans (alm j k d.1.1 (aB d.1.2) (by have:=d.2;rw[dc]at this;simpa using this))
def G5:List Cf:=(43,⟨70,xA,aln⟩)::(46,⟨70,xA,aa4⟩)::(47,⟨70,xA,aa6⟩)::(48,⟨70,xA,alp⟩)::(49,⟨70,xA,alq⟩)::(50,⟨70,xA,alr⟩)::(53,⟨70,xA,alo⟩)::(54,⟨70,xA,Q3⟩)::(55,⟨70,xA,als⟩)::G4
theorem ag7:rB X0 gR G5:=.cons afb (.cons aa5 (.cons aa7 (.cons afd (.cons afe (.cons aff (.cons afc (.cons afg (.cons afh (zX)))))))))
def q1:eJ:=[true,true]
def q2:eJ:=[true,true,true,true]
def q3:eJ:=[true,true,true,true,true]
def Wy:fe:=⟨tg (iM [0,3] q1) (tg (iM [0,3,6] q2) (iM [0,3,6] q3)),.none,[]⟩
abbrev c5:dz (AV×cQ):=cV S1 N2 G5 _
def fr1:gJ:=lS 116 [(0,.ptr 0 0),(3,.ptr 2 0)]
def fr2 (n:Int):gJ:=lS 116 [(0,.ptr 0 0),(3,.ptr 2 0),(6,.int .i64 n)]
def mR (s:SS)(x:RS):aH:=fT 2 [.cells 70 (rdX 1 3 4 s.aK.length s.ax.length s),.mp 68 s.aL,Pe x,.list 59 je s.aK 0 false false,.list 52 sJ s.ax 0 false false]
def coT (s:SS)(g:Bool)(r:SR')(k:SS->Int->OG):OG:=ah (lnB s.aK.length s.ax.length&&(Hu s&&g)) (k r.1 r.2) none
def vY (s:SS)(e:Int):OG:=ke [] s e
def alv (s:SS)(x:RS)(k:SS->OG):OG :=
 ah (!decide (x.lab=[])) (ah (!bS x.aC 3) (ah (!bS x.aC 6) (coT s (Nat.ble x.lab.length 1000000) (B8 s x.lab) λa e=>ah (!bS e 0) (vY a e) (k a)) (k s)) (k s)) (k s)
def cnT (s:SS)(x:bz)(k:Int->Int->OG):OG:=ah (lnB s.aK.length s.ax.length&&(A4 s&&fq x)) (k (cR iz gG s x).1 (cR iz gG s x).2) none
def Po (s:SS)(x:RS)(k:Int->OG):OG :=
 ah (bN 0 (x.ai.length:Int)) (cnT s x.ai λn e=>ah (bS e 0) (ah (bN n 0) (vY s 5) (ah (!bS e 0) (vY s e) (k n))) (ah (!bS e 0) (vY s e) (k n))) (k 1)
def alx (s:SS)(x:RS)(k:OG):OG:=ah (!bS (x.ai.length:Int) 0) (vY s 8) k
def R3 (s:SS)(x:RS)(q:Int)(k next:OG):OG:=ah (bS x.aC q) (ah (bS x.aC q) (vY s 8) (alx s x k)) next
def yK (s:SS)(x:RS)(k:OG):OG :=
 ah (!s.opn) (ah (!(!bS x.aC 7)) (vY s 8) k) (R3 s x 1 k (R3 s x 2 k (R3 s x 4 k (R3 s x 5 k (R3 s x 9 k (ah (bS x.aC 6) (vY s 8) (alx s x k)))))))
def Eh (s:SS)(x:RS)(n:Int):OG :=
 ah (bS x.aC 1) (coT s (pW x.args && !bN n 0) (yF s ⟨0,[],0,0,x.op,x.aM,x.args,[],[],[],0,0⟩ n) vY)
 (ah (bS x.aC 2) (coT s ((DU x.sz&&(Mf x.data&&Nat.ble 1 x.data.length)) && !bN n 0) (zW s ⟨0,x.lab,x.aC,x.sz,x.op,x.aM,x.args,x.data,x.x,x.ai,0,0⟩ n) vY)
 (ah (bS x.aC 3) (coT s (Nat.ble x.lab.length 1000000&&fq x.x) (ZZ iz gG s ⟨0,x.lab,x.aC,x.sz,x.op,x.aM,x.args,x.data,x.x,x.ai,0,0⟩) vY)
 (ah (bS x.aC 4) (coT s (fq x.x) (GV iz gG s ⟨0,x.lab,x.aC,x.sz,x.op,x.aM,x.args,x.data,x.x,x.ai,0,0⟩) vY)
 (ah (bS x.aC 5) (coT s (fq x.x) (Z1 iz gG s ⟨0,x.lab,x.aC,x.sz,x.op,x.aM,x.args,x.data,x.x,x.ai,0,0⟩) vY)
 (ah (bS x.aC 6) (VJ s λc=>nmT c x.lab λw=>vY { s with bw:=w,aP:=0,opn:=true } 0)
 (ah (bS x.aC 7) (coT s true (Z0 s) vY)
 (ah (bS x.aC 8) (coT s ((fq x.x&&DU x.sz) && !bN n 0) (Z2 iz gG s ⟨0,x.lab,x.aC,x.sz,x.op,x.aM,x.args,x.data,x.x,x.ai,0,0⟩ n) vY)
 (ah (bS x.aC 9) (coT s ((Mf x.data&&Nat.ble x.data.length 3) && !bN n 0) (GW iz gG nW s ⟨0,x.lab,x.aC,x.sz,x.op,x.aM,x.args,x.data,x.x,x.ai,0,0⟩ n) vY) (vY s 0)))))))))
theorem apZ (gu:Int)(aK:List Sy)(ax:cK)(aL:List (au×Int))(lab:au)(opn:Bool)(bw:au)(aP:Int)(aV:Bool)(aD av:Int)(a0:Int)(a:au)(aC sz op aM:Int)(args:eO)(data:List Dt)(b c:bz)(e0 d:Int)(r:Nat)(K:gJ->aH->OG):adm X0 c5 Wy r 21 q1 [.ptr 0 0,.agg (La ⟨a0,a,aC,sz,op,aM,args,data,b,c,e0,d⟩)] (fT 2 (wW ⟨gu,aK,ax,aL,lab,opn,bw,aP,aV,aD,av⟩ [])) iN K=alv ⟨gu,aK,ax,aL,lab,opn,bw,aP,aV,aD,av⟩ ⟨a0,a,aC,sz,op,aM,args,data,b,c,e0,d⟩ λe=>K fr1 (mR e ⟨a0,a,aC,sz,op,aM,args,data,b,c,e0,d⟩):=by kernel_rfl
theorem ap0 (gu:Int)(aK:List Sy)(ax:cK)(aL:List (au×Int))(lab:au)(opn:Bool)(bw:au)(aP:Int)(aV:Bool)(aD av:Int)(a0:Int)(a:au)(aC sz op aM:Int)(args:eO)(data:List Dt)(b c:bz)(e0 d:Int)(r:Nat)(K:gJ->aH->OG):Rx X0 c5 Wy r 21 q1 [true,true] iN K fr1 (mR ⟨gu,aK,ax,aL,lab,opn,bw,aP,aV,aD,av⟩ ⟨a0,a,aC,sz,op,aM,args,data,b,c,e0,d⟩)=Po ⟨gu,aK,ax,aL,lab,opn,bw,aP,aV,aD,av⟩ ⟨a0,a,aC,sz,op,aM,args,data,b,c,e0,d⟩ λn=>K (fr2 n) (mR ⟨gu,aK,ax,aL,lab,opn,bw,aP,aV,aD,av⟩ ⟨a0,a,aC,sz,op,aM,args,data,b,c,e0,d⟩):=by kernel_rfl
theorem ap1 (gu:Int)(aK:List Sy)(ax:cK)(aL:List (au×Int))(lab:au)(opn:Bool)(bw:au)(aP:Int)(aV:Bool)(aD av:Int)(a0:Int)(a:au)(aC sz op aM:Int)(args:eO)(data:List Dt)(b c:bz)(e0 d:Int)(n:Int)(r:Nat)(K:gJ->aH->OG):Rx X0 c5 Wy r 21 q2 [true] iN K (fr2 n) (mR ⟨gu,aK,ax,aL,lab,opn,bw,aP,aV,aD,av⟩ ⟨a0,a,aC,sz,op,aM,args,data,b,c,e0,d⟩)=yK ⟨gu,aK,ax,aL,lab,opn,bw,aP,aV,aD,av⟩ ⟨a0,a,aC,sz,op,aM,args,data,b,c,e0,d⟩ (K (fr2 n) (mR ⟨gu,aK,ax,aL,lab,opn,bw,aP,aV,aD,av⟩ ⟨a0,a,aC,sz,op,aM,args,data,b,c,e0,d⟩)):=by kernel_rfl
theorem F8 (gu:Int)(aK:List Sy)(ax:cK)(aL:List (au×Int))(lab:au)(opn:Bool)(bw:au)(aP:Int)(aV:Bool)(aD av:Int)(a0:Int)(a:au)(aC sz op aM:Int)(args:eO)(data:List Dt)(b c:bz)(e0 d:Int)(n:Int)(r:Nat):codeFrom X0 c5 Wy r 21 q3 iN (fr2 n) (mR ⟨gu,aK,ax,aL,lab,opn,bw,aP,aV,aD,av⟩ ⟨a0,a,aC,sz,op,aM,args,data,b,c,e0,d⟩)=Eh ⟨gu,aK,ax,aL,lab,opn,bw,aP,aV,aD,av⟩ ⟨a0,a,aC,sz,op,aM,args,data,b,c,e0,d⟩ n:=by kernel_rfl
def okX (x:RS):Bool:=Nat.ble x.lab.length 1000000&&(fq x.x&&(fq x.ai&&(pW x.args&&(Mf x.data&&((!bS x.aC 2||(DU x.sz&&Nat.ble 1 x.data.length))&&((!bS x.aC 8||DU x.sz)&&(!bS x.aC 9||Nat.ble x.data.length 3)))))))
structure Pq (x:RS):Prop where
 lab:x.lab.length<=1000000
 ex:fq x.x=true
 ai:fq x.ai=true
 args:pW x.args=true
 data:Mf x.data=true
 k2:x.aC=2->DU x.sz=true/\1<=x.data.length
 k8:x.aC=8->DU x.sz=true
 k9:x.aC=9->x.data.length<=3
theorem aa9 {x:RS}(h:okX x=true):Pq x:=by
 unfold okX at h;simp only[ak,dA,aU]at h;obtain⟨e,f,g,i,j,a,c,d⟩:=h;have ne:∀k:Int,x.aC=k->bS x.aC k=true:=λk b=>by rw[fD];simp[b]
 refine⟨aB e,f,g,i,j,λb=>?_,λb=>?_,λb=>?_⟩
 .rcases a with a|a
  .rw[ne 2 b]at a;cases a
  exact⟨a.1,aB a.2⟩
 .rcases c with c|c
  .rw[ne 8 b]at c;cases c
  exact c
 rcases d with d|d
 .rw[ne 9 b]at d;cases d
 exact aB d
theorem Pq.b {x:RS}(h:Pq x):okX x=true:=by
 unfold okX;rw[eN h.lab,h.ex,h.ai,h.args,h.data];have e2:(!bS x.aC 2||(DU x.sz&&Nat.ble 1 x.data.length))=true:=by
  by_cases c:x.aC=2
  .obtain ⟨a,b⟩:=h.k2 c;rw[a,eN b];simp
  rw[y9 c];rfl
 have d:(!bS x.aC 8||DU x.sz)=true:=by
  by_cases c:x.aC=8
  .rw[h.k8 c];simp
  rw[y9 c];rfl
 have e:(!bS x.aC 9||Nat.ble x.data.length 3)=true:=by
  by_cases c:x.aC=9
  .rw[eN (h.k9 c)];simp
  rw[y9 c];rfl
 rw[e2,d,e];rfl
theorem wX {s:SS}(h:Hu s=true){g:Bool}(a:g=true)(r:SR')(k:SS->Int->OG):coT s g r k=k r.1 r.2:=by
 unfold coT;rw[sK,h,a];rfl
theorem ge0 {n:Int}(h:0<=n):(!bN n 0)=true:=by rw[gB (by omega)];rfl
theorem aly {s:SS}(d:Hu s=true){x:RS}(c:Pq x){n:Int}(h:0<=n):Eh s x n=fG [] (nS iz gG nW s x n):=by
 have p:=tL (nT d).1;have q:=c.lab;unfold Eh nS;simp only[cH];by_cases i:x.aC=1
 .rw[ag i,ag i,wX d (by rw[c.args,ge0 h];rfl)];rfl
 rw[aa i,aa i];by_cases e:x.aC=2
 .obtain ⟨a,b⟩:=c.k2 e;rw[ag e,ag e,wX d (by rw[a,c.data,eN b,ge0 h];rfl)];rfl
 rw[aa e,aa e];by_cases j:x.aC=3
 .rw[ag j,ag j,wX d (by rw[eN c.lab,c.ex];rfl)];rfl
 rw[aa j,aa j];by_cases k:x.aC=4
 .rw[ag k,ag k,wX d c.ex];rfl
 rw[aa k,aa k];by_cases l:x.aC=5
 .rw[ag l,ag l,wX d c.ex];rfl
 rw[aa l,aa l];by_cases m:x.aC=6
 .rw[ag m,ag m,AX,LY (by omega)];rfl
 rw[aa m,aa m];by_cases o:x.aC=7
 .rw[ag o,ag o,wX d rfl];rfl
 rw[aa o,aa o];by_cases f:x.aC=8
 .rw[ag f,ag f,wX d (by rw[c.ex,c.k8 f,ge0 h];rfl)];rfl
 rw[aa f,aa f];by_cases g:x.aC=9
 .rw[ag g,ag g,wX d (by rw[c.data,eN (c.k9 g),ge0 h];rfl)];rfl
 rw[aa g,aa g];rfl
theorem afi {s:SS}{x:RS}{q:Int}{k next:OG}:R3 s x q k next=if x.aC=q then vY s 8 else next:=by
 unfold R3;rw[cH,cH];split<;>rfl
theorem alz {s:SS}{x:RS}{k:OG}:yK s x k=if OM s x=false then vY s 8 else k:=by
 unfold yK OM alx;rw[ay];simp only[afi,cH,cF];cases i:s.opn with
 |false =>
  show ah (!(!bS x.aC 7)) _ _=_;rw[Bool.not_not,cH];by_cases a:x.aC=7
  .rw[ag a,bg a];rfl
  rw[aa a,aY a];rfl
 |true =>
  show (if x.aC=1 then _ else _)=_;by_cases c:x.aC=1
  .simp[c]
  by_cases d:x.aC=2
  .simp[d]
  by_cases e:x.aC=4
  .simp[e]
  by_cases f:x.aC=5
  .simp[f]
  by_cases g:x.aC=9
  .simp[g]
  by_cases h:x.aC=6
  .simp[h]
  simp only[c,d,e,f,g,h,qw,eY];by_cases b:x.ai=[]
  .rw[ag (by rw[b];rfl)];simp[b]
  have:¬(x.ai.length:Int)=0:=λq=>b (aS.1 (by omega))
  rw[aa this];simp[b]
theorem afj {s:SS}(a:Hu s=true){x:RS}(b:Pq x){n:Int}(c:0<=n):yK s x (Eh s x n)=fG [] (uo iz gG nW s x n):=by
 rw[alz,aly a b c];unfold uo;split<;>rfl
theorem alA {s:SS}(e:Hu s=true){x:RS}(f:Pq x){k:Int->OG}(d:∀n,0<=n->k n=fG [] (uo iz gG nW s x n)):Po s x k=fG [] (qv iz gG nW s x):=by
 unfold Po qv qu cnT;rw[de];by_cases b:x.ai=[]
 .rw[aa (by rw[b];decide),ag b];exact d 1 (by decide)
 have g:¬(x.ai.length:Int)=0:=λq=>b (aS.1 (by omega))
 rw[ag (by omega),aa b,sK,(nT e).1,f.ai];show ah (bS (cR iz gG s x.ai).2 0) _ _=_;rw[cH,de,cF];by_cases a:(cR iz gG s x.ai).2=0
 .rw[ag a,ag a,aa (show ¬(cR iz gG s x.ai).2≠0 from λq=>q a)];by_cases c:(cR iz gG s x.ai).1<0
  .rw[ag c];show _=fG [] (if _ then _ else _);rw[ag c];rfl
  rw[aa c];show _=fG [] (if _ then _ else _);rw[aa c];exact d _ (by omega)
 rw[aa a,aa a,ag a];rfl
theorem V9 {s:SS}(a:s.ax.length<=20000){q b t:Int}{l:cK}(d:(l.length:Int)=q)(f:1<=q)(t0:0<=t):(jW s q b t l).1.ax.length<=20000:=by
 unfold jW;by_cases c:Int.tdiv (20000-(s.ax.length:Int)) q<t
 .rw[ag ⟨by omega,c⟩];exact a
 rw[aa (λh=>c h.2)];split
 .exact a
 have e:=ei (show t<=Int.tdiv (20000-(s.ax.length:Int)) q by omega) (show (0:Int)<=q by omega);rw[cP (by omega)]at e;have g:=jZ (x:=20000-(s.ax.length:Int)) (k:=q) (by omega);have i:(((List.replicate t.toNat l).flatten.length:Nat):Int)=t*q:=by
  rw[List.length_flatten,List.map_replicate,List.sum_replicate_nat,kW,d,Int.toNat_of_nonneg t0]
 have j:t*q=q*t:=qe _ _;show (s.ax++(List.replicate t.toNat l).flatten).length<=20000;rw[aA];omega
theorem Wa {s:SS}(d:0<=s.aD)(e:s.aD<=1048576){q b t:Int}{l:cK}(b0:0<=b)(t0:0<=t):0<=(jW s q b t l).1.aD/\(jW s q b t l).1.aD<=1048576:=by
 unfold jW;split
 .exact ⟨d,e⟩
 by_cases a:0<b/\Int.tdiv (1048576-s.aD) b<t
 .rw[ag a];exact⟨d,e⟩
 rw[aa a];show 0<=s.aD+b*t/\s.aD+b*t<=1048576;have h:=iU b0 t0;by_cases f:0<b
 .have c:t<=Int.tdiv (1048576-s.aD) b:=Int.not_lt.1 λq=>a ⟨f,q⟩
  have g:=ei c b0;rw[cP (by omega)]at g;have i:=jZ (x:=1048576-s.aD) (k:=b) (by omega);omega
 have:b=0:=by omega
 rw[this,Int.zero_mul];omega
theorem alC {s:SS}(c:0<=s.aD)(d:s.aD<=1048576):okB s=true:=by
 unfold okB;rw[gB (a:=s.aD) (b:=0) (by omega),gB (a:=1048576) (by omega)];rfl
theorem alD {s:SS}(c:0<=s.aP)(d:s.aP<=1000000000000000):okG s=true:=by
 unfold okG;rw[gB (a:=s.aP) (b:=0) (by omega),gB (a:=1000000000000000) (by omega)];rfl
theorem alE {s:SS}(a:A4 s=true)(b:okB s=true)(c:okG s=true):Hu s=true:=by
 unfold Hu;rw[a,b,c];rfl
structure wg (s:SS)(n:Nat)(g:Int)(w:Nat):Prop where
 kn:knB s=true
 lab:s.lab.length<=w
 bw:s.bw.length<=2*w
 aK:s.aK.length<=n
 ax:s.ax.length<=20000
 b0:0<=s.aD
 b1:s.aD<=1048576
 g0:0<=s.aP
 g1:s.aP<=g
theorem wg.a {s:SS}{n:Nat}{g:Int}{w:Nat}(h:wg s n g w)(b:n<=1000000)(c:g<=1000000000000000)(d:w<=500000):Hu s=true:=by
 have e:=h.lab;have f:=h.bw;have i:=h.aK;have j:=h.g1;exact alE (aa0 h.kn (by omega) (by omega) (by omega) h.ax) (alC h.b0 h.b1) (alD h.g0 (by omega))
theorem R4 {s:SS}{n:Nat}{g:Int}{w:Nat}(h:wg s n g w)(v:au)(k:Int):wg (Rz s v k) (n+1) g w:=by
 have a:=h.aK;refine⟨?_,h.lab,h.bw,by show (s.aK++_).length<=_;rw[aA];show _+1<=_;omega,h.ax,h.b0,h.b1,h.g0,h.g1⟩;show ((jv s.aL v ((s.aK.length+1:Nat):Int)).all λq=>Nat.ble q.2.toNat (s.aK++[(v,k,false)]).length)=true;exact L4 h.kn v (by rw[aA];omega) (by rw[aA];show _<=s.aK.length+1;omega)
theorem Dq {s:SS}{n:Nat}{g:Int}{w:Nat}(h:wg s n g w){q b t:Int}{l:cK}(c:(l.length:Int)=q)(d:1<=q)(b0:0<=b)(t0:0<=t):wg (jW s q b t l).1 n g w:=by
 have hi:=V9 h.ax (b:=b) c d t0;obtain⟨f,a⟩:=Wa h.b0 h.b1 (q:=q) (l:=l) b0 t0;have e:(jW s q b t l).1={ s with aD:=(jW s q b t l).1.aD,ax:=(jW s q b t l).1.ax }:=by
  unfold jW;split
  .rfl
  split<;>rfl
 rw[e];exact⟨h.kn,h.lab,h.bw,h.aK,hi,f,a,h.g0,h.g1⟩
theorem Hv {s:SS}{n m:Nat}{g a:Int}{w:Nat}{v:au}{K:SR'}(h:wg s m a w)(b:wg K.1 m a w):wg (sQ s v K).1 m a w:=by
 unfold sQ;split
 .exact h
 exact b
theorem wg.up {s:SS}{n m:Nat}{g a:Int}{w:Nat}(h:wg s n g w)(b:n<=m)(c:g<=a):wg s m a w:=by
 have d:=h.aK;have e:=h.g1;exact⟨h.kn,h.lab,h.bw,by omega,h.ax,h.b0,h.b1,h.g0,by omega⟩
theorem aba {s:SS}{n:Nat}{g:Int}{w:Nat}(h:wg s n g w){v:au}(a:v.length<=w):wg (B8 s v).1 (n+1) g w:=by
 unfold B8;refine Hv (n:=n) (g:=g) (h.up (gx _) (bL _)) ?_;split
 .exact R4 h _ _
 refine(Dq (n:=n) (q:=1) (b:=0) (t:=1) ?_ rfl (by decide) (by decide) (by decide)).up (gx _) (bL _);refine⟨L4 h.kn _ (aG _) (cJ _),?_,h.bw,h.aK,h.ax,h.b0,h.b1,h.g0,h.g1⟩;show (if v.take 1=[46] then s.lab else v).length<=w;split
 .exact h.lab
 exact a
theorem afk {s:SS}{n:Nat}{g:Int}{w:Nat}(h:wg s n g w)(m:n<1000000)(o:g<=1000000000000000)(r:w<=500000){x:RS}(k:Pq x)(v:x.lab.length<=w) :
 aT X0 c5 Wy 5 21 [.ptr 0 0,.agg (La x)] (fT 2 (wW s [])) iN=fG [] (jd iz gG nW s x):=by
 have y:∀s n,codeFrom X0 c5 Wy 5 21 q3 iN (fr2 n) (mR s x)=Eh s x n:=λs n=>by cases s;cases x;exact F8 ..
 have z:∀s n,codeFrom X0 c5 Wy 5 21 q2 iN (fr2 n) (mR s x)=yK s x (Eh s x n):=λs n=>by
  rw[vP (q:=[]) (by kernel_rfl),<-y];cases s;cases x;exact ap1 ..
 have kb:∀s,codeFrom X0 c5 Wy 5 21 q1 iN fr1 (mR s x)=Po s x λn=>yK s x (Eh s x n):=λs=>by
  rw[vP (q:=[true]) (by kernel_rfl)];have e:(λn=>yK s x (Eh s x n))=λn=>codeFrom X0 c5 Wy 5 21 q2 iN (fr2 n) (mR s x):=funext λn=>(z s n).symm
  rw[e];cases s;cases x;exact ap0 ..
 have A:aT X0 c5 Wy 5 21 [.ptr 0 0,.agg (La x)] (fT 2 (wW s [])) iN=alv s x λb=>Po b x λn=>yK b x (Eh b x n):=by
  rw[Gd (p:=q1) (by kernel_rfl)];have e:(λb=>Po b x λn=>yK b x (Eh b x n))=λb=>codeFrom X0 c5 Wy 5 21 q1 iN fr1 (mR b x):=funext λb=>(kb b).symm
  rw[e];cases s;cases x;exact apZ ..
 have t:=h.a (by omega) o r;have u:∀b,Hu b=true->Po b x (λn=>yK b x (Eh b x n))=fG [] (qv iz gG nW b x):=λb c=>alA c k λn m=>afj c k m
 rw[A];unfold alv jd;rw[wX t (eN k.lab)];have l:(λb=>Po b x λn=>yK b x (Eh b x n)) s=fG [] (qv iz gG nW s x):=u s t;rw[l];by_cases d:x.lab=[]
 .rw[bg d,aa (λq=>q.1 d)];rfl
 rw[aY d];show ah (!bS x.aC 3) _ _=_;rw[cF,cF];by_cases f:x.aC=3
 .rw[ag f,aa (λq=>q.2.1 f)]
 rw[aa f];by_cases i:x.aC=6
 .rw[ag i,aa (λq=>q.2.2 i)]
 rw[aa i,ag ⟨d,f,i⟩,cF];by_cases j:(B8 s x.lab).2=0
 .rw[ag j,aa (λq=>q j)];exact u _ ((aba h v).a (by omega) o r)
 rw[aa j,ag j];rfl
end
end Go.Proofs.YtbeckacfibledaaGreatDoor.ps.sr
