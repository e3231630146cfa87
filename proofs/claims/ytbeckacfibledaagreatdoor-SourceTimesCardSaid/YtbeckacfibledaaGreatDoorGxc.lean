/- Sources: items, so many times: what stands in each round is open. -/
import Derived.Test.YtbeckacfibledaaGreatDoorGxb
import Derived.Test.YtbeckacfibledaaGreatDoorGrc
import Derived.Test.YtbeckacfibledaaGreatDoorLyh
set_option linter.unusedVariables false
set_option linter.unusedSimpArgs false

namespace Go.Proofs.YtbeckacfibledaaGreatDoor.ps.sr
open Go.Tv Go.Ev Go.Px Go.Pp Go.Proofs.YtbeckacfibledaaGreatDoor.ex
set_option maxRecDepth 100000
noncomputable section
def rdQ (cs:cQ)(s:SS)(a:Nat):cQ:=.cells 70 (rdX (cs.length+1) (cs.length+2) (cs.length+3) s.aK.length a s)::(cs++[.mp 68 s.aL,.list 59 je s.aK 0 false false,.list 52 sJ s.ax 0 false false])
def ke (cs:cQ)(s:SS)(e:Int):OG:=some (.int .i64 e,wW s cs)
def pP:eJ:=[true,true,true,true,false,true,false]
def JL:fe:=⟨iM [0,4,49,50] pP,.none,[]⟩
def jP (G:List Cf)(F:AV)(cs:cQ)(s:SS)(a r m:Nat)(ai i:Int):OG:=jo X0 (cV S1 N2 G _) JL r 82 pP iN m (lS 55 [(0,.ptr 0 0),(4,F),(49,.int .i64 ai),(50,.int .i64 i)]) (fT (cs.length+2) (rdQ cs s a))
theorem aaN {ai:Int}{s:SS}{cs:cQ}{l:cK}{J:cK->Nat->Nat->Int->OG}
 (step:∀it b m i,it.length+l.length<=1000000->∃a,J it b (m+1) i=ah (bN i ai) (J (it++l) a m (IntKind.wrap .i64 (i+1))) (ke cs (jf s it) 0)) (j:l.length<=100000) (k:ai<=1000000) :
 ∀(q m b:Nat) (it:cK) (i:Int),0<=i->i+q=ai->q<m->it.length+l.length*q<=100000->J it b m i=ke cs (jf s (it++(List.replicate q l).flatten)) 0:=by
 intro q;induction q with
 |zero =>
  intro m b it i f hi g d;obtain⟨m,rfl⟩:∃c,m=c+1:=⟨m-1,by omega⟩;obtain⟨a,e⟩:=step it b m i (by omega);rw[e,gB (by omega)];show ke _ _ _=_;simp
 |succ q h =>
  intro m b it i f hi g d;obtain⟨m,rfl⟩:∃c,m=c+1:=⟨m-1,by omega⟩;rw[Nat.mul_succ]at d;obtain⟨a,e⟩:=step it b m i (by omega);rw[e,rC (by omega)];show J _ _ _ _=_;rw[i64_in (n:=i+1) (by omega) (by omega),h m a (it++l) (i+1) (by omega) (by omega) (by omega) (by rw[aA];omega),eX,jH,bC]
def Pf (ax aD ai:Int)(cs:cQ)(s:SS)(go:OG):OG :=
 (λsecond:OG=>ah (bN 0 ax) (ah (bS ax 0) none (ah (bN (IntKind.wrap .i64 (Int.tdiv (IntKind.wrap .i64 (20000-(s.ax.length:Int))) ax)) ai) (ke cs s 3) second)) second)
  (ah (bN 0 aD) (ah (bS aD 0) none (ah (bN (IntKind.wrap .i64 (Int.tdiv (IntKind.wrap .i64 (1048576-s.aD)) aD)) ai) (ke cs s 3) go)) go)
def fG (cs:cQ)(r:SR'):OG:=ke cs r.1 r.2
theorem tdiv_le {a b:Int}(c:0<=a)(d:1<=b):0<=Int.tdiv a b/\Int.tdiv a b<=a:=by
 rw[cP c];exact⟨Int.ediv_nonneg c (by omega),Int.ediv_le_self b c⟩
def okB (s:SS):Bool := !bN s.aD 0 && !bN 1048576 s.aD
theorem Pg {s:SS}(h:okB s=true):0<=s.aD/\s.aD<=1048576:=by
 unfold okB at h;rw[dc,dc]at h;simp at h;omega
theorem JM {s:SS}(r:A4 s=true)(t:okB s=true){cs:cQ}{ax aD ai:Int}{l:cK}(u:(l.length:Int)=ax)(p:1<=ax)(B:ax<=100000)(b0:0<=aD)(b1:aD<=1000000000000)(t0:0<=ai){J:SS->cK->Nat->Nat->Int->OG}
 (step:∀(b:Int) (it:cK) f m i,it.length+l.length<=1000000->∃g,J { s with aD:=b } it f (m+1) i=ah (bN i ai) (J { s with aD:=b } (it++l) g m (IntKind.wrap .i64 (i+1))) (ke cs (jf { s with aD:=b } it) 0)) {T:OG}
 (enter:T=Pf ax aD ai cs s (J { s with aD:=IntKind.wrap .i64 (s.aD+IntKind.wrap .i64 (aD*ai)) } s.ax s.ax.length 100000 0)):T=fG cs (jW s ax aD ai l):=by
 obtain⟨_,_,_,C⟩:=uv r;obtain⟨c0,c1⟩:=Pg t;rw[enter];unfold Pf jW;have v:IntKind.wrap .i64 (20000-(s.ax.length:Int))=20000-(s.ax.length:Int):=i64_in (by omega) (by omega);obtain⟨d1,d2⟩:=tdiv_le (a:=20000-(s.ax.length:Int)) (b:=ax) (by omega) p;rw[rC (show (0:Int)<ax by omega),y9 (show ax≠0 by omega),v,i64_in (n:=Int.tdiv (20000-(s.ax.length:Int)) ax) (by omega) (by omega)];show ah _ _ _=_;rw[de];by_cases d:Int.tdiv (20000-(s.ax.length:Int)) ax<ai
 .rw[ag d,ag ⟨by omega,d⟩];rfl
 rw[aa d,aa (λq=>d q.2)];have w:ax*ai<=20000-(s.ax.length:Int):=by
  have j:=ei (show ai<=Int.tdiv (20000-(s.ax.length:Int)) ax by omega) (show (0:Int)<=ax by omega);rw[cP (by omega)]at j;have y:=jZ (x:=20000-(s.ax.length:Int)) (k:=ax) (by omega);omega
 have z:ai<=20000:=by
  have:=iQ p t0;omega
 have go:∀(o:aD*ai<=1048576),J { s with aD:=IntKind.wrap .i64 (s.aD+IntKind.wrap .i64 (aD*ai)) } s.ax s.ax.length 100000 0=fG cs ({ s with aD:=s.aD+aD*ai,ax:=s.ax++(List.replicate ai.toNat l).flatten },0):=λo=>by
  have A:0<=aD*ai:=iU b0 t0;rw[i64_in (n:=aD*ai) (by omega) (by omega),i64_in (n:=s.aD+aD*ai) (by omega) (by omega)];refine(aaN (s:={ s with aD:=s.aD+aD*ai }) (J:=J { s with aD:=s.aD+aD*ai }) (ai:=ai) (cs:=cs) (l:=l) (λit f m i h=>step _ it f m i h) (by omega) (by omega) ai.toNat 100000 s.ax.length s.ax 0 (bL 0) (by omega) (by omega) ?_).trans rfl;have:((l.length*ai.toNat:Nat):Int)=ax*ai:=by
   rw[kW,u,Int.toNat_of_nonneg t0]
  omega
 rw[de];by_cases e:0<aD
 .have e2:IntKind.wrap .i64 (1048576-s.aD)=1048576-s.aD:=i64_in (by omega) (by omega);obtain⟨d3,D⟩:=tdiv_le (a:=1048576-s.aD) (b:=aD) (by omega) (by omega);rw[ag e,y9 (show aD≠0 by omega),e2,i64_in (n:=Int.tdiv (1048576-s.aD) aD) (by omega) (by omega)];show ah _ _ _=_;rw[de];by_cases c:Int.tdiv (1048576-s.aD) aD<ai
  .rw[ag c,ag ⟨e,c⟩];rfl
  rw[aa c,aa (λq=>c q.2)];refine go ?_;have j:=ei (show ai<=Int.tdiv (1048576-s.aD) aD by omega) b0;rw[cP (by omega)]at j;have y:=jZ (x:=1048576-s.aD) (k:=aD) (by omega);omega
 rw[aa e,aa (λq=>e q.1)];have:aD=0:=by omega
 exact go (by rw[this,Int.zero_mul];omega)
theorem uy {β:Type}{n:Nat}(h:n<=1000000)(k:Option β):pz n k=k:=by unfold pz;rw[eN (by omega)]
theorem aaO {β:Type}{p:Int}(c:0<=p)(d:p<=2000000)(k:Option β):Hs p k=k:=by
 unfold Hs;rw[gB (a:=p) (b:=0) (by omega),gB (a:=p) (b:=p) (by omega),gB (a:=2000000) (by omega)];rfl
def lnB (a b:Nat):Bool:=Nat.beq a a&&Nat.beq b b
theorem sK (a b:Nat):lnB a b=true:=by unfold lnB;simp
def JN (s:SS)(a ax b ai:Int):Bool:=A4 s&&(okB s&&(bS ax a&&(!bN b 0&&(!bN 1000000000000 b && !bN ai 0))))
theorem vW {s:SS}{a ax b ai:Int}(h:JN s a ax b ai=true):A4 s=true/\okB s=true/\ax=a/\0<=b/\b<=1000000000000/\0<=ai:=by
 unfold JN at h;simp only[ak]at h;obtain⟨g,i,c,d,e,f⟩:=h;rw[dc]at d e f;rw[fD]at c;simp at c d e f;exact⟨g,i,c,d,e,f⟩
def akN (n:Int):cZ:=List.take n.toNat (List.drop 0 (List.replicate n.toNat (0:Int)))
theorem aeO (n:Int):akN n=List.replicate n.toNat 0:=by
 unfold akN;rw[j3,cz (by simp)]
def cs1 (w:au):cQ:=[RX 0,.cells 9 [.str w]]
def it1 (av:Int)(w:au):cK:=[(av,1,w,(0,0,[]),[],[],0)]
abbrev fn1:AV:=.fn 83 [] [.ptr 1 0,.ptr 2 0]
theorem akP (w:au)(gu:Int)(aK:List Sy)(ax:cK)(aL:List (au×Int))(lab:au)(opn:Bool)(bw:au)(aP:Int)(aV:Bool)(aD av:Int)(a r m:Nat)(ai i:Int):jP G3 fn1 (cs1 w) ⟨gu,aK,ax,aL,lab,opn,bw,aP,aV,aD,av⟩ a r (m+1) ai i=ah (bN i ai) (pz ax.length (jP G3 fn1 (cs1 w) ⟨gu,aK,(ax++it1 av w),aL,lab,opn,bw,aP,aV,aD,av⟩ (ax.length+1) r m ai (IntKind.wrap .i64 (i+1)))) (ke (cs1 w) ⟨gu,aK,ax,aL,lab,opn,bw,aP,aV,aD,av⟩ 0):=by kernel_rfl
theorem aeP (w:au)(gu:Int)(aK:List Sy)(ax:cK)(aL:List (au×Int))(lab:au)(opn:Bool)(bw:au)(aP:Int)(aV:Bool)(aD av:Int)(q b ai:Int)(r:Nat):aT X0 (cV S1 N2 G3 _) JL r 82 [.ptr 0 0,.int .i64 q,.int .i64 b,.int .i64 ai,fn1] (fT 4 (wW ⟨gu,aK,ax,aL,lab,opn,bw,aP,aV,aD,av⟩ (cs1 w))) iN=Pf q b ai (cs1 w) ⟨gu,aK,ax,aL,lab,opn,bw,aP,aV,aD,av⟩ (jP G3 fn1 (cs1 w) ⟨gu,aK,ax,aL,lab,opn,bw,aP,aV,IntKind.wrap .i64 (aD+IntKind.wrap .i64 (b*ai)),av⟩ ax.length r r ai 0):=by kernel_rfl
theorem apL (w:au){s:SS}{q b ai:Int}(h:JN s 1 q b ai=true):aT X0 (cV S1 N2 G3 _) JL 100000 82 [.ptr 0 0,.int .i64 q,.int .i64 b,.int .i64 ai,fn1] (fT 4 (wW s (cs1 w))) iN=fG (cs1 w) (jW s q b ai (it1 s.av w)):=by
 obtain⟨a,g,j,k,n,o⟩:=vW h;refine JM a g (l:=it1 s.av w) (by rw[j];rfl) (by omega) (by omega) k n o (J:=λp it c m i=>jP G3 fn1 (cs1 w) (jf p it) c 100000 m ai i) (λd it c m i f=>?_) ?_
 .refine ⟨it.length+1,?_⟩;have f:it.length+1<=1000000:=f;have e:jP G3 fn1 (cs1 w) (jf { s with aD:=d } it) c 100000 (m+1) ai i=ah (bN i ai) (pz it.length (jP G3 fn1 (cs1 w) (jf { s with aD:=d } (it++it1 s.av w)) (it.length+1) 100000 m ai (IntKind.wrap .i64 (i+1)))) (ke (cs1 w) (jf { s with aD:=d } it) 0):=by
   cases s;exact akP ..
  refine e.trans ?_;rw[uy (by omega)]
  skip
 cases s;exact aeP ..
def HK (c:au)(op aM:Int)(l:eO):cQ:=[scR c,.cells 36 [.int .i64 op,.int .i64 aM,.eC lD l],RX 0]
def it2 (av:Int)(c:au)(op aM:Int)(l:eO):cK:=[(av,2,[],(op,aM,(GU c l).1),[],[],0)]
abbrev fn2:AV:=.fn 89 [] [.ptr 1 0,.ptr 2 0,.ptr 3 0]
theorem akQ (c:au)(op aM:Int)(l:eO)(gu:Int)(aK:List Sy)(ax:cK)(aL:List (au×Int))(lab:au)(opn:Bool)(bw:au)(aP:Int)(aV:Bool)(aD av:Int)(a r m:Nat)(ai i:Int):jP G3 fn2 (HK c op aM l) ⟨gu,aK,ax,aL,lab,opn,bw,aP,aV,aD,av⟩ a r (m+1) ai i=ah (bN i ai) (ah (Nat.ble c.length 2000000&&pW l) (pz ax.length (jP G3 fn2 (HK c op aM l) ⟨gu,aK,(ax++it2 av c op aM l),aL,lab,opn,bw,aP,aV,aD,av⟩ (ax.length+1) r m ai (IntKind.wrap .i64 (i+1)))) none) (ke (HK c op aM l) ⟨gu,aK,ax,aL,lab,opn,bw,aP,aV,aD,av⟩ 0):=by kernel_rfl
theorem aeQ (c:au)(op aM:Int)(l:eO)(gu:Int)(aK:List Sy)(ax:cK)(aL:List (au×Int))(lab:au)(opn:Bool)(bw:au)(aP:Int)(aV:Bool)(aD av:Int)(q b ai:Int)(r:Nat):aT X0 (cV S1 N2 G3 _) JL r 82 [.ptr 0 0,.int .i64 q,.int .i64 b,.int .i64 ai,fn2] (fT 5 (wW ⟨gu,aK,ax,aL,lab,opn,bw,aP,aV,aD,av⟩ (HK c op aM l))) iN=Pf q b ai (HK c op aM l) ⟨gu,aK,ax,aL,lab,opn,bw,aP,aV,aD,av⟩ (jP G3 fn2 (HK c op aM l) ⟨gu,aK,ax,aL,lab,opn,bw,aP,aV,IntKind.wrap .i64 (aD+IntKind.wrap .i64 (b*ai)),av⟩ ax.length r r ai 0):=by kernel_rfl
theorem apM (c:au)(op aM:Int)(l:eO)(j:c.length<=2000000)(k:pW l=true){s:SS}{q b ai:Int}(h:JN s 1 q b ai=true):aT X0 (cV S1 N2 G3 _) JL 100000 82 [.ptr 0 0,.int .i64 q,.int .i64 b,.int .i64 ai,fn2] (fT 5 (wW s (HK c op aM l))) iN=fG (HK c op aM l) (jW s q b ai (it2 s.av c op aM l)):=by
 obtain⟨a,n,o,p,r,t⟩:=vW h;refine JM a n (l:=it2 s.av c op aM l) (by rw[o];rfl) (by omega) (by omega) p r t (J:=λu it d m i=>jP G3 fn2 (HK c op aM l) (jf u it) d 100000 m ai i) (λf it d m i g=>?_) ?_
 .refine ⟨it.length+1,?_⟩;have g:it.length+1<=1000000:=g;have e:jP G3 fn2 (HK c op aM l) (jf { s with aD:=f } it) d 100000 (m+1) ai i=ah (bN i ai) (ah (Nat.ble c.length 2000000&&pW l) (pz it.length (jP G3 fn2 (HK c op aM l) (jf { s with aD:=f } (it++it2 s.av c op aM l)) (it.length+1) 100000 m ai (IntKind.wrap .i64 (i+1)))) none) (ke (HK c op aM l) (jf { s with aD:=f } it) 0):=by
   cases s;exact akQ ..
  refine e.trans ?_;rw[eN j,k];show ah _ (pz _ _) _=_;rw[uy (by omega)]
  skip
 cases s;exact aeQ ..
def VZ (x:RS)(c:au):cQ:=[Pe x,RX 0,scR c]
def it3 (av:Int)(x:RS)(c:au):cK:=(x.data.map (dtK av c x.sz))
abbrev fn3:AV:=.fn 91 [] [.ptr 1 0,.ptr 2 0,.ptr 3 0]
theorem akS (a0:Int)(a:au)(aC sz op aM:Int)(args:eO)(data:List Dt)(b d:bz)(e0 e:Int)(c:au)(gu:Int)(aK:List Sy)(ax:cK)(aL:List (au×Int))(lab:au)(opn:Bool)(bw:au)(aP:Int)(aV:Bool)(aD av:Int)(f r m:Nat)(ai i:Int):jP G3 fn3 (VZ ⟨a0,a,aC,sz,op,aM,args,data,b,d,e0,e⟩ c) ⟨gu,aK,ax,aL,lab,opn,bw,aP,aV,aD,av⟩ f r (m+1) ai i=ah (bN i ai) (ah (lnB aK.length ax.length&&(Nat.ble c.length 2000000&&(DU sz&&(Mf data&&Nat.ble (ax.length+data.length) 1000000)))) (jP G3 fn3 (VZ ⟨a0,a,aC,sz,op,aM,args,data,b,d,e0,e⟩ c) ⟨gu,aK,(ax++data.map (dtK av c sz)),aL,lab,opn,bw,aP,aV,aD,av⟩ (ax++data.map (dtK av c sz)).length r m ai (IntKind.wrap .i64 (i+1))) none) (ke (VZ ⟨a0,a,aC,sz,op,aM,args,data,b,d,e0,e⟩ c) ⟨gu,aK,ax,aL,lab,opn,bw,aP,aV,aD,av⟩ 0):=by kernel_rfl
theorem aeR (a0:Int)(a:au)(aC sz op aM:Int)(args:eO)(data:List Dt)(d e:bz)(e0 f:Int)(c:au)(gu:Int)(aK:List Sy)(ax:cK)(aL:List (au×Int))(lab:au)(opn:Bool)(bw:au)(aP:Int)(aV:Bool)(aD av:Int)(q b ai:Int)(r:Nat):aT X0 (cV S1 N2 G3 _) JL r 82 [.ptr 0 0,.int .i64 q,.int .i64 b,.int .i64 ai,fn3] (fT 5 (wW ⟨gu,aK,ax,aL,lab,opn,bw,aP,aV,aD,av⟩ (VZ ⟨a0,a,aC,sz,op,aM,args,data,d,e,e0,f⟩ c))) iN=Pf q b ai (VZ ⟨a0,a,aC,sz,op,aM,args,data,d,e,e0,f⟩ c) ⟨gu,aK,ax,aL,lab,opn,bw,aP,aV,aD,av⟩ (jP G3 fn3 (VZ ⟨a0,a,aC,sz,op,aM,args,data,d,e,e0,f⟩ c) ⟨gu,aK,ax,aL,lab,opn,bw,aP,aV,IntKind.wrap .i64 (aD+IntKind.wrap .i64 (b*ai)),av⟩ ax.length r r ai 0):=by kernel_rfl
theorem apN (x:RS)(c:au)(k:c.length<=2000000)(n:DU x.sz=true)(j:Mf x.data=true)(w:1<=x.data.length){s:SS}{q b ai:Int}(h:JN s x.data.length q b ai=true):aT X0 (cV S1 N2 G3 _) JL 100000 82 [.ptr 0 0,.int .i64 q,.int .i64 b,.int .i64 ai,fn3] (fT 5 (wW s (VZ x c))) iN=fG (VZ x c) (jW s q b ai (it3 s.av x c)):=by
 obtain⟨d,o,p,r,t,u⟩:=vW h;refine JM d o (l:=it3 s.av x c) (by rw[p];show ((x.data.map _).length:Int)=_;rw[cO]) (by omega) (by have:=(ux j).1;omega) r t u (J:=λv it f m i=>jP G3 fn3 (VZ x c) (jf v it) f 100000 m ai i) (λg it f m i a=>?_) ?_
 .refine ⟨(it++it3 s.av x c).length,?_⟩;have a:it.length+(x.data.map (dtK s.av c x.sz)).length<=1000000:=a;rw[cO]at a;have e:jP G3 fn3 (VZ x c) (jf { s with aD:=g } it) f 100000 (m+1) ai i=ah (bN i ai) (ah (lnB s.aK.length it.length&&(Nat.ble c.length 2000000&&(DU x.sz&&(Mf x.data&&Nat.ble (it.length+x.data.length) 1000000)))) (jP G3 fn3 (VZ x c) (jf { s with aD:=g } (it++it3 s.av x c)) (it++it3 s.av x c).length 100000 m ai (IntKind.wrap .i64 (i+1))) none) (ke (VZ x c) (jf { s with aD:=g } it) 0):=by
   cases s;cases x;exact akS ..
  refine e.trans ?_;rw[sK,eN k,n,j,eN a];rfl
 cases s;cases x;exact aeR ..
def V0 (n:Int):cQ:=[RX 0,.cells 3 [.int .i64 n]]
def it4 (av:Int)(n:Int):cK:=[(av,5,[],(0,0,[]),[],[],n)]
abbrev fn4:AV:=.fn 92 [] [.ptr 1 0,.ptr 2 0]
theorem akT (n:Int)(gu:Int)(aK:List Sy)(ax:cK)(aL:List (au×Int))(lab:au)(opn:Bool)(bw:au)(aP:Int)(aV:Bool)(aD av:Int)(a r m:Nat)(ai i:Int):jP G3 fn4 (V0 n) ⟨gu,aK,ax,aL,lab,opn,bw,aP,aV,aD,av⟩ a r (m+1) ai i=ah (bN i ai) (pz ax.length (jP G3 fn4 (V0 n) ⟨gu,aK,(ax++it4 av n),aL,lab,opn,bw,aP,aV,aD,av⟩ (ax.length+1) r m ai (IntKind.wrap .i64 (i+1)))) (ke (V0 n) ⟨gu,aK,ax,aL,lab,opn,bw,aP,aV,aD,av⟩ 0):=by kernel_rfl
theorem aeS (n:Int)(gu:Int)(aK:List Sy)(ax:cK)(aL:List (au×Int))(lab:au)(opn:Bool)(bw:au)(aP:Int)(aV:Bool)(aD av:Int)(q b ai:Int)(r:Nat):aT X0 (cV S1 N2 G3 _) JL r 82 [.ptr 0 0,.int .i64 q,.int .i64 b,.int .i64 ai,fn4] (fT 4 (wW ⟨gu,aK,ax,aL,lab,opn,bw,aP,aV,aD,av⟩ (V0 n))) iN=Pf q b ai (V0 n) ⟨gu,aK,ax,aL,lab,opn,bw,aP,aV,aD,av⟩ (jP G3 fn4 (V0 n) ⟨gu,aK,ax,aL,lab,opn,bw,aP,aV,IntKind.wrap .i64 (aD+IntKind.wrap .i64 (b*ai)),av⟩ ax.length r r ai 0):=by kernel_rfl
theorem apO (n:Int){s:SS}{q b ai:Int}(h:JN s 1 q b ai=true):aT X0 (cV S1 N2 G3 _) JL 100000 82 [.ptr 0 0,.int .i64 q,.int .i64 b,.int .i64 ai,fn4] (fT 4 (wW s (V0 n))) iN=fG (V0 n) (jW s q b ai (it4 s.av n)):=by
 obtain⟨a,g,j,k,o,p⟩:=vW h;refine JM a g (l:=it4 s.av n) (by rw[j];rfl) (by omega) (by omega) k o p (J:=λr it c m i=>jP G3 fn4 (V0 n) (jf r it) c 100000 m ai i) (λd it c m i f=>?_) ?_
 .refine ⟨it.length+1,?_⟩;have f:it.length+1<=1000000:=f;have e:jP G3 fn4 (V0 n) (jf { s with aD:=d } it) c 100000 (m+1) ai i=ah (bN i ai) (pz it.length (jP G3 fn4 (V0 n) (jf { s with aD:=d } (it++it4 s.av n)) (it.length+1) 100000 m ai (IntKind.wrap .i64 (i+1)))) (ke (V0 n) (jf { s with aD:=d } it) 0):=by
   cases s;exact akT ..
  refine e.trans ?_;rw[uy (by omega)]
  skip
 cases s;exact aeS ..
def V1 (n:Int):cQ:=[RX 0,.cells 3 [.int .i64 n]]
def it5 (av:Int)(n:Int):cK:=[(av,4,[],(0,0,[]),[],akN n,0)]
abbrev fn5:AV:=.fn 93 [] [.ptr 1 0,.ptr 2 0]
theorem akV (n:Int)(gu:Int)(aK:List Sy)(ax:cK)(aL:List (au×Int))(lab:au)(opn:Bool)(bw:au)(aP:Int)(aV:Bool)(aD av:Int)(a r m:Nat)(ai i:Int):jP G3 fn5 (V1 n) ⟨gu,aK,ax,aL,lab,opn,bw,aP,aV,aD,av⟩ a r (m+1) ai i=ah (bN i ai) (Hs n (pz ax.length (jP G3 fn5 (V1 n) ⟨gu,aK,(ax++it5 av n),aL,lab,opn,bw,aP,aV,aD,av⟩ (ax.length+1) r m ai (IntKind.wrap .i64 (i+1))))) (ke (V1 n) ⟨gu,aK,ax,aL,lab,opn,bw,aP,aV,aD,av⟩ 0):=by kernel_rfl
theorem aeT (n:Int)(gu:Int)(aK:List Sy)(ax:cK)(aL:List (au×Int))(lab:au)(opn:Bool)(bw:au)(aP:Int)(aV:Bool)(aD av:Int)(q b ai:Int)(r:Nat):aT X0 (cV S1 N2 G3 _) JL r 82 [.ptr 0 0,.int .i64 q,.int .i64 b,.int .i64 ai,fn5] (fT 4 (wW ⟨gu,aK,ax,aL,lab,opn,bw,aP,aV,aD,av⟩ (V1 n))) iN=Pf q b ai (V1 n) ⟨gu,aK,ax,aL,lab,opn,bw,aP,aV,aD,av⟩ (jP G3 fn5 (V1 n) ⟨gu,aK,ax,aL,lab,opn,bw,aP,aV,IntKind.wrap .i64 (aD+IntKind.wrap .i64 (b*ai)),av⟩ ax.length r r ai 0):=by kernel_rfl
theorem apP (n:Int)(n0:0<=n)(n1:n<=2000000){s:SS}{q b ai:Int}(h:JN s 1 q b ai=true):aT X0 (cV S1 N2 G3 _) JL 100000 82 [.ptr 0 0,.int .i64 q,.int .i64 b,.int .i64 ai,fn5] (fT 4 (wW s (V1 n))) iN=fG (V1 n) (jW s q b ai (it5 s.av n)):=by
 obtain⟨a,g,j,k,o,p⟩:=vW h;refine JM a g (l:=it5 s.av n) (by rw[j];rfl) (by omega) (by omega) k o p (J:=λr it c m i=>jP G3 fn5 (V1 n) (jf r it) c 100000 m ai i) (λd it c m i f=>?_) ?_
 .refine ⟨it.length+1,?_⟩;have f:it.length+1<=1000000:=f;have e:jP G3 fn5 (V1 n) (jf { s with aD:=d } it) c 100000 (m+1) ai i=ah (bN i ai) (Hs n (pz it.length (jP G3 fn5 (V1 n) (jf { s with aD:=d } (it++it5 s.av n)) (it.length+1) 100000 m ai (IntKind.wrap .i64 (i+1))))) (ke (V1 n) (jf { s with aD:=d } it) 0):=by
   cases s;exact akV ..
  refine e.trans ?_;rw[aaO n0 n1,uy (by omega)]
  skip
 cases s;exact aeT ..
def V2 (a:cZ):cQ:=[RX 0,.cells 50 [.eC (.int .u8) a]]
def it6 (av:Int)(a:cZ):cK:=[(av,4,[],(0,0,[]),[],a,0)]
abbrev fn6:AV:=.fn 95 [] [.ptr 1 0,.ptr 2 0]
theorem akW (a:cZ)(gu:Int)(aK:List Sy)(ax:cK)(aL:List (au×Int))(lab:au)(opn:Bool)(bw:au)(aP:Int)(aV:Bool)(aD av:Int)(b r m:Nat)(ai i:Int):jP G3 fn6 (V2 a) ⟨gu,aK,ax,aL,lab,opn,bw,aP,aV,aD,av⟩ b r (m+1) ai i=ah (bN i ai) (ah (Nat.ble a.length 2000000) (pz ax.length (jP G3 fn6 (V2 a) ⟨gu,aK,(ax++it6 av a),aL,lab,opn,bw,aP,aV,aD,av⟩ (ax.length+1) r m ai (IntKind.wrap .i64 (i+1)))) none) (ke (V2 a) ⟨gu,aK,ax,aL,lab,opn,bw,aP,aV,aD,av⟩ 0):=by kernel_rfl
theorem aeU (a:cZ)(gu:Int)(aK:List Sy)(ax:cK)(aL:List (au×Int))(lab:au)(opn:Bool)(bw:au)(aP:Int)(aV:Bool)(aD av:Int)(q b ai:Int)(r:Nat):aT X0 (cV S1 N2 G3 _) JL r 82 [.ptr 0 0,.int .i64 q,.int .i64 b,.int .i64 ai,fn6] (fT 4 (wW ⟨gu,aK,ax,aL,lab,opn,bw,aP,aV,aD,av⟩ (V2 a))) iN=Pf q b ai (V2 a) ⟨gu,aK,ax,aL,lab,opn,bw,aP,aV,aD,av⟩ (jP G3 fn6 (V2 a) ⟨gu,aK,ax,aL,lab,opn,bw,aP,aV,IntKind.wrap .i64 (aD+IntKind.wrap .i64 (b*ai)),av⟩ ax.length r r ai 0):=by kernel_rfl
theorem apQ (a:cZ)(j:a.length<=2000000){s:SS}{q b ai:Int}(h:JN s 1 q b ai=true):aT X0 (cV S1 N2 G3 _) JL 100000 82 [.ptr 0 0,.int .i64 q,.int .i64 b,.int .i64 ai,fn6] (fT 4 (wW s (V2 a))) iN=fG (V2 a) (jW s q b ai (it6 s.av a)):=by
 obtain⟨c,k,n,o,p,r⟩:=vW h;refine JM c k (l:=it6 s.av a) (by rw[n];rfl) (by omega) (by omega) o p r (J:=λt it d m i=>jP G3 fn6 (V2 a) (jf t it) d 100000 m ai i) (λf it d m i g=>?_) ?_
 .refine ⟨it.length+1,?_⟩;have g:it.length+1<=1000000:=g;have e:jP G3 fn6 (V2 a) (jf { s with aD:=f } it) d 100000 (m+1) ai i=ah (bN i ai) (ah (Nat.ble a.length 2000000) (pz it.length (jP G3 fn6 (V2 a) (jf { s with aD:=f } (it++it6 s.av a)) (it.length+1) 100000 m ai (IntKind.wrap .i64 (i+1)))) none) (ke (V2 a) (jf { s with aD:=f } it) 0):=by
   cases s;exact akW ..
  refine e.trans ?_;rw[eN j];show ah _ (pz _ _) _=_;rw[uy (by omega)]
  skip
 cases s;exact aeU ..
abbrev OP:=Option (Bool×AV×cQ)
def qd (cs:cQ)(r:SR'):AV×cQ:=(.int .i64 r.2,wW r.1 cs)
def gP1 (q b ai:Int)(a:aI)(rows:cQ):OP :=
 match a,rows with
 |[.ptr 1 0,.ptr 2 0],rd :: .cells c [.ptr 0 0] :: .cells d [.str w]::l=>match vV 2 rd l with
  |some (b1,s)=>some (b1&&((Nat.beq c 67&&(Nat.beq d 9))&&JN s 1 q b ai),qd (cs1 w) (jW s q b ai (it1 s.av w)))
  |_=>none
 |_,_=>none
theorem akX {q b ai:Int}{a:aI}{rows outs:cQ}{v:AV}(h:gP1 q b ai a rows=some (true,v,outs)):aT X0 (cV S1 N2 G3 _) JL 100000 82 [.ptr 0 0,.int .i64 q,.int .i64 b,.int .i64 ai,.fn 83 [] a] (fT (uu rows) rows) iN=some (v,outs):=by
 unfold gP1 at h;split at h;case h_2=>cases h
 rename_i rd e f w l;split at h;case h_2=>cases h
 rename_i b1 s c;simp only[qd,aq,az,ak,aQ]at h;obtain⟨⟨rfl,⟨g0,g1⟩,d⟩,rfl,rfl⟩:=h;subst g0;subst g1;obtain⟨rfl,rfl⟩:=ig c;exact apL w d
def gP2 (q b ai:Int)(a:aI)(rows:cQ):OP :=
 match a,rows with
 |[.ptr 1 0,.ptr 2 0,.ptr 3 0],rd :: .cells d [.str c] :: .cells f [.int .i64 op,.int .i64 aM,.eC e x] :: .cells g [.ptr 0 0]::l=>match jl e lD x,vV 3 rd l with
  |some x,some (b1,s)=>some (b1&&((Nat.beq d 106&&(Nat.beq f 36&&(Nat.beq g 67&&(Nat.ble c.length 2000000&&(pW x)))))&&JN s 1 q b ai),qd (HK c op aM x) (jW s q b ai (it2 s.av c op aM x)))
  |_,_=>none
 |_,_=>none
theorem akY {q b ai:Int}{d:aI}{rows outs:cQ}{v:AV}(h:gP2 q b ai d rows=some (true,v,outs)):aT X0 (cV S1 N2 G3 _) JL 100000 82 [.ptr 0 0,.int .i64 q,.int .i64 b,.int .i64 ai,.fn 89 [] d] (fT (uu rows) rows) iN=some (v,outs):=by
 unfold gP2 at h;split at h;case h_2=>cases h
 rename_i rd n c o op aM e x p l;split at h;case h_2=>cases h
 rename_i f b1 s a g;simp only[qd,aq,az,ak,aQ]at h;obtain⟨⟨rfl,⟨g0,g1,i,j,k⟩,m⟩,rfl,rfl⟩:=h;subst g0;subst g1;subst i;obtain⟨rfl,a⟩:=cr a;have a:x=f:=a;subst a;obtain⟨rfl,rfl⟩:=ig g;exact apM c op aM x (aB j) k m
def gP3 (q b ai:Int)(a:aI)(rows:cQ):OP :=
 match a,rows with
 |[.ptr 1 0,.ptr 2 0,.ptr 3 0],rd::st :: .cells d [.ptr 0 0] :: .cells e [.str c]::l=>match Ht st,vV 3 rd l with
  |some (b0,x),some (b1,s)=>some (b1&&((b0&&(Nat.beq d 67&&(Nat.beq e 106&&(Nat.ble c.length 2000000&&(DU x.sz&&(Mf x.data&&(Nat.ble 1 x.data.length)))))))&&JN s x.data.length q b ai),qd (VZ x c) (jW s q b ai (it3 s.av x c)))
  |_,_=>none
 |_,_=>none
theorem akZ {q b ai:Int}{a:aI}{rows outs:cQ}{v:AV}(h:gP3 q b ai a rows=some (true,v,outs)):aT X0 (cV S1 N2 G3 _) JL 100000 82 [.ptr 0 0,.int .i64 q,.int .i64 b,.int .i64 ai,.fn 91 [] a] (fT (uu rows) rows) iN=some (v,outs):=by
 unfold gP3 at h;split at h;case h_2=>cases h
 rename_i rd st n o c l;split at h;case h_2=>cases h
 rename_i b0 x b1 s d e;simp only[qd,aq,az,ak,aQ]at h;obtain⟨⟨rfl,⟨g0,g1,f,g,i,j,k⟩,m⟩,rfl,rfl⟩:=h;subst g0;subst g1;subst f;obtain rfl:=o9 d;obtain⟨rfl,rfl⟩:=ig e;exact apN x c (aB g) i j (aB k) m
def gP4 (q b ai:Int)(a:aI)(rows:cQ):OP :=
 match a,rows with
 |[.ptr 1 0,.ptr 2 0],rd :: .cells c [.ptr 0 0] :: .cells d [.int .i64 n]::l=>match vV 2 rd l with
  |some (b1,s)=>some (b1&&((Nat.beq c 67&&(Nat.beq d 3))&&JN s 1 q b ai),qd (V0 n) (jW s q b ai (it4 s.av n)))
  |_=>none
 |_,_=>none
theorem ak0 {q b ai:Int}{a:aI}{rows outs:cQ}{v:AV}(h:gP4 q b ai a rows=some (true,v,outs)):aT X0 (cV S1 N2 G3 _) JL 100000 82 [.ptr 0 0,.int .i64 q,.int .i64 b,.int .i64 ai,.fn 92 [] a] (fT (uu rows) rows) iN=some (v,outs):=by
 unfold gP4 at h;split at h;case h_2=>cases h
 rename_i rd e f n l;split at h;case h_2=>cases h
 rename_i b1 s c;simp only[qd,aq,az,ak,aQ]at h;obtain⟨⟨rfl,⟨g0,g1⟩,d⟩,rfl,rfl⟩:=h;subst g0;subst g1;obtain⟨rfl,rfl⟩:=ig c;exact apO n d
def gP5 (q b ai:Int)(a:aI)(rows:cQ):OP :=
 match a,rows with
 |[.ptr 1 0,.ptr 2 0],rd :: .cells c [.ptr 0 0] :: .cells d [.int .i64 n]::l=>match vV 2 rd l with
  |some (b1,s)=>some (b1&&((Nat.beq c 67&&(Nat.beq d 3&&(!bN n 0&&(!bN 2000000 n))))&&JN s 1 q b ai),qd (V1 n) (jW s q b ai (it5 s.av n)))
  |_=>none
 |_,_=>none
theorem ak1 {q b ai:Int}{a:aI}{rows outs:cQ}{v:AV}(h:gP5 q b ai a rows=some (true,v,outs)):aT X0 (cV S1 N2 G3 _) JL 100000 82 [.ptr 0 0,.int .i64 q,.int .i64 b,.int .i64 ai,.fn 93 [] a] (fT (uu rows) rows) iN=some (v,outs):=by
 unfold gP5 at h;split at h;case h_2=>cases h
 rename_i rd g i n l;split at h;case h_2=>cases h
 rename_i b1 s e;simp only[qd,aq,az,ak,aQ]at h;obtain⟨⟨rfl,⟨g0,g1,c,d⟩,f⟩,rfl,rfl⟩:=h;subst g0;subst g1;obtain⟨rfl,rfl⟩:=ig e;exact apP n (by rw[dc]at c;simpa using c) (by rw[dc]at d;simpa using d) f
def gP6 (q b ai:Int)(a:aI)(rows:cQ):OP :=
 match a,rows with
 |[.ptr 1 0,.ptr 2 0],rd :: .cells c [.ptr 0 0] :: .cells d [.eC e x]::l=>match jl e (.int .u8) x,vV 2 rd l with
  |some x,some (b1,s)=>some (b1&&((Nat.beq c 67&&(Nat.beq d 50&&(Nat.ble x.length 2000000)))&&JN s 1 q b ai),qd (V2 x) (jW s q b ai (it6 s.av x)))
  |_,_=>none
 |_,_=>none
theorem ak2 {q b ai:Int}{c:aI}{rows outs:cQ}{v:AV}(h:gP6 q b ai c rows=some (true,v,outs)):aT X0 (cV S1 N2 G3 _) JL 100000 82 [.ptr 0 0,.int .i64 q,.int .i64 b,.int .i64 ai,.fn 95 [] c] (fT (uu rows) rows) iN=some (v,outs):=by
 unfold gP6 at h;split at h;case h_2=>cases h
 rename_i rd j k e x l;split at h;case h_2=>cases h
 rename_i d b1 s a f;simp only[qd,aq,az,ak,aQ]at h;obtain⟨⟨rfl,⟨g0,g1,g⟩,i⟩,rfl,rfl⟩:=h;subst g0;subst g1;obtain⟨rfl,a⟩:=cr a;have a:x=d:=a;subst a;obtain⟨rfl,rfl⟩:=ig f;exact apQ x (aB g) i
def gP (args:aI)(rows:cQ):OP :=
 match args with
 |[.ptr 0 0,.int .i64 q,.int .i64 b,.int .i64 ai,.fn f [] a] =>
  ah (Nat.beq f 83) (gP1 q b ai a rows) (ah (Nat.beq f 89) (gP2 q b ai a rows) (ah (Nat.beq f 91) (gP3 q b ai a rows) (ah (Nat.beq f 92) (gP4 q b ai a rows) (ah (Nat.beq f 93) (gP5 q b ai a rows) (ah (Nat.beq f 95) (gP6 q b ai a rows) (none))))))
 |_=>none
theorem apR:lK X0 gR 82 gP :=
 o8 (λargs=>lt.cn rfl args) (rF oT vU agY) λargs rows v outs a=>by
  unfold gP at a;split at a;case h_2=>cases a
  rename_i q b ai f d;refine⟨JL,100000,?_⟩;rw[ay]at a;split at a
  .rename_i c;obtain rfl:=bt c;exact akX a
  rw[ay]at a;split at a
  .rename_i c;obtain rfl:=bt c;exact akY a
  rw[ay]at a;split at a
  .rename_i c;obtain rfl:=bt c;exact akZ a
  rw[ay]at a;split at a
  .rename_i c;obtain rfl:=bt c;exact ak0 a
  rw[ay]at a;split at a
  .rename_i c;obtain rfl:=bt c;exact ak1 a
  rw[ay]at a;split at a
  .rename_i c;obtain rfl:=bt c;exact ak2 a
  cases a
def G4:List Cf:=(82,⟨70,xA,gP⟩)::G3
theorem zX:rB X0 gR G4:=.cons apR agY
def VJ {β:Type}(s:SS)(go:au->Option β):Option β:=ah s.opn (go s.bw) (go s.lab)
def V3 (s:SS)(g:Bool)(a q b ai:Int)(l:cK):OG:=ah (lnB s.aK.length s.ax.length&&(g&&JN s a q b ai)) (fG [] (jW s q b ai l)) none
def Ph (s:SS)(a q b ai:Int)(l:cK):OG:=ah (lnB s.aK.length s.ax.length&&JN s a q b ai) (fG [] (jW s q b ai l)) none
def frT (s:SS)(w:au)(go:OG):OG:=ah (sN s.aL w) (ke [] s 7) (ah (bN 60 (w.length:Int)) (ke [] s 3) go)
def syT (s:SS)(w:au)(n:Int):OG:=pz s.aK.length (ke [] (Rz s w n) 0)
def kT (s:SS)(x:bz)(go:Int->OG):OG:=ah (lnB s.aK.length s.ax.length&&(A4 s&&fq x)) (ah (!bS (cR iz gG s x).2 0) (ke [] s (cR iz gG s x).2) (go (cR iz gG s x).1)) none
def labT' (s:SS)(w:au):OG :=
 VJ s λc=>nmT c w λfull=>frT s full (ah s.opn (syT s full s.aP)
  ((λgo:au->OG=>ah (!lt.preB w [46]) (go w) (go s.lab)) λL=>Ph { s with lab:=L,aL:=jv s.aL full 0 } 1 1 0 1 (it1 s.av full)))
theorem aaQ (gu:Int)(aK:List Sy)(ax:cK)(aL:List (au×Int))(lab:au)(opn:Bool)(bw:au)(aP:Int)(aV:Bool)(aD av:Int)(w:au)(r:Nat) :
 aT X0 (cV S1 N2 G4 _) gC r 43 [.ptr 0 0,.str w] (fT 2 (wW ⟨gu,aK,ax,aL,lab,opn,bw,aP,aV,aD,av⟩ [])) iN=labT' ⟨gu,aK,ax,aL,lab,opn,bw,aP,aV,aD,av⟩ w:=by kernel_rfl
def T6 (s:SS)(op aM:Int)(l:eO)(ai:Int):OG :=
 VJ s λc=>ah (Nat.ble c.length 2000000&&pW l) (ah (!(GU c l).2) (ke [] s 3) (V3 s (Nat.ble c.length 2000000&&pW l) 1 1 0 ai (it2 s.av c op aM l))) none
theorem V4 (gu:Int)(aK:List Sy)(ax:cK)(aL:List (au×Int))(lab:au)(opn:Bool)(bw:au)(aP:Int)(aV:Bool)(aD av:Int)(op aM:Int)(l:eO)(ai:Int)(r:Nat) :
 aT X0 (cV S1 N2 G4 _) gC r 46 [.ptr 0 0,.agg [.int .i64 op,.int .i64 aM,.eC lD l],.int .i64 ai] (fT 2 (wW ⟨gu,aK,ax,aL,lab,opn,bw,aP,aV,aD,av⟩ [])) iN=T6 ⟨gu,aK,ax,aL,lab,opn,bw,aP,aV,aD,av⟩ op aM l ai:=by kernel_rfl
def aeV (s:SS)(x:RS):OG:=VJ s λc=>nmT c x.lab λfull=>frT s full (kT s x.x λn=>syT s full n)
theorem aaR (gu:Int)(aK:List Sy)(ax:cK)(aL:List (au×Int))(lab:au)(opn:Bool)(bw:au)(aP:Int)(aV:Bool)(aD av:Int)(a0:Int)(a:au)(aC sz op aM:Int)(args:eO)(data:List Dt)(b c:bz)(e0 d:Int)(r:Nat) :
 aT X0 (cV S1 N2 G4 _) gC r 48 [.ptr 0 0,.agg (La ⟨a0,a,aC,sz,op,aM,args,data,b,c,e0,d⟩)] (fT 2 (wW ⟨gu,aK,ax,aL,lab,opn,bw,aP,aV,aD,av⟩ [])) iN=aeV ⟨gu,aK,ax,aL,lab,opn,bw,aP,aV,aD,av⟩ ⟨a0,a,aC,sz,op,aM,args,data,b,c,e0,d⟩:=by kernel_rfl
def endT' (s:SS):OG:=ah (Nat.ble (s.bw.length+DP.length) 9223372036854775807) (frT s (s.bw++DP) (pz s.aK.length (ke [] { Rz s (s.bw++DP) s.aP with opn:=false } 0))) none
theorem aaS (gu:Int)(aK:List Sy)(ax:cK)(aL:List (au×Int))(lab:au)(opn:Bool)(bw:au)(aP:Int)(aV:Bool)(aD av:Int)(r:Nat) :
 aT X0 (cV S1 N2 G4 _) gC r 53 [.ptr 0 0] (fT 2 (wW ⟨gu,aK,ax,aL,lab,opn,bw,aP,aV,aD,av⟩ [])) iN=endT' ⟨gu,aK,ax,aL,lab,opn,bw,aP,aV,aD,av⟩:=by kernel_rfl
def aeW (s:SS)(x:RS):OG:=kT s x.x λn =>
 (λgo:OG=>ah s.aV (ke [] s 8) (ah (bN 0 (s.ax.length:Int)) (ke [] s 8) go)) (ah (bN n 0) (ke [] s 5) (ah (bN 140737488355328 n) (ke [] s 5) (ke [] { s with gu:=n,aV:=true } 0)))
theorem aaT (gu:Int)(aK:List Sy)(ax:cK)(aL:List (au×Int))(lab:au)(opn:Bool)(bw:au)(aP:Int)(aV:Bool)(aD av:Int)(a0:Int)(a:au)(aC sz op aM:Int)(args:eO)(data:List Dt)(b c:bz)(e0 d:Int)(r:Nat) :
 aT X0 (cV S1 N2 G4 _) gC r 50 [.ptr 0 0,.agg (La ⟨a0,a,aC,sz,op,aM,args,data,b,c,e0,d⟩)] (fT 2 (wW ⟨gu,aK,ax,aL,lab,opn,bw,aP,aV,aD,av⟩ [])) iN=aeW ⟨gu,aK,ax,aL,lab,opn,bw,aP,aV,aD,av⟩ ⟨a0,a,aC,sz,op,aM,args,data,b,c,e0,d⟩:=by kernel_rfl
def ak3 (n:Int):Int:=IntKind.wrap .i64 ((BitVec.ofInt 64 n &&& BitVec.ofInt 64 (IntKind.wrap .i64 (n-1))).toNat:Int)
def aeX (s:SS)(x:RS):OG:=kT s x.x λn =>
 ah (bN n 1) (ke [] s 5) (ah (bN 4096 n) (ke [] s 5) (ah (!bS (ak3 n) 0) (ke [] s 5) (Ph s 1 1 0 1 (it4 s.av n))))
theorem aaU (gu:Int)(aK:List Sy)(ax:cK)(aL:List (au×Int))(lab:au)(opn:Bool)(bw:au)(aP:Int)(aV:Bool)(aD av:Int)(a0:Int)(a:au)(aC sz op aM:Int)(args:eO)(data:List Dt)(b c:bz)(e0 d:Int)(r:Nat) :
 aT X0 (cV S1 N2 G4 _) gC r 49 [.ptr 0 0,.agg (La ⟨a0,a,aC,sz,op,aM,args,data,b,c,e0,d⟩)] (fT 2 (wW ⟨gu,aK,ax,aL,lab,opn,bw,aP,aV,aD,av⟩ [])) iN=aeX ⟨gu,aK,ax,aL,lab,opn,bw,aP,aV,aD,av⟩ ⟨a0,a,aC,sz,op,aM,args,data,b,c,e0,d⟩:=by kernel_rfl
def aeY (s:SS)(x:RS)(ai:Int):OG:=kT s x.x λn=>ah (bN n 0) (ke [] s 5) (ah (bS x.sz 0) none (ah (bN (IntKind.wrap .i64 (Int.tdiv 1048576 x.sz)) n) (ke [] s 3)
 (ah s.opn (ke [] { s with aP:=IntKind.wrap .i64 (s.aP+IntKind.wrap .i64 (n*x.sz)) } 0) (V3 s (!bN (IntKind.wrap .i64 (n*x.sz)) 0 && !bN 2000000 (IntKind.wrap .i64 (n*x.sz))) 1 1 (IntKind.wrap .i64 (n*x.sz)) ai (it5 s.av (IntKind.wrap .i64 (n*x.sz)))))))
theorem aaV (gu:Int)(aK:List Sy)(ax:cK)(aL:List (au×Int))(lab:au)(opn:Bool)(bw:au)(aP:Int)(aV:Bool)(aD av:Int)(a0:Int)(a:au)(aC sz op aM:Int)(args:eO)(data:List Dt)(b c:bz)(e0 d ai:Int)(r:Nat) :
 aT X0 (cV S1 N2 G4 _) gC r 54 [.ptr 0 0,.agg (La ⟨a0,a,aC,sz,op,aM,args,data,b,c,e0,d⟩),.int .i64 ai] (fT 2 (wW ⟨gu,aK,ax,aL,lab,opn,bw,aP,aV,aD,av⟩ [])) iN=aeY ⟨gu,aK,ax,aL,lab,opn,bw,aP,aV,aD,av⟩ ⟨a0,a,aC,sz,op,aM,args,data,b,c,e0,d⟩ ai:=by kernel_rfl
end
end Go.Proofs.YtbeckacfibledaaGreatDoor.ps.sr
namespace Go.Proofs.YtbeckacfibledaaGreatDoor.ps.sp
open Go.Tv Go.Ev Go.Proofs.YtbeckacfibledaaGreatDoor.ex
noncomputable section
def X1:ji:={ ex.X0 with fl:=true }
abbrev kn:fZ:=lt.kn
def K0:Wu:=λ_=>none
abbrev inl:FuncId->Bool:=lt.inl
theorem cn {f:FuncId}(h:inl f=true)(args:aW):kn f args=none:=lt.cn h args
def c1 (β:Type):dz β:=uc X1 K0 inl 200 β 40
theorem I4 (β:Type):dO X1 (eM X1 kn) (c1 β):=mM (by intro id s g h;cases h) (λf h args=>cn h args) 200 40 β
def wI (n:Nat):Int:=IntKind.wrap .u64 (IntKind.wrap .i64 (n:Int))
def leB (n:Nat):cZ:=[IntKind.wrap .u8 (Int.fdiv (wI n) 1),IntKind.wrap .u8 (Int.fdiv (wI n) 256),IntKind.wrap .u8 (Int.fdiv (wI n) 65536),IntKind.wrap .u8 (Int.fdiv (wI n) 16777216),IntKind.wrap .u8 (Int.fdiv (wI n) 4294967296),IntKind.wrap .u8 (Int.fdiv (wI n) 1099511627776),IntKind.wrap .u8 (Int.fdiv (wI n) 281474976710656),IntKind.wrap .u8 (Int.fdiv (wI n) 72057594037927936)]
def V5 (n:Nat):Bool:=Ieee.Format.order (FloatKind.format FloatKind.f64) n n != some Ordering.eq
def V6:cZ:=[1,0,0,0,0,0,248,127]
def aaW (n:Nat):Bool:=bS (Int.fdiv (IntKind.wrap .i64 (IntKind.wrap .u64 (IntKind.wrap .u64 (IntKind.wrap .i64 (n:Int))*1))) 1) (IntKind.wrap .i64 (n:Int))
def apT (n:Nat):Bool:=bS (IntKind.wrap .i64 (Int.fdiv (IntKind.wrap .u64 (IntKind.wrap .u64 (IntKind.wrap .i64 (n:Int))*1)) 1)) (IntKind.wrap .i64 (n:Int))
def yI (v:AV)(H:aH):Option (AV×Option Row) :=
 match v with
 |.gI (.own i _::_)=>some (v,H.get i)
 |.own i _=>some (v,H.get i)
 |.tc i _ _ _=>some (v,H.get i)
 |_=>some (v,none)
theorem Dn {v:AV}{H:aH}{r:AV×Option Row}(h:yI v H=some r):v=r.1:=by
 unfold yI at h;split at h<;>(cases h;rfl)
def ptB (n:Nat):cZ:=[IntKind.wrap .u8 (Int.fdiv (n:Int) 1),IntKind.wrap .u8 (Int.fdiv (n:Int) 256),IntKind.wrap .u8 (Int.fdiv (n:Int) 65536),IntKind.wrap .u8 (Int.fdiv (n:Int) 16777216),IntKind.wrap .u8 (Int.fdiv (n:Int) 4294967296),IntKind.wrap .u8 (Int.fdiv (n:Int) 1099511627776),IntKind.wrap .u8 (Int.fdiv (n:Int) 281474976710656),IntKind.wrap .u8 (Int.fdiv (n:Int) 72057594037927936)]
def T7:cu->cZ
 |none=>V6
 |some n=>ah (V5 n) V6 (ptB n)
theorem ov (a:cu):(T7 a).length=8:=by
 cases a with
 |none=>rfl
 |some n =>
  show (ah (V5 n) V6 (ptB n)).length=8;cases V5 n<;>rfl
theorem apV (n:Nat):wI n=(n:Int)%18446744073709551616:=by
 unfold wI IntKind.wrap;have a:IntKind.signed .u64=false:=rfl;have e2:IntKind.signed .i64=true:=rfl;have b:IntKind.bits .u64=64:=rfl;have c:IntKind.bits .i64=64:=rfl;simp only[a,e2,b,c,jY,eF];have d:((2:Int) ^ 64)=18446744073709551616:=by decide
 simp;split<;>omega
theorem yJ {d:Int}(x:Int)(c:Int)(a:0<d)(f:256*d*c=18446744073709551616):IntKind.wrap .u8 (Int.fdiv (x%18446744073709551616) d)=IntKind.wrap .u8 (Int.fdiv x d):=by
 have e:∀y:Int,IntKind.wrap .u8 y=y%256:=λy=>by
  unfold IntKind.wrap;have g:IntKind.signed .u8=false:=rfl;have h:IntKind.bits .u8=8:=rfl;simp only[g,h,jY];simp
 rw[e,e,jG _ (Int.le_of_lt a),jG _ (Int.le_of_lt a)];have b:x%18446744073709551616=x-18446744073709551616*(x/18446744073709551616):=by omega
 generalize x/18446744073709551616=q at b;rw[b,<-f];have i:x-256*d*c*q=x+(-(256*c*q))*d:=by
  have:256*d*c*q=256*c*q*d:=by rw[kQ 256 d c,qe d c,<-kQ 256 c d,kQ (256*c) d q,qe d q,<-kQ]
  rw[this,Int.neg_mul];omega
 rw[i,Int.add_mul_ediv_right _ _ (by omega)];have j : -(256*c*q)=256*(-(c*q)):=by rw[kQ,Int.mul_neg]
 rw[j];omega
theorem ak4 (n:Nat):leB n=ptB n:=by
 unfold leB ptB;rw[apV,yJ (d:=1) _ 72057594037927936 (by decide) (by decide),yJ (d:=256) _ 281474976710656 (by decide) (by decide),yJ (d:=65536) _ 1099511627776 (by decide) (by decide),yJ (d:=16777216) _ 4294967296 (by decide) (by decide),
  yJ (d:=4294967296) _ 16777216 (by decide) (by decide),yJ (d:=1099511627776) _ 65536 (by decide) (by decide),yJ (d:=281474976710656) _ 256 (by decide) (by decide),yJ (d:=72057594037927936) _ 1 (by decide) (by decide)]
theorem V7 (n:Nat):aaW n=true:=by
 unfold aaW;rw[fD,fL];generalize (n:Int)=x;unfold IntKind.wrap;have a:IntKind.signed .u64=false:=rfl;have e2:IntKind.signed .i64=true:=rfl;have b:IntKind.bits .u64=64:=rfl;have c:IntKind.bits .i64=64:=rfl;simp only[a,e2,b,c,jY,eF];have d:((2:Int) ^ 64)=18446744073709551616:=by decide
 simp;split<;>split<;>omega
def obF (l:cZ):Option (AV×Option Row):=some (.tc 0 0 8 8,some (.list 5 (.int .u8) l 8 true false))
set_option maxRecDepth 100000 in
theorem ak5 (n:Nat):aT X1 (c1 _) gC 100 127 [.rL n] aH.empty yI=ah (V5 n) (obF V6) (ah (aaW n) (obF (leB n)) (ah (!apT n) (some (.eB,none)) (obF (leB n)))):=by kernel_rfl
set_option maxRecDepth 100000 in
theorem ak6:aT X1 (c1 _) gC 100 127 [.fl none] aH.empty yI=obF V6:=by kernel_rfl
theorem apW (n:Nat):aT X1 (c1 _) gC 100 127 [.rL n] aH.empty yI=obF (T7 (some n)):=by
 rw[ak5,V7,ak4];show _=obF (ah (V5 n) V6 (ptB n));cases V5 n<;>rfl
def aeZ:aI->Option cu
 |[.rL n]=>some (some n)
 |[.fl a]=>some a
 |_=>none
def apX:cu->AV
 |some n=>.rL n
 |none=>.fl none
theorem ae0 {args:aI}{a:cu}(h:aeZ args=some a):∀S m,LV S args m->LV S [apX a] m:=by
 intro S m c;unfold aeZ at h;split at h
 .cases h;exact c
 .cases h;obtain⟨x,g,rfl,e,f⟩:=c.cons_inv;refine LV.cons ?_ f;cases e with
  |fl b v d =>
   cases a with
   |none=>exact .fl none _ d
   |some n=>rw[d];exact .rL n
 cases h
theorem ae1 {f:FuncId}(j:∀args,kn f args=none){rs:cu->List gj}(h:∀a:cu,∃v o,aT X1 (c1 _) gC 100 f [apX a] aH.empty yI=some (v,o)/\∀M,yI v M=some (v,o)->uQ M [] [v] (rs a)/\tf [v]=v) :
 dQ X1 (eM X1 kn) f λargs=>match aeZ args with|some a=>some (true,rs a)|none=>none:=by
 intro args r b;simp only at b;split at b
 .rename_i a k;simp only[aq,az]at b;obtain⟨_,rfl⟩:=b;obtain⟨v,o,l,g⟩:=h a;obtain⟨v',M1,c,k2⟩:=p7 j (I4 _) l;have e:v'=v:=Dn c;rw[e]at c k2;refine⟨[v],M1,λS E i m d n=>k2 [v] (g M1 c).2.symm S E i m d (ae0 k S i n),(g M1 c).1⟩
 cases b
def rsF (a:cu):List gj:=[.room 5 (.int .u8) (T7 a) 8]
def gF (args:aI):Option (Bool×List gj):=match aeZ args with|some a=>some (true,rsF a)|none=>none
theorem at5:dQ X1 (eM X1 kn) 127 gF :=
 ae1 (λargs=>cn rfl args) (rs:=rsF) λa=>⟨.tc 0 0 8 8,some (.list 5 (.int .u8) (T7 a) 8 true false),by
  cases a with
  |none=>exact ak6
  |some n=>exact apW n,λM b=>⟨⟨rfl,0,8,by rw[ov],(lg (bT b)).2,by simp,trivial⟩,rfl⟩⟩
def N1:List xw:=[(127,[none],gF)]
theorem T4:jy X1 (eM X1 kn) N1:=.cons at5 .nil
def c2 (β:Type):dz β:=uc X1 (Wv N1) inl 200 β 40
theorem Ta (β:Type):dO X1 (eM X1 kn) (c2 β):=mM T4 (λf h args=>cn h args) 200 40 β
abbrev Ob:=Option (AV×Option Row)
def JO (a:cu):cZ:=List.take 8 (List.drop 0 (T7 a))
theorem aaX (a:cu):JO a=T7 a:=by
 unfold JO;rw[j3,<-ov a,l9]
def xu (o v:cZ)(k:Nat->cZ->Ob):Ob:=ah (Nat.ble (o.length+v.length) 2000000) (k (o.length+v.length) (o++v)) none
theorem EK {o v:cZ}(h:o.length+v.length<=2000000)(k:Nat->cZ->Ob):xu o v k=k (o.length+v.length) (o++v):=by
 unfold xu;rw[eN h]
def DV (a b c d:cu):cu:=PV .sub (PV .mul a c) (PV .mul b d)
def DW (a b c d:cu):cu:=PV .add (PV .mul a d) (PV .mul b c)
def uz:Nat:=4607182418800017408
def obE:Ob:=some (.gI [.eB,.int .i64 5],none)
def obO (k:Nat)(o:cZ):Ob:=some (.gI [.own 0 k,.int .i64 0],some (.list 5 (.int .u8) o 0 false false))
def ae2 (a b n:Int)(go:Ob):Ob :=
 ah (bN n 1) obE (ah (bN 64 n) obE (ah (bN a (-9007199254740992)) obE (ah (bN 9007199254740992 a) obE (ah (bN b (-9007199254740992)) obE (ah (bN 9007199254740992 b) obE go)))))
def fI (n:Int):Nat:=FloatKind.nearest .f64 n
def pA:eJ:=[true,true,true,true,false,true,false]
def anA:fe:=⟨iM [8,9,10,38,39] pA,.none,[]⟩
def jA0 (c d:Nat)(n:Int)(r m:Nat)(i:Int):Ob:=jo X1 (c2 _) anA r 94 pA yI m (lS 76 [(8,.eB),(9,.cx (some c) (some d)),(10,.BB (.complex .f64 4607182418800017408 0)),(38,.int .i64 n),(39,.int .i64 i)]) (oL [])
def jA1 (c d:Nat)(n:Int)(r m:Nat)(k:Nat)(o:cZ)(a b:cu)(i:Int):Ob:=jo X1 (c2 _) anA r 94 pA yI m (lS 76 [(8,.own 0 k),(9,.cx (some c) (some d)),(10,.cx a b),(38,.int .i64 n),(39,.int .i64 i)]) (oL [.list 5 (.int .u8) o 0 false false])
set_option maxRecDepth 100000 in
theorem ak9 (c d:Nat)(n:Int)(r m:Nat)(k:Nat)(o:cZ)(a b:cu)(i:Int):jA1 c d n r (m+1) k o a b i =
 ah (bN i n) (xu o (JO a) λ_ e=>xu e (JO b) λk2 f=>jA1 c d n r m k2 f (DV a b (some c) (some d)) (DW a b (some c) (some d)) (IntKind.wrap .i64 (i+1))) (obO k o):=by kernel_rfl
set_option maxRecDepth 100000 in
theorem ala (c d:Nat)(n:Int)(r m:Nat)(i:Int):jA0 c d n r (m+1) i =
 ah (bN i n) (xu [] (JO (some uz)) λ_ a=>xu a (JO (some 0)) λk2 b=>jA1 c d n r m k2 b (DV (some uz) (some 0) (some c) (some d)) (DW (some uz) (some 0) (some c) (some d)) (IntKind.wrap .i64 (i+1))) (some (.gI [.eB,.int .i64 0],none)):=by kernel_rfl
set_option maxRecDepth 100000 in
theorem mZ (a b n:Int)(r:Nat):aT X1 (c2 _) anA r 94 [.int .i64 a,.int .i64 b,.int .i64 n] aH.empty yI=ae2 a b n (jA0 (fI a) (fI b) n r r 0):=by kernel_rfl
def T8:Nat->cu->cu->cu->cu->cZ
 |0,_,_,_,_=>[]
 |k+1,a,b,c,d=>T7 a++(T7 b++T8 k (DV a b c d) (DW a b c d) c d)
theorem T9 (c d:cu):∀(k:Nat) (a b:cu),(T8 k a b c d).length=16*k
 |0,_,_=>rfl
 |k+1,a,b=>by
  unfold T8;rw[aA,aA,ov,ov,T9 c d k];omega
theorem aaN {e:cu->cZ}(g:∀a,e a=T7 a){c d:Nat}{n:Int}(s:n<=64){J:Nat->Nat->cZ->cu->cu->Int->Ob}
 (step:∀m k o a b i,J (m+1) k o a b i=ah (bN i n) (xu o (e a) λ_ h=>xu h (e b) λk2 j=>J m k2 j (DV a b (some c) (some d)) (DW a b (some c) (some d)) (IntKind.wrap .i64 (i+1))) (obO k o)) :
 ∀(q m:Nat) (o:cZ) (a b:cu) (i:Nat),(i:Int)+q=n->q<m->o.length=16*i->J m o.length o a b i=obO (o++T8 q a b (some c) (some d)).length (o++T8 q a b (some c) (some d)):=by
 intro q;induction q with
 |zero =>
  intro m o a b i hi l p;obtain⟨m,rfl⟩:∃f,m=f+1:=⟨m-1,by omega⟩;rw[step,gB (by omega)];show obO _ _=_;rw[T8,dS]
 |succ q r =>
  intro m o a b i hi l p;obtain⟨m,rfl⟩:∃f,m=f+1:=⟨m-1,by omega⟩;rw[step,rC (by omega)];show xu _ _ _=_;rw[g,g,EK (by rw[ov];omega),EK (by rw[aA,ov,ov];omega),<-aA,i64_in (n:=(i:Int)+1) (by omega) (by omega)];have:=r m (o++T7 a++T7 b) (DV a b (some c) (some d)) (DW a b (some c) (some d)) (i+1) (by omega) (by omega) (by rw[aA,aA,ov,ov];omega);refine this.trans ?_;rw[T8,bC,bC]
theorem alb {g:cu->cZ}(h:∀a,g a=T7 a){c d:Nat}{n:Int}(s:1<=n)(p:n<=64){J:Nat->Nat->cZ->cu->cu->Int->Ob}{J0:Nat->Int->Ob}{e:Ob}
 (step:∀m k o a b i,J (m+1) k o a b i=ah (bN i n) (xu o (g a) λ_ j=>xu j (g b) λk2 l=>J m k2 l (DV a b (some c) (some d)) (DW a b (some c) (some d)) (IntKind.wrap .i64 (i+1))) (obO k o))
 (f:∀m i,J0 (m+1) i=ah (bN i n) (xu [] (g (some uz)) λ_ j=>xu j (g (some 0)) λk2 l=>J m k2 l (DV (some uz) (some 0) (some c) (some d)) (DW (some uz) (some 0) (some c) (some d)) (IntKind.wrap .i64 (i+1))) e) :
 J0 66 0=obO (T8 n.toNat (some uz) (some 0) (some c) (some d)).length (T8 n.toNat (some uz) (some 0) (some c) (some d)):=by
 rw[f,rC (by omega)];show xu _ _ _=_;obtain⟨q,r⟩:∃q:Nat,n.toNat=q+1:=⟨n.toNat-1,by omega⟩;rw[h,h,EK (by rw[ov];decide),EK (by rw[aA,ov,ov];decide),<-aA,r,T8,cE];have:=aaN h p step q 65 (T7 (some uz)++T7 (some 0)) (DV (some uz) (some 0) (some c) (some d)) (DW (some uz) (some 0) (some c) (some d)) 1 (by omega) (by omega) (by rw[aA,ov,ov]);refine Eq.trans ?_ (this.trans ?_)
 .rfl
 rw[bC]
def L3 (a b n:Int):Bool:=decide (n<1)||decide (64<n)||decide (a < -9007199254740992)||decide (9007199254740992<a)||decide (b < -9007199254740992)||decide (9007199254740992<b)
theorem ae3 (d e n:Int)(go:Ob):ae2 d e n go=if L3 d e n=true then obE else go:=by
 unfold ae2 L3;simp only[de];by_cases a:n<1
 .simp[a]
 by_cases b:64<n
 .simp[a,b]
 by_cases c:d < -9007199254740992
 .simp[a,b,c]
 by_cases f:9007199254740992<d
 .simp[a,b,c,f]
 by_cases g:e < -9007199254740992
 .simp[a,b,c,f,g]
 by_cases h:9007199254740992<e
 .simp[a,b,c,f,g,h]
 simp[a,b,c,f,g,h]
def pwF (a b n:Int):cZ:=if L3 a b n=true then [] else T8 n.toNat (some uz) (some 0) (some (fI a)) (some (fI b))
def gPw (args:aI):Option (Bool×List gj) :=
 match args with
 |[.int .i64 a,.int .i64 b,.int .i64 n]=>some (true,[.list 5 (.int .u8) (pwF a b n),.val (.int .i64 (if L3 a b n=true then 5 else 0))])
 |_=>none
theorem RY {f:FuncId}(o:∀args,kn f args=none){an:fe}{J0:Nat->Nat->Int->Nat->Int->Ob}(h:∀b g n,aT X1 (c2 _) an 66 f [.int .i64 b,.int .i64 g,.int .i64 n] aH.empty yI=ae2 b g n (J0 (fI b) (fI g) n 66 0))
 (p:∀c d n,1<=n->n<=64->J0 c d n 66 0=obO (T8 n.toNat (some uz) (some 0) (some c) (some d)).length (T8 n.toNat (some uz) (some 0) (some c) (some d))):dQ X1 (eM X1 kn) f gPw:=by
 intro args rs j;unfold gPw at j;split at j;case h_2=>cases j
 rename_i b g n;simp only[aq,az]at j;obtain⟨_,rfl⟩:=j;have a:=h b g n;rw[ae3]at a;unfold pwF;by_cases i:L3 b g n=true
 .rw[ag i]at a ⊢;obtain⟨v,M1,k,k2⟩:=p7 o (Ta _) a;have e:v = .gI [.eB,.int .i64 5]:=Dn k;rw[e]at k2;rw[ag i];exact⟨_,M1,k2 [.eB,.int .i64 5] rfl,rfl,.inr ⟨rfl,rfl,rfl,rfl,trivial⟩⟩
 rw[aa i]at a ⊢;have m:1<=n/\n<=64:=by
  unfold L3 at i;simp only[dA,aZ,mq]at i;omega
 rw[p _ _ _ m.1 m.2]at a;rw[aa i];generalize T8 n.toNat (some uz) (some 0) (some (fI b)) (some (fI g))=l at *;obtain⟨v,M1,k,k2⟩:=p7 o (Ta _) a;have e:v = .gI [.own 0 l.length,.int .i64 0]:=Dn k;rw[e]at k k2;exact⟨_,M1,k2 [.own 0 l.length,.int .i64 0] rfl,rfl,.inl ⟨0,0,false,rfl,(lg (bT k)).2,by simp,rfl,rfl,trivial⟩⟩
theorem apY:dQ X1 (eM X1 kn) 94 gPw :=
 RY (λargs=>cn rfl args) (J0:=λc d n m i=>jA0 c d n 66 m i) (λe f n=>mZ e f n 66) λc d n g h =>
  alb aaX g h (J:=λm k o a b i=>jA1 c d n 66 m k o a b i) (λm k o a b i=>ak9 c d n 66 m k o a b i) (λm i=>ala c d n 66 m i)
theorem RZ:dQ ex.X0 gR 94 gPw:=apY
end
end Go.Proofs.YtbeckacfibledaaGreatDoor.ps.sp
