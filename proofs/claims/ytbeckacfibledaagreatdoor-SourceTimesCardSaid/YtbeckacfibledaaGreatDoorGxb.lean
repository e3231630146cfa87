/- Sources: slices.Clone. -/
import Derived.Test.YtbeckacfibledaaGreatDoorGrh
import Derived.Test.YtbeckacfibledaaGreatDoorGva
import Derived.Test.YtbeckacfibledaaGreatDoorLyh
set_option linter.unusedVariables false
set_option linter.unusedSimpArgs false

namespace Go.Proofs.YtbeckacfibledaaGreatDoor.ps.sr
open Go.Tv Go.Ev Go.Px Go.Pp Go.Proofs.YtbeckacfibledaaGreatDoor.ex
set_option maxRecDepth 100000
noncomputable section
def aaC (f:FuncId):Code:=match X0.P.funcs[f]? with
 |some fn=>match fn.body with
  |some (.seq _ (.seq _ c))=>c
  |_=>.skip
 |none=>.skip
def Dl (t:TypeId)(e:Tv.Ty)(args:aI)(rows:cQ):Option (Bool×AV×cQ) :=
 match args,rows with
 |[.eC a l],[]=>match jl a e l with
  |some l=>some (Nat.ble l.length 2000000,.own 0 l.length,[.list t e l 0 false false])
  |none=>none
 |_,_=>none
theorem RW {t:TypeId}{e:Tv.Ty}{args:aI}{rows outs:cQ}{v:AV}(h:Dl t e args rows=some (true,v,outs)):∃l:List e.den,args=[.eC e l]/\rows=[]/\l.length<=2000000/\v = .own 0 l.length/\outs=[.list t e l 0 false false]:=by
 unfold Dl at h;split at h;case h_2=>cases h
 rename_i d l;split at h;case h_2=>cases h
 rename_i b a;simp only[aq,az]at h;obtain⟨c,rfl,rfl⟩:=h;obtain⟨rfl,a⟩:=cr a;have a:l=b:=a;subst a;exact⟨l,rfl,rfl,aB c,rfl,rfl⟩
structure EJ (f:FuncId)(fn:Func)(t:TypeId)(e:Tv.Ty):Prop where
 aw6:X0.P.funcs[f]? = some fn
 res:fn.results.toList=[.tmp 2]
 nil:∀(R D:Nat) (E:Mem),pg X0.P X0.G lt.kn R (D+1) f [.slice none 0 0] E=some (.slice none 0 0,E)
 head:∀(call:dx) (R:Nat) (a:Addr) (len cap:Nat) (E:Mem),mZ X0.P X0.G call R f [.slice (some a) len cap] E =
  match (Fr.mk 8 (Tr.full (yQ 8))).fill 0 [.slice (some a) len cap] with
  |some f0=>match f0.put (some 2) (.slice none 0 0) with
   |some f1=>match f1.put (some 3) (.slice (some a) len cap) with
    |some f2=>match f2.put (some 4) (.bool false) with
     |some f3=>Ek X0.P fn (lq X0.P X0.G call (wq X0.P X0.G call R R) R (aaC f) f3 E)
     |none=>none
    |none=>none
   |none=>none
  |none=>none
 run:∀l:List e.den,jm X0 (cN [] [] _) [] (λ_ _ _ _ _=>none) 5 (aaC f) .none (lS 8 [(0,.eC e l),(2,.eB),(3,.lG),(4,.lG)]) aH.empty (λlv f H=>match lv with
  |.ret=>iN (f.get 2) H
  |_=>none)=ah (Nat.ble (0+l.length) 2000000) (some (.own 0 l.length,[.list t e l 0 false false])) none
theorem Dm {f:FuncId}(q:lt.inl f=true){fn:Func}{t:TypeId}{e:Tv.Ty}(h:EJ f fn t e):lK X0 gR f (Dl t e):=by
 intro args rows v outs M p S E bU O s u C;obtain⟨l,rfl,rfl,hlen,rfl,rfl⟩:=RW M;subst O;obtain⟨x,rfl,Q⟩:=LV.single C;have b:(l=[]/\x = .slice none 0 0)\/∃a len cap,x = .slice (some a) len cap:=by
  cases Q with
  |eC _ _ _ T =>
   rcases T with⟨j,m|m⟩|⟨i,pre,mid,post,cap,j,_⟩
   .exact .inl ⟨j,m⟩
   .exact .inr ⟨_,_,_,m⟩
   exact .inr ⟨_,_,_,j⟩
 rcases b with⟨rfl,rfl⟩|⟨a,len,cap,rfl⟩
 .have U:∀v,S.Γ (fT 0 []).next v=none:=λv=>s.D5 _ _ (aG _)
  obtain⟨b1,b2,b3⟩:=s.add (E':=E) (r:=.list t e [] 0 false false) (x:=none) (g:=some ⟨e,[]⟩) (aG _) rfl (λ_ _=>rfl) (λr' w=>by cases w;exact mK U) (λy hy=>by cases hy) rfl;have V:VR (S.new (fT 0 []).next none (some ⟨e,[]⟩)) (.own 0 0) (.slice none 0 0):=.iw 0 ⟨e,[]⟩ (by simp[Wo.new,fT]) rfl;refine⟨_,.slice none 0 0,E,⟨1,λn z=>?_⟩,V,b2,b3.PM⟩;obtain⟨R,D⟩:=n;obtain⟨A,rfl⟩:∃A,D=A+1:=⟨D-1,by have:=z.2;simp only at this;omega⟩;exact h.nil R A E
 have d:=h.run l;rw[eN (by omega)]at d;have W:wM X0 false (β:=AV×cQ) (λ_ _ _ _ _=>none) (λn=>wq X0.P X0.G (gR n) n.1 n.1):=λc rest f H k r h=>by cases h
 obtain⟨lv,f',X,j,m⟩:=KV (kP .nil n0 _) W 5 (aaC f) .none (λ_=>rfl) _ _ _ _ d;split at j;case h_2=>cases j
 obtain⟨Y,e0⟩:=Az [.slice (some a) len cap] (Fr.mk 8 (Tr.full (yQ 8))) 0;obtain⟨Z,F⟩:=Fr.qH Y (some 2) (.slice none 0 0);obtain⟨f2,e2⟩:=Fr.qH Z (some 3) (.slice (some a) len cap);obtain⟨f3,I⟩:=Fr.qH f2 (some 4) (.bool false);have r0:nP S (gJ.mk 8 .e) (Fr.mk 8 (Tr.full (yQ 8))):=⟨rfl,λi=>.lG _⟩;have r1:=FQ r0 C e0;have r2:=r1.put (v:=.eB) .eB F;have r3:=r2.put (v:=.lG) (.lG _) e2;have r4:=r3.put (v:=.lG) (.lG _) I;obtain⟨S1,J,B,a1,a2,a3,K,_⟩:=m S E f3 s u r4;obtain⟨S2,c1,c2,L⟩:=RR j a3 (a2.v 2)
 have o:X.par=0:=K.Ak;rw[o]at c2 L;refine⟨S2,J.get 2,B,iy (λargs=>lt.cn q args) ?_,c1,c2,K.trans L⟩;obtain⟨N,a1⟩:=a1;refine⟨N,λn z=>?_⟩;have:=a1 n z;show mZ X0.P X0.G (gR n) n.1 f [.slice (some a) len cap] E=_;rw[h.head];simp only[e0,F,e2,I,this];show dh B ((lQ X0.P B J fn.results.toList).map xH)=_;rw[h.res];rfl
theorem aaD:EJ 122 Tryz.f122 76 fA :=
 ⟨by kernel_rfl,rfl,λR D E=>by kernel_rfl,λcall R a len cap E=>by kernel_rfl,λl=>by kernel_rfl⟩
theorem VW:EJ 126 Tryz.f126 117 lD :=
 ⟨by kernel_rfl,rfl,λR D E=>by kernel_rfl,λcall R a len cap E=>by kernel_rfl,λl=>by kernel_rfl⟩
theorem aaE:EJ 96 Tryz.f96 5 (.int .u8) :=
 ⟨by kernel_rfl,rfl,λR D E=>by kernel_rfl,λcall R a len cap E=>by kernel_rfl,λl=>by kernel_rfl⟩
def l6 (s:au):cA:=(sl.kJ [] [] s).map sl.gh
def itS:ItT:=λf=>ah (Nat.beq f (sL 40)) (some l6) none
theorem akC (f:FuncId)(it:au->cA)(h:itS f=some it):RV X0 lt.kn f it:=by
 unfold itS at h;rw[ay]at h;split at h;case isFalse=>cases h
 rename_i a;obtain rfl:=bt a;cases h;refine⟨by kernel_rfl,λi=>by kernel_rfl,λs b=>?_⟩;have e:lt.kn (sL 40) [jk,.string ⟨s.toArray⟩]=ah (Nat.ble (nm.xl (s.toArray).toList 0) 2000000) (some (.tuple (rg.yg ⟨s.toArray⟩).toArray)) none:=by kernel_rfl
 have c:nm.xl (s.toArray).toList 0=s.length:=by rw[nm.K5];simp
 rw[c,eN b]at e;refine e.trans ?_;have e2:rg.yg ⟨s.toArray⟩=(l6 s).map λx=>Value.string ⟨x.toArray⟩:=by
  unfold rg.yg l6;rw[nC];rfl
 rw[e2]
def cV (M:List xw)(N:List rf)(G:List Cf)(β:Type):dz β:=aaA X0 (Wv M) (adt N) (akB G) itS lt.inl 400 β 40
theorem rF {M:List xw}{N:List rf}{G:List Cf}(a:jy X0 gR M)(b:jc X0 gR N)(c:rB X0 gR G)(β:Type):dO X0 gR (cV M N G β) :=
 aaB a b c akC (λf h args=>lt.cn h args) 400 40 β
def S1:List xw:=(86,[some fA],gNm)::(87,[some fA,some je,none,none],gEv)::(64,[none,none],lt.adj)::[]
theorem oT:jy X0 gR S1:=.cons akw (.cons aau (.cons (lt.agi lt.C6) .nil))
def apG:Tv.Ty:=.pair (.int .i64) (.pair (.int .i64) (.sl lD))
def sJ:Tv.Ty:=.pair (.int .i64) (.pair (.int .i64) (.pair .str (.pair apG (.pair (.sl fA) (.pair (.sl (.int .u8)) (.int .i64))))))
def G1:List Cf:=[(122,⟨0,[],Dl 76 fA⟩),(126,⟨0,[],Dl 117 lD⟩),(96,⟨0,[],Dl 5 (.int .u8)⟩)]
theorem Pa:rB X0 gR G1:=.cons (Dm rfl aaD) (.cons (Dm rfl VW) (.cons (Dm rfl aaE) .nil))
abbrev OL:=Option aI
def uF {α β:Type}(L:List α)(i:Int)(k:α->Option β):Option β:=Option.rec (motive:=λ_=>Option β) none (λy=>k y) (eL L i)
theorem si {α β:Type}{L pre a:List α}{y:α}(b:L=pre++y::a)(k:α->Option β):uF L (pre.length:Int) k=k y:=by
 unfold uF;rw[b,mc]
def nmT {β:Type}(c s:au)(k:au->Option β):Option β:=ah (lt.preB s [46]) (ah (Nat.ble (c.length+s.length) 9223372036854775807) (k (c++s)) none) (k s)
theorem LY {β:Type}{c s:au}(h:c.length+s.length<=9223372036854775807)(k:au->Option β):nmT c s k=k (iE c s):=by
 unfold nmT iE;rw[ay,eN h];unfold lt.preB;by_cases a:s.take 1=[46]
 .rw[ag a,ag (by simpa using a)]
 rw[aa a,aa (by simpa using a)]
def pNo:eJ:=[true,true,true,false,true,false]
def aeD:fe:=⟨iM [2,6,7,12,13] pNo,.none,[]⟩
def aeE:List (List (Option Tv.Ty)):=[[some fA],[none]]
def jNo (c:au)(r m n:Nat)(L:bz)(ok:Bool)(len i:Int):OL:=jo X0 (cV S1 [] G1 _) aeD r 85 pNo (tn aeE) m (lS 46 [(2,.ptr 0 0),(6,.own 1 n),(7,.bool ok),(12,.int .i64 len),(13,.int .i64 i)]) (oL [.cells 106 [.str c],.list 76 fA L 0 false false])
def stepN' (c:au)(L:bz)(ok:Bool)(len i:Int)(J:bz->Bool->OL):OL :=
 ah (bN i len) (uF L i λy=>ah (bS y.1 2) (uF L i λd=>nmT c d.2.2.1 λw=>uF L i λa=>(λb:bz=>ah ok (uF b i λe=>J b (!bN 60 (e.2.2.1.length:Int))) (J b false)) (L.set i.toNat (a.1,a.2.1,w,a.2.2.2.1,a.2.2.2.2))) (J L ok))
  (some [.eC fA L,.bool ok])
theorem aaF (c:au)(r m n:Nat)(L:bz)(ok:Bool)(len i:Int):jNo c r (m+1) n L ok len i=stepN' c L ok len i λb a=>jNo c r m n b a len (IntKind.wrap .i64 (i+1)):=by kernel_rfl
theorem aeF (c:au)(x:bz)(r:Nat):aT X0 (cV S1 [] G1 _) aeD r 85 [.agg [.str c],.eC fA x] aH.empty (tn aeE)=ah (Nat.ble x.length 2000000) (jNo c r r x.length x true x.length 0) none:=by kernel_rfl
def fq (x:bz):Bool:=Nat.ble x.length 2000000&&x.all λy=>Nat.ble y.2.2.1.length 2000000
theorem akE {c:au}(s:c.length<=2000000)(r n:Nat)(x:bz)(t:x.length<=2000000)(l:∀y∈x,y.2.2.1.length<=2000000):∀(rest pre:bz) (m:Nat) (ok:Bool),x=pre++rest->rest.length<m ->
 jNo c r m n (pre.map (OK c)++rest) ok x.length pre.length=some [.eC fA (x.map (OK c)),.bool (ok&&rest.all (ndB c))]:=by
 intro rest;induction rest with
 |nil =>
  intro pre m ok f g;obtain⟨m,rfl⟩:∃h,m=h+1:=⟨m-1,by simp at g;omega⟩;obtain rfl:x=pre:=by rw[f];simp
  rw[aaF];unfold stepN';rw[gB (by omega)];show some _=some _;simp
 |cons y rest o =>
  intro pre m ok f g;obtain⟨m,rfl⟩:∃h,m=h+1:=⟨m-1,by simp at g;omega⟩;have u:x.length=pre.length+(rest.length+1):=by rw[f];simp
  have hy:=l y (by rw[f];simp);have a:((pre.map (OK c)).length:Int)=pre.length:=by simp
  have go:∀b:Bool,jNo c r m n (pre.map (OK c)++OK c y::rest) b x.length (IntKind.wrap .i64 ((pre.length:Int)+1))=some [.eC fA (x.map (OK c)),.bool (b&&rest.all (ndB c))]:=λb=>by
   rw[i64_in (n:=(pre.length:Int)+1) (by omega) (by omega)];have:=o (pre++[y]) m b (by rw[f];simp) (by simp at g;omega);simpa using this
  rw[aaF];unfold stepN';rw[rC (by omega)];show uF _ _ _=_;rw[<-a,si rfl,cH];by_cases d:y.1=2
  .rw[ag d,si rfl,LY (by omega),si rfl];have p:(pre.map (OK c)++y::rest).set (((pre.map (OK c)).length:Int).toNat) (y.1,y.2.1,iE c y.2.2.1,y.2.2.2.1,y.2.2.2.2)=pre.map (OK c)++OK c y::rest:=by
    rw[bf,jF _ _ (aG _),nG];have:OK c y=(y.1,y.2.1,iE c y.2.2.1,y.2.2.2):=by unfold OK;rw[ag d]
    rw[this];rfl
   simp only[p];rw[ck];have i:ndB c y=Nat.ble (iE c y.2.2.1).length 60:=by unfold ndB;rw[d];rfl
   cases ok with
   |true =>
    show uF _ _ _=_;rw[si rfl,a,go,i,eF];have:(OK c y).2.2.1=iE c y.2.2.1:=by unfold OK;rw[ag d]
    rw[this];have e:(!bN 60 ((iE c y.2.2.1).length:Int))=Nat.ble (iE c y.2.2.1).length 60:=by
     rw[dc];by_cases j:(iE c y.2.2.1).length<=60
     .rw[eN j,aY (by omega)];rfl
     have:Nat.ble (iE c y.2.2.1).length 60=false:=by
      cases q:Nat.ble (iE c y.2.2.1).length 60 with
      |true=>exact absurd (aB q) j
      |false=>rfl
     rw[this,bg (by omega)];rfl
    rw[e]
   |false =>
    show jNo _ _ _ _ _ _ _ _=_;rw[a,go];rfl
  rw[aa d,a];have:OK c y=y:=by unfold OK;rw[aa d]
  have k:=go ok;rw[this]at k;refine k.trans ?_;rw[ck];have i:ndB c y=true:=by unfold ndB;rw[aY d];rfl
  rw[i,eF]
def fNo (args:aI):Option (Bool×aI) :=
 match args with
 |[.agg [.str c],.eC e x]=>match jl e fA x with
  |some x=>some (Nat.ble c.length 2000000&&fq x,[.eC fA (dL c x).1,.bool (dL c x).2])
  |none=>none
 |_=>none
theorem Pb {x:bz}(h:fq x=true):x.length<=2000000/\∀y∈x,y.2.2.1.length<=2000000:=by
 unfold fq at h;rw[ak]at h;exact⟨aB h.1,λy hy=>aB (aN.1 h.2 y hy)⟩
theorem apH {c:au}(b:c.length<=2000000){x:bz}(d:fq x=true):aT X0 (cV S1 [] G1 _) aeD (x.length+1) 85 [.agg [.str c],.eC fA x] aH.empty (tn aeE)=some [.eC fA (dL c x).1,.bool (dL c x).2]:=by
 obtain⟨a,e⟩:=Pb d;rw[aeF,eN a];show jNo _ _ _ _ _ _ _ _=_;have:=akE b (x.length+1) x.length x a e x [] (x.length+1) true rfl (by omega);refine this.trans ?_;rw[eF];rfl
theorem con_V' {id:FuncId}(d:lt.inl id=true){M:List xw}{N:List rf}{G:List Cf}(e:jy X0 gR M)(g:jc X0 gR N)(i:rB X0 gR G){sig:List (Option (TypeId×Tv.Ty))}{f:aI->Option (Bool×aI)}(sg:List (List (Option Tv.Ty)))
 (h:∀vs b,f vs=some (true,b)->b.all Gj=true/\∃an rounds,aT X0 (cV M N G _) an rounds id vs aH.empty (tn sg)=some b):iI X0 gR id ⟨none,sig,gV f⟩ :=
 Ou (nk d) (rF e g i) sg λins outs rs a=>by
  unfold gV at a;split at a;case h_2=>cases a
  rename_i vs j;split at a;case h_2=>cases a
  rename_i c b k;simp only[aq,az]at a;obtain⟨rfl,_,rfl⟩:=a;obtain⟨l,an,rounds,m⟩:=h vs b k;have hi:=sH j;subst hi;refine⟨an,rounds,b,?_,rfl,l⟩;rw[uj,wT];exact m
theorem akF:iI X0 gR 85 ⟨none,[none,none],gV fNo⟩ :=
 con_V' rfl oT n0 Pa aeE λvs h a=>by
  unfold fNo at a;split at a;case h_2=>cases a
  rename_i c e x;split at a;case h_2=>cases a
  rename_i d b;simp only[aq,az,ak]at a;obtain⟨⟨f,g⟩,rfl⟩:=a;obtain⟨rfl,b⟩:=cr b;have b:x=d:=b;subst b;exact⟨rfl,aeD,x.length+1,apH (aB f) g⟩
def N1:List rf:=[(85,⟨none,[none,none],gV fNo⟩)]
theorem T4:jc X0 gR N1:=.cons akF .nil
def Ox:fe:=⟨iM [2,3,4,6,16,17] pNo,.none,[]⟩
def Pc:List (List (Option Tv.Ty)):=[[none,none,some lD],[none]]
def Tx (c:au)(op aM:Int)(r m n:Nat)(L:eO)(ok:Bool)(len i:Int):OL:=jo X0 (cV S1 N1 G1 _) Ox r 88 pNo (tn Pc) m (lS 44 [(2,.ptr 0 0),(3,.ptr 1 0),(4,.ptr 2 0),(6,.bool ok),(16,.int .i64 len),(17,.int .i64 i)])
 (oL [.cells 106 [.str c],.cells 36 [.int .i64 op,.int .i64 aM,.own 3 n],.cells 36 [.int .i64 0,.int .i64 0,.eB],.list 117 lD L 0 false false])
def cmO (op aM:Int)(L:eO)(ok:Bool):OL:=some [.agg [.int .i64 op,.int .i64 aM,.eC lD L],.bool ok]
def stepC' (c:au)(op aM:Int)(L:eO)(ok:Bool)(len i:Int)(J:eO->Bool->OL):OL :=
 ah (bN i len) (uF L i λy=>ah (Nat.ble c.length 2000000&&fq y.2.2.2.1) (uF L i λa=>(λb:eO=>ah ok (J b (dL c y.2.2.2.1).2) (J b false)) (L.set i.toNat (a.1,a.2.1,a.2.2.1,(dL c y.2.2.2.1).1,a.2.2.2.2))) none)
  (cmO op aM L ok)
theorem Lv (c:au)(op aM:Int)(r m n:Nat)(L:eO)(ok:Bool)(len i:Int):Tx c op aM r (m+1) n L ok len i=stepC' c op aM L ok len i λb a=>Tx c op aM r m n b a len (IntKind.wrap .i64 (i+1)):=by kernel_rfl
theorem Lw (c:au)(op aM:Int)(l:eO)(r:Nat):aT X0 (cV S1 N1 G1 _) Ox r 88 [.agg [.str c],.agg [.int .i64 op,.int .i64 aM,.eC lD l]] aH.empty (tn Pc)=ah (Nat.ble l.length 2000000) (Tx c op aM r r l.length l true l.length 0) none:=by kernel_rfl
def pW (l:eO):Bool:=Nat.ble l.length 2000000&&l.all λy=>fq y.2.2.2.1
theorem Lx {c:au}(g:c.length<=2000000)(op aM:Int)(r n:Nat)(x:eO)(k:x.length<=2000000)(h:∀y∈x,fq y.2.2.2.1=true):∀(rest pre:eO) (m:Nat) (ok:Bool),x=pre++rest->rest.length<m ->
 Tx c op aM r m n (pre.map (GS c)++rest) ok x.length pre.length=cmO op aM (x.map (GS c)) (ok&&rest.all λr=>(dL c r.2.2.2.1).2):=by
 intro rest;induction rest with
 |nil =>
  intro pre m ok d e;obtain⟨m,rfl⟩:∃f,m=f+1:=⟨m-1,by simp at e;omega⟩;obtain rfl:x=pre:=by rw[d];simp
  rw[Lv];unfold stepC';rw[gB (by omega)];show cmO _ _ _ _=_;simp
 |cons y rest i =>
  intro pre m ok d e;obtain⟨m,rfl⟩:∃f,m=f+1:=⟨m-1,by simp at e;omega⟩;have l:x.length=pre.length+(rest.length+1):=by rw[d];simp
  have hy:=h y (by rw[d];simp);have b:((pre.map (GS c)).length:Int)=pre.length:=by simp
  have go:∀a:Bool,Tx c op aM r m n (pre.map (GS c)++GS c y::rest) a x.length (IntKind.wrap .i64 ((pre.length:Int)+1))=cmO op aM (x.map (GS c)) (a&&rest.all λr=>(dL c r.2.2.2.1).2):=λa=>by
   rw[i64_in (n:=(pre.length:Int)+1) (by omega) (by omega)];have:=i (pre++[y]) m a (by rw[d];simp) (by simp at e;omega);simpa using this
  rw[Lv];unfold stepC';rw[rC (by omega)];show uF _ _ _=_;rw[<-b,si rfl,eN g,hy];show uF _ _ _=_;rw[si rfl];have j:(pre.map (GS c)++y::rest).set (((pre.map (GS c)).length:Int).toNat) (y.1,y.2.1,y.2.2.1,(dL c y.2.2.2.1).1,y.2.2.2.2)=pre.map (GS c)++GS c y::rest:=by
   rw[bf,jF _ _ (aG _),nG];rfl
  simp only[j];rw[ck];cases ok with
  |true =>
   show Tx _ _ _ _ _ _ _ _ _ _=_;rw[b,go,eF]
  |false =>
   show Tx _ _ _ _ _ _ _ _ _ _=_;rw[b,go];rfl
def fCm (args:aI):Option (Bool×aI) :=
 match args with
 |[.agg [.str c],.agg [.int .i64 op,.int .i64 aM,.eC e x]]=>match jl e lD x with
  |some x=>some (Nat.ble c.length 2000000&&pW x,[.agg [.int .i64 op,.int .i64 aM,.eC lD (GU c x).1],.bool (GU c x).2])
  |none=>none
 |_=>none
theorem DT {x:eO}(h:pW x=true):x.length<=2000000/\∀y∈x,fq y.2.2.2.1=true:=by
 unfold pW at h;rw[ak]at h;exact⟨aB h.1,λy hy=>aN.1 h.2 y hy⟩
theorem Rp:iI X0 gR 88 ⟨none,[none,none],gV fCm⟩ :=
 con_V' rfl oT T4 Pa Pc λvs i a=>by
  unfold fCm at a;split at a;case h_2=>cases a
  rename_i c op aM e x;split at a;case h_2=>cases a
  rename_i f b;simp only[aq,az,ak]at a;obtain⟨⟨g,h⟩,rfl⟩:=a;obtain⟨rfl,b⟩:=cr b;have b:x=f:=b;subst b;obtain⟨d,k2⟩:=DT h;refine⟨rfl,Ox,x.length+1,?_⟩;rw[Lw,eN d];show Tx _ _ _ _ _ _ _ _ _ _=_;refine(Lx (aB g) op aM (x.length+1) x.length x d k2 x [] (x.length+1) true rfl (by omega)).trans ?_;rw[eF];rfl
def N2:List rf:=(88,⟨none,[none,none],gV fCm⟩)::N1
theorem vU:jc X0 gR N2:=.cons Rp T4
abbrev OG:=Option (AV×cQ)
def rdX (m a b c d:Nat)(s:SS):aI:=[.int .i64 s.gu,.own a c,.own b d,.zN m,.str s.lab,.bool s.opn,.str s.bw,.int .i64 s.aP,.bool s.aV,.int .i64 s.aD,.int .i64 s.av]
def wW (s:SS)(cs:cQ):cQ:=.cells 70 (rdX (cs.length+1) (cs.length+2) (cs.length+3) s.aK.length s.ax.length s)::(cs++[.mp 68 s.aL,.list 59 je s.aK 0 false false,.list 52 sJ s.ax 0 false false])
def vV (n:Nat)(c:Row)(l:cQ):Option (Bool×SS) :=
 match c,l with
 |.cells t [.int .i64 gu,.own a d,.own b e,.zN m,.str lab,.bool opn,.str bw,.int .i64 aP,.bool aV,.int .i64 aD,.int .i64 av],[.mp f aL,.list g e2 aK 0 false false,.list h i ax 0 false false] =>
  match jl e2 je aK,jl i sJ ax with
  |some aK,some ax=>some (Nat.beq t 70&&(Nat.beq f 68&&(Nat.beq g 59&&(Nat.beq h 52&&(Nat.beq m (n+1)&&(Nat.beq a (n+2)&&(Nat.beq b (n+3)&&(Nat.beq d aK.length&&Nat.beq e ax.length))))))),⟨gu,aK,ax,aL,lab,opn,bw,aP,aV,aD,av⟩)
  |_,_=>none
 |_,_=>none
theorem ig {n:Nat}{c:Row}{l:cQ}{s:SS}(h:vV n c l=some (true,s)):c = .cells 70 (rdX (n+1) (n+2) (n+3) s.aK.length s.ax.length s)/\l=[.mp 68 s.aL,.list 59 je s.aK 0 false false,.list 52 sJ s.ax 0 false false]:=by
 unfold vV at h;split at h;case h_2=>cases h
 rename_i t gu a k b o m lab opn bw aP aV aD av x aL y e2 aK z A ax;split at h;case h_2=>cases h
 rename_i e d f g;simp only[aq,az,ak,aQ]at h;obtain⟨⟨g1,p,q,r,u,v,w,i,j⟩,rfl⟩:=h;subst g1;subst p;subst q;subst r;subst u;subst v;subst w;obtain⟨rfl,f⟩:=cr f;obtain⟨rfl,g⟩:=cr g;have f:aK=e:=f;have g:ax=d:=g;subst f;subst g;have i:k=aK.length:=i;have j:o=ax.length:=j;subst i;subst j;exact⟨rfl,rfl⟩
def knB (s:SS):Bool:=s.aL.all λq=>Nat.ble (q.2.toNat) s.aK.length
def akG (s:SS):Bool:=Nat.ble s.lab.length 1000000&&Nat.ble s.bw.length 1000000
theorem aeH {s:SS}(h:knB s=true)(w:au)(a:0<ju s.aL w):ju s.aL w<=s.aK.length:=by
 have:∀l:List (au×Int),(l.all λq=>Nat.ble (q.2.toNat) s.aK.length)=true->0<ju l w->ju l w<=s.aK.length:=by
  intro l;induction l with
  |nil=>intro _ a;exact absurd a (by show ¬(0:Int)<0;decide)
  |cons q l d =>
   intro b a;rw[ck,ak]at b;unfold ju at a ⊢;rw[ay]at a ⊢;by_cases c:decide (w=q.1)=true
   .rw[ag c]at a ⊢;have:=aB b.1;omega
   rw[aa c]at a ⊢;exact d b.2 a
 exact this s.aL h a
def iz (x:bz)(l:List Sy):Int×Bool×Int:=TR x l 0 0
def gG (x:bz):cA:=if tj bZ x=0 then wU x [] else []
def pCn:eJ:=[true,true,true,true,false,true,false]
def aaG:fe:=⟨iM [0,6,25,26,27,8] pCn,.none,[]⟩
def mK0 (s:SS)(nm:cA):aH:=fT 2 [.cells 70 (rdX 1 3 4 s.aK.length s.ax.length s),.mp 68 s.aL,.list 9 .str nm 0 false false,.list 59 je s.aK 0 false false,.list 52 sJ s.ax 0 false false]
def mK1 (s:SS)(nm:cA)(l:List Sy):aH:=fT 2 [.cells 70 (rdX 1 4 5 s.aK.length s.ax.length s),.mp 68 s.aL,.list 9 .str nm 0 false false,.list 59 je l 0 false false,.list 59 je s.aK 0 false false,.list 52 sJ s.ax 0 false false]
def jK0 (s:SS)(X:bz)(nm:cA)(r m n:Nat)(len i:Int):OG:=jo X0 (cV S1 N2 G1 _) aaG r 44 pCn iN m (lS 66 [(0,.ptr 0 0),(6,.eC fA X),(25,.own 2 n),(26,.int .i64 len),(27,.int .i64 i),(8,.eB)]) (mK0 s nm)
def VX (s:SS)(X:bz)(nm:cA)(r m n:Nat)(l:List Sy)(k:Nat)(len i:Int):OG:=jo X0 (cV S1 N2 G1 _) aaG r 44 pCn iN m (lS 66 [(0,.ptr 0 0),(6,.eC fA X),(25,.own 2 n),(26,.int .i64 len),(27,.int .i64 i),(8,.own 3 k)]) (mK1 s nm l)
def LZ (s:SS)(q:Int×Int):OG:=some (.gI [.int .i64 q.1,.int .i64 q.2],wW s [])
def Eg (s:SS)(X:bz)(l:List Sy):OG:=ah (Nat.ble l.length 2000000) (ah (!bS (TR X l 0 0).2.2 0) (LZ s (0,(TR X l 0 0).2.2)) (ah (TR X l 0 0).2.1 (LZ s (0,5)) (LZ s ((TR X l 0 0).1,0)))) none
def xk (s:SS)(nm:cA)(len i:Int)(fin skip:OG)(new:Sy->OG):OG :=
 ah (bN i len) (uF nm i λw=>ah (bN 0 (ju s.aL w)) (uF s.aK (IntKind.wrap .i64 (ju s.aL w-1)) λy=>new (y.1,y.2.1,y.2.2)) skip) fin
theorem aaH (gu:Int)(aK:List Sy)(ax:cK)(aL:List (au×Int))(lab:au)(opn:Bool)(bw:au)(aP:Int)(aV:Bool)(aD av:Int)(X:bz)(nm:cA)(r m n:Nat)(len i:Int) :
 jK0 ⟨gu,aK,ax,aL,lab,opn,bw,aP,aV,aD,av⟩ X nm r (m+1) n len i =
 xk ⟨gu,aK,ax,aL,lab,opn,bw,aP,aV,aD,av⟩ nm len i (Eg ⟨gu,aK,ax,aL,lab,opn,bw,aP,aV,aD,av⟩ X []) (jK0 ⟨gu,aK,ax,aL,lab,opn,bw,aP,aV,aD,av⟩ X nm r m n len (IntKind.wrap .i64 (i+1)))
  λy=>VX ⟨gu,aK,ax,aL,lab,opn,bw,aP,aV,aD,av⟩ X nm r m n [y] 1 len (IntKind.wrap .i64 (i+1)):=by kernel_rfl
theorem aaI (gu:Int)(aK:List Sy)(ax:cK)(aL:List (au×Int))(lab:au)(opn:Bool)(bw:au)(aP:Int)(aV:Bool)(aD av:Int)(X:bz)(nm:cA)(r m n:Nat)(l:List Sy)(k:Nat)(len i:Int) :
 VX ⟨gu,aK,ax,aL,lab,opn,bw,aP,aV,aD,av⟩ X nm r (m+1) n l k len i =
 xk ⟨gu,aK,ax,aL,lab,opn,bw,aP,aV,aD,av⟩ nm len i (Eg ⟨gu,aK,ax,aL,lab,opn,bw,aP,aV,aD,av⟩ X l) (VX ⟨gu,aK,ax,aL,lab,opn,bw,aP,aV,aD,av⟩ X nm r m n l k len (IntKind.wrap .i64 (i+1)))
  λy=>ah (Nat.ble (l.length+1) 2000000) (VX ⟨gu,aK,ax,aL,lab,opn,bw,aP,aV,aD,av⟩ X nm r m n (l++[y]) (l.length+1) len (IntKind.wrap .i64 (i+1))) none:=by kernel_rfl
theorem akH (gu:Int)(aK:List Sy)(ax:cK)(aL:List (au×Int))(lab:au)(opn:Bool)(bw:au)(aP:Int)(aV:Bool)(aD av:Int)(x:bz)(r:Nat) :
 aT X0 (cV S1 N2 G1 _) aaG r 44 [.ptr 0 0,.eC fA x] (fT 2 (wW ⟨gu,aK,ax,aL,lab,opn,bw,aP,aV,aD,av⟩ [])) iN =
 (λgo:au->OG=>ah opn (go bw) (go lab)) λc=>ah (Nat.ble c.length 2000000&&fq x) (ah (!(dL c x).2) (LZ ⟨gu,aK,ax,aL,lab,opn,bw,aP,aV,aD,av⟩ (0,3))
  (jK0 ⟨gu,aK,ax,aL,lab,opn,bw,aP,aV,aD,av⟩ (dL c x).1 (gG (dL c x).1) r r (gG (dL c x).1).length (gG (dL c x).1).length 0)) none:=by kernel_rfl
theorem VY {α:Type}{l:List α}{i:Int}(a:0<=i)(d:i<l.length):∃y pre b,l=pre++y::b/\(pre.length:Int)=i/\eL l i=some y:=by
 obtain⟨n,rfl⟩:=Int.eq_ofNat_of_zero_le a;have c:n<l.length:=by omega
 refine⟨l[n],l.take n,l.drop (n+1),?_,?_,?_⟩
 .rw[List.getElem_cons_drop,fk]
 .rw[bV];omega
 show l[n]? = _;exact aR c
theorem Pd {s:SS}(c:knB s=true)(d:s.aK.length<=2000000){nm pre rest:cA}{w:au}(b:nm=pre++w::rest)(fin skip:OG)(new:Sy->OG) :
 xk s nm nm.length pre.length fin skip new=match rz s w with
  |some y=>new y
  |none=>skip:=by
 have e:nm.length=pre.length+(rest.length+1):=by rw[b];simp
 unfold xk rz;rw[rC (by omega),b];show uF _ _ _=_;rw[si rfl,de];by_cases a:0<ju s.aL w
 .rw[ag a,ag a];have f:=aeH c w a;rw[i64_in (n:=ju s.aL w-1) (by omega) (by omega)];obtain⟨y,_,_,_,_,hy⟩:=VY (l:=s.aK) (i:=ju s.aL w-1) (by omega) (by omega);unfold uF;rw[hy]
 rw[aa a,aa a]
theorem akI {s:SS}(j:knB s=true)(k:s.aK.length<=2000000)(X:bz)(nm:cA)(r n:Nat):∀(rest pre:cA) (m:Nat) (l:List Sy),nm=pre++rest->rest.length<m->l.length+rest.length<=2000000->pre.length+rest.length<=2000000 ->
 VX s X nm r m n l l.length nm.length pre.length=Eg s X (l++rest.filterMap (rz s)):=by
 intro rest;induction rest with
 |nil =>
  intro pre m l c d f i;obtain⟨m,rfl⟩:∃g,m=g+1:=⟨m-1,by simp at d;omega⟩;obtain rfl:nm=pre:=by rw[c];simp
  cases s;rw[aaI];unfold xk;rw[gB (by omega)];show Eg _ _ _=_;simp
 |cons w rest o =>
  intro pre m l c d f i;obtain⟨m,rfl⟩:∃g,m=g+1:=⟨m-1,by simp at d;omega⟩;have go:∀b:List Sy,b.length+rest.length<=2000000->VX s X nm r m n b b.length nm.length (IntKind.wrap .i64 ((pre.length:Int)+1))=Eg s X (b++rest.filterMap (rz s)):=λb h=>by
   have p:pre.length+(rest.length+1)<=2000000:=by simpa using i
   rw[i64_in (n:=(pre.length:Int)+1) (by omega) (by omega)];have:=o (pre++[w]) m b (by rw[c];simp) (by simp at d;omega) h (by simp;omega);simpa using this
  have a:=Pd j k c (Eg s X l) (VX s X nm r m n l l.length nm.length (IntKind.wrap .i64 ((pre.length:Int)+1))) λy=>ah (Nat.ble (l.length+1) 2000000) (VX s X nm r m n (l++[y]) (l.length+1) nm.length (IntKind.wrap .i64 ((pre.length:Int)+1))) none
  have e:VX s X nm r (m+1) n l l.length nm.length pre.length=xk s nm nm.length pre.length (Eg s X l) (VX s X nm r m n l l.length nm.length (IntKind.wrap .i64 ((pre.length:Int)+1))) λy=>ah (Nat.ble (l.length+1) 2000000) (VX s X nm r m n (l++[y]) (l.length+1) nm.length (IntKind.wrap .i64 ((pre.length:Int)+1))) none:=by
   cases s;exact aaI _ _ _ _ _ _ _ _ _ _ _ _ _ _ _ _ _ _ _ _
  rw[e,a,List.filterMap_cons];cases rz s w with
  |none=>exact go l (by simp at f;omega)
  |some y =>
   simp only;rw[eN (by simp at f;omega)];have:=go (l++[y]) (by simp at f ⊢;omega);rw[aA,bC]at this;exact this
theorem akJ {s:SS}(f:knB s=true)(g:s.aK.length<=2000000)(X:bz)(nm:cA)(r n:Nat):∀(rest pre:cA) (m:Nat),nm=pre++rest->rest.length<m->pre.length+rest.length<=1000000 ->
 jK0 s X nm r m n nm.length pre.length=Eg s X (rest.filterMap (rz s)):=by
 intro rest;induction rest with
 |nil =>
  intro pre m b c h;obtain⟨m,rfl⟩:∃d,m=d+1:=⟨m-1,by simp at c;omega⟩;obtain rfl:nm=pre:=by rw[b];simp
  cases s;rw[aaH];unfold xk;rw[gB (by omega)];rfl
 |cons w rest i =>
  intro pre m b c h;obtain⟨m,rfl⟩:∃d,m=d+1:=⟨m-1,by simp at c;omega⟩;have j:pre.length+(rest.length+1)<=1000000:=by simpa using h
  have k:IntKind.wrap .i64 ((pre.length:Int)+1)=((pre++[w]).length:Int):=by rw[i64_in (n:=(pre.length:Int)+1) (by omega) (by omega)];simp
  have a:=Pd f g b (Eg s X []) (jK0 s X nm r m n nm.length (IntKind.wrap .i64 ((pre.length:Int)+1))) λy=>VX s X nm r m n [y] 1 nm.length (IntKind.wrap .i64 ((pre.length:Int)+1))
  have e:jK0 s X nm r (m+1) n nm.length pre.length=xk s nm nm.length pre.length (Eg s X []) (jK0 s X nm r m n nm.length (IntKind.wrap .i64 ((pre.length:Int)+1))) λy=>VX s X nm r m n [y] 1 nm.length (IntKind.wrap .i64 ((pre.length:Int)+1)):=by
   cases s;exact aaH _ _ _ _ _ _ _ _ _ _ _ _ _ _ _ _ _ _
  rw[e,a,List.filterMap_cons,k];cases rz s w with
  |none=>exact i (pre++[w]) m (by rw[b];simp) (by simp at c;omega) (by simp;omega)
  |some y=>exact akI f g X nm r n rest (pre++[w]) m [y] (by rw[b];simp) (by simp at c;omega) (by simp;omega) (by simp;omega)
theorem Hr:∀(x:bz) (o:cA),(wU x o).length<=o.length+x.length
 |[],o=>by simp[wU]
 |y::x,o=>by
  unfold wU;split
  .have:=Hr x (o++[y.2.2.1]);simp at this ⊢;omega
  have:=Hr x o;simp at this ⊢;omega
theorem aeJ (x:bz):(gG x).length<=200:=by
 unfold gG;split
 .rename_i h;have a:=Hr x [];have b:=(Cb h).2.1;simp at a;omega
 simp
def A4 (s:SS):Bool:=knB s&&(akG s&&(Nat.ble s.aK.length 1000000&&Nat.ble s.ax.length 20000))
theorem uv {s:SS}(h:A4 s=true):knB s=true/\(s.lab.length<=1000000/\s.bw.length<=1000000)/\s.aK.length<=1000000/\s.ax.length<=20000:=by
 unfold A4 akG at h;simp only[ak]at h;exact⟨h.1,⟨aB h.2.1.1,aB h.2.1.2⟩,aB h.2.2.1,aB h.2.2.2⟩
theorem tL {s:SS}(h:A4 s=true):(cy s).length<=1000000:=by
 obtain⟨_,⟨a,b⟩,_⟩:=uv h;unfold cy;split<;>assumption
theorem aeK {s:SS}{x:bz}(h:(dL (cy s) x).2=true)(b:((gG (dL (cy s) x).1).filterMap (rz s)).length<=2000000) :
 Eg s (dL (cy s) x).1 ((gG (dL (cy s) x).1).filterMap (rz s))=LZ s (cR iz gG s x):=by
 unfold Eg cR iz;rw[eN b,aa (by rw[h];decide)];show ah _ _ _=_;rw[cF];generalize TR (dL (cy s) x).1 ((gG (dL (cy s) x).1).filterMap (rz s)) 0 0=q;by_cases a:q.2.2=0
 .rw[ag a,aa (by simp[a])];cases c:q.2.1<;>rfl
 rw[aa a,ag a]
theorem runK {s:SS}(a:A4 s=true){x:bz}(c:fq x=true):aT X0 (cV S1 N2 G1 _) aaG 300 44 [.ptr 0 0,.eC fA x] (fT 2 (wW s [])) iN=LZ s (cR iz gG s x):=by
 have d:=tL a;obtain⟨e,_,f,_⟩:=uv a;have key:ah (Nat.ble (cy s).length 2000000&&fq x) (ah (!(dL (cy s) x).2) (LZ s (0,3)) (jK0 s (dL (cy s) x).1 (gG (dL (cy s) x).1) 300 300 (gG (dL (cy s) x).1).length (gG (dL (cy s) x).1).length 0)) none=LZ s (cR iz gG s x):=by
  rw[eN (by omega),c];show ah _ _ _=_;cases b:(dL (cy s) x).2 with
  |false =>
   show LZ _ _=_;unfold cR;rw[ag b]
  |true =>
   show jK0 _ _ _ _ _ _ _ _=_;have g:=aeJ (dL (cy s) x).1;refine(akJ e (by omega) (dL (cy s) x).1 (gG (dL (cy s) x).1) 300 _ (gG (dL (cy s) x).1) [] 300 rfl (by omega) (by show 0+_<=_;omega)).trans (aeK b ?_);have:=List.length_filterMap_le (rz s) (gG (dL (cy s) x).1);omega
 cases s with
 |mk gu aK ax aL lab opn bw aP aV aD av =>
  rw[akH];cases opn<;>exact key
def gK (args:aI)(rows:cQ):Option (Bool×AV×cQ) :=
 match args,rows with
 |[.ptr 0 0,.eC e x],c::l=>match jl e fA x,vV 0 c l with
  |some x,some (b,s)=>some (b&&(A4 s&&fq x),.gI [.int .i64 (cR iz gG s x).1,.int .i64 (cR iz gG s x).2],wW s [])
  |_,_=>none
 |_,_=>none
theorem apI:lK X0 gR 44 gK :=
 o8 (λargs=>lt.cn rfl args) (rF oT vU Pa) λargs rows v outs a=>by
  unfold gK at a;split at a;case h_2=>cases a
  rename_i e x c l;split at a;case h_2=>cases a
  rename_i f b s d g;simp only[aq,az,ak]at a;obtain⟨⟨rfl,h,i⟩,rfl,rfl⟩:=a;obtain⟨rfl,d⟩:=cr d;have d:x=f:=d;subst d;obtain⟨rfl,rfl⟩:=ig g;exact⟨aaG,300,runK h i⟩
def xA:List (Option (TypeId×Tv.Ty)):=[none,some (59,je),some (52,sJ)]
def G2:List Cf:=(44,⟨70,xA,gK⟩)::G1
theorem apJ:rB X0 gR G2:=.cons apI Pa
def La (x:RS):aI:=[.str x.lab,.int .i64 x.aC,.int .i64 x.sz,.int .i64 x.op,.int .i64 x.aM,.eC lD x.args,.eC GG x.data,.eC fA x.x,.eC fA x.ai]
def RX (n:Nat):Row:=.cells 67 [.ptr n 0]
def scR (c:au):Row:=.cells 106 [.str c]
def Pe (x:RS):Row:=.cells 40 (La x)
def rdM (cs:cQ)(s:SS)(a:Nat):cQ:=cs++[.cells 70 (rdX (cs.length+1) (cs.length+2) (cs.length+3) s.aK.length a s),.mp 68 s.aL,.list 59 je s.aK 0 false false,.list 52 sJ s.ax 0 false false]
def pD1:eJ:=[true,false]
def aeL:fe:=⟨iM [0,1,2,9,10,11] pD1,.none,[]⟩
def jD1 (x:RS)(c:au)(s:SS)(a r m:Nat)(len i:Int):OG:=jo X0 (cV S1 N2 G1 _) aeL r 91 pD1 iN m (lS 48 [(0,.ptr 0 0),(1,.ptr 1 0),(2,.ptr 2 0),(9,.eC GG x.data),(10,.int .i64 len),(11,.int .i64 i)]) (fT 5 (rdM [Pe x,RX 3,scR c] s a))
def JK (x:RS)(c:au)(s:SS):OG:=some (.gI [],rdM [Pe x,RX 3,scR c] s s.ax.length)
def aaJ (n sz:Int):Int:=IntKind.wrap .i64 (IntKind.wrap .i64 (Int.tdiv (IntKind.wrap .i64 (IntKind.wrap .i64 (n+sz)-1)) sz)*sz)
def akK (t:au)(p:Int):cZ:=List.take p.toNat (List.drop 0 (nM (List.replicate p.toNat (0:Int)) 0 (List.take (Nat.min (t.map cS).length p.toNat) (t.map cS))))
def Hs {β:Type}(p:Int)(k:Option β):Option β:=ah (!bN p 0 && !bN p p && !bN 2000000 p) k none
def pz {β:Type}(n:Nat)(k:Option β):Option β:=ah (Nat.ble (n+1) 2000000) k none
def jf (s:SS)(l:cK):SS:={ s with ax:=l }
def DK (data:List Dt)(sz:Int)(c:au)(av:Int)(ax:cK)(len i:Int)(J:cK->OG)(fin:OG):OG :=
 ah (bN i len) (uF data i λy=>ah (bS (y.2.length:Int) 0)
  (ah (bS sz 0) none (Hs (aaJ y.1.length sz) (pz ax.length (J (ax++[(av,4,[],(0,0,[]),[],akK y.1 (aaJ y.1.length sz),0)])))))
  (ah (Nat.ble c.length 2000000&&fq y.2) (pz ax.length (J (ax++[(av,3,[],(0,0,[]),(dL c y.2).1,[],sz)]))) none)) fin
theorem aaK (a:Int)(lab:au)(aC sz op aM:Int)(args:eO)(data:List Dt)(b ai:bz)(e f:Int)(c:au)(gu:Int)(aK:List Sy)(ax:cK)(aL:List (au×Int))(d:au)(opn:Bool)(bw:au)(aP:Int)(aV:Bool)(aD av:Int)(g r m:Nat)(len i:Int) :
 jD1 ⟨a,lab,aC,sz,op,aM,args,data,b,ai,e,f⟩ c ⟨gu,aK,ax,aL,d,opn,bw,aP,aV,aD,av⟩ g r (m+1) len i =
 DK data sz c av ax len i (λl=>jD1 ⟨a,lab,aC,sz,op,aM,args,data,b,ai,e,f⟩ c ⟨gu,aK,l,aL,d,opn,bw,aP,aV,aD,av⟩ (ax.length+1) r m len (IntKind.wrap .i64 (i+1)))
  (JK ⟨a,lab,aC,sz,op,aM,args,data,b,ai,e,f⟩ c ⟨gu,aK,ax,aL,d,opn,bw,aP,aV,aD,av⟩):=by kernel_rfl
theorem aeM (a:Int)(lab:au)(aC sz op aM:Int)(args:eO)(data:List Dt)(b ai:bz)(e f:Int)(c:au)(gu:Int)(aK:List Sy)(ax:cK)(aL:List (au×Int))(d:au)(opn:Bool)(bw:au)(aP:Int)(aV:Bool)(aD av:Int)(r:Nat) :
 aT X0 (cV S1 N2 G1 _) aeL r 91 [.ptr 0 0,.ptr 1 0,.ptr 2 0] (fT 5 (rdM [Pe ⟨a,lab,aC,sz,op,aM,args,data,b,ai,e,f⟩,RX 3,scR c] ⟨gu,aK,ax,aL,d,opn,bw,aP,aV,aD,av⟩ ax.length)) iN =
 jD1 ⟨a,lab,aC,sz,op,aM,args,data,b,ai,e,f⟩ c ⟨gu,aK,ax,aL,d,opn,bw,aP,aV,aD,av⟩ ax.length r r data.length 0:=by kernel_rfl
def dtK (av:Int)(c:au)(sz:Int)(d:Dt):It:=if d.2=[] then (av,4,[],(0,0,[]),[],ZY d.1 sz,0) else (av,3,[],(0,0,[]),(dL c d.2).1,[],sz)
def DU (sz:Int):Bool:=bS sz 1||(bS sz 2||(bS sz 4||bS sz 8))
def Mf (l:List Dt):Bool:=Nat.ble l.length 100000&&l.all λd=>Nat.ble d.1.length 1000000&&fq d.2
theorem uw {sz:Int}(h:DU sz=true):sz=1\/sz=2\/sz=4\/sz=8:=by
 unfold DU at h;simp only[fD,dA,fL]at h;exact h
theorem Cg {n:Nat}{sz:Int}(h:sz=1\/sz=2\/sz=4\/sz=8):(n:Int)<=zD n sz/\zD n sz<=n+7:=by
 unfold zD;rcases h with rfl|rfl|rfl|rfl<;>rw[cP (by omega)]<;>omega
theorem T5 {n:Nat}{sz:Int}(h:sz=1\/sz=2\/sz=4\/sz=8)(b:n<=1000000):aaJ n sz=zD n sz:=by
 have a:=Cg (n:=n) h;have c:0<=Int.tdiv ((n:Int)+sz-1) sz/\Int.tdiv ((n:Int)+sz-1) sz<=n+8:=by
  rcases h with rfl|rfl|rfl|rfl<;>rw[cP (by omega)]<;>omega
 unfold aaJ;rw[i64_in (n:=(n:Int)+sz) (by omega) (by omega),i64_in (n:=(n:Int)+sz-1) (by omega) (by omega),i64_in (n:=Int.tdiv ((n:Int)+sz-1) sz) (by omega) (by omega)];exact i64_in (by unfold zD at a;omega) (by unfold zD at a;omega)
theorem aaM {α:Type}:∀(v pre c:List α),v.length<=c.length->nM (pre++c) pre.length v=pre++(v++c.drop v.length)
 |[],pre,c,_=>by simp[nM]
 |a::v,pre,[],h=>by simp at h
 |a::v,pre,b::c,h=>by
  have e:(pre++b::c).set pre.length a=(pre++[a])++c:=by rw[jF _ _ (aG _),nG];simp
  show nM ((pre++b::c).set pre.length a) (pre.length+1) v=_;rw[e];have:=aaM v (pre++[a]) c (by simpa using h);rw[aA]at this;refine this.trans ?_;simp
theorem aeN {t:au}{sz:Int}(h:sz=1\/sz=2\/sz=4\/sz=8):akK t (zD t.length sz)=ZY t sz:=by
 have b:=Cg (n:=t.length) h;unfold akK ZY;generalize zD t.length sz=p at b;have a:Nat.min (t.map cS).length p.toNat=(t.map cS).length:=iG (by simp;omega);have c:=aaM (t.map cS) [] (List.replicate p.toNat (0:Int)) (by simp;omega);rw[a,l9,j3];have d:nM (List.replicate p.toNat (0:Int)) 0 (t.map cS)=t.map cS++List.replicate (p.toNat-t.length) 0:=by
  refine c.trans ?_;simp
 rw[d,cz (by simp;omega)]
theorem akL (x:RS){c:au}(t:c.length<=2000000)(s:SS)(r:Nat)(i:x.sz=1\/x.sz=2\/x.sz=4\/x.sz=8)(u:∀d∈x.data,d.1.length<=1000000/\fq d.2=true)(D:x.data.length<=100000) :
 ∀(rest pre:List Dt) (m g:Nat) (it:cK),x.data=pre++rest->rest.length<m->it.length+rest.length<=1000000->jD1 x c (jf s it) g r m x.data.length pre.length=JK x c (jf s (it++rest.map (dtK s.av c x.sz))):=by
 intro rest;induction rest with
 |nil =>
  intro pre m g it f h p;obtain⟨m,rfl⟩:∃j,m=j+1:=⟨m-1,by simp at h;omega⟩;have v:x.data.length=pre.length:=by rw[f];simp
  have e:jD1 x c (jf s it) g r (m+1) x.data.length pre.length=DK x.data x.sz c s.av it x.data.length pre.length (λl=>jD1 x c (jf s l) (it.length+1) r m x.data.length (IntKind.wrap .i64 ((pre.length:Int)+1))) (JK x c (jf s it)):=by
   cases x;cases s;exact aaK ..
  rw[e];unfold DK;rw[gB (by omega)];show JK _ _ _=_;simp[jf]
 |cons y rest w =>
  intro pre m g it f h p;obtain⟨m,rfl⟩:∃j,m=j+1:=⟨m-1,by simp at h;omega⟩;have E:x.data.length=pre.length+(rest.length+1):=by rw[f];simp
  obtain⟨z,A⟩:=u y (by rw[f];simp);have B:it.length+(rest.length+1)<=1000000:=by simpa using p
  have go:∀q:It,q=dtK s.av c x.sz y->jD1 x c (jf s (it++[q])) (it.length+1) r m x.data.length (IntKind.wrap .i64 ((pre.length:Int)+1))=JK x c (jf s (it++(y::rest).map (dtK s.av c x.sz))):=λq C=>by
   rw[i64_in (n:=(pre.length:Int)+1) (by omega) (by omega)];have:=w (pre++[y]) m (it.length+1) (it++[q]) (by rw[f];simp) (by simp at h;omega) (by simp;omega);rw[aA]at this;refine this.trans ?_;rw[C,bC];rfl
  have e:jD1 x c (jf s it) g r (m+1) x.data.length pre.length=DK x.data x.sz c s.av it x.data.length pre.length (λl=>jD1 x c (jf s l) (it.length+1) r m x.data.length (IntKind.wrap .i64 ((pre.length:Int)+1))) (JK x c (jf s it)):=by
   cases x;cases s;exact aaK ..
  rw[e];unfold DK;rw[rC (by omega),f];show uF _ _ _=_;rw[si rfl,cH,<-f];by_cases k:(y.2.length:Int)=0
  .have o:y.2=[]:=aS.1 (by omega);have v:=Cg (n:=y.1.length) i;rw[ag k,y9 (by omega),T5 i z];show Hs _ _=_;unfold Hs;rw[gB (a:=zD y.1.length x.sz) (b:=0) (by omega),gB (a:=zD y.1.length x.sz) (b:=zD y.1.length x.sz) (by omega),gB (a:=2000000) (by omega)];show pz _ _=_;unfold pz;rw[eN (by omega),aeN i];exact go _ (by unfold dtK;rw[ag o])
  have o:y.2≠[]:=λq=>k (by rw[q];rfl)
  rw[aa k,eN t,A];show pz _ _=_;unfold pz;rw[eN (by omega)];exact go _ (by unfold dtK;rw[aa o])
def Ht:Row->Option (Bool×RS)
 |.cells t [.str lab,.int .i64 aC,.int .i64 sz,.int .i64 op,.int .i64 aM,.eC a args,.eC e2 data,.eC b x,.eC c ai] =>
  match jl a lD args,jl e2 GG data,jl b fA x,jl c fA ai with
  |some args,some data,some x,some ai=>some (Nat.beq t 40,⟨0,lab,aC,sz,op,aM,args,data,x,ai,0,0⟩)
  |_,_,_,_=>none
 |_=>none
theorem o9 {r:Row}{x:RS}(h:Ht r=some (true,x)):r=Pe x:=by
 unfold Ht at h;split at h;case h_2=>cases h
 rename_i t lab aC sz op aM i args e2 data j e k ai;split at h;case h_2=>cases h
 rename_i a1 a2 f g a b c d;simp only[aq,az,aQ]at h;obtain⟨rfl,rfl⟩:=h;obtain⟨rfl,a⟩:=cr a;obtain⟨rfl,b⟩:=cr b;obtain⟨rfl,c⟩:=cr c;obtain⟨rfl,d⟩:=cr d;have a:args=a1:=a;have b:data=a2:=b;have c:e=f:=c;have d:ai=g:=d;subst a;subst b;subst c;subst d;rfl
def gD1 (args:aI)(rows:cQ):Option (Bool×AV×cQ) :=
 match args,rows with
 |[.ptr 0 0,.ptr 1 0,.ptr 2 0],st :: .cells a [.ptr 3 0] :: .cells d [.str c]::rd::l=>match Ht st,vV 3 rd l with
  |some (b,x),some (e,s)=>some (b&&(e&&(Nat.beq a 67&&(Nat.beq d 106&&(Nat.ble c.length 2000000&&(DU x.sz&&(Mf x.data&&Nat.ble (s.ax.length+x.data.length) 1000000)))))),.gI [],rdM [Pe x,RX 3,scR c] (jf s (s.ax++x.data.map (dtK s.av c x.sz))) (s.ax++x.data.map (dtK s.av c x.sz)).length)
  |_,_=>none
 |_,_=>none
theorem ux {l:List Dt}(h:Mf l=true):l.length<=100000/\∀d∈l,d.1.length<=1000000/\fq d.2=true:=by
 unfold Mf at h;rw[ak]at h;refine⟨aB h.1,λd a=>?_⟩;have:=aN.1 h.2 d a;rw[ak]at this;exact⟨aB this.1,this.2⟩
theorem akM:lK X0 gR 91 gD1 :=
 o8 (λargs=>lt.cn rfl args) (rF oT vU Pa) λargs rows v outs a=>by
  unfold gD1 at a;split at a;case h_2=>cases a
  rename_i st n o c rd l;split at a;case h_2=>cases a
  rename_i b x p s f g;simp only[aq,az,ak,aQ]at a;obtain⟨⟨rfl,rfl,h,i,j,k,m,d⟩,rfl,rfl⟩:=a;subst h;subst i;obtain rfl:=o9 f;obtain⟨rfl,rfl⟩:=ig g;obtain⟨d1,d2⟩:=ux m;have d:=aB d;refine⟨aeL,x.data.length+1,?_⟩;have e:aT X0 (cV S1 N2 G1 _) aeL (x.data.length+1) 91 [.ptr 0 0,.ptr 1 0,.ptr 2 0] (fT 5 (rdM [Pe x,RX 3,scR c] s s.ax.length)) iN=jD1 x c s s.ax.length (x.data.length+1) (x.data.length+1) x.data.length 0:=by
   cases x;cases s;exact aeM ..
  refine Eq.trans ?_ ((akL x (aB j) s (x.data.length+1) (uw k) d2 d1 x.data [] (x.data.length+1) s.ax.length s.ax rfl (by omega) d).trans rfl);exact e
def G3:List Cf:=(91,⟨70,xA,gD1⟩)::G2
theorem agY:rB X0 gR G3:=.cons akM apJ
end
end Go.Proofs.YtbeckacfibledaaGreatDoor.ps.sr
