/- Sources: slices.Clone. Sources: what a reader has, as rows; calls. Sources: names completed: expressions, instructions. Sources: an instruction's names completed. Sources: the number of an expression that hangs on no place. Sources: the contract of constant. Sources: pieces of data, once. -/
import Derived.Test.YtfggompceldfgaaGreatDoorGrh
import Derived.Test.YtfggompceldfgaaGreatDoorGva
import Derived.Test.YtfggompceldfgaaGreatDoorLyh
set_option linter.unusedVariables false
set_option linter.unusedSimpArgs false

namespace Go.Proofs.YtfggompceldfgaaGreatDoor.ps.sr
open Go.Tv Go.Ev Go.Px Go.Pp Go.Proofs.YtfggompceldfgaaGreatDoor.ex
set_option maxRecDepth 100000
noncomputable section
def XC (f:FuncId):Code:=match X0.P.funcs[f]? with
 |some fn=>match fn.body with
  |some (.seq _ (.seq _ c))=>c
  |_=>.skip
 |none=>.skip
def BS (t:TypeId)(e:Tv.Ty)(args:List AV)(rows:List Row):Option (Bool×AV×List Row) :=
 match args,rows with
 |[.dW e' l],[]=>match iq e' e l with
  |some l=>some (Nat.ble l.length 2000000,.own 0 l.length,[.list t e l 0 false false])
  |none=>none
 |_,_=>none
theorem O9 {t:TypeId}{e:Tv.Ty}{args:List AV}{rows outs:List Row}{v:AV}(h:BS t e args rows=some (true,v,outs)):∃l:List e.den,args=[.dW e l]/\rows=[]/\l.length<=2000000/\v = .own 0 l.length/\outs=[.list t e l 0 false false]:=by
 unfold BS at h;split at h;case h_2=>cases h
 rename_i e' l;split at h;case h_2=>cases h
 rename_i l' hc;simp only[aq,ax]at h;obtain⟨h1,rfl,rfl⟩:=h;obtain⟨rfl,hc⟩:=bT hc;have hc:l=l':=hc;subst hc;exact⟨l,rfl,rfl,az h1,rfl,rfl⟩
structure Dh (f:FuncId)(fn:Func)(t:TypeId)(e:Tv.Ty):Prop where
 arx:X0.P.funcs[f]? = some fn
 res:fn.results.toList=[.tmp 2]
 nil:∀(R D:Nat) (E:Mem),nK X0.P X0.G lt.kn R (D+1) f [.slice none 0 0] E=some (.slice none 0 0,E)
 head:∀(call:cH) (R:Nat) (a:Addr) (len cap:Nat) (E:Mem),lK X0.P X0.G call R f [.slice (some a) len cap] E =
  match (Fr.mk 8 (Tr.full (xm 8))).fill 0 [.slice (some a) len cap] with
  |some f0=>match f0.put (some 2) (.slice none 0 0) with
   |some f1=>match f1.put (some 3) (.slice (some a) len cap) with
    |some f2=>match f2.put (some 4) (.bool false) with
     |some f3=>CS X0.P fn (jK X0.P X0.G call (uM X0.P X0.G call R R) R (XC f) f3 E)
     |none=>none
    |none=>none
   |none=>none
  |none=>none
 run:∀l:List e.den,gY X0 (cN [] [] _) [] (λ_ _ _ _ _=>none) 5 (XC f) .none (lz 8 [(0,.dW e l),(2,.dg),(3,.jZ),(4,.jZ)]) aH.empty (λlv f H=>match lv with
  |.ret=>gw (f.get 2) H
  |_=>none)=ah (Nat.ble (0+l.length) 2000000) (some (.own 0 l.length,[.list t e l 0 false false])) none
theorem BU {f:FuncId}(hin:lt.inl f=true){fn:Func}{t:TypeId}{e:Tv.Ty}(h:Dh f fn t e):j5 X0 gW f (BS t e):=by
 intro args rows v outs hg p S E bM hp hr hgl hl;obtain⟨l,rfl,rfl,hlen,rfl,rfl⟩:=O9 hg;subst hp;obtain⟨x,rfl,hx⟩:=LV.single hl;have hcases:(l=[]/\x = .slice none 0 0)\/∃a len cap,x = .slice (some a) len cap:=by
  cases hx with
  |dW _ _ _ hs =>
   rcases hs with⟨h1,h2|h2⟩|⟨i,pre,mid,post,cap,h1,_⟩
   .exact .inl ⟨h1,h2⟩
   .exact .inr ⟨_,_,_,h2⟩
   exact .inr ⟨_,_,_,h1⟩
 rcases hcases with⟨rfl,rfl⟩|⟨a,len,cap,rfl⟩
 .have od:∀v,S.Γ (eS 0 []).next v=none:=λv=>hr.CE _ _ (aG _)
  obtain⟨b1,b2,b3⟩:=hr.add (E':=E) (r:=.list t e [] 0 false false) (x:=none) (g:=some ⟨e,[]⟩) (aG _) rfl (λ_ _=>rfl) (λr' hr'=>by cases hr';exact kY od) (λy hy=>by cases hy) rfl;have hv:VR (S.new (eS 0 []).next none (some ⟨e,[]⟩)) (.own 0 0) (.slice none 0 0):=.fY 0 ⟨e,[]⟩ (by simp[Wo.new,eS]) rfl;refine⟨_,.slice none 0 0,E,⟨1,λn hn=>?_⟩,hv,b2,b3.ML⟩;obtain⟨R,D⟩:=n;obtain⟨D',rfl⟩:∃D',D=D'+1:=⟨D-1,by have:=hn.2;simp only at this;omega⟩;exact h.nil R D' E
 have hrun:=h.run l;rw[ee (by omega)]at hrun;have hJ:u9 X0 false (β:=AV×List Row) (λ_ _ _ _ _=>none) (λn=>uM X0.P X0.G (gW n) n.1 n.1):=λc rest f H k r h=>by cases h
 obtain⟨lv,f',H',h1,h2⟩:=IL (kA .nil n0 _) hJ 5 (XC f) .none (λ_=>rfl) _ _ _ _ hrun;split at h1;case h_2=>cases h1
 obtain⟨f0,e0⟩:=yU [.slice (some a) len cap] (Fr.mk 8 (Tr.full (xm 8))) 0;obtain⟨f1,e1⟩:=Fr.oW f0 (some 2) (.slice none 0 0);obtain⟨f2,e2⟩:=Fr.oW f1 (some 3) (.slice (some a) len cap);obtain⟨f3,e3⟩:=Fr.oW f2 (some 4) (.bool false);have r0:mh S (fF.mk 8 .e) (Fr.mk 8 (Tr.full (xm 8))):=⟨rfl,λi=>.jZ _⟩;have r1:=Eg r0 hl e0;have r2:=r1.put (v:=.dg) .dg e1;have r3:=r2.put (v:=.jZ) (.jZ _) e2;have r4:=r3.put (v:=.jZ) (.jZ _) e3;obtain⟨S1,fE,E1,a1,a2,a3,a4,_⟩:=h2 S E f3 hr hgl r4;obtain⟨S2,c1,c2,c3⟩:=O6 h1 a3 (a2.v 2)
 have hpar:H'.par=0:=a4.yK;rw[hpar]at c2 c3;refine⟨S2,fE.get 2,E1,fZ (λargs=>lt.bS hin args) ?_,c1,c2,a4.trans c3⟩;obtain⟨N,a1⟩:=a1;refine⟨N,λn hn=>?_⟩;have:=a1 n hn;show lK X0.P X0.G (gW n) n.1 f [.slice (some a) len cap] E=_;rw[h.head];simp only[e0,e1,e2,e3,this];show cD E1 ((ke X0.P E1 fE fn.results.toList).map vV)=_;rw[h.res];rfl
theorem XD:Dh 140 Tryz.f140 89 fL :=
 ⟨by kernel_rfl,rfl,λR D E=>by kernel_rfl,λcall R a len cap E=>by kernel_rfl,λl=>by kernel_rfl⟩
theorem SX:Dh 144 Tryz.f144 132 nu :=
 ⟨by kernel_rfl,rfl,λR D E=>by kernel_rfl,λcall R a len cap E=>by kernel_rfl,λl=>by kernel_rfl⟩
theorem XE:Dh 111 Tryz.f111 5 (.int .u8) :=
 ⟨by kernel_rfl,rfl,λR D E=>by kernel_rfl,λcall R a len cap E=>by kernel_rfl,λl=>by kernel_rfl⟩
def sO (s:List UInt8):List (List UInt8):=(sl.jr [] [] s).map sl.wP
def itS:ItT:=λf=>ah (Nat.beq f (qP 54)) (some sO) none
theorem agk (f:FuncId)(it:List UInt8->List (List UInt8))(h:itS f=some it):O8 X0 lt.kn f it:=by
 unfold itS at h;rw[av]at h;split at h;case isFalse=>cases h
 rename_i hf;obtain rfl:=aZ hf;cases h;refine⟨by kernel_rfl,λi=>by kernel_rfl,λs hs=>?_⟩;have e:lt.kn (qP 54) [ij,.string ⟨s.toArray⟩]=ah (Nat.ble (nm.vI (s.toArray).toList 0) 2000000) (some (.tuple (rg.wQ ⟨s.toArray⟩).toArray)) none:=by kernel_rfl
 have hl:nm.vI (s.toArray).toList 0=s.length:=by rw[nm.IW];simp
 rw[hl,ee hs]at e;refine e.trans ?_;have e2:rg.wQ ⟨s.toArray⟩=(sO s).map λx=>Value.string ⟨x.toArray⟩:=by
  unfold rg.wQ sO;rw[oq];rfl
 rw[e2]
def cV (M:List xX)(N:List rL)(G:List AB)(β:Type):cI β:=XA X0 (Tw M) (ZS N) (agj G) itS lt.inl 400 β 40
theorem rz {M:List xX}{N:List rL}{G:List AB}(hM:jx X0 gW M)(hN:js X0 gW N)(hG:pI X0 gW G)(β:Type):cT X0 gW (cV M N G β) :=
 XB hM hN hG agk (λf h args=>lt.bS h args) 400 40 β
def S1:List xX:=(102,[some fL],gNm)::(103,[some fL,some kj,none,none],gEv)::(80,[none,none],lt.ZJ)::[]
theorem qN:jx X0 gW S1:=.cons agd (.cons Xu (.cons (lt.aco lt.BB) .nil))
def akK:Tv.Ty:=.pair (.int .i64) (.pair (.int .i64) (.sl nu))
def x6:Tv.Ty:=.pair (.int .i64) (.pair (.int .i64) (.pair .str (.pair akK (.pair (.sl fL) (.pair (.sl (.int .u8)) (.int .i64))))))
def G1:List AB:=[(140,⟨0,[],BS 89 fL⟩),(144,⟨0,[],BS 132 nu⟩),(111,⟨0,[],BS 5 (.int .u8)⟩)]
theorem Mp:pI X0 gW G1:=.cons (BU rfl XD) (.cons (BU rfl SX) (.cons (BU rfl XE) .nil))
abbrev OL:=Option (List AV)
def sW {α β:Type}(L:List α)(i:Int)(k:α->Option β):Option β:=Option.rec (motive:=λ_=>Option β) none (λy=>k y) (dX L i)
theorem qv {α β:Type}{L pre JP:List α}{y:α}(he:L=pre++y::JP)(k:α->Option β):sW L (pre.length:Int) k=k y:=by
 unfold sW;rw[he,lX]
def nmT {β:Type}(c s:List UInt8)(k:List UInt8->Option β):Option β:=ah (lt.preB s [46]) (ah (Nat.ble (c.length+s.length) 9223372036854775807) (k (c++s)) none) (k s)
theorem Jz {β:Type}{c s:List UInt8}(h:c.length+s.length<=9223372036854775807)(k:List UInt8->Option β):nmT c s k=k (fO c s):=by
 unfold nmT fO;rw[av,ee h];unfold lt.preB;by_cases hp:s.take 1=[46]
 .rw[ag hp,ag (by simpa using hp)]
 rw[aa hp,aa (by simpa using hp)]
def pNo:List Bool:=[true,true,true,false,true,false]
def aaZ:eD:=⟨gZ [2,6,7,12,13] pNo,.none,[]⟩
def aa0:List (List (Option Tv.Ty)):=[[some fL],[none]]
def jNo (c:List UInt8)(r m n:Nat)(L:List Nd)(ok:Bool)(len i:Int):OL:=jf X0 (cV S1 [] G1 _) aaZ r 101 pNo (xY aa0) m (lz 46 [(2,.ptr 0 0),(6,.own 1 n),(7,.bool ok),(12,.int .i64 len),(13,.int .i64 i)]) (pz [.cells 121 [.str c],.list 89 fL L 0 false false])
def stepN' (c:List UInt8)(L:List Nd)(ok:Bool)(len i:Int)(J:List Nd->Bool->OL):OL :=
 ah (bB i len) (sW L i λy=>ah (bI y.1 2) (sW L i λy1=>nmT c y1.2.2.1 λw=>sW L i λy2=>(λL':List Nd=>ah ok (sW L' i λy3=>J L' (!bB 60 (y3.2.2.1.length:Int))) (J L' false)) (L.set i.toNat (y2.1,y2.2.1,w,y2.2.2.2.1,y2.2.2.2.2))) (J L ok))
  (some [.dW fL L,.bool ok])
theorem XF (c:List UInt8)(r m n:Nat)(L:List Nd)(ok:Bool)(len i:Int):jNo c r (m+1) n L ok len i=stepN' c L ok len i λL' ok'=>jNo c r m n L' ok' len (IntKind.wrap .i64 (i+1)):=by kernel_rfl
theorem aa1 (c:List UInt8)(x:List Nd)(r:Nat):aT X0 (cV S1 [] G1 _) aaZ r 101 [.agg [.str c],.dW fL x] aH.empty (xY aa0)=ah (Nat.ble x.length 2000000) (jNo c r r x.length x true x.length 0) none:=by kernel_rfl
def eL (x:List Nd):Bool:=Nat.ble x.length 2000000&&x.all λy=>Nat.ble y.2.2.1.length 2000000
theorem agm {c:List UInt8}(hc:c.length<=2000000)(r n:Nat)(x:List Nd)(hx:x.length<=2000000)(hs:∀y∈x,y.2.2.1.length<=2000000):∀(rest pre:List Nd) (m:Nat) (ok:Bool),x=pre++rest->rest.length<m ->
 jNo c r m n (pre.map (L8 c)++rest) ok x.length pre.length=some [.dW fL (x.map (L8 c)),.bool (ok&&rest.all (ndB c))]:=by
 intro rest;induction rest with
 |nil =>
  intro pre m ok he hm;obtain⟨m,rfl⟩:∃m',m=m'+1:=⟨m-1,by simp at hm;omega⟩;obtain rfl:x=pre:=by rw[he];simp
  rw[XF];unfold stepN';rw[fG (by omega)];show some _=some _;simp
 |cons y rest ih =>
  intro pre m ok he hm;obtain⟨m,rfl⟩:∃m',m=m'+1:=⟨m-1,by simp at hm;omega⟩;have hl:x.length=pre.length+(rest.length+1):=by rw[he];simp
  have hy:=hs y (by rw[he];simp);have hpl:((pre.map (L8 c)).length:Int)=pre.length:=by simp
  have go:∀ok':Bool,jNo c r m n (pre.map (L8 c)++L8 c y::rest) ok' x.length (IntKind.wrap .i64 ((pre.length:Int)+1))=some [.dW fL (x.map (L8 c)),.bool (ok'&&rest.all (ndB c))]:=λok'=>by
   rw[i64_in (n:=(pre.length:Int)+1) (by omega) (by omega)];have:=ih (pre++[y]) m ok' (by rw[he];simp) (by simp at hm;omega);simpa using this
  rw[XF];unfold stepN';rw[pL (by omega)];show sW _ _ _=_;rw[<-hpl,qv rfl,ck];by_cases h2:y.1=2
  .rw[ag h2,qv rfl,Jz (by omega),qv rfl];have DC:(pre.map (L8 c)++y::rest).set (((pre.map (L8 c)).length:Int).toNat) (y.1,y.2.1,fO c y.2.2.1,y.2.2.2.1,y.2.2.2.2)=pre.map (L8 c)++L8 c y::rest:=by
    rw[bh,kq _ _ (aG _),ow];have:L8 c y=(y.1,y.2.1,fO c y.2.2.1,y.2.2.2):=by unfold L8;rw[ag h2]
    rw[this];rfl
   simp only[DC];rw[bY];have hB:ndB c y=Nat.ble (fO c y.2.2.1).length 60:=by unfold ndB;rw[h2];rfl
   cases ok with
   |true =>
    show sW _ _ _=_;rw[qv rfl,hpl,go,hB,dK];have:(L8 c y).2.2.1=fO c y.2.2.1:=by unfold L8;rw[ag h2]
    rw[this];have e:(!bB 60 ((fO c y.2.2.1).length:Int))=Nat.ble (fO c y.2.2.1).length 60:=by
     rw[cB];by_cases VM:(fO c y.2.2.1).length<=60
     .rw[ee VM,aU (by omega)];rfl
     have:Nat.ble (fO c y.2.2.1).length 60=false:=by
      cases hb:Nat.ble (fO c y.2.2.1).length 60 with
      |true=>exact absurd (az hb) VM
      |false=>rfl
     rw[this,bf (by omega)];rfl
    rw[e]
   |false =>
    show jNo _ _ _ _ _ _ _ _=_;rw[hpl,go];rfl
  rw[aa h2,hpl];have:L8 c y=y:=by unfold L8;rw[aa h2]
  have hg:=go ok;rw[this]at hg;refine hg.trans ?_;rw[bY];have hB:ndB c y=true:=by unfold ndB;rw[aU h2];rfl
  rw[hB,dK]
def fNo (args:List AV):Option (Bool×List AV) :=
 match args with
 |[.agg [.str c],.dW e x]=>match iq e fL x with
  |some x=>some (Nat.ble c.length 2000000&&eL x,[.dW fL (dm c x).1,.bool (dm c x).2])
  |none=>none
 |_=>none
theorem Mq {x:List Nd}(h:eL x=true):x.length<=2000000/\∀y∈x,y.2.2.1.length<=2000000:=by
 unfold eL at h;rw[ak]at h;exact⟨az h.1,λy hy=>az (aP.1 h.2 y hy)⟩
theorem akL {c:List UInt8}(hc:c.length<=2000000){x:List Nd}(hx:eL x=true):aT X0 (cV S1 [] G1 _) aaZ (x.length+1) 101 [.agg [.str c],.dW fL x] aH.empty (xY aa0)=some [.dW fL (dm c x).1,.bool (dm c x).2]:=by
 obtain⟨h1,h2⟩:=Mq hx;rw[aa1,ee h1];show jNo _ _ _ _ _ _ _ _=_;have:=agm hc (x.length+1) x.length x h1 h2 x [] (x.length+1) true rfl (by omega);refine this.trans ?_;rw[dK];rfl
theorem con_V' {id:FuncId}(hk:lt.inl id=true){M:List xX}{N:List rL}{G:List AB}(hM:jx X0 gW M)(hN:js X0 gW N)(hG:pI X0 gW G){sig:List (Option (TypeId×Tv.Ty))}{f:List AV->Option (Bool×List AV)}(sg:List (List (Option Tv.Ty)))
 (h:∀vs ws,f vs=some (true,ws)->ws.all FN=true/\∃an rounds,aT X0 (cV M N G _) an rounds id vs aH.empty (xY sg)=some ws):iB X0 gW id ⟨none,sig,gV f⟩ :=
 LS (nk hk) (rz hM hN hG) sg λins outs rs hg=>by
  unfold gV at hg;split at hg;case h_2=>cases hg
  rename_i vs hv;split at hg;case h_2=>cases hg
  rename_i c ws hf;simp only[aq,ax]at hg;obtain⟨rfl,_,rfl⟩:=hg;obtain⟨h1,an,rounds,h2⟩:=h vs ws hf;have hi:=tu hv;subst hi;refine⟨an,rounds,ws,?_,rfl,h1⟩;rw[vm,za];exact h2
theorem agn:iB X0 gW 101 ⟨none,[none,none],gV fNo⟩ :=
 con_V' rfl qN n0 Mp aa0 λvs ws hf=>by
  unfold fNo at hf;split at hf;case h_2=>cases hf
  rename_i c e x;split at hf;case h_2=>cases hf
  rename_i x' hx;simp only[aq,ax,ak]at hf;obtain⟨⟨h1,h2⟩,rfl⟩:=hf;obtain⟨rfl,hx⟩:=bT hx;have hx:x=x':=hx;subst hx;exact⟨rfl,aaZ,x.length+1,akL (az h1) h2⟩
def N1:List rL:=[(101,⟨none,[none,none],gV fNo⟩)]
theorem Q1:js X0 gW N1:=.cons agn .nil
def LX:eD:=⟨gZ [2,3,4,6,16,17] pNo,.none,[]⟩
def ago:List (List (Option Tv.Ty)):=[[none,none,some nu],[none]]
def Qy (c:List UInt8)(op aL:Int)(r m n:Nat)(L:List Raw)(ok:Bool)(len i:Int):OL:=jf X0 (cV S1 N1 G1 _) LX r 104 pNo (xY ago) m (lz 44 [(2,.ptr 0 0),(3,.ptr 1 0),(4,.ptr 2 0),(6,.bool ok),(16,.int .i64 len),(17,.int .i64 i)])
 (pz [.cells 121 [.str c],.cells 42 [.int .i64 op,.int .i64 aL,.own 3 n],.cells 42 [.int .i64 0,.int .i64 0,.dg],.list 132 nu L 0 false false])
def cmO (op aL:Int)(L:List Raw)(ok:Bool):OL:=some [.agg [.int .i64 op,.int .i64 aL,.dW nu L],.bool ok]
def stepC' (c:List UInt8)(op aL:Int)(L:List Raw)(ok:Bool)(len i:Int)(J:List Raw->Bool->OL):OL :=
 ah (bB i len) (sW L i λy=>ah (Nat.ble c.length 2000000&&eL y.2.2.2.1) (sW L i λy1=>(λL':List Raw=>ah ok (J L' (dm c y.2.2.2.1).2) (J L' false)) (L.set i.toNat (y1.1,y1.2.1,y1.2.2.1,(dm c y.2.2.2.1).1,y1.2.2.2.2))) none)
  (cmO op aL L ok)
theorem Jj (c:List UInt8)(op aL:Int)(r m n:Nat)(L:List Raw)(ok:Bool)(len i:Int):Qy c op aL r (m+1) n L ok len i=stepC' c op aL L ok len i λL' ok'=>Qy c op aL r m n L' ok' len (IntKind.wrap .i64 (i+1)):=by kernel_rfl
theorem Jk (c:List UInt8)(op aL:Int)(l:List Raw)(r:Nat):aT X0 (cV S1 N1 G1 _) LX r 104 [.agg [.str c],.agg [.int .i64 op,.int .i64 aL,.dW nu l]] aH.empty (xY ago)=ah (Nat.ble l.length 2000000) (Qy c op aL r r l.length l true l.length 0) none:=by kernel_rfl
def oL (l:List Raw):Bool:=Nat.ble l.length 2000000&&l.all λy=>eL y.2.2.2.1
theorem Jl {c:List UInt8}(hc:c.length<=2000000)(op aL:Int)(r n:Nat)(x:List Raw)(hx:x.length<=2000000)(hs:∀y∈x,eL y.2.2.2.1=true):∀(rest pre:List Raw) (m:Nat) (ok:Bool),x=pre++rest->rest.length<m ->
 Qy c op aL r m n (pre.map (E9 c)++rest) ok x.length pre.length=cmO op aL (x.map (E9 c)) (ok&&rest.all λr=>(dm c r.2.2.2.1).2):=by
 intro rest;induction rest with
 |nil =>
  intro pre m ok he hm;obtain⟨m,rfl⟩:∃m',m=m'+1:=⟨m-1,by simp at hm;omega⟩;obtain rfl:x=pre:=by rw[he];simp
  rw[Jj];unfold stepC';rw[fG (by omega)];show cmO _ _ _ _=_;simp
 |cons y rest ih =>
  intro pre m ok he hm;obtain⟨m,rfl⟩:∃m',m=m'+1:=⟨m-1,by simp at hm;omega⟩;have hl:x.length=pre.length+(rest.length+1):=by rw[he];simp
  have hy:=hs y (by rw[he];simp);have hpl:((pre.map (E9 c)).length:Int)=pre.length:=by simp
  have go:∀ok':Bool,Qy c op aL r m n (pre.map (E9 c)++E9 c y::rest) ok' x.length (IntKind.wrap .i64 ((pre.length:Int)+1))=cmO op aL (x.map (E9 c)) (ok'&&rest.all λr=>(dm c r.2.2.2.1).2):=λok'=>by
   rw[i64_in (n:=(pre.length:Int)+1) (by omega) (by omega)];have:=ih (pre++[y]) m ok' (by rw[he];simp) (by simp at hm;omega);simpa using this
  rw[Jj];unfold stepC';rw[pL (by omega)];show sW _ _ _=_;rw[<-hpl,qv rfl,ee hc,hy];show sW _ _ _=_;rw[qv rfl];have DC:(pre.map (E9 c)++y::rest).set (((pre.map (E9 c)).length:Int).toNat) (y.1,y.2.1,y.2.2.1,(dm c y.2.2.2.1).1,y.2.2.2.2)=pre.map (E9 c)++E9 c y::rest:=by
   rw[bh,kq _ _ (aG _),ow];rfl
  simp only[DC];rw[bY];cases ok with
  |true =>
   show Qy _ _ _ _ _ _ _ _ _ _=_;rw[hpl,go,dK]
  |false =>
   show Qy _ _ _ _ _ _ _ _ _ _=_;rw[hpl,go];rfl
def fCm (args:List AV):Option (Bool×List AV) :=
 match args with
 |[.agg [.str c],.agg [.int .i64 op,.int .i64 aL,.dW e x]]=>match iq e nu x with
  |some x=>some (Nat.ble c.length 2000000&&oL x,[.agg [.int .i64 op,.int .i64 aL,.dW nu (OV c x).1],.bool (OV c x).2])
  |none=>none
 |_=>none
theorem Mr {x:List Raw}(h:oL x=true):x.length<=2000000/\∀y∈x,eL y.2.2.2.1=true:=by
 unfold oL at h;rw[ak]at h;exact⟨az h.1,λy hy=>aP.1 h.2 y hy⟩
theorem OI:iB X0 gW 104 ⟨none,[none,none],gV fCm⟩ :=
 con_V' rfl qN Q1 Mp ago λvs ws hf=>by
  unfold fCm at hf;split at hf;case h_2=>cases hf
  rename_i c op aL e x;split at hf;case h_2=>cases hf
  rename_i x' hx;simp only[aq,ax,ak]at hf;obtain⟨⟨h1,h2⟩,rfl⟩:=hf;obtain⟨rfl,hx⟩:=bT hx;have hx:x=x':=hx;subst hx;obtain⟨k1,k2⟩:=Mr h2;refine⟨rfl,LX,x.length+1,?_⟩;rw[Jk,ee k1];show Qy _ _ _ _ _ _ _ _ _ _=_;refine(Jl (az h1) op aL (x.length+1) x.length x k1 k2 x [] (x.length+1) true rfl (by omega)).trans ?_;rw[dK];rfl
def N2:List rL:=(104,⟨none,[none,none],gV fCm⟩)::N1
theorem uy:js X0 gW N2:=.cons OI Q1
abbrev OG:=Option (AV×List Row)
def YI (m a b na nb:Nat)(s:SS):List AV:=[.int .i64 s.fq,.own a na,.own b nb,.ye m,.str s.lab,.bool s.opn,.str s.bp,.int .i64 s.aM,.bool s.aR,.int .i64 s.aF,.int .i64 s.ay]
def vp (s:SS)(cs:List Row):List Row:=.cells 81 (YI (cs.length+1) (cs.length+2) (cs.length+3) s.aB.length s.au.length s)::(cs++[.mp 79 s.aI,.list 61 kj s.aB 0 false false,.list 56 x6 s.au 0 false false])
def uz (n:Nat)(c:Row)(l:List Row):Option (Bool×SS) :=
 match c,l with
 |.cells t [.int .i64 fq,.own a na,.own b nb,.ye m,.str lab,.bool opn,.str bp,.int .i64 aM,.bool aR,.int .i64 aF,.int .i64 ay],[.mp t1 aI,.list t2 e2 aB 0 false false,.list t3 e3 au 0 false false] =>
  match iq e2 kj aB,iq e3 x6 au with
  |some aB,some au=>some (Nat.beq t 81&&(Nat.beq t1 79&&(Nat.beq t2 61&&(Nat.beq t3 56&&(Nat.beq m (n+1)&&(Nat.beq a (n+2)&&(Nat.beq b (n+3)&&(Nat.beq na aB.length&&Nat.beq nb au.length))))))),⟨fq,aB,au,aI,lab,opn,bp,aM,aR,aF,ay⟩)
  |_,_=>none
 |_,_=>none
theorem fU {n:Nat}{c:Row}{l:List Row}{s:SS}(h:uz n c l=some (true,s)):c = .cells 81 (YI (n+1) (n+2) (n+3) s.aB.length s.au.length s)/\l=[.mp 79 s.aI,.list 61 kj s.aB 0 false false,.list 56 x6 s.au 0 false false]:=by
 unfold uz at h;split at h;case h_2=>cases h
 rename_i t fq a na b nb m lab opn bp aM aR aF ay t1 aI t2 e2 aB t3 e3 au;split at h;case h_2=>cases h
 rename_i syms' items' h2 h3;simp only[aq,ax,ak,aN]at h;obtain⟨⟨g1,g2,g3,g4,g5,g6,g7,g8,g9⟩,rfl⟩:=h;subst g1;subst g2;subst g3;subst g4;subst g5;subst g6;subst g7;obtain⟨rfl,h2⟩:=bT h2;obtain⟨rfl,h3⟩:=bT h3;have h2:aB=syms':=h2;have h3:au=items':=h3;subst h2;subst h3;have g8:na=aB.length:=g8;have g9:nb=au.length:=g9;subst g8;subst g9;exact⟨rfl,rfl⟩
def knB (s:SS):Bool:=s.aI.all λq=>Nat.ble (q.2.toNat) s.aB.length
def agp (s:SS):Bool:=Nat.ble s.lab.length 1000000&&Nat.ble s.bp.length 1000000
theorem aa3 {s:SS}(h:knB s=true)(w:List UInt8)(h0:0<iz s.aI w):iz s.aI w<=s.aB.length:=by
 have:∀l:List (List UInt8×Int),(l.all λq=>Nat.ble (q.2.toNat) s.aB.length)=true->0<iz l w->iz l w<=s.aB.length:=by
  intro l;induction l with
  |nil=>intro _ h0;exact absurd h0 (by show ¬(0:Int)<0;decide)
  |cons q l ih =>
   intro hl h0;rw[bY,ak]at hl;unfold iz at h0 ⊢;rw[av]at h0 ⊢;by_cases hq:decide (w=q.1)=true
   .rw[ag hq]at h0 ⊢;have:=az hl.1;omega
   rw[aa hq]at h0 ⊢;exact ih hl.2 h0
 exact this s.aI h h0
def iM (x:List Nd)(l:List Sy):Int×Bool×Int:=QJ x l 0 0
def gS (x:List Nd):List (List UInt8):=if rM bX x=0 then vn x [] else []
def pCn:List Bool:=[true,true,true,true,false,true,false]
def XG:eD:=⟨gZ [0,6,25,26,27,8] pCn,.none,[]⟩
def mK0 (s:SS)(nm:List (List UInt8)):aH:=eS 2 [.cells 81 (YI 1 3 4 s.aB.length s.au.length s),.mp 79 s.aI,.list 9 .str nm 0 false false,.list 61 kj s.aB 0 false false,.list 56 x6 s.au 0 false false]
def mK1 (s:SS)(nm:List (List UInt8))(l:List Sy):aH:=eS 2 [.cells 81 (YI 1 4 5 s.aB.length s.au.length s),.mp 79 s.aI,.list 9 .str nm 0 false false,.list 61 kj l 0 false false,.list 61 kj s.aB 0 false false,.list 56 x6 s.au 0 false false]
def jK0 (s:SS)(X:List Nd)(nm:List (List UInt8))(r m n:Nat)(len i:Int):OG:=jf X0 (cV S1 N2 G1 _) XG r 58 pCn gw m (lz 66 [(0,.ptr 0 0),(6,.dW fL X),(25,.own 2 n),(26,.int .i64 len),(27,.int .i64 i),(8,.dg)]) (mK0 s nm)
def SY (s:SS)(X:List Nd)(nm:List (List UInt8))(r m n:Nat)(l:List Sy)(k:Nat)(len i:Int):OG:=jf X0 (cV S1 N2 G1 _) XG r 58 pCn gw m (lz 66 [(0,.ptr 0 0),(6,.dW fL X),(25,.own 2 n),(26,.int .i64 len),(27,.int .i64 i),(8,.own 3 k)]) (mK1 s nm l)
def JA (s:SS)(q:Int×Int):OG:=some (.fH [.int .i64 q.1,.int .i64 q.2],vp s [])
def CO (s:SS)(X:List Nd)(l:List Sy):OG:=ah (Nat.ble l.length 2000000) (ah (!bI (QJ X l 0 0).2.2 0) (JA s (0,(QJ X l 0 0).2.2)) (ah (QJ X l 0 0).2.1 (JA s (0,5)) (JA s ((QJ X l 0 0).1,0)))) none
def vH (s:SS)(nm:List (List UInt8))(len i:Int)(fin skip:OG)(new:Sy->OG):OG :=
 ah (bB i len) (sW nm i λw=>ah (bB 0 (iz s.aI w)) (sW s.aB (IntKind.wrap .i64 (iz s.aI w-1)) λy=>new (y.1,y.2.1,y.2.2)) skip) fin
theorem XH (fq:Int)(aB:List Sy)(au:List It)(aI:List (List UInt8×Int))(lab:List UInt8)(opn:Bool)(bp:List UInt8)(aM:Int)(aR:Bool)(aF ay:Int)(X:List Nd)(nm:List (List UInt8))(r m n:Nat)(len i:Int) :
 jK0 ⟨fq,aB,au,aI,lab,opn,bp,aM,aR,aF,ay⟩ X nm r (m+1) n len i =
 vH ⟨fq,aB,au,aI,lab,opn,bp,aM,aR,aF,ay⟩ nm len i (CO ⟨fq,aB,au,aI,lab,opn,bp,aM,aR,aF,ay⟩ X []) (jK0 ⟨fq,aB,au,aI,lab,opn,bp,aM,aR,aF,ay⟩ X nm r m n len (IntKind.wrap .i64 (i+1)))
  λy=>SY ⟨fq,aB,au,aI,lab,opn,bp,aM,aR,aF,ay⟩ X nm r m n [y] 1 len (IntKind.wrap .i64 (i+1)):=by kernel_rfl
theorem XI (fq:Int)(aB:List Sy)(au:List It)(aI:List (List UInt8×Int))(lab:List UInt8)(opn:Bool)(bp:List UInt8)(aM:Int)(aR:Bool)(aF ay:Int)(X:List Nd)(nm:List (List UInt8))(r m n:Nat)(l:List Sy)(k:Nat)(len i:Int) :
 SY ⟨fq,aB,au,aI,lab,opn,bp,aM,aR,aF,ay⟩ X nm r (m+1) n l k len i =
 vH ⟨fq,aB,au,aI,lab,opn,bp,aM,aR,aF,ay⟩ nm len i (CO ⟨fq,aB,au,aI,lab,opn,bp,aM,aR,aF,ay⟩ X l) (SY ⟨fq,aB,au,aI,lab,opn,bp,aM,aR,aF,ay⟩ X nm r m n l k len (IntKind.wrap .i64 (i+1)))
  λy=>ah (Nat.ble (l.length+1) 2000000) (SY ⟨fq,aB,au,aI,lab,opn,bp,aM,aR,aF,ay⟩ X nm r m n (l++[y]) (l.length+1) len (IntKind.wrap .i64 (i+1))) none:=by kernel_rfl
theorem agq (fq:Int)(aB:List Sy)(au:List It)(aI:List (List UInt8×Int))(lab:List UInt8)(opn:Bool)(bp:List UInt8)(aM:Int)(aR:Bool)(aF ay:Int)(x:List Nd)(r:Nat) :
 aT X0 (cV S1 N2 G1 _) XG r 58 [.ptr 0 0,.dW fL x] (eS 2 (vp ⟨fq,aB,au,aI,lab,opn,bp,aM,aR,aF,ay⟩ [])) gw =
 (λgo:List UInt8->OG=>ah opn (go bp) (go lab)) λc=>ah (Nat.ble c.length 2000000&&eL x) (ah (!(dm c x).2) (JA ⟨fq,aB,au,aI,lab,opn,bp,aM,aR,aF,ay⟩ (0,3))
  (jK0 ⟨fq,aB,au,aI,lab,opn,bp,aM,aR,aF,ay⟩ (dm c x).1 (gS (dm c x).1) r r (gS (dm c x).1).length (gS (dm c x).1).length 0)) none:=by kernel_rfl
theorem SZ {α:Type}{l:List α}{i:Int}(h0:0<=i)(h1:i<l.length):∃y pre JP,l=pre++y::JP/\(pre.length:Int)=i/\dX l i=some y:=by
 obtain⟨n,rfl⟩:=Int.eq_ofNat_of_zero_le h0;have hn:n<l.length:=by omega
 refine⟨l[n],l.take n,l.drop (n+1),?_,?_,?_⟩
 .rw[List.getElem_cons_drop,eX]
 .rw[bZ];omega
 show l[n]? = _;exact aO hn
theorem Ms {s:SS}(hk:knB s=true)(hs:s.aB.length<=2000000){nm pre rest:List (List UInt8)}{w:List UInt8}(he:nm=pre++w::rest)(fin skip:OG)(new:Sy->OG) :
 vH s nm nm.length pre.length fin skip new=match sL s w with
  |some y=>new y
  |none=>skip:=by
 have hl:nm.length=pre.length+(rest.length+1):=by rw[he];simp
 unfold vH sL;rw[pL (by omega),he];show sW _ _ _=_;rw[qv rfl,cG];by_cases h0:0<iz s.aI w
 .rw[ag h0,ag h0];have h1:=aa3 hk w h0;rw[i64_in (n:=iz s.aI w-1) (by omega) (by omega)];obtain⟨y,_,_,_,_,hy⟩:=SZ (l:=s.aB) (i:=iz s.aI w-1) (by omega) (by omega);unfold sW;rw[hy]
 rw[aa h0,aa h0]
theorem agr {s:SS}(hk:knB s=true)(hs:s.aB.length<=2000000)(X:List Nd)(nm:List (List UInt8))(r n:Nat):∀(rest pre:List (List UInt8)) (m:Nat) (l:List Sy),nm=pre++rest->rest.length<m->l.length+rest.length<=2000000->pre.length+rest.length<=2000000 ->
 SY s X nm r m n l l.length nm.length pre.length=CO s X (l++rest.filterMap (sL s)):=by
 intro rest;induction rest with
 |nil =>
  intro pre m l he hm hl hp;obtain⟨m,rfl⟩:∃m',m=m'+1:=⟨m-1,by simp at hm;omega⟩;obtain rfl:nm=pre:=by rw[he];simp
  cases s;rw[XI];unfold vH;rw[fG (by omega)];show CO _ _ _=_;simp
 |cons w rest ih =>
  intro pre m l he hm hl hp;obtain⟨m,rfl⟩:∃m',m=m'+1:=⟨m-1,by simp at hm;omega⟩;have go:∀l':List Sy,l'.length+rest.length<=2000000->SY s X nm r m n l' l'.length nm.length (IntKind.wrap .i64 ((pre.length:Int)+1))=CO s X (l'++rest.filterMap (sL s)):=λl' hl'=>by
   have hp':pre.length+(rest.length+1)<=2000000:=by simpa using hp
   rw[i64_in (n:=(pre.length:Int)+1) (by omega) (by omega)];have:=ih (pre++[w]) m l' (by rw[he];simp) (by simp at hm;omega) hl' (by simp;omega);simpa using this
  have hstep:=Ms hk hs he (CO s X l) (SY s X nm r m n l l.length nm.length (IntKind.wrap .i64 ((pre.length:Int)+1))) λy=>ah (Nat.ble (l.length+1) 2000000) (SY s X nm r m n (l++[y]) (l.length+1) nm.length (IntKind.wrap .i64 ((pre.length:Int)+1))) none
  have e:SY s X nm r (m+1) n l l.length nm.length pre.length=vH s nm nm.length pre.length (CO s X l) (SY s X nm r m n l l.length nm.length (IntKind.wrap .i64 ((pre.length:Int)+1))) λy=>ah (Nat.ble (l.length+1) 2000000) (SY s X nm r m n (l++[y]) (l.length+1) nm.length (IntKind.wrap .i64 ((pre.length:Int)+1))) none:=by
   cases s;exact XI _ _ _ _ _ _ _ _ _ _ _ _ _ _ _ _ _ _ _ _
  rw[e,hstep,fJ];cases sL s w with
  |none=>exact go l (by simp at hl;omega)
  |some y =>
   simp only;rw[ee (by simp at hl;omega)];have:=go (l++[y]) (by simp at hl ⊢;omega);rw[aA,bQ]at this;exact this
theorem ags {s:SS}(hk:knB s=true)(hs:s.aB.length<=2000000)(X:List Nd)(nm:List (List UInt8))(r n:Nat):∀(rest pre:List (List UInt8)) (m:Nat),nm=pre++rest->rest.length<m->pre.length+rest.length<=1000000 ->
 jK0 s X nm r m n nm.length pre.length=CO s X (rest.filterMap (sL s)):=by
 intro rest;induction rest with
 |nil =>
  intro pre m he hm hp;obtain⟨m,rfl⟩:∃m',m=m'+1:=⟨m-1,by simp at hm;omega⟩;obtain rfl:nm=pre:=by rw[he];simp
  cases s;rw[XH];unfold vH;rw[fG (by omega)];rfl
 |cons w rest ih =>
  intro pre m he hm hp;obtain⟨m,rfl⟩:∃m',m=m'+1:=⟨m-1,by simp at hm;omega⟩;have hp':pre.length+(rest.length+1)<=1000000:=by simpa using hp
  have hw:IntKind.wrap .i64 ((pre.length:Int)+1)=((pre++[w]).length:Int):=by rw[i64_in (n:=(pre.length:Int)+1) (by omega) (by omega)];simp
  have hstep:=Ms hk hs he (CO s X []) (jK0 s X nm r m n nm.length (IntKind.wrap .i64 ((pre.length:Int)+1))) λy=>SY s X nm r m n [y] 1 nm.length (IntKind.wrap .i64 ((pre.length:Int)+1))
  have e:jK0 s X nm r (m+1) n nm.length pre.length=vH s nm nm.length pre.length (CO s X []) (jK0 s X nm r m n nm.length (IntKind.wrap .i64 ((pre.length:Int)+1))) λy=>SY s X nm r m n [y] 1 nm.length (IntKind.wrap .i64 ((pre.length:Int)+1)):=by
   cases s;exact XH _ _ _ _ _ _ _ _ _ _ _ _ _ _ _ _ _ _
  rw[e,hstep,fJ,hw];cases sL s w with
  |none=>exact ih (pre++[w]) m (by rw[he];simp) (by simp at hm;omega) (by simp;omega)
  |some y=>exact agr hk hs X nm r n rest (pre++[w]) m [y] (by rw[he];simp) (by simp at hm;omega) (by simp;omega) (by simp;omega)
theorem Ft:∀(x:List Nd) (o:List (List UInt8)),(vn x o).length<=o.length+x.length
 |[],o=>by simp[vn]
 |y::x,o=>by
  unfold vn;split
  .have:=Ft x (o++[y.2.2.1]);simp at this ⊢;omega
  have:=Ft x o;simp at this ⊢;omega
theorem aa5 (x:List Nd):(gS x).length<=200:=by
 unfold gS;split
 .rename_i h;have h1:=Ft x [];have h2:=(Aw h).2.1;simp at h1;omega
 simp
def zj (s:SS):Bool:=knB s&&(agp s&&(Nat.ble s.aB.length 1000000&&Nat.ble s.au.length 20000))
theorem sP {s:SS}(h:zj s=true):knB s=true/\(s.lab.length<=1000000/\s.bp.length<=1000000)/\s.aB.length<=1000000/\s.au.length<=20000:=by
 unfold zj agp at h;simp only[ak]at h;exact⟨h.1,⟨az h.2.1.1,az h.2.1.2⟩,az h.2.2.1,az h.2.2.2⟩
theorem rY {s:SS}(h:zj s=true):(cg s).length<=1000000:=by
 obtain⟨_,⟨h1,h2⟩,_⟩:=sP h;unfold cg;split<;>assumption
theorem aa6 {s:SS}{x:List Nd}(h:(dm (cg s) x).2=true)(hl:((gS (dm (cg s) x).1).filterMap (sL s)).length<=2000000) :
 CO s (dm (cg s) x).1 ((gS (dm (cg s) x).1).filterMap (sL s))=JA s (cQ iM gS s x):=by
 unfold CO cQ iM;rw[ee hl,aa (by rw[h];decide)];show ah _ _ _=_;rw[cX];generalize QJ (dm (cg s) x).1 ((gS (dm (cg s) x).1).filterMap (sL s)) 0 0=q;by_cases h0:q.2.2=0
 .rw[ag h0,aa (by simp[h0])];cases hq:q.2.1<;>rfl
 rw[aa h0,ag h0]
theorem runK {s:SS}(hs:zj s=true){x:List Nd}(hx:eL x=true):aT X0 (cV S1 N2 G1 _) XG 300 58 [.ptr 0 0,.dW fL x] (eS 2 (vp s [])) gw=JA s (cQ iM gS s x):=by
 have hsc:=rY hs;obtain⟨k1,_,k3,_⟩:=sP hs;have key:ah (Nat.ble (cg s).length 2000000&&eL x) (ah (!(dm (cg s) x).2) (JA s (0,3)) (jK0 s (dm (cg s) x).1 (gS (dm (cg s) x).1) 300 300 (gS (dm (cg s) x).1).length (gS (dm (cg s) x).1).length 0)) none=JA s (cQ iM gS s x):=by
  rw[ee (by omega),hx];show ah _ _ _=_;cases hn:(dm (cg s) x).2 with
  |false =>
   show JA _ _=_;unfold cQ;rw[ag hn]
  |true =>
   show jK0 _ _ _ _ _ _ _ _=_;have hl:=aa5 (dm (cg s) x).1;refine(ags k1 (by omega) (dm (cg s) x).1 (gS (dm (cg s) x).1) 300 _ (gS (dm (cg s) x).1) [] 300 rfl (by omega) (by show 0+_<=_;omega)).trans (aa6 hn ?_);have:=List.length_filterMap_le (sL s) (gS (dm (cg s) x).1);omega
 cases s with
 |mk fq aB au aI lab opn bp aM aR aF ay =>
  rw[agq];cases opn<;>exact key
def gK (args:List AV)(rows:List Row):Option (Bool×AV×List Row) :=
 match args,rows with
 |[.ptr 0 0,.dW e x],c::l=>match iq e fL x,uz 0 c l with
  |some x,some (b,s)=>some (b&&(zj s&&eL x),.fH [.int .i64 (cQ iM gS s x).1,.int .i64 (cQ iM gS s x).2],vp s [])
  |_,_=>none
 |_,_=>none
theorem akM:j5 X0 gW 58 gK :=
 nI (λargs=>lt.bS rfl args) (rz qN uy Mp) λargs rows v outs hg=>by
  unfold gK at hg;split at hg;case h_2=>cases hg
  rename_i e x c l;split at hg;case h_2=>cases hg
  rename_i x' b s hx hr;simp only[aq,ax,ak]at hg;obtain⟨⟨rfl,h1,h2⟩,rfl,rfl⟩:=hg;obtain⟨rfl,hx⟩:=bT hx;have hx:x=x':=hx;subst hx;obtain⟨rfl,rfl⟩:=fU hr;exact⟨XG,300,runK h1 h2⟩
def vO:List (Option (TypeId×Tv.Ty)):=[none,some (61,kj),some (56,x6)]
def G2:List AB:=(58,⟨81,vO,gK⟩)::G1
theorem akN:pI X0 gW G2:=.cons akM Mp
def I1 (x:RS):List AV:=[.str x.lab,.int .i64 x.aC,.int .i64 x.sz,.int .i64 x.op,.int .i64 x.aL,.dW nu x.args,.dW EX x.data,.dW fL x.x,.dW fL x.ai]
def Pa (n:Nat):Row:=.cells 78 [.ptr n 0]
def scR (c:List UInt8):Row:=.cells 121 [.str c]
def Mt (x:RS):Row:=.cells 46 (I1 x)
def rdM (cs:List Row)(s:SS)(nb:Nat):List Row:=cs++[.cells 81 (YI (cs.length+1) (cs.length+2) (cs.length+3) s.aB.length nb s),.mp 79 s.aI,.list 61 kj s.aB 0 false false,.list 56 x6 s.au 0 false false]
def pD1:List Bool:=[true,false]
def aa7:eD:=⟨gZ [0,1,2,9,10,11] pD1,.none,[]⟩
def YJ (x:RS)(c:List UInt8)(s:SS)(nb r m:Nat)(len i:Int):OG:=jf X0 (cV S1 N2 G1 _) aa7 r 107 pD1 gw m (lz 48 [(0,.ptr 0 0),(1,.ptr 1 0),(2,.ptr 2 0),(9,.dW EX x.data),(10,.int .i64 len),(11,.int .i64 i)]) (eS 5 (rdM [Mt x,Pa 3,scR c] s nb))
def Hx (x:RS)(c:List UInt8)(s:SS):OG:=some (.fH [],rdM [Mt x,Pa 3,scR c] s s.au.length)
def XJ (n sz:Int):Int:=IntKind.wrap .i64 (IntKind.wrap .i64 (Int.tdiv (IntKind.wrap .i64 (IntKind.wrap .i64 (n+sz)-1)) sz)*sz)
def agt (t:List UInt8)(p:Int):List Int:=List.take p.toNat (List.drop 0 (mc (List.replicate p.toNat (0:Int)) 0 (List.take (Nat.min (t.map cU).length p.toNat) (t.map cU))))
def Fu {β:Type}(p:Int)(k:Option β):Option β:=ah (!bB p 0 && !bB p p && !bB 2000000 p) k none
def nN {β:Type}(n:Nat)(k:Option β):Option β:=ah (Nat.ble (n+1) 2000000) k none
def gM (s:SS)(l:List It):SS:={ s with au:=l }
def Ck (data:List Dt)(sz:Int)(c:List UInt8)(ay:Int)(au:List It)(len i:Int)(J:List It->OG)(fin:OG):OG :=
 ah (bB i len) (sW data i λy=>ah (bI (y.2.length:Int) 0)
  (ah (bI sz 0) none (Fu (XJ y.1.length sz) (nN au.length (J (au++[(ay,4,[],(0,0,[]),[],agt y.1 (XJ y.1.length sz),0)])))))
  (ah (Nat.ble c.length 2000000&&eL y.2) (nN au.length (J (au++[(ay,3,[],(0,0,[]),(dm c y.2).1,[],sz)]))) none)) fin
theorem XK (a:Int)(lab:List UInt8)(aC sz op aL:Int)(args:List Raw)(data:List Dt)(xx ai:List Nd)(e f:Int)(c:List UInt8)(fq:Int)(aB:List Sy)(au:List It)(aI:List (List UInt8×Int))(iC:List UInt8)(opn:Bool)(bp:List UInt8)(aM:Int)(aR:Bool)(aF ay:Int)(nb r m:Nat)(len i:Int) :
 YJ ⟨a,lab,aC,sz,op,aL,args,data,xx,ai,e,f⟩ c ⟨fq,aB,au,aI,iC,opn,bp,aM,aR,aF,ay⟩ nb r (m+1) len i =
 Ck data sz c ay au len i (λl=>YJ ⟨a,lab,aC,sz,op,aL,args,data,xx,ai,e,f⟩ c ⟨fq,aB,l,aI,iC,opn,bp,aM,aR,aF,ay⟩ (au.length+1) r m len (IntKind.wrap .i64 (i+1)))
  (Hx ⟨a,lab,aC,sz,op,aL,args,data,xx,ai,e,f⟩ c ⟨fq,aB,au,aI,iC,opn,bp,aM,aR,aF,ay⟩):=by kernel_rfl
theorem aa8 (a:Int)(lab:List UInt8)(aC sz op aL:Int)(args:List Raw)(data:List Dt)(xx ai:List Nd)(e f:Int)(c:List UInt8)(fq:Int)(aB:List Sy)(au:List It)(aI:List (List UInt8×Int))(iC:List UInt8)(opn:Bool)(bp:List UInt8)(aM:Int)(aR:Bool)(aF ay:Int)(r:Nat) :
 aT X0 (cV S1 N2 G1 _) aa7 r 107 [.ptr 0 0,.ptr 1 0,.ptr 2 0] (eS 5 (rdM [Mt ⟨a,lab,aC,sz,op,aL,args,data,xx,ai,e,f⟩,Pa 3,scR c] ⟨fq,aB,au,aI,iC,opn,bp,aM,aR,aF,ay⟩ au.length)) gw =
 YJ ⟨a,lab,aC,sz,op,aL,args,data,xx,ai,e,f⟩ c ⟨fq,aB,au,aI,iC,opn,bp,aM,aR,aF,ay⟩ au.length r r data.length 0:=by kernel_rfl
def XL (ay:Int)(c:List UInt8)(sz:Int)(d:Dt):It:=if d.2=[] then (ay,4,[],(0,0,[]),[],aay d.1 sz,0) else (ay,3,[],(0,0,[]),(dm c d.2).1,[],sz)
def Ct (sz:Int):Bool:=bI sz 1||(bI sz 2||(bI sz 4||bI sz 8))
def JQ (l:List Dt):Bool:=Nat.ble l.length 100000&&l.all λd=>Nat.ble d.1.length 1000000&&eL d.2
theorem xd {sz:Int}(h:Ct sz=true):sz=1\/sz=2\/sz=4\/sz=8:=by
 unfold Ct at h;simp only[eT,cJ,eI]at h;exact h
theorem Di {n:Nat}{sz:Int}(h:sz=1\/sz=2\/sz=4\/sz=8):(n:Int)<=Ar n sz/\Ar n sz<=n+7:=by
 unfold Ar;rcases h with rfl|rfl|rfl|rfl<;>rw[dc (by omega)]<;>omega
theorem Q2 {n:Nat}{sz:Int}(h:sz=1\/sz=2\/sz=4\/sz=8)(hn:n<=1000000):XJ n sz=Ar n sz:=by
 have h2:=Di (n:=n) h;have h3:0<=Int.tdiv ((n:Int)+sz-1) sz/\Int.tdiv ((n:Int)+sz-1) sz<=n+8:=by
  rcases h with rfl|rfl|rfl|rfl<;>rw[dc (by omega)]<;>omega
 unfold XJ;rw[i64_in (n:=(n:Int)+sz) (by omega) (by omega),i64_in (n:=(n:Int)+sz-1) (by omega) (by omega),i64_in (n:=Int.tdiv ((n:Int)+sz-1) sz) (by omega) (by omega)];exact i64_in (by unfold Ar at h2;omega) (by unfold Ar at h2;omega)
theorem XM {α:Type}:∀(v pre JP:List α),v.length<=JP.length->mc (pre++JP) pre.length v=pre++(v++JP.drop v.length)
 |[],pre,JP,_=>by simp[mc]
 |a::v,pre,[],h=>by simp at h
 |a::v,pre,b::JP,h=>by
  have e:(pre++b::JP).set pre.length a=(pre++[a])++JP:=by rw[kq _ _ (aG _),ow];simp
  show mc ((pre++b::JP).set pre.length a) (pre.length+1) v=_;rw[e];have:=XM v (pre++[a]) JP (by simpa using h);rw[aA]at this;refine this.trans ?_;simp
theorem aa9 {t:List UInt8}{sz:Int}(h:sz=1\/sz=2\/sz=4\/sz=8):agt t (Ar t.length sz)=aay t sz:=by
 have h2:=Di (n:=t.length) h;unfold agt aay;generalize Ar t.length sz=p at h2;have hmin:Nat.min (t.map cU).length p.toNat=(t.map cU).length:=gm (by simp;omega);have h4:=XM (t.map cU) [] (List.replicate p.toNat (0:Int)) (by simp;omega);rw[hmin,kD,mK];have h5:mc (List.replicate p.toNat (0:Int)) 0 (t.map cU)=t.map cU++List.replicate (p.toNat-t.length) 0:=by
  refine h4.trans ?_;simp
 rw[h5,cS (by simp;omega)]
theorem agu (x:RS){c:List UInt8}(hc:c.length<=2000000)(s:SS)(r:Nat)(hz:x.sz=1\/x.sz=2\/x.sz=4\/x.sz=8)(hd:∀d∈x.data,d.1.length<=1000000/\eL d.2=true)(hx:x.data.length<=100000) :
 ∀(rest pre:List Dt) (m nb:Nat) (it:List It),x.data=pre++rest->rest.length<m->it.length+rest.length<=1000000->YJ x c (gM s it) nb r m x.data.length pre.length=Hx x c (gM s (it++rest.map (XL s.ay c x.sz))):=by
 intro rest;induction rest with
 |nil =>
  intro pre m nb it he hm hn;obtain⟨m,rfl⟩:∃m',m=m'+1:=⟨m-1,by simp at hm;omega⟩;have hp:x.data.length=pre.length:=by rw[he];simp
  have e:YJ x c (gM s it) nb r (m+1) x.data.length pre.length=Ck x.data x.sz c s.ay it x.data.length pre.length (λl=>YJ x c (gM s l) (it.length+1) r m x.data.length (IntKind.wrap .i64 ((pre.length:Int)+1))) (Hx x c (gM s it)):=by
   cases x;cases s;exact XK ..
  rw[e];unfold Ck;rw[fG (by omega)];show Hx _ _ _=_;simp[gM]
 |cons y rest ih =>
  intro pre m nb it he hm hn;obtain⟨m,rfl⟩:∃m',m=m'+1:=⟨m-1,by simp at hm;omega⟩;have hl:x.data.length=pre.length+(rest.length+1):=by rw[he];simp
  obtain⟨y1,y2⟩:=hd y (by rw[he];simp);have hn':it.length+(rest.length+1)<=1000000:=by simpa using hn
  have go:∀q:It,q=XL s.ay c x.sz y->YJ x c (gM s (it++[q])) (it.length+1) r m x.data.length (IntKind.wrap .i64 ((pre.length:Int)+1))=Hx x c (gM s (it++(y::rest).map (XL s.ay c x.sz))):=λq hq=>by
   rw[i64_in (n:=(pre.length:Int)+1) (by omega) (by omega)];have:=ih (pre++[y]) m (it.length+1) (it++[q]) (by rw[he];simp) (by simp at hm;omega) (by simp;omega);rw[aA]at this;refine this.trans ?_;rw[hq,bQ];rfl
  have e:YJ x c (gM s it) nb r (m+1) x.data.length pre.length=Ck x.data x.sz c s.ay it x.data.length pre.length (λl=>YJ x c (gM s l) (it.length+1) r m x.data.length (IntKind.wrap .i64 ((pre.length:Int)+1))) (Hx x c (gM s it)):=by
   cases x;cases s;exact XK ..
  rw[e];unfold Ck;rw[pL (by omega),he];show sW _ _ _=_;rw[qv rfl,ck,<-he];by_cases h0:(y.2.length:Int)=0
  .have h2:y.2=[]:=aQ.1 (by omega);have hp:=Di (n:=y.1.length) hz;rw[ag h0,xI (by omega),Q2 hz y1];show Fu _ _=_;unfold Fu;rw[fG (a:=Ar y.1.length x.sz) (b:=0) (by omega),fG (a:=Ar y.1.length x.sz) (b:=Ar y.1.length x.sz) (by omega),fG (a:=2000000) (by omega)];show nN _ _=_;unfold nN;rw[ee (by omega),aa9 hz];exact go _ (by unfold XL;rw[ag h2])
  have h2:y.2≠[]:=λq=>h0 (by rw[q];rfl)
  rw[aa h0,ee hc,y2];show nN _ _=_;unfold nN;rw[ee (by omega)];exact go _ (by unfold XL;rw[aa h2])
def Fv:Row->Option (Bool×RS)
 |.cells t [.str lab,.int .i64 aC,.int .i64 sz,.int .i64 op,.int .i64 aL,.dW e1 args,.dW e2 data,.dW e3 x,.dW e4 ai] =>
  match iq e1 nu args,iq e2 EX data,iq e3 fL x,iq e4 fL ai with
  |some args,some data,some x,some ai=>some (Nat.beq t 46,⟨0,lab,aC,sz,op,aL,args,data,x,ai,0,0⟩)
  |_,_,_,_=>none
 |_=>none
theorem nJ {r:Row}{x:RS}(h:Fv r=some (true,x)):r=Mt x:=by
 unfold Fv at h;split at h;case h_2=>cases h
 rename_i t lab aC sz op aL e1 args e2 data e3 xx e4 ai;split at h;case h_2=>cases h
 rename_i a1 a2 a3 a4 h1 h2 h3 h4;simp only[aq,ax,aN]at h;obtain⟨rfl,rfl⟩:=h;obtain⟨rfl,h1⟩:=bT h1;obtain⟨rfl,h2⟩:=bT h2;obtain⟨rfl,h3⟩:=bT h3;obtain⟨rfl,h4⟩:=bT h4;have h1:args=a1:=h1;have h2:data=a2:=h2;have h3:xx=a3:=h3;have h4:ai=a4:=h4;subst h1;subst h2;subst h3;subst h4;rfl
def gD1 (args:List AV)(rows:List Row):Option (Bool×AV×List Row) :=
 match args,rows with
 |[.ptr 0 0,.ptr 1 0,.ptr 2 0],st :: .cells t1 [.ptr 3 0] :: .cells t2 [.str c]::rd::l=>match Fv st,uz 3 rd l with
  |some (b,x),some (b',s)=>some (b&&(b'&&(Nat.beq t1 78&&(Nat.beq t2 121&&(Nat.ble c.length 2000000&&(Ct x.sz&&(JQ x.data&&Nat.ble (s.au.length+x.data.length) 1000000)))))),.fH [],rdM [Mt x,Pa 3,scR c] (gM s (s.au++x.data.map (XL s.ay c x.sz))) (s.au++x.data.map (XL s.ay c x.sz)).length)
  |_,_=>none
 |_,_=>none
theorem uA {l:List Dt}(h:JQ l=true):l.length<=100000/\∀d∈l,d.1.length<=1000000/\eL d.2=true:=by
 unfold JQ at h;rw[ak]at h;refine⟨az h.1,λd hd=>?_⟩;have:=aP.1 h.2 d hd;rw[ak]at this;exact⟨az this.1,this.2⟩
theorem agv:j5 X0 gW 107 gD1 :=
 nI (λargs=>lt.bS rfl args) (rz qN uy Mp) λargs rows v outs hg=>by
  unfold gD1 at hg;split at hg;case h_2=>cases hg
  rename_i st t1 t2 c rd l;split at hg;case h_2=>cases hg
  rename_i b x b' s hs hr;simp only[aq,ax,ak,aN]at hg;obtain⟨⟨rfl,rfl,h1,h2,h3,h4,h5,h6⟩,rfl,rfl⟩:=hg;subst h1;subst h2;obtain rfl:=nJ hs;obtain⟨rfl,rfl⟩:=fU hr;obtain⟨d1,d2⟩:=uA h5;have h6:=az h6;refine⟨aa7,x.data.length+1,?_⟩;have e:aT X0 (cV S1 N2 G1 _) aa7 (x.data.length+1) 107 [.ptr 0 0,.ptr 1 0,.ptr 2 0] (eS 5 (rdM [Mt x,Pa 3,scR c] s s.au.length)) gw=YJ x c s s.au.length (x.data.length+1) (x.data.length+1) x.data.length 0:=by
   cases x;cases s;exact aa8 ..
  refine Eq.trans ?_ ((agu x (az h3) s (x.data.length+1) (xd h4) d2 d1 x.data [] (x.data.length+1) s.au.length s.au rfl (by omega) h6).trans rfl);exact e
def G3:List AB:=(107,⟨81,vO,gD1⟩)::G2
theorem acS:pI X0 gW G3:=.cons agv akN
end
end Go.Proofs.YtfggompceldfgaaGreatDoor.ps.sr
