/- Sources: slices.Clone. Sources: what a reader has, as rows; calls. Sources: names completed: expressions, instructions. Sources: an instruction's names completed. Sources: the number of an expression that hangs on no place. Sources: the contract of constant. Sources: pieces of data, once. -/
import Derived.Test.YtbeckacfibledaaGreatDoorGrh
import Derived.Test.YtbeckacfibledaaGreatDoorGva
import Derived.Test.YtbeckacfibledaaGreatDoorLyh
set_option linter.unusedVariables false
set_option linter.unusedSimpArgs false

namespace Go.Proofs.YtbeckacfibledaaGreatDoor.ps.sr
open Go.Tv Go.Ev Go.Px Go.Pp Go.Proofs.YtbeckacfibledaaGreatDoor.ex
set_option maxRecDepth 100000
noncomputable section
def Yk (f:FuncId):Code:=match X0.P.funcs[f]? with
 |some fn=>match fn.body with
  |some (.seq _ (.seq _ c))=>c
  |_=>.skip
 |none=>.skip
def Cf (t:TypeId)(e:Tv.Ty)(args:List AV)(rows:List Row):Option (Bool×AV×List Row) :=
 match args,rows with
 |[.dH e' l],[]=>match iC e' e l with
  |some l=>some (Nat.ble l.length 2000000,.own 0 l.length,[.list t e l 0 false false])
  |none=>none
 |_,_=>none
theorem P6 {t:TypeId}{e:Tv.Ty}{args:List AV}{rows outs:List Row}{v:AV}(h:Cf t e args rows=some (true,v,outs)):∃l:List e.den,args=[.dH e l]/\rows=[]/\l.length<=2000000/\v = .own 0 l.length/\outs=[.list t e l 0 false false]:=by
 unfold Cf at h;split at h;case h_2=>cases h
 rename_i e' l;split at h;case h_2=>cases h
 rename_i l' hc;simp only[aq,ay]at h;obtain⟨h1,rfl,rfl⟩:=h;obtain⟨rfl,hc⟩:=bT hc;have hc:l=l':=hc;subst hc;exact⟨l,rfl,rfl,az h1,rfl,rfl⟩
structure DC (f:FuncId)(fn:Func)(t:TypeId)(e:Tv.Ty):Prop where
 atf:X0.P.funcs[f]? = some fn
 res:fn.results.toList=[.tmp 2]
 nil:∀(R D:Nat) (E:Mem),nR X0.P X0.G lt.kn R (D+1) f [.slice none 0 0] E=some (.slice none 0 0,E)
 head:∀(call:cH) (R:Nat) (a:Addr) (len cap:Nat) (E:Mem),lR X0.P X0.G call R f [.slice (some a) len cap] E =
  match (Fr.mk 8 (Tr.full (xQ 8))).fill 0 [.slice (some a) len cap] with
  |some f0=>match f0.put (some 2) (.slice none 0 0) with
   |some f1=>match f1.put (some 3) (.slice (some a) len cap) with
    |some f2=>match f2.put (some 4) (.bool false) with
     |some f3=>Df X0.P fn (jQ X0.P X0.G call (uZ X0.P X0.G call R R) R (Yk f) f3 E)
     |none=>none
    |none=>none
   |none=>none
  |none=>none
 run:∀l:List e.den,iD X0 (cN [] [] _) [] (λ_ _ _ _ _=>none) 5 (Yk f) .none (kr 8 [(0,.dH e l),(2,.dG),(3,.j5),(4,.j5)]) aG.empty (λlv f H=>match lv with
  |.ret=>gG (f.get 2) H
  |_=>none)=ah (Nat.ble (0+l.length) 2000000) (some (.own 0 l.length,[.list t e l 0 false false])) none
theorem Cg {f:FuncId}(hin:lt.inl f=true){fn:Func}{t:TypeId}{e:Tv.Ty}(h:DC f fn t e):j7 X0 fU f (Cf t e):=by
 intro args rows v outs hg p S E bJ hp hr hgl hl;obtain⟨l,rfl,rfl,hlen,rfl,rfl⟩:=P6 hg;subst hp;obtain⟨x,rfl,hx⟩:=LV.single hl;have hcases:(l=[]/\x = .slice none 0 0)\/∃a len cap,x = .slice (some a) len cap:=by
  cases hx with
  |dH _ _ _ hs =>
   rcases hs with⟨h1,h2|h2⟩|⟨i,pre,mid,post,cap,h1,_⟩
   .exact .inl ⟨h1,h2⟩
   .exact .inr ⟨_,_,_,h2⟩
   exact .inr ⟨_,_,_,h1⟩
 rcases hcases with⟨rfl,rfl⟩|⟨a,len,cap,rfl⟩
 .have ox:∀v,S.Γ (eU 0 []).next v=none:=λv=>hr.C3 _ _ (aC _)
  obtain⟨b1,b2,b3⟩:=hr.add (E':=E) (r:=.list t e [] 0 false false) (x:=none) (g:=some ⟨e,[]⟩) (aC _) rfl (λ_ _=>rfl) (λr' hr'=>by cases hr';exact lz ox) (λy hy=>by cases hy) rfl;have hv:VR (S.new (eU 0 []).next none (some ⟨e,[]⟩)) (.own 0 0) (.slice none 0 0):=.gh 0 ⟨e,[]⟩ (by simp[Wo.new,eU]) rfl;refine⟨_,.slice none 0 0,E,⟨1,λn hn=>?_⟩,hv,b2,b3.NH⟩;obtain⟨R,D⟩:=n;obtain⟨D',rfl⟩:∃D',D=D'+1:=⟨D-1,by have:=hn.2;simp only at this;omega⟩;exact h.nil R D' E
 have hrun:=h.run l;rw[dS (by omega)]at hrun;have hJ:vq X0 false (β:=AV×List Row) (λ_ _ _ _ _=>none) (λn=>uZ X0.P X0.G (fU n) n.1 n.1):=λc rest f H k r h=>by cases h
 obtain⟨lv,f',H',h1,h2⟩:=Jk (jH .nil n0 _) hJ 5 (Yk f) .none (λ_=>rfl) _ _ _ _ hrun;split at h1;case h_2=>cases h1
 obtain⟨f0,e0⟩:=zk [.slice (some a) len cap] (Fr.mk 8 (Tr.full (xQ 8))) 0;obtain⟨f1,e1⟩:=Fr.pg f0 (some 2) (.slice none 0 0);obtain⟨f2,e2⟩:=Fr.pg f1 (some 3) (.slice (some a) len cap);obtain⟨f3,e3⟩:=Fr.pg f2 (some 4) (.bool false);have r0:mw S (fJ.mk 8 .e) (Fr.mk 8 (Tr.full (xQ 8))):=⟨rfl,λi=>.j5 _⟩;have r1:=EA r0 hl e0;have r2:=r1.put (v:=.dG) .dG e1;have r3:=r2.put (v:=.j5) (.j5 _) e2;have r4:=r3.put (v:=.j5) (.j5 _) e3;obtain⟨S1,fE,E1,a1,a2,a3,a4,_⟩:=h2 S E f3 hr hgl r4;obtain⟨S2,c1,c2,c3⟩:=P0 h1 a3 (a2.v 2)
 have hpar:H'.par=0:=a4.y9;rw[hpar]at c2 c3;refine⟨S2,fE.get 2,E1,gi (λargs=>lt.bS hin args) ?_,c1,c2,a4.trans c3⟩;obtain⟨N,a1⟩:=a1;refine⟨N,λn hn=>?_⟩;have:=a1 n hn;show lR X0.P X0.G (fU n) n.1 f [.slice (some a) len cap] E=_;rw[h.head];simp only[e0,e1,e2,e3,this];show cE E1 ((ko X0.P E1 fE fn.results.toList).map wz)=_;rw[h.res];rfl
theorem Yl:DC 122 Tryz.f122 76 eC :=
 ⟨by kernel_rfl,rfl,λR D E=>by kernel_rfl,λcall R a len cap E=>by kernel_rfl,λl=>by kernel_rfl⟩
theorem TV:DC 126 Tryz.f126 117 j3 :=
 ⟨by kernel_rfl,rfl,λR D E=>by kernel_rfl,λcall R a len cap E=>by kernel_rfl,λl=>by kernel_rfl⟩
theorem Ym:DC 96 Tryz.f96 5 (.int .u8) :=
 ⟨by kernel_rfl,rfl,λR D E=>by kernel_rfl,λcall R a len cap E=>by kernel_rfl,λl=>by kernel_rfl⟩
def iy (s:List UInt8):List (List UInt8):=(sl.jy [] [] s).map sl.sL
def itS:ItT:=λf=>ah (Nat.beq f (qZ 40)) (some iy) none
theorem ahA (f:FuncId)(it:List UInt8->List (List UInt8))(h:itS f=some it):P5 X0 lt.kn f it:=by
 unfold itS at h;rw[ax]at h;split at h;case isFalse=>cases h
 rename_i hf;obtain rfl:=bf hf;cases h;refine⟨by kernel_rfl,λi=>by kernel_rfl,λs hs=>?_⟩;have e:lt.kn (qZ 40) [iB,.string ⟨s.toArray⟩]=ah (Nat.ble (nm.vW (s.toArray).toList 0) 2000000) (some (.tuple (rg.xk ⟨s.toArray⟩).toArray)) none:=by kernel_rfl
 have hl:nm.vW (s.toArray).toList 0=s.length:=by rw[nm.Jq];simp
 rw[hl,dS hs]at e;refine e.trans ?_;have e2:rg.xk ⟨s.toArray⟩=(iy s).map λx=>Value.string ⟨x.toArray⟩:=by
  unfold rg.xk iy;rw[j8];rfl
 rw[e2]
def cV (M:List wh)(N:List pQ)(G:List AZ)(β:Type):cI β:=Yi X0 (Uq M) (aaQ N) (ahz G) itS lt.inl 400 β 40
theorem qW {M:List wh}{N:List pQ}{G:List AZ}(hM:iT X0 fU M)(hN:gY X0 fU N)(hG:pX X0 fU G)(β:Type):cX X0 fU (cV M N G β) :=
 Yj hM hN hG ahA (λf h args=>lt.bS h args) 400 40 β
def S1:List wh:=(86,[some eC],gNm)::(87,[some eC,some gZ,none,none],gEv)::(64,[none,none],lt.aaH)::[]
theorem nF:iT X0 fU S1:=.cons ahu (.cons Yb (.cons (lt.adF lt.BX) .nil))
def amd:Tv.Ty:=.pair (.int .i64) (.pair (.int .i64) (.sl j3))
def qX:Tv.Ty:=.pair (.int .i64) (.pair (.int .i64) (.pair .str (.pair amd (.pair (.sl eC) (.pair (.sl (.int .u8)) (.int .i64))))))
def G1:List AZ:=[(122,⟨0,[],Cf 76 eC⟩),(126,⟨0,[],Cf 117 j3⟩),(96,⟨0,[],Cf 5 (.int .u8)⟩)]
theorem MZ:pX X0 fU G1:=.cons (Cg rfl Yl) (.cons (Cg rfl TV) (.cons (Cg rfl Ym) .nil))
abbrev OL:=Option (List AV)
def tj {α β:Type}(L:List α)(i:Int)(k:α->Option β):Option β:=Option.rec (motive:=λ_=>Option β) none (λy=>k y) (dQ L i)
theorem qD {α β:Type}{L pre Ko:List α}{y:α}(he:L=pre++y::Ko)(k:α->Option β):tj L (pre.length:Int) k=k y:=by
 unfold tj;rw[he,kK]
def nmT {β:Type}(c s:List UInt8)(k:List UInt8->Option β):Option β:=ah (lt.preB s [46]) (ah (Nat.ble (c.length+s.length) 9223372036854775807) (k (c++s)) none) (k s)
theorem J7 {β:Type}{c s:List UInt8}(h:c.length+s.length<=9223372036854775807)(k:List UInt8->Option β):nmT c s k=k (gu c s):=by
 unfold nmT gu;rw[ax,dS h];unfold lt.preB;by_cases hp:s.take 1=[46]
 .rw[ag hp,ag (by simpa using hp)]
 rw[aa hp,aa (by simpa using hp)]
def pNo:List Bool:=[true,true,true,false,true,false]
def abW:ei:=⟨gD [2,6,7,12,13] pNo,.none,[]⟩
def abX:List (List (Option Tv.Ty)):=[[some eC],[none]]
def jNo (c:List UInt8)(r m n:Nat)(L:List Nd)(ok:Bool)(len i:Int):OL:=iF X0 (cV S1 [] G1 _) abW r 85 pNo (rU abX) m (kr 46 [(2,.ptr 0 0),(6,.own 1 n),(7,.bool ok),(12,.int .i64 len),(13,.int .i64 i)]) (nA [.cells 106 [.str c],.list 76 eC L 0 false false])
def stepN' (c:List UInt8)(L:List Nd)(ok:Bool)(len i:Int)(J:List Nd->Bool->OL):OL :=
 ah (bC i len) (tj L i λy=>ah (bI y.1 2) (tj L i λy1=>nmT c y1.2.2.1 λw=>tj L i λy2=>(λL':List Nd=>ah ok (tj L' i λy3=>J L' (!bC 60 (y3.2.2.1.length:Int))) (J L' false)) (L.set i.toNat (y2.1,y2.2.1,w,y2.2.2.2.1,y2.2.2.2.2))) (J L ok))
  (some [.dH eC L,.bool ok])
theorem Yn (c:List UInt8)(r m n:Nat)(L:List Nd)(ok:Bool)(len i:Int):jNo c r (m+1) n L ok len i=stepN' c L ok len i λL' ok'=>jNo c r m n L' ok' len (IntKind.wrap .i64 (i+1)):=by kernel_rfl
theorem abY (c:List UInt8)(x:List Nd)(r:Nat):aT X0 (cV S1 [] G1 _) abW r 85 [.agg [.str c],.dH eC x] aG.empty (rU abX)=ah (Nat.ble x.length 2000000) (jNo c r r x.length x true x.length 0) none:=by kernel_rfl
def eu (x:List Nd):Bool:=Nat.ble x.length 2000000&&x.all λy=>Nat.ble y.2.2.1.length 2000000
theorem ahC {c:List UInt8}(hc:c.length<=2000000)(r n:Nat)(x:List Nd)(hx:x.length<=2000000)(hs:∀y∈x,y.2.2.1.length<=2000000):∀(rest pre:List Nd) (m:Nat) (ok:Bool),x=pre++rest->rest.length<m ->
 jNo c r m n (pre.map (MG c)++rest) ok x.length pre.length=some [.dH eC (x.map (MG c)),.bool (ok&&rest.all (ndB c))]:=by
 intro rest;induction rest with
 |nil =>
  intro pre m ok he hm;obtain⟨m,rfl⟩:∃m',m=m'+1:=⟨m-1,by simp at hm;omega⟩;obtain rfl:x=pre:=by rw[he];simp
  rw[Yn];unfold stepN';rw[fL (by omega)];show some _=some _;simp
 |cons y rest ih =>
  intro pre m ok he hm;obtain⟨m,rfl⟩:∃m',m=m'+1:=⟨m-1,by simp at hm;omega⟩;have hl:x.length=pre.length+(rest.length+1):=by rw[he];simp
  have hy:=hs y (by rw[he];simp);have hpl:((pre.map (MG c)).length:Int)=pre.length:=by simp
  have go:∀ok':Bool,jNo c r m n (pre.map (MG c)++MG c y::rest) ok' x.length (IntKind.wrap .i64 ((pre.length:Int)+1))=some [.dH eC (x.map (MG c)),.bool (ok'&&rest.all (ndB c))]:=λok'=>by
   rw[i64_in (n:=(pre.length:Int)+1) (by omega) (by omega)];have:=ih (pre++[y]) m ok' (by rw[he];simp) (by simp at hm;omega);simpa using this
  rw[Yn];unfold stepN';rw[pZ (by omega)];show tj _ _ _=_;rw[<-hpl,qD rfl,cq];by_cases h2:y.1=2
  .rw[ag h2,qD rfl,J7 (by omega),qD rfl];have DV:(pre.map (MG c)++y::rest).set (((pre.map (MG c)).length:Int).toNat) (y.1,y.2.1,gu c y.2.2.1,y.2.2.2.1,y.2.2.2.2)=pre.map (MG c)++MG c y::rest:=by
    rw[bg,iO _ _ (aC _),mb];have:MG c y=(y.1,y.2.1,gu c y.2.2.1,y.2.2.2):=by unfold MG;rw[ag h2]
    rw[this];rfl
   simp only[DV];rw[bY];have hB:ndB c y=Nat.ble (gu c y.2.2.1).length 60:=by unfold ndB;rw[h2];rfl
   cases ok with
   |true =>
    show tj _ _ _=_;rw[qD rfl,hpl,go,hB,dM];have:(MG c y).2.2.1=gu c y.2.2.1:=by unfold MG;rw[ag h2]
    rw[this];have e:(!bC 60 ((gu c y.2.2.1).length:Int))=Nat.ble (gu c y.2.2.1).length 60:=by
     rw[cD];by_cases WD:(gu c y.2.2.1).length<=60
     .rw[dS WD,aU (by omega)];rfl
     have:Nat.ble (gu c y.2.2.1).length 60=false:=by
      cases hb:Nat.ble (gu c y.2.2.1).length 60 with
      |true=>exact absurd (az hb) WD
      |false=>rfl
     rw[this,aX (by omega)];rfl
    rw[e]
   |false =>
    show jNo _ _ _ _ _ _ _ _=_;rw[hpl,go];rfl
  rw[aa h2,hpl];have:MG c y=y:=by unfold MG;rw[aa h2]
  have hg:=go ok;rw[this]at hg;refine hg.trans ?_;rw[bY];have hB:ndB c y=true:=by unfold ndB;rw[aU h2];rfl
  rw[hB,dM]
def fNo (args:List AV):Option (Bool×List AV) :=
 match args with
 |[.agg [.str c],.dH e x]=>match iC e eC x with
  |some x=>some (Nat.ble c.length 2000000&&eu x,[.dH eC (de c x).1,.bool (de c x).2])
  |none=>none
 |_=>none
theorem M9 {x:List Nd}(h:eu x=true):x.length<=2000000/\∀y∈x,y.2.2.1.length<=2000000:=by
 unfold eu at h;rw[ak]at h;exact⟨az h.1,λy hy=>az (aK.1 h.2 y hy)⟩
theorem ame {c:List UInt8}(hc:c.length<=2000000){x:List Nd}(hx:eu x=true):aT X0 (cV S1 [] G1 _) abW (x.length+1) 85 [.agg [.str c],.dH eC x] aG.empty (rU abX)=some [.dH eC (de c x).1,.bool (de c x).2]:=by
 obtain⟨h1,h2⟩:=M9 hx;rw[abY,dS h1];show jNo _ _ _ _ _ _ _ _=_;have:=ahC hc (x.length+1) x.length x h1 h2 x [] (x.length+1) true rfl (by omega);refine this.trans ?_;rw[dM];rfl
theorem con_V' {id:FuncId}(hk:lt.inl id=true){M:List wh}{N:List pQ}{G:List AZ}(hM:iT X0 fU M)(hN:gY X0 fU N)(hG:pX X0 fU G){sig:List (Option (TypeId×Tv.Ty))}{f:List AV->Option (Bool×List AV)}(sg:List (List (Option Tv.Ty)))
 (h:∀vs ws,f vs=some (true,ws)->ws.all EZ=true/\∃an rounds,aT X0 (cV M N G _) an rounds id vs aG.empty (rU sg)=some ws):gy X0 fU id ⟨none,sig,gV f⟩ :=
 Mr (nk hk) (qW hM hN hG) sg λins outs rs hg=>by
  unfold gV at hg;split at hg;case h_2=>cases hg
  rename_i vs hv;split at hg;case h_2=>cases hg
  rename_i c ws hf;simp only[aq,ay]at hg;obtain⟨rfl,_,rfl⟩:=hg;obtain⟨h1,an,rounds,h2⟩:=h vs ws hf;have hi:=qV hv;subst hi;refine⟨an,rounds,ws,?_,rfl,h1⟩;rw[sS,vG];exact h2
theorem ahD:gy X0 fU 85 ⟨none,[none,none],gV fNo⟩ :=
 con_V' rfl nF n0 MZ abX λvs ws hf=>by
  unfold fNo at hf;split at hf;case h_2=>cases hf
  rename_i c e x;split at hf;case h_2=>cases hf
  rename_i x' hx;simp only[aq,ay,ak]at hf;obtain⟨⟨h1,h2⟩,rfl⟩:=hf;obtain⟨rfl,hx⟩:=bT hx;have hx:x=x':=hx;subst hx;exact⟨rfl,abW,x.length+1,ame (az h1) h2⟩
def N1:List pQ:=[(85,⟨none,[none,none],gV fNo⟩)]
theorem RJ:gY X0 fU N1:=.cons ahD .nil
def Mu:ei:=⟨gD [2,3,4,6,16,17] pNo,.none,[]⟩
def Na:List (List (Option Tv.Ty)):=[[none,none,some j3],[none]]
def Rn (c:List UInt8)(op aM:Int)(r m n:Nat)(L:List Raw)(ok:Bool)(len i:Int):OL:=iF X0 (cV S1 N1 G1 _) Mu r 88 pNo (rU Na) m (kr 44 [(2,.ptr 0 0),(3,.ptr 1 0),(4,.ptr 2 0),(6,.bool ok),(16,.int .i64 len),(17,.int .i64 i)])
 (nA [.cells 106 [.str c],.cells 36 [.int .i64 op,.int .i64 aM,.own 3 n],.cells 36 [.int .i64 0,.int .i64 0,.dG],.list 117 j3 L 0 false false])
def cmO (op aM:Int)(L:List Raw)(ok:Bool):OL:=some [.agg [.int .i64 op,.int .i64 aM,.dH j3 L],.bool ok]
def stepC' (c:List UInt8)(op aM:Int)(L:List Raw)(ok:Bool)(len i:Int)(J:List Raw->Bool->OL):OL :=
 ah (bC i len) (tj L i λy=>ah (Nat.ble c.length 2000000&&eu y.2.2.2.1) (tj L i λy1=>(λL':List Raw=>ah ok (J L' (de c y.2.2.2.1).2) (J L' false)) (L.set i.toNat (y1.1,y1.2.1,y1.2.2.1,(de c y.2.2.2.1).1,y1.2.2.2.2))) none)
  (cmO op aM L ok)
theorem JQ (c:List UInt8)(op aM:Int)(r m n:Nat)(L:List Raw)(ok:Bool)(len i:Int):Rn c op aM r (m+1) n L ok len i=stepC' c op aM L ok len i λL' ok'=>Rn c op aM r m n L' ok' len (IntKind.wrap .i64 (i+1)):=by kernel_rfl
theorem JR (c:List UInt8)(op aM:Int)(l:List Raw)(r:Nat):aT X0 (cV S1 N1 G1 _) Mu r 88 [.agg [.str c],.agg [.int .i64 op,.int .i64 aM,.dH j3 l]] aG.empty (rU Na)=ah (Nat.ble l.length 2000000) (Rn c op aM r r l.length l true l.length 0) none:=by kernel_rfl
def oo (l:List Raw):Bool:=Nat.ble l.length 2000000&&l.all λy=>eu y.2.2.2.1
theorem JS {c:List UInt8}(hc:c.length<=2000000)(op aM:Int)(r n:Nat)(x:List Raw)(hx:x.length<=2000000)(hs:∀y∈x,eu y.2.2.2.1=true):∀(rest pre:List Raw) (m:Nat) (ok:Bool),x=pre++rest->rest.length<m ->
 Rn c op aM r m n (pre.map (Fy c)++rest) ok x.length pre.length=cmO op aM (x.map (Fy c)) (ok&&rest.all λr=>(de c r.2.2.2.1).2):=by
 intro rest;induction rest with
 |nil =>
  intro pre m ok he hm;obtain⟨m,rfl⟩:∃m',m=m'+1:=⟨m-1,by simp at hm;omega⟩;obtain rfl:x=pre:=by rw[he];simp
  rw[JQ];unfold stepC';rw[fL (by omega)];show cmO _ _ _ _=_;simp
 |cons y rest ih =>
  intro pre m ok he hm;obtain⟨m,rfl⟩:∃m',m=m'+1:=⟨m-1,by simp at hm;omega⟩;have hl:x.length=pre.length+(rest.length+1):=by rw[he];simp
  have hy:=hs y (by rw[he];simp);have hpl:((pre.map (Fy c)).length:Int)=pre.length:=by simp
  have go:∀ok':Bool,Rn c op aM r m n (pre.map (Fy c)++Fy c y::rest) ok' x.length (IntKind.wrap .i64 ((pre.length:Int)+1))=cmO op aM (x.map (Fy c)) (ok'&&rest.all λr=>(de c r.2.2.2.1).2):=λok'=>by
   rw[i64_in (n:=(pre.length:Int)+1) (by omega) (by omega)];have:=ih (pre++[y]) m ok' (by rw[he];simp) (by simp at hm;omega);simpa using this
  rw[JQ];unfold stepC';rw[pZ (by omega)];show tj _ _ _=_;rw[<-hpl,qD rfl,dS hc,hy];show tj _ _ _=_;rw[qD rfl];have DV:(pre.map (Fy c)++y::rest).set (((pre.map (Fy c)).length:Int).toNat) (y.1,y.2.1,y.2.2.1,(de c y.2.2.2.1).1,y.2.2.2.2)=pre.map (Fy c)++Fy c y::rest:=by
   rw[bg,iO _ _ (aC _),mb];rfl
  simp only[DV];rw[bY];cases ok with
  |true =>
   show Rn _ _ _ _ _ _ _ _ _ _=_;rw[hpl,go,dM]
  |false =>
   show Rn _ _ _ _ _ _ _ _ _ _=_;rw[hpl,go];rfl
def fCm (args:List AV):Option (Bool×List AV) :=
 match args with
 |[.agg [.str c],.agg [.int .i64 op,.int .i64 aM,.dH e x]]=>match iC e j3 x with
  |some x=>some (Nat.ble c.length 2000000&&oo x,[.agg [.int .i64 op,.int .i64 aM,.dH j3 (JZ c x).1],.bool (JZ c x).2])
  |none=>none
 |_=>none
theorem CO {x:List Raw}(h:oo x=true):x.length<=2000000/\∀y∈x,eu y.2.2.2.1=true:=by
 unfold oo at h;rw[ak]at h;exact⟨az h.1,λy hy=>aK.1 h.2 y hy⟩
theorem PB:gy X0 fU 88 ⟨none,[none,none],gV fCm⟩ :=
 con_V' rfl nF RJ MZ Na λvs ws hf=>by
  unfold fCm at hf;split at hf;case h_2=>cases hf
  rename_i c op aM e x;split at hf;case h_2=>cases hf
  rename_i x' hx;simp only[aq,ay,ak]at hf;obtain⟨⟨h1,h2⟩,rfl⟩:=hf;obtain⟨rfl,hx⟩:=bT hx;have hx:x=x':=hx;subst hx;obtain⟨k1,k2⟩:=CO h2;refine⟨rfl,Mu,x.length+1,?_⟩;rw[JR,dS k1];show Rn _ _ _ _ _ _ _ _ _ _=_;refine(JS (az h1) op aM (x.length+1) x.length x k1 k2 x [] (x.length+1) true rfl (by omega)).trans ?_;rw[dM];rfl
def N2:List pQ:=(88,⟨none,[none,none],gV fCm⟩)::N1
theorem uL:gY X0 fU N2:=.cons PB RJ
abbrev OG:=Option (AV×List Row)
def ZD (m a b na nb:Nat)(s:SS):List AV:=[.int .i64 s.fM,.own a na,.own b nb,.yG m,.str s.lab,.bool s.opn,.str s.bp,.int .i64 s.aN,.bool s.aR,.int .i64 s.aD,.int .i64 s.au]
def vK (s:SS)(cs:List Row):List Row:=.cells 70 (ZD (cs.length+1) (cs.length+2) (cs.length+3) s.aH.length s.av.length s)::(cs++[.mp 68 s.aI,.list 59 gZ s.aH 0 false false,.list 52 qX s.av 0 false false])
def uM (n:Nat)(c:Row)(l:List Row):Option (Bool×SS) :=
 match c,l with
 |.cells t [.int .i64 fM,.own a na,.own b nb,.yG m,.str lab,.bool opn,.str bp,.int .i64 aN,.bool aR,.int .i64 aD,.int .i64 au],[.mp t1 aI,.list t2 e2 aH 0 false false,.list t3 e3 av 0 false false] =>
  match iC e2 gZ aH,iC e3 qX av with
  |some aH,some av=>some (Nat.beq t 70&&(Nat.beq t1 68&&(Nat.beq t2 59&&(Nat.beq t3 52&&(Nat.beq m (n+1)&&(Nat.beq a (n+2)&&(Nat.beq b (n+3)&&(Nat.beq na aH.length&&Nat.beq nb av.length))))))),⟨fM,aH,av,aI,lab,opn,bp,aN,aR,aD,au⟩)
  |_,_=>none
 |_,_=>none
theorem fX {n:Nat}{c:Row}{l:List Row}{s:SS}(h:uM n c l=some (true,s)):c = .cells 70 (ZD (n+1) (n+2) (n+3) s.aH.length s.av.length s)/\l=[.mp 68 s.aI,.list 59 gZ s.aH 0 false false,.list 52 qX s.av 0 false false]:=by
 unfold uM at h;split at h;case h_2=>cases h
 rename_i t fM a na b nb m lab opn bp aN aR aD au t1 aI t2 e2 aH t3 e3 av;split at h;case h_2=>cases h
 rename_i syms' items' h2 h3;simp only[aq,ay,ak,aO]at h;obtain⟨⟨g1,g2,g3,g4,g5,g6,g7,g8,g9⟩,rfl⟩:=h;subst g1;subst g2;subst g3;subst g4;subst g5;subst g6;subst g7;obtain⟨rfl,h2⟩:=bT h2;obtain⟨rfl,h3⟩:=bT h3;have h2:aH=syms':=h2;have h3:av=items':=h3;subst h2;subst h3;have g8:na=aH.length:=g8;have g9:nb=av.length:=g9;subst g8;subst g9;exact⟨rfl,rfl⟩
def knB (s:SS):Bool:=s.aI.all λq=>Nat.ble (q.2.toNat) s.aH.length
def ahE (s:SS):Bool:=Nat.ble s.lab.length 1000000&&Nat.ble s.bp.length 1000000
theorem ab0 {s:SS}(h:knB s=true)(w:List UInt8)(h0:0<iJ s.aI w):iJ s.aI w<=s.aH.length:=by
 have:∀l:List (List UInt8×Int),(l.all λq=>Nat.ble (q.2.toNat) s.aH.length)=true->0<iJ l w->iJ l w<=s.aH.length:=by
  intro l;induction l with
  |nil=>intro _ h0;exact absurd h0 (by show ¬(0:Int)<0;decide)
  |cons q l ih =>
   intro hl h0;rw[bY,ak]at hl;unfold iJ at h0 ⊢;rw[ax]at h0 ⊢;by_cases hq:decide (w=q.1)=true
   .rw[ag hq]at h0 ⊢;have:=az hl.1;omega
   rw[aa hq]at h0 ⊢;exact ih hl.2 h0
 exact this s.aI h h0
def gz (x:List Nd)(l:List Sy):Int×Bool×Int:=Rw x l 0 0
def fP (x:List Nd):List (List UInt8):=if rT bZ x=0 then vI x [] else []
def pCn:List Bool:=[true,true,true,true,false,true,false]
def Yo:ei:=⟨gD [0,6,25,26,27,8] pCn,.none,[]⟩
def mK0 (s:SS)(nm:List (List UInt8)):aG:=eU 2 [.cells 70 (ZD 1 3 4 s.aH.length s.av.length s),.mp 68 s.aI,.list 9 .str nm 0 false false,.list 59 gZ s.aH 0 false false,.list 52 qX s.av 0 false false]
def mK1 (s:SS)(nm:List (List UInt8))(l:List Sy):aG:=eU 2 [.cells 70 (ZD 1 4 5 s.aH.length s.av.length s),.mp 68 s.aI,.list 9 .str nm 0 false false,.list 59 gZ l 0 false false,.list 59 gZ s.aH 0 false false,.list 52 qX s.av 0 false false]
def jK0 (s:SS)(X:List Nd)(nm:List (List UInt8))(r m n:Nat)(len i:Int):OG:=iF X0 (cV S1 N2 G1 _) Yo r 44 pCn gG m (kr 66 [(0,.ptr 0 0),(6,.dH eC X),(25,.own 2 n),(26,.int .i64 len),(27,.int .i64 i),(8,.dG)]) (mK0 s nm)
def TW (s:SS)(X:List Nd)(nm:List (List UInt8))(r m n:Nat)(l:List Sy)(k:Nat)(len i:Int):OG:=iF X0 (cV S1 N2 G1 _) Yo r 44 pCn gG m (kr 66 [(0,.ptr 0 0),(6,.dH eC X),(25,.own 2 n),(26,.int .i64 len),(27,.int .i64 i),(8,.own 3 k)]) (mK1 s nm l)
def J8 (s:SS)(q:Int×Int):OG:=some (.fH [.int .i64 q.1,.int .i64 q.2],vK s [])
def Dc (s:SS)(X:List Nd)(l:List Sy):OG:=ah (Nat.ble l.length 2000000) (ah (!bI (Rw X l 0 0).2.2 0) (J8 s (0,(Rw X l 0 0).2.2)) (ah (Rw X l 0 0).2.1 (J8 s (0,5)) (J8 s ((Rw X l 0 0).1,0)))) none
def vV (s:SS)(nm:List (List UInt8))(len i:Int)(fin skip:OG)(new:Sy->OG):OG :=
 ah (bC i len) (tj nm i λw=>ah (bC 0 (iJ s.aI w)) (tj s.aH (IntKind.wrap .i64 (iJ s.aI w-1)) λy=>new (y.1,y.2.1,y.2.2)) skip) fin
theorem Yp (fM:Int)(aH:List Sy)(av:List It)(aI:List (List UInt8×Int))(lab:List UInt8)(opn:Bool)(bp:List UInt8)(aN:Int)(aR:Bool)(aD au:Int)(X:List Nd)(nm:List (List UInt8))(r m n:Nat)(len i:Int) :
 jK0 ⟨fM,aH,av,aI,lab,opn,bp,aN,aR,aD,au⟩ X nm r (m+1) n len i =
 vV ⟨fM,aH,av,aI,lab,opn,bp,aN,aR,aD,au⟩ nm len i (Dc ⟨fM,aH,av,aI,lab,opn,bp,aN,aR,aD,au⟩ X []) (jK0 ⟨fM,aH,av,aI,lab,opn,bp,aN,aR,aD,au⟩ X nm r m n len (IntKind.wrap .i64 (i+1)))
  λy=>TW ⟨fM,aH,av,aI,lab,opn,bp,aN,aR,aD,au⟩ X nm r m n [y] 1 len (IntKind.wrap .i64 (i+1)):=by kernel_rfl
theorem Yq (fM:Int)(aH:List Sy)(av:List It)(aI:List (List UInt8×Int))(lab:List UInt8)(opn:Bool)(bp:List UInt8)(aN:Int)(aR:Bool)(aD au:Int)(X:List Nd)(nm:List (List UInt8))(r m n:Nat)(l:List Sy)(k:Nat)(len i:Int) :
 TW ⟨fM,aH,av,aI,lab,opn,bp,aN,aR,aD,au⟩ X nm r (m+1) n l k len i =
 vV ⟨fM,aH,av,aI,lab,opn,bp,aN,aR,aD,au⟩ nm len i (Dc ⟨fM,aH,av,aI,lab,opn,bp,aN,aR,aD,au⟩ X l) (TW ⟨fM,aH,av,aI,lab,opn,bp,aN,aR,aD,au⟩ X nm r m n l k len (IntKind.wrap .i64 (i+1)))
  λy=>ah (Nat.ble (l.length+1) 2000000) (TW ⟨fM,aH,av,aI,lab,opn,bp,aN,aR,aD,au⟩ X nm r m n (l++[y]) (l.length+1) len (IntKind.wrap .i64 (i+1))) none:=by kernel_rfl
theorem ahF (fM:Int)(aH:List Sy)(av:List It)(aI:List (List UInt8×Int))(lab:List UInt8)(opn:Bool)(bp:List UInt8)(aN:Int)(aR:Bool)(aD au:Int)(x:List Nd)(r:Nat) :
 aT X0 (cV S1 N2 G1 _) Yo r 44 [.ptr 0 0,.dH eC x] (eU 2 (vK ⟨fM,aH,av,aI,lab,opn,bp,aN,aR,aD,au⟩ [])) gG =
 (λgo:List UInt8->OG=>ah opn (go bp) (go lab)) λc=>ah (Nat.ble c.length 2000000&&eu x) (ah (!(de c x).2) (J8 ⟨fM,aH,av,aI,lab,opn,bp,aN,aR,aD,au⟩ (0,3))
  (jK0 ⟨fM,aH,av,aI,lab,opn,bp,aN,aR,aD,au⟩ (de c x).1 (fP (de c x).1) r r (fP (de c x).1).length (fP (de c x).1).length 0)) none:=by kernel_rfl
theorem TX {α:Type}{l:List α}{i:Int}(h0:0<=i)(h1:i<l.length):∃y pre Ko,l=pre++y::Ko/\(pre.length:Int)=i/\dQ l i=some y:=by
 obtain⟨n,rfl⟩:=Int.eq_ofNat_of_zero_le h0;have hn:n<l.length:=by omega
 refine⟨l[n],l.take n,l.drop (n+1),?_,?_,?_⟩
 .rw[List.getElem_cons_drop,eY]
 .rw[bR];omega
 show l[n]? = _;exact aP hn
theorem Nb {s:SS}(hk:knB s=true)(hs:s.aH.length<=2000000){nm pre rest:List (List UInt8)}{w:List UInt8}(he:nm=pre++w::rest)(fin skip:OG)(new:Sy->OG) :
 vV s nm nm.length pre.length fin skip new=match sX s w with
  |some y=>new y
  |none=>skip:=by
 have hl:nm.length=pre.length+(rest.length+1):=by rw[he];simp
 unfold vV sX;rw[pZ (by omega),he];show tj _ _ _=_;rw[qD rfl,cA];by_cases h0:0<iJ s.aI w
 .rw[ag h0,ag h0];have h1:=ab0 hk w h0;rw[i64_in (n:=iJ s.aI w-1) (by omega) (by omega)];obtain⟨y,_,_,_,_,hy⟩:=TX (l:=s.aH) (i:=iJ s.aI w-1) (by omega) (by omega);unfold tj;rw[hy]
 rw[aa h0,aa h0]
theorem ahG {s:SS}(hk:knB s=true)(hs:s.aH.length<=2000000)(X:List Nd)(nm:List (List UInt8))(r n:Nat):∀(rest pre:List (List UInt8)) (m:Nat) (l:List Sy),nm=pre++rest->rest.length<m->l.length+rest.length<=2000000->pre.length+rest.length<=2000000 ->
 TW s X nm r m n l l.length nm.length pre.length=Dc s X (l++rest.filterMap (sX s)):=by
 intro rest;induction rest with
 |nil =>
  intro pre m l he hm hl hp;obtain⟨m,rfl⟩:∃m',m=m'+1:=⟨m-1,by simp at hm;omega⟩;obtain rfl:nm=pre:=by rw[he];simp
  cases s;rw[Yq];unfold vV;rw[fL (by omega)];show Dc _ _ _=_;simp
 |cons w rest ih =>
  intro pre m l he hm hl hp;obtain⟨m,rfl⟩:∃m',m=m'+1:=⟨m-1,by simp at hm;omega⟩;have go:∀l':List Sy,l'.length+rest.length<=2000000->TW s X nm r m n l' l'.length nm.length (IntKind.wrap .i64 ((pre.length:Int)+1))=Dc s X (l'++rest.filterMap (sX s)):=λl' hl'=>by
   have hp':pre.length+(rest.length+1)<=2000000:=by simpa using hp
   rw[i64_in (n:=(pre.length:Int)+1) (by omega) (by omega)];have:=ih (pre++[w]) m l' (by rw[he];simp) (by simp at hm;omega) hl' (by simp;omega);simpa using this
  have hstep:=Nb hk hs he (Dc s X l) (TW s X nm r m n l l.length nm.length (IntKind.wrap .i64 ((pre.length:Int)+1))) λy=>ah (Nat.ble (l.length+1) 2000000) (TW s X nm r m n (l++[y]) (l.length+1) nm.length (IntKind.wrap .i64 ((pre.length:Int)+1))) none
  have e:TW s X nm r (m+1) n l l.length nm.length pre.length=vV s nm nm.length pre.length (Dc s X l) (TW s X nm r m n l l.length nm.length (IntKind.wrap .i64 ((pre.length:Int)+1))) λy=>ah (Nat.ble (l.length+1) 2000000) (TW s X nm r m n (l++[y]) (l.length+1) nm.length (IntKind.wrap .i64 ((pre.length:Int)+1))) none:=by
   cases s;exact Yq _ _ _ _ _ _ _ _ _ _ _ _ _ _ _ _ _ _ _ _
  rw[e,hstep,List.filterMap_cons];cases sX s w with
  |none=>exact go l (by simp at hl;omega)
  |some y =>
   simp only;rw[dS (by simp at hl;omega)];have:=go (l++[y]) (by simp at hl ⊢;omega);rw[aA,bM]at this;exact this
theorem ahH {s:SS}(hk:knB s=true)(hs:s.aH.length<=2000000)(X:List Nd)(nm:List (List UInt8))(r n:Nat):∀(rest pre:List (List UInt8)) (m:Nat),nm=pre++rest->rest.length<m->pre.length+rest.length<=1000000 ->
 jK0 s X nm r m n nm.length pre.length=Dc s X (rest.filterMap (sX s)):=by
 intro rest;induction rest with
 |nil =>
  intro pre m he hm hp;obtain⟨m,rfl⟩:∃m',m=m'+1:=⟨m-1,by simp at hm;omega⟩;obtain rfl:nm=pre:=by rw[he];simp
  cases s;rw[Yp];unfold vV;rw[fL (by omega)];rfl
 |cons w rest ih =>
  intro pre m he hm hp;obtain⟨m,rfl⟩:∃m',m=m'+1:=⟨m-1,by simp at hm;omega⟩;have hp':pre.length+(rest.length+1)<=1000000:=by simpa using hp
  have hw:IntKind.wrap .i64 ((pre.length:Int)+1)=((pre++[w]).length:Int):=by rw[i64_in (n:=(pre.length:Int)+1) (by omega) (by omega)];simp
  have hstep:=Nb hk hs he (Dc s X []) (jK0 s X nm r m n nm.length (IntKind.wrap .i64 ((pre.length:Int)+1))) λy=>TW s X nm r m n [y] 1 nm.length (IntKind.wrap .i64 ((pre.length:Int)+1))
  have e:jK0 s X nm r (m+1) n nm.length pre.length=vV s nm nm.length pre.length (Dc s X []) (jK0 s X nm r m n nm.length (IntKind.wrap .i64 ((pre.length:Int)+1))) λy=>TW s X nm r m n [y] 1 nm.length (IntKind.wrap .i64 ((pre.length:Int)+1)):=by
   cases s;exact Yp _ _ _ _ _ _ _ _ _ _ _ _ _ _ _ _ _ _
  rw[e,hstep,List.filterMap_cons,hw];cases sX s w with
  |none=>exact ih (pre++[w]) m (by rw[he];simp) (by simp at hm;omega) (by simp;omega)
  |some y=>exact ahG hk hs X nm r n rest (pre++[w]) m [y] (by rw[he];simp) (by simp at hm;omega) (by simp;omega) (by simp;omega)
theorem FL:∀(x:List Nd) (o:List (List UInt8)),(vI x o).length<=o.length+x.length
 |[],o=>by simp[vI]
 |y::x,o=>by
  unfold vI;split
  .have:=FL x (o++[y.2.2.1]);simp at this ⊢;omega
  have:=FL x o;simp at this ⊢;omega
theorem ab2 (x:List Nd):(fP x).length<=200:=by
 unfold fP;split
 .rename_i h;have h1:=FL x [];have h2:=(AU h).2.1;simp at h1;omega
 simp
def zG (s:SS):Bool:=knB s&&(ahE s&&(Nat.ble s.aH.length 1000000&&Nat.ble s.av.length 20000))
theorem s7 {s:SS}(h:zG s=true):knB s=true/\(s.lab.length<=1000000/\s.bp.length<=1000000)/\s.aH.length<=1000000/\s.av.length<=20000:=by
 unfold zG ahE at h;simp only[ak]at h;exact⟨h.1,⟨az h.2.1.1,az h.2.1.2⟩,az h.2.2.1,az h.2.2.2⟩
theorem sn {s:SS}(h:zG s=true):(cj s).length<=1000000:=by
 obtain⟨_,⟨h1,h2⟩,_⟩:=s7 h;unfold cj;split<;>assumption
theorem ab3 {s:SS}{x:List Nd}(h:(de (cj s) x).2=true)(hl:((fP (de (cj s) x).1).filterMap (sX s)).length<=2000000) :
 Dc s (de (cj s) x).1 ((fP (de (cj s) x).1).filterMap (sX s))=J8 s (cO gz fP s x):=by
 unfold Dc cO gz;rw[dS hl,aa (by rw[h];decide)];show ah _ _ _=_;rw[cn];generalize Rw (de (cj s) x).1 ((fP (de (cj s) x).1).filterMap (sX s)) 0 0=q;by_cases h0:q.2.2=0
 .rw[ag h0,aa (by simp[h0])];cases hq:q.2.1<;>rfl
 rw[aa h0,ag h0]
theorem runK {s:SS}(hs:zG s=true){x:List Nd}(hx:eu x=true):aT X0 (cV S1 N2 G1 _) Yo 300 44 [.ptr 0 0,.dH eC x] (eU 2 (vK s [])) gG=J8 s (cO gz fP s x):=by
 have hsc:=sn hs;obtain⟨k1,_,k3,_⟩:=s7 hs;have key:ah (Nat.ble (cj s).length 2000000&&eu x) (ah (!(de (cj s) x).2) (J8 s (0,3)) (jK0 s (de (cj s) x).1 (fP (de (cj s) x).1) 300 300 (fP (de (cj s) x).1).length (fP (de (cj s) x).1).length 0)) none=J8 s (cO gz fP s x):=by
  rw[dS (by omega),hx];show ah _ _ _=_;cases hn:(de (cj s) x).2 with
  |false =>
   show J8 _ _=_;unfold cO;rw[ag hn]
  |true =>
   show jK0 _ _ _ _ _ _ _ _=_;have hl:=ab2 (de (cj s) x).1;refine(ahH k1 (by omega) (de (cj s) x).1 (fP (de (cj s) x).1) 300 _ (fP (de (cj s) x).1) [] 300 rfl (by omega) (by show 0+_<=_;omega)).trans (ab3 hn ?_);have:=List.length_filterMap_le (sX s) (fP (de (cj s) x).1);omega
 cases s with
 |mk fM aH av aI lab opn bp aN aR aD au =>
  rw[ahF];cases opn<;>exact key
def gK (args:List AV)(rows:List Row):Option (Bool×AV×List Row) :=
 match args,rows with
 |[.ptr 0 0,.dH e x],c::l=>match iC e eC x,uM 0 c l with
  |some x,some (b,s)=>some (b&&(zG s&&eu x),.fH [.int .i64 (cO gz fP s x).1,.int .i64 (cO gz fP s x).2],vK s [])
  |_,_=>none
 |_,_=>none
theorem amf:j7 X0 fU 44 gK :=
 nP (λargs=>lt.bS rfl args) (qW nF uL MZ) λargs rows v outs hg=>by
  unfold gK at hg;split at hg;case h_2=>cases hg
  rename_i e x c l;split at hg;case h_2=>cases hg
  rename_i x' b s hx hr;simp only[aq,ay,ak]at hg;obtain⟨⟨rfl,h1,h2⟩,rfl,rfl⟩:=hg;obtain⟨rfl,hx⟩:=bT hx;have hx:x=x':=hx;subst hx;obtain⟨rfl,rfl⟩:=fX hr;exact⟨Yo,300,runK h1 h2⟩
def wg:List (Option (TypeId×Tv.Ty)):=[none,some (59,gZ),some (52,qX)]
def G2:List AZ:=(44,⟨70,wg,gK⟩)::G1
theorem amg:pX X0 fU G2:=.cons amf MZ
def Jv (x:RS):List AV:=[.str x.lab,.int .i64 x.aF,.int .i64 x.sz,.int .i64 x.op,.int .i64 x.aM,.dH j3 x.args,.dH Fq x.data,.dH eC x.x,.dH eC x.ai]
def P7 (n:Nat):Row:=.cells 67 [.ptr n 0]
def scR (c:List UInt8):Row:=.cells 106 [.str c]
def Nc (x:RS):Row:=.cells 40 (Jv x)
def rdM (cs:List Row)(s:SS)(nb:Nat):List Row:=cs++[.cells 70 (ZD (cs.length+1) (cs.length+2) (cs.length+3) s.aH.length nb s),.mp 68 s.aI,.list 59 gZ s.aH 0 false false,.list 52 qX s.av 0 false false]
def pD1:List Bool:=[true,false]
def ab4:ei:=⟨gD [0,1,2,9,10,11] pD1,.none,[]⟩
def ZE (x:RS)(c:List UInt8)(s:SS)(nb r m:Nat)(len i:Int):OG:=iF X0 (cV S1 N2 G1 _) ab4 r 91 pD1 gG m (kr 48 [(0,.ptr 0 0),(1,.ptr 1 0),(2,.ptr 2 0),(9,.dH Fq x.data),(10,.int .i64 len),(11,.int .i64 i)]) (eU 5 (rdM [Nc x,P7 3,scR c] s nb))
def H7 (x:RS)(c:List UInt8)(s:SS):OG:=some (.fH [],rdM [Nc x,P7 3,scR c] s s.av.length)
def Yr (n sz:Int):Int:=IntKind.wrap .i64 (IntKind.wrap .i64 (Int.tdiv (IntKind.wrap .i64 (IntKind.wrap .i64 (n+sz)-1)) sz)*sz)
def ahI (t:List UInt8)(p:Int):List Int:=List.take p.toNat (List.drop 0 (mj (List.replicate p.toNat (0:Int)) 0 (List.take (Nat.min (t.map cY).length p.toNat) (t.map cY))))
def FM {β:Type}(p:Int)(k:Option β):Option β:=ah (!bC p 0 && !bC p p && !bC 2000000 p) k none
def nU {β:Type}(n:Nat)(k:Option β):Option β:=ah (Nat.ble (n+1) 2000000) k none
def hU (s:SS)(l:List It):SS:={ s with av:=l }
def CF (data:List Dt)(sz:Int)(c:List UInt8)(au:Int)(av:List It)(len i:Int)(J:List It->OG)(fin:OG):OG :=
 ah (bC i len) (tj data i λy=>ah (bI (y.2.length:Int) 0)
  (ah (bI sz 0) none (FM (Yr y.1.length sz) (nU av.length (J (av++[(au,4,[],(0,0,[]),[],ahI y.1 (Yr y.1.length sz),0)])))))
  (ah (Nat.ble c.length 2000000&&eu y.2) (nU av.length (J (av++[(au,3,[],(0,0,[]),(de c y.2).1,[],sz)]))) none)) fin
theorem Ys (a:Int)(lab:List UInt8)(aF sz op aM:Int)(args:List Raw)(data:List Dt)(xx ai:List Nd)(e f:Int)(c:List UInt8)(fM:Int)(aH:List Sy)(av:List It)(aI:List (List UInt8×Int))(iK:List UInt8)(opn:Bool)(bp:List UInt8)(aN:Int)(aR:Bool)(aD au:Int)(nb r m:Nat)(len i:Int) :
 ZE ⟨a,lab,aF,sz,op,aM,args,data,xx,ai,e,f⟩ c ⟨fM,aH,av,aI,iK,opn,bp,aN,aR,aD,au⟩ nb r (m+1) len i =
 CF data sz c au av len i (λl=>ZE ⟨a,lab,aF,sz,op,aM,args,data,xx,ai,e,f⟩ c ⟨fM,aH,l,aI,iK,opn,bp,aN,aR,aD,au⟩ (av.length+1) r m len (IntKind.wrap .i64 (i+1)))
  (H7 ⟨a,lab,aF,sz,op,aM,args,data,xx,ai,e,f⟩ c ⟨fM,aH,av,aI,iK,opn,bp,aN,aR,aD,au⟩):=by kernel_rfl
theorem ab5 (a:Int)(lab:List UInt8)(aF sz op aM:Int)(args:List Raw)(data:List Dt)(xx ai:List Nd)(e f:Int)(c:List UInt8)(fM:Int)(aH:List Sy)(av:List It)(aI:List (List UInt8×Int))(iK:List UInt8)(opn:Bool)(bp:List UInt8)(aN:Int)(aR:Bool)(aD au:Int)(r:Nat) :
 aT X0 (cV S1 N2 G1 _) ab4 r 91 [.ptr 0 0,.ptr 1 0,.ptr 2 0] (eU 5 (rdM [Nc ⟨a,lab,aF,sz,op,aM,args,data,xx,ai,e,f⟩,P7 3,scR c] ⟨fM,aH,av,aI,iK,opn,bp,aN,aR,aD,au⟩ av.length)) gG =
 ZE ⟨a,lab,aF,sz,op,aM,args,data,xx,ai,e,f⟩ c ⟨fM,aH,av,aI,iK,opn,bp,aN,aR,aD,au⟩ av.length r r data.length 0:=by kernel_rfl
def Yt (au:Int)(c:List UInt8)(sz:Int)(d:Dt):It:=if d.2=[] then (au,4,[],(0,0,[]),[],XO d.1 sz,0) else (au,3,[],(0,0,[]),(de c d.2).1,[],sz)
def CP (sz:Int):Bool:=bI sz 1||(bI sz 2||(bI sz 4||bI sz 8))
def Kq (l:List Dt):Bool:=Nat.ble l.length 100000&&l.all λd=>Nat.ble d.1.length 1000000&&eu d.2
theorem s8 {sz:Int}(h:CP sz=true):sz=1\/sz=2\/sz=4\/sz=8:=by
 unfold CP at h;simp only[eF,cJ,eK]at h;exact h
theorem A0 {n:Nat}{sz:Int}(h:sz=1\/sz=2\/sz=4\/sz=8):(n:Int)<=AQ n sz/\AQ n sz<=n+7:=by
 unfold AQ;rcases h with rfl|rfl|rfl|rfl<;>rw[di (by omega)]<;>omega
theorem RK {n:Nat}{sz:Int}(h:sz=1\/sz=2\/sz=4\/sz=8)(hn:n<=1000000):Yr n sz=AQ n sz:=by
 have h2:=A0 (n:=n) h;have h3:0<=Int.tdiv ((n:Int)+sz-1) sz/\Int.tdiv ((n:Int)+sz-1) sz<=n+8:=by
  rcases h with rfl|rfl|rfl|rfl<;>rw[di (by omega)]<;>omega
 unfold Yr;rw[i64_in (n:=(n:Int)+sz) (by omega) (by omega),i64_in (n:=(n:Int)+sz-1) (by omega) (by omega),i64_in (n:=Int.tdiv ((n:Int)+sz-1) sz) (by omega) (by omega)];exact i64_in (by unfold AQ at h2;omega) (by unfold AQ at h2;omega)
theorem Yu {α:Type}:∀(v pre Ko:List α),v.length<=Ko.length->mj (pre++Ko) pre.length v=pre++(v++Ko.drop v.length)
 |[],pre,Ko,_=>by simp[mj]
 |a::v,pre,[],h=>by simp at h
 |a::v,pre,b::Ko,h=>by
  have e:(pre++b::Ko).set pre.length a=(pre++[a])++Ko:=by rw[iO _ _ (aC _),mb];simp
  show mj ((pre++b::Ko).set pre.length a) (pre.length+1) v=_;rw[e];have:=Yu v (pre++[a]) Ko (by simpa using h);rw[aA]at this;refine this.trans ?_;simp
theorem ab6 {t:List UInt8}{sz:Int}(h:sz=1\/sz=2\/sz=4\/sz=8):ahI t (AQ t.length sz)=XO t sz:=by
 have h2:=A0 (n:=t.length) h;unfold ahI XO;generalize AQ t.length sz=p at h2;have hmin:Nat.min (t.map cY).length p.toNat=(t.map cY).length:=gx (by simp;omega);have h4:=Yu (t.map cY) [] (List.replicate p.toNat (0:Int)) (by simp;omega);rw[hmin,kI,ke];have h5:mj (List.replicate p.toNat (0:Int)) 0 (t.map cY)=t.map cY++List.replicate (p.toNat-t.length) 0:=by
  refine h4.trans ?_;simp
 rw[h5,cU (by simp;omega)]
theorem ahJ (x:RS){c:List UInt8}(hc:c.length<=2000000)(s:SS)(r:Nat)(hz:x.sz=1\/x.sz=2\/x.sz=4\/x.sz=8)(hd:∀d∈x.data,d.1.length<=1000000/\eu d.2=true)(hx:x.data.length<=100000) :
 ∀(rest pre:List Dt) (m nb:Nat) (it:List It),x.data=pre++rest->rest.length<m->it.length+rest.length<=1000000->ZE x c (hU s it) nb r m x.data.length pre.length=H7 x c (hU s (it++rest.map (Yt s.au c x.sz))):=by
 intro rest;induction rest with
 |nil =>
  intro pre m nb it he hm hn;obtain⟨m,rfl⟩:∃m',m=m'+1:=⟨m-1,by simp at hm;omega⟩;have hp:x.data.length=pre.length:=by rw[he];simp
  have e:ZE x c (hU s it) nb r (m+1) x.data.length pre.length=CF x.data x.sz c s.au it x.data.length pre.length (λl=>ZE x c (hU s l) (it.length+1) r m x.data.length (IntKind.wrap .i64 ((pre.length:Int)+1))) (H7 x c (hU s it)):=by
   cases x;cases s;exact Ys ..
  rw[e];unfold CF;rw[fL (by omega)];show H7 _ _ _=_;simp[hU]
 |cons y rest ih =>
  intro pre m nb it he hm hn;obtain⟨m,rfl⟩:∃m',m=m'+1:=⟨m-1,by simp at hm;omega⟩;have hl:x.data.length=pre.length+(rest.length+1):=by rw[he];simp
  obtain⟨y1,y2⟩:=hd y (by rw[he];simp);have hn':it.length+(rest.length+1)<=1000000:=by simpa using hn
  have go:∀q:It,q=Yt s.au c x.sz y->ZE x c (hU s (it++[q])) (it.length+1) r m x.data.length (IntKind.wrap .i64 ((pre.length:Int)+1))=H7 x c (hU s (it++(y::rest).map (Yt s.au c x.sz))):=λq hq=>by
   rw[i64_in (n:=(pre.length:Int)+1) (by omega) (by omega)];have:=ih (pre++[y]) m (it.length+1) (it++[q]) (by rw[he];simp) (by simp at hm;omega) (by simp;omega);rw[aA]at this;refine this.trans ?_;rw[hq,bM];rfl
  have e:ZE x c (hU s it) nb r (m+1) x.data.length pre.length=CF x.data x.sz c s.au it x.data.length pre.length (λl=>ZE x c (hU s l) (it.length+1) r m x.data.length (IntKind.wrap .i64 ((pre.length:Int)+1))) (H7 x c (hU s it)):=by
   cases x;cases s;exact Ys ..
  rw[e];unfold CF;rw[pZ (by omega),he];show tj _ _ _=_;rw[qD rfl,cq,<-he];by_cases h0:(y.2.length:Int)=0
  .have h2:y.2=[]:=aQ.1 (by omega);have hp:=A0 (n:=y.1.length) hz;rw[ag h0,x9 (by omega),RK hz y1];show FM _ _=_;unfold FM;rw[fL (a:=AQ y.1.length x.sz) (b:=0) (by omega),fL (a:=AQ y.1.length x.sz) (b:=AQ y.1.length x.sz) (by omega),fL (a:=2000000) (by omega)];show nU _ _=_;unfold nU;rw[dS (by omega),ab6 hz];exact go _ (by unfold Yt;rw[ag h2])
  have h2:y.2≠[]:=λq=>h0 (by rw[q];rfl)
  rw[aa h0,dS hc,y2];show nU _ _=_;unfold nU;rw[dS (by omega)];exact go _ (by unfold Yt;rw[aa h2])
def FN:Row->Option (Bool×RS)
 |.cells t [.str lab,.int .i64 aF,.int .i64 sz,.int .i64 op,.int .i64 aM,.dH e1 args,.dH e2 data,.dH e3 x,.dH e4 ai] =>
  match iC e1 j3 args,iC e2 Fq data,iC e3 eC x,iC e4 eC ai with
  |some args,some data,some x,some ai=>some (Nat.beq t 40,⟨0,lab,aF,sz,op,aM,args,data,x,ai,0,0⟩)
  |_,_,_,_=>none
 |_=>none
theorem nQ {r:Row}{x:RS}(h:FN r=some (true,x)):r=Nc x:=by
 unfold FN at h;split at h;case h_2=>cases h
 rename_i t lab aF sz op aM e1 args e2 data e3 xx e4 ai;split at h;case h_2=>cases h
 rename_i a1 a2 a3 a4 h1 h2 h3 h4;simp only[aq,ay,aO]at h;obtain⟨rfl,rfl⟩:=h;obtain⟨rfl,h1⟩:=bT h1;obtain⟨rfl,h2⟩:=bT h2;obtain⟨rfl,h3⟩:=bT h3;obtain⟨rfl,h4⟩:=bT h4;have h1:args=a1:=h1;have h2:data=a2:=h2;have h3:xx=a3:=h3;have h4:ai=a4:=h4;subst h1;subst h2;subst h3;subst h4;rfl
def gD1 (args:List AV)(rows:List Row):Option (Bool×AV×List Row) :=
 match args,rows with
 |[.ptr 0 0,.ptr 1 0,.ptr 2 0],st :: .cells t1 [.ptr 3 0] :: .cells t2 [.str c]::rd::l=>match FN st,uM 3 rd l with
  |some (b,x),some (b',s)=>some (b&&(b'&&(Nat.beq t1 67&&(Nat.beq t2 106&&(Nat.ble c.length 2000000&&(CP x.sz&&(Kq x.data&&Nat.ble (s.av.length+x.data.length) 1000000)))))),.fH [],rdM [Nc x,P7 3,scR c] (hU s (s.av++x.data.map (Yt s.au c x.sz))) (s.av++x.data.map (Yt s.au c x.sz)).length)
  |_,_=>none
 |_,_=>none
theorem s9 {l:List Dt}(h:Kq l=true):l.length<=100000/\∀d∈l,d.1.length<=1000000/\eu d.2=true:=by
 unfold Kq at h;rw[ak]at h;refine⟨az h.1,λd hd=>?_⟩;have:=aK.1 h.2 d hd;rw[ak]at this;exact⟨az this.1,this.2⟩
theorem ahK:j7 X0 fU 91 gD1 :=
 nP (λargs=>lt.bS rfl args) (qW nF uL MZ) λargs rows v outs hg=>by
  unfold gD1 at hg;split at hg;case h_2=>cases hg
  rename_i st t1 t2 c rd l;split at hg;case h_2=>cases hg
  rename_i b x b' s hs hr;simp only[aq,ay,ak,aO]at hg;obtain⟨⟨rfl,rfl,h1,h2,h3,h4,h5,h6⟩,rfl,rfl⟩:=hg;subst h1;subst h2;obtain rfl:=nQ hs;obtain⟨rfl,rfl⟩:=fX hr;obtain⟨d1,d2⟩:=s9 h5;have h6:=az h6;refine⟨ab4,x.data.length+1,?_⟩;have e:aT X0 (cV S1 N2 G1 _) ab4 (x.data.length+1) 91 [.ptr 0 0,.ptr 1 0,.ptr 2 0] (eU 5 (rdM [Nc x,P7 3,scR c] s s.av.length)) gG=ZE x c s s.av.length (x.data.length+1) (x.data.length+1) x.data.length 0:=by
   cases x;cases s;exact ab5 ..
  refine Eq.trans ?_ ((ahJ x (az h3) s (x.data.length+1) (s8 h4) d2 d1 x.data [] (x.data.length+1) s.av.length s.av rfl (by omega) h6).trans rfl);exact e
def G3:List AZ:=(91,⟨70,wg,gD1⟩)::G2
theorem aeb:pX X0 fU G3:=.cons ahK amg
end
end Go.Proofs.YtbeckacfibledaaGreatDoor.ps.sr
