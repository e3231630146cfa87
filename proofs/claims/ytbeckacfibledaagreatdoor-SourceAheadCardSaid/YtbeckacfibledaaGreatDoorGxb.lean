/- Sources: slices.Clone. Sources: what a reader has, as rows; calls. Sources: names completed: expressions, instructions. Sources: an instruction's names completed. Sources: the number of an expression that hangs on no place. Sources: the contract of constant. Sources: pieces of data, once. -/
import Derived.Test.YtbeckacfibledaaGreatDoorGrh
import Derived.Test.YtbeckacfibledaaGreatDoorGva
import Derived.Test.YtbeckacfibledaaGreatDoorLyh
set_option linter.unusedVariables false
set_option linter.unusedSimpArgs false

namespace Go.Proofs.YtbeckacfibledaaGreatDoor.ps.sr
open Go.Tv Go.Ev Go.Px Go.Pp Go.Proofs.YtbeckacfibledaaGreatDoor.ex
set_option maxRecDepth 100000
noncomputable section
def XX (f:FuncId):Code:=match X0.P.funcs[f]? with
 |some fn=>match fn.body with
  |some (.seq _ (.seq _ c))=>c
  |_=>.skip
 |none=>.skip
def B2 (t:TypeId)(e:Tv.Ty)(args:List AV)(rows:List Row):Option (Bool×AV×List Row) :=
 match args,rows with
 |[.dH e' l],[]=>match iu e' e l with
  |some l=>some (Nat.ble l.length 2000000,.own 0 l.length,[.list t e l 0 false false])
  |none=>none
 |_,_=>none
theorem PD {t:TypeId}{e:Tv.Ty}{args:List AV}{rows outs:List Row}{v:AV}(h:B2 t e args rows=some (true,v,outs)):∃l:List e.den,args=[.dH e l]/\rows=[]/\l.length<=2000000/\v = .own 0 l.length/\outs=[.list t e l 0 false false]:=by
 unfold B2 at h;split at h;case h_2=>cases h
 rename_i e' l;split at h;case h_2=>cases h
 rename_i l' hc;simp only[aq,ax]at h;obtain⟨h1,rfl,rfl⟩:=h;obtain⟨rfl,hc⟩:=bS hc;have hc:l=l':=hc;subst hc;exact⟨l,rfl,rfl,ay h1,rfl,rfl⟩
structure Dq (f:FuncId)(fn:Func)(t:TypeId)(e:Tv.Ty):Prop where
 asF:X0.P.funcs[f]? = some fn
 res:fn.results.toList=[.tmp 2]
 nil:∀(R D:Nat) (E:Mem),nK X0.P X0.G lt.kn R (D+1) f [.slice none 0 0] E=some (.slice none 0 0,E)
 head:∀(call:cG) (R:Nat) (a:Addr) (len cap:Nat) (E:Mem),lO X0.P X0.G call R f [.slice (some a) len cap] E =
  match (Fr.mk 8 (Tr.full (xF 8))).fill 0 [.slice (some a) len cap] with
  |some f0=>match f0.put (some 2) (.slice none 0 0) with
   |some f1=>match f1.put (some 3) (.slice (some a) len cap) with
    |some f2=>match f2.put (some 4) (.bool false) with
     |some f3=>C4 X0.P fn (jK X0.P X0.G call (uQ X0.P X0.G call R R) R (XX f) f3 E)
     |none=>none
    |none=>none
   |none=>none
  |none=>none
 run:∀l:List e.den,iw X0 (cN [] [] _) [] (λ_ _ _ _ _=>none) 5 (XX f) .none (lq 8 [(0,.dH e l),(2,.dG),(3,.jY),(4,.jY)]) aG.empty (λlv f H=>match lv with
  |.ret=>gy (f.get 2) H
  |_=>none)=ah (Nat.ble (0+l.length) 2000000) (some (.own 0 l.length,[.list t e l 0 false false])) none
theorem B3 {f:FuncId}(hin:lt.inl f=true){fn:Func}{t:TypeId}{e:Tv.Ty}(h:Dq f fn t e):j3 X0 fR f (B2 t e):=by
 intro args rows v outs hg p S E bK hp hr hgl hl;obtain⟨l,rfl,rfl,hlen,rfl,rfl⟩:=PD hg;subst hp;obtain⟨x,rfl,hx⟩:=LV.single hl;have hcases:(l=[]/\x = .slice none 0 0)\/∃a len cap,x = .slice (some a) len cap:=by
  cases hx with
  |dH _ _ _ hs =>
   rcases hs with⟨h1,h2|h2⟩|⟨i,pre,mid,post,cap,h1,_⟩
   .exact .inl ⟨h1,h2⟩
   .exact .inr ⟨_,_,_,h2⟩
   exact .inr ⟨_,_,_,h1⟩
 rcases hcases with⟨rfl,rfl⟩|⟨a,len,cap,rfl⟩
 .have oh:∀v,S.Γ (eT 0 []).next v=none:=λv=>hr.CN _ _ (aC _)
  obtain⟨b1,b2,b3⟩:=hr.add (E':=E) (r:=.list t e [] 0 false false) (x:=none) (g:=some ⟨e,[]⟩) (aC _) rfl (λ_ _=>rfl) (λr' hr'=>by cases hr';exact kZ oh) (λy hy=>by cases hy) rfl;have hv:VR (S.new (eT 0 []).next none (some ⟨e,[]⟩)) (.own 0 0) (.slice none 0 0):=.fZ 0 ⟨e,[]⟩ (by simp[Wo.new,eT]) rfl;refine⟨_,.slice none 0 0,E,⟨1,λn hn=>?_⟩,hv,b2,b3.Nk⟩;obtain⟨R,D⟩:=n;obtain⟨D',rfl⟩:∃D',D=D'+1:=⟨D-1,by have:=hn.2;simp only at this;omega⟩;exact h.nil R D' E
 have hrun:=h.run l;rw[dS (by omega)]at hrun;have hJ:vg X0 false (β:=AV×List Row) (λ_ _ _ _ _=>none) (λn=>uQ X0.P X0.G (fR n) n.1 n.1):=λc rest f H k r h=>by cases h
 obtain⟨lv,f',H',h1,h2⟩:=I8 (jy .nil n0 _) hJ 5 (XX f) .none (λ_=>rfl) _ _ _ _ hrun;split at h1;case h_2=>cases h1
 obtain⟨f0,e0⟩:=y9 [.slice (some a) len cap] (Fr.mk 8 (Tr.full (xF 8))) 0;obtain⟨f1,e1⟩:=Fr.oX f0 (some 2) (.slice none 0 0);obtain⟨f2,e2⟩:=Fr.oX f1 (some 3) (.slice (some a) len cap);obtain⟨f3,e3⟩:=Fr.oX f2 (some 4) (.bool false);have r0:mj S (fM.mk 8 .e) (Fr.mk 8 (Tr.full (xF 8))):=⟨rfl,λi=>.jY _⟩;have r1:=En r0 hl e0;have r2:=r1.put (v:=.dG) .dG e1;have r3:=r2.put (v:=.jY) (.jY _) e2;have r4:=r3.put (v:=.jY) (.jY _) e3;obtain⟨S1,fE,E1,a1,a2,a3,a4,_⟩:=h2 S E f3 hr hgl r4;obtain⟨S2,c1,c2,c3⟩:=PA h1 a3 (a2.v 2)
 have hpar:H'.par=0:=a4.yU;rw[hpar]at c2 c3;refine⟨S2,fE.get 2,E1,gb (λargs=>lt.bR hin args) ?_,c1,c2,a4.trans c3⟩;obtain⟨N,a1⟩:=a1;refine⟨N,λn hn=>?_⟩;have:=a1 n hn;show lO X0.P X0.G (fR n) n.1 f [.slice (some a) len cap] E=_;rw[h.head];simp only[e0,e1,e2,e3,this];show cB E1 ((j8 X0.P E1 fE fn.results.toList).map wg)=_;rw[h.res];rfl
theorem XY:Dq 122 Tryz.f122 76 eC :=
 ⟨by kernel_rfl,rfl,λR D E=>by kernel_rfl,λcall R a len cap E=>by kernel_rfl,λl=>by kernel_rfl⟩
theorem TA:Dq 126 Tryz.f126 117 jV :=
 ⟨by kernel_rfl,rfl,λR D E=>by kernel_rfl,λcall R a len cap E=>by kernel_rfl,λl=>by kernel_rfl⟩
theorem XZ:Dq 96 Tryz.f96 5 (.int .u8) :=
 ⟨by kernel_rfl,rfl,λR D E=>by kernel_rfl,λcall R a len cap E=>by kernel_rfl,λl=>by kernel_rfl⟩
def jQ (s:List UInt8):List (List UInt8):=(sl.jt [] [] s).map sl.wX
def itS:ItT:=λf=>ah (Nat.beq f (qO 40)) (some jQ) none
theorem ag4 (f:FuncId)(it:List UInt8->List (List UInt8))(h:itS f=some it):PC X0 lt.kn f it:=by
 unfold itS at h;rw[au]at h;split at h;case isFalse=>cases h
 rename_i hf;obtain rfl:=bf hf;cases h;refine⟨by kernel_rfl,λi=>by kernel_rfl,λs hs=>?_⟩;have e:lt.kn (qO 40) [iq,.string ⟨s.toArray⟩]=ah (Nat.ble (nm.vP (s.toArray).toList 0) 2000000) (some (.tuple (rg.wY ⟨s.toArray⟩).toArray)) none:=by kernel_rfl
 have hl:nm.vP (s.toArray).toList 0=s.length:=by rw[nm.Je];simp
 rw[hl,dS hs]at e;refine e.trans ?_;have e2:rg.wY ⟨s.toArray⟩=(jQ s).map λx=>Value.string ⟨x.toArray⟩:=by
  unfold rg.wY jQ;rw[ou];rfl
 rw[e2]
def cV (M:List vW)(N:List pI)(G:List AJ)(β:Type):cH β:=XV X0 (T4 M) (aam N) (ag3 G) itS lt.inl 400 β 40
theorem qM {M:List vW}{N:List pI}{G:List AJ}(hM:iO X0 fR M)(hN:gR X0 fR N)(hG:pN X0 fR G)(β:Type):cX X0 fR (cV M N G β) :=
 XW hM hN hG ag4 (λf h args=>lt.bR h args) 400 40 β
def S1:List vW:=(86,[some eC],gNm)::(87,[some eC,some iz,none,none],gEv)::(64,[none,none],lt.aad)::[]
theorem nv:iO X0 fR S1:=.cons agY (.cons XP (.cons (lt.ac8 lt.BJ) .nil))
def alI:Tv.Ty:=.pair (.int .i64) (.pair (.int .i64) (.sl jV))
def rO:Tv.Ty:=.pair (.int .i64) (.pair (.int .i64) (.pair .str (.pair alI (.pair (.sl eC) (.pair (.sl (.int .u8)) (.int .i64))))))
def G1:List AJ:=[(122,⟨0,[],B2 76 eC⟩),(126,⟨0,[],B2 117 jV⟩),(96,⟨0,[],B2 5 (.int .u8)⟩)]
theorem MH:pN X0 fR G1:=.cons (B3 rfl XY) (.cons (B3 rfl TA) (.cons (B3 rfl XZ) .nil))
abbrev OL:=Option (List AV)
def s6 {α β:Type}(L:List α)(i:Int)(k:α->Option β):Option β:=Option.rec (motive:=λ_=>Option β) none (λy=>k y) (dQ L i)
theorem qt {α β:Type}{L pre Ka:List α}{y:α}(he:L=pre++y::Ka)(k:α->Option β):s6 L (pre.length:Int) k=k y:=by
 unfold s6;rw[he,lY]
def nmT {β:Type}(c s:List UInt8)(k:List UInt8->Option β):Option β:=ah (lt.preB s [46]) (ah (Nat.ble (c.length+s.length) 9223372036854775807) (k (c++s)) none) (k s)
theorem JX {β:Type}{c s:List UInt8}(h:c.length+s.length<=9223372036854775807)(k:List UInt8->Option β):nmT c s k=k (gx c s):=by
 unfold nmT gx;rw[au,dS h];unfold lt.preB;by_cases hp:s.take 1=[46]
 .rw[ag hp,ag (by simpa using hp)]
 rw[aa hp,aa (by simpa using hp)]
def pNo:List Bool:=[true,true,true,false,true,false]
def abq:ez:=⟨gZ [2,6,7,12,13] pNo,.none,[]⟩
def abr:List (List (Option Tv.Ty)):=[[some eC],[none]]
def jNo (c:List UInt8)(r m n:Nat)(L:List Nd)(ok:Bool)(len i:Int):OL:=iH X0 (cV S1 [] G1 _) abq r 85 pNo (rK abr) m (lq 46 [(2,.ptr 0 0),(6,.own 1 n),(7,.bool ok),(12,.int .i64 len),(13,.int .i64 i)]) (oY [.cells 106 [.str c],.list 76 eC L 0 false false])
def stepN' (c:List UInt8)(L:List Nd)(ok:Bool)(len i:Int)(J:List Nd->Bool->OL):OL :=
 ah (bB i len) (s6 L i λy=>ah (bI y.1 2) (s6 L i λy1=>nmT c y1.2.2.1 λw=>s6 L i λy2=>(λL':List Nd=>ah ok (s6 L' i λy3=>J L' (!bB 60 (y3.2.2.1.length:Int))) (J L' false)) (L.set i.toNat (y2.1,y2.2.1,w,y2.2.2.2.1,y2.2.2.2.2))) (J L ok))
  (some [.dH eC L,.bool ok])
theorem X2 (c:List UInt8)(r m n:Nat)(L:List Nd)(ok:Bool)(len i:Int):jNo c r (m+1) n L ok len i=stepN' c L ok len i λL' ok'=>jNo c r m n L' ok' len (IntKind.wrap .i64 (i+1)):=by kernel_rfl
theorem abt (c:List UInt8)(x:List Nd)(r:Nat):aT X0 (cV S1 [] G1 _) abq r 85 [.agg [.str c],.dH eC x] aG.empty (rK abr)=ah (Nat.ble x.length 2000000) (jNo c r r x.length x true x.length 0) none:=by kernel_rfl
def ep (x:List Nd):Bool:=Nat.ble x.length 2000000&&x.all λy=>Nat.ble y.2.2.1.length 2000000
theorem ag6 {c:List UInt8}(hc:c.length<=2000000)(r n:Nat)(x:List Nd)(hx:x.length<=2000000)(hs:∀y∈x,y.2.2.1.length<=2000000):∀(rest pre:List Nd) (m:Nat) (ok:Bool),x=pre++rest->rest.length<m ->
 jNo c r m n (pre.map (Ms c)++rest) ok x.length pre.length=some [.dH eC (x.map (Ms c)),.bool (ok&&rest.all (ndB c))]:=by
 intro rest;induction rest with
 |nil =>
  intro pre m ok he hm;obtain⟨m,rfl⟩:∃m',m=m'+1:=⟨m-1,by simp at hm;omega⟩;obtain rfl:x=pre:=by rw[he];simp
  rw[X2];unfold stepN';rw[fH (by omega)];show some _=some _;simp
 |cons y rest ih =>
  intro pre m ok he hm;obtain⟨m,rfl⟩:∃m',m=m'+1:=⟨m-1,by simp at hm;omega⟩;have hl:x.length=pre.length+(rest.length+1):=by rw[he];simp
  have hy:=hs y (by rw[he];simp);have hpl:((pre.map (Ms c)).length:Int)=pre.length:=by simp
  have go:∀ok':Bool,jNo c r m n (pre.map (Ms c)++Ms c y::rest) ok' x.length (IntKind.wrap .i64 ((pre.length:Int)+1))=some [.dH eC (x.map (Ms c)),.bool (ok'&&rest.all (ndB c))]:=λok'=>by
   rw[i64_in (n:=(pre.length:Int)+1) (by omega) (by omega)];have:=ih (pre++[y]) m ok' (by rw[he];simp) (by simp at hm;omega);simpa using this
  rw[X2];unfold stepN';rw[qG (by omega)];show s6 _ _ _=_;rw[<-hpl,qt rfl,cq];by_cases h2:y.1=2
  .rw[ag h2,qt rfl,JX (by omega),qt rfl];have DJ:(pre.map (Ms c)++y::rest).set (((pre.map (Ms c)).length:Int).toNat) (y.1,y.2.1,gx c y.2.2.1,y.2.2.2.1,y.2.2.2.2)=pre.map (Ms c)++Ms c y::rest:=by
    rw[bg,kr _ _ (aC _),oy];have:Ms c y=(y.1,y.2.1,gx c y.2.2.1,y.2.2.2):=by unfold Ms;rw[ag h2]
    rw[this];rfl
   simp only[DJ];rw[bW];have hB:ndB c y=Nat.ble (gx c y.2.2.1).length 60:=by unfold ndB;rw[h2];rfl
   cases ok with
   |true =>
    show s6 _ _ _=_;rw[qt rfl,hpl,go,hB,dM];have:(Ms c y).2.2.1=gx c y.2.2.1:=by unfold Ms;rw[ag h2]
    rw[this];have e:(!bB 60 ((gx c y.2.2.1).length:Int))=Nat.ble (gx c y.2.2.1).length 60:=by
     rw[cA];by_cases Wg:(gx c y.2.2.1).length<=60
     .rw[dS Wg,aU (by omega)];rfl
     have:Nat.ble (gx c y.2.2.1).length 60=false:=by
      cases hb:Nat.ble (gx c y.2.2.1).length 60 with
      |true=>exact absurd (ay hb) Wg
      |false=>rfl
     rw[this,aX (by omega)];rfl
    rw[e]
   |false =>
    show jNo _ _ _ _ _ _ _ _=_;rw[hpl,go];rfl
  rw[aa h2,hpl];have:Ms c y=y:=by unfold Ms;rw[aa h2]
  have hg:=go ok;rw[this]at hg;refine hg.trans ?_;rw[bW];have hB:ndB c y=true:=by unfold ndB;rw[aU h2];rfl
  rw[hB,dM]
def fNo (args:List AV):Option (Bool×List AV) :=
 match args with
 |[.agg [.str c],.dH e x]=>match iu e eC x with
  |some x=>some (Nat.ble c.length 2000000&&ep x,[.dH eC (dc c x).1,.bool (dc c x).2])
  |none=>none
 |_=>none
theorem MI {x:List Nd}(h:ep x=true):x.length<=2000000/\∀y∈x,y.2.2.1.length<=2000000:=by
 unfold ep at h;rw[ak]at h;exact⟨ay h.1,λy hy=>ay (aK.1 h.2 y hy)⟩
theorem alJ {c:List UInt8}(hc:c.length<=2000000){x:List Nd}(hx:ep x=true):aT X0 (cV S1 [] G1 _) abq (x.length+1) 85 [.agg [.str c],.dH eC x] aG.empty (rK abr)=some [.dH eC (dc c x).1,.bool (dc c x).2]:=by
 obtain⟨h1,h2⟩:=MI hx;rw[abt,dS h1];show jNo _ _ _ _ _ _ _ _=_;have:=ag6 hc (x.length+1) x.length x h1 h2 x [] (x.length+1) true rfl (by omega);refine this.trans ?_;rw[dM];rfl
theorem con_V' {id:FuncId}(hk:lt.inl id=true){M:List vW}{N:List pI}{G:List AJ}(hM:iO X0 fR M)(hN:gR X0 fR N)(hG:pN X0 fR G){sig:List (Option (TypeId×Tv.Ty))}{f:List AV->Option (Bool×List AV)}(sg:List (List (Option Tv.Ty)))
 (h:∀vs ws,f vs=some (true,ws)->ws.all EN=true/\∃an rounds,aT X0 (cV M N G _) an rounds id vs aG.empty (rK sg)=some ws):gq X0 fR id ⟨none,sig,gV f⟩ :=
 Me (nk hk) (qM hM hN hG) sg λins outs rs hg=>by
  unfold gV at hg;split at hg;case h_2=>cases hg
  rename_i vs hv;split at hg;case h_2=>cases hg
  rename_i c ws hf;simp only[aq,ax]at hg;obtain⟨rfl,_,rfl⟩:=hg;obtain⟨h1,an,rounds,h2⟩:=h vs ws hf;have hi:=qL hv;subst hi;refine⟨an,rounds,ws,?_,rfl,h1⟩;rw[sJ,vt];exact h2
theorem ag7:gq X0 fR 85 ⟨none,[none,none],gV fNo⟩ :=
 con_V' rfl nv n0 MH abr λvs ws hf=>by
  unfold fNo at hf;split at hf;case h_2=>cases hf
  rename_i c e x;split at hf;case h_2=>cases hf
  rename_i x' hx;simp only[aq,ax,ak]at hf;obtain⟨⟨h1,h2⟩,rfl⟩:=hf;obtain⟨rfl,hx⟩:=bS hx;have hx:x=x':=hx;subst hx;exact⟨rfl,abq,x.length+1,alJ (ay h1) h2⟩
def N1:List pI:=[(85,⟨none,[none,none],gV fNo⟩)]
theorem Rp:gR X0 fR N1:=.cons ag7 .nil
def Mh:ez:=⟨gZ [2,3,4,6,16,17] pNo,.none,[]⟩
def MJ:List (List (Option Tv.Ty)):=[[none,none,some jV],[none]]
def Q5 (c:List UInt8)(op aM:Int)(r m n:Nat)(L:List Raw)(ok:Bool)(len i:Int):OL:=iH X0 (cV S1 N1 G1 _) Mh r 88 pNo (rK MJ) m (lq 44 [(2,.ptr 0 0),(3,.ptr 1 0),(4,.ptr 2 0),(6,.bool ok),(16,.int .i64 len),(17,.int .i64 i)])
 (oY [.cells 106 [.str c],.cells 36 [.int .i64 op,.int .i64 aM,.own 3 n],.cells 36 [.int .i64 0,.int .i64 0,.dG],.list 117 jV L 0 false false])
def cmO (op aM:Int)(L:List Raw)(ok:Bool):OL:=some [.agg [.int .i64 op,.int .i64 aM,.dH jV L],.bool ok]
def stepC' (c:List UInt8)(op aM:Int)(L:List Raw)(ok:Bool)(len i:Int)(J:List Raw->Bool->OL):OL :=
 ah (bB i len) (s6 L i λy=>ah (Nat.ble c.length 2000000&&ep y.2.2.2.1) (s6 L i λy1=>(λL':List Raw=>ah ok (J L' (dc c y.2.2.2.1).2) (J L' false)) (L.set i.toNat (y1.1,y1.2.1,y1.2.2.1,(dc c y.2.2.2.1).1,y1.2.2.2.2))) none)
  (cmO op aM L ok)
theorem JC (c:List UInt8)(op aM:Int)(r m n:Nat)(L:List Raw)(ok:Bool)(len i:Int):Q5 c op aM r (m+1) n L ok len i=stepC' c op aM L ok len i λL' ok'=>Q5 c op aM r m n L' ok' len (IntKind.wrap .i64 (i+1)):=by kernel_rfl
theorem JD (c:List UInt8)(op aM:Int)(l:List Raw)(r:Nat):aT X0 (cV S1 N1 G1 _) Mh r 88 [.agg [.str c],.agg [.int .i64 op,.int .i64 aM,.dH jV l]] aG.empty (rK MJ)=ah (Nat.ble l.length 2000000) (Q5 c op aM r r l.length l true l.length 0) none:=by kernel_rfl
def nZ (l:List Raw):Bool:=Nat.ble l.length 2000000&&l.all λy=>ep y.2.2.2.1
theorem JG {c:List UInt8}(hc:c.length<=2000000)(op aM:Int)(r n:Nat)(x:List Raw)(hx:x.length<=2000000)(hs:∀y∈x,ep y.2.2.2.1=true):∀(rest pre:List Raw) (m:Nat) (ok:Bool),x=pre++rest->rest.length<m ->
 Q5 c op aM r m n (pre.map (Fl c)++rest) ok x.length pre.length=cmO op aM (x.map (Fl c)) (ok&&rest.all λr=>(dc c r.2.2.2.1).2):=by
 intro rest;induction rest with
 |nil =>
  intro pre m ok he hm;obtain⟨m,rfl⟩:∃m',m=m'+1:=⟨m-1,by simp at hm;omega⟩;obtain rfl:x=pre:=by rw[he];simp
  rw[JC];unfold stepC';rw[fH (by omega)];show cmO _ _ _ _=_;simp
 |cons y rest ih =>
  intro pre m ok he hm;obtain⟨m,rfl⟩:∃m',m=m'+1:=⟨m-1,by simp at hm;omega⟩;have hl:x.length=pre.length+(rest.length+1):=by rw[he];simp
  have hy:=hs y (by rw[he];simp);have hpl:((pre.map (Fl c)).length:Int)=pre.length:=by simp
  have go:∀ok':Bool,Q5 c op aM r m n (pre.map (Fl c)++Fl c y::rest) ok' x.length (IntKind.wrap .i64 ((pre.length:Int)+1))=cmO op aM (x.map (Fl c)) (ok'&&rest.all λr=>(dc c r.2.2.2.1).2):=λok'=>by
   rw[i64_in (n:=(pre.length:Int)+1) (by omega) (by omega)];have:=ih (pre++[y]) m ok' (by rw[he];simp) (by simp at hm;omega);simpa using this
  rw[JC];unfold stepC';rw[qG (by omega)];show s6 _ _ _=_;rw[<-hpl,qt rfl,dS hc,hy];show s6 _ _ _=_;rw[qt rfl];have DJ:(pre.map (Fl c)++y::rest).set (((pre.map (Fl c)).length:Int).toNat) (y.1,y.2.1,y.2.2.1,(dc c y.2.2.2.1).1,y.2.2.2.2)=pre.map (Fl c)++Fl c y::rest:=by
   rw[bg,kr _ _ (aC _),oy];rfl
  simp only[DJ];rw[bW];cases ok with
  |true =>
   show Q5 _ _ _ _ _ _ _ _ _ _=_;rw[hpl,go,dM]
  |false =>
   show Q5 _ _ _ _ _ _ _ _ _ _=_;rw[hpl,go];rfl
def fCm (args:List AV):Option (Bool×List AV) :=
 match args with
 |[.agg [.str c],.agg [.int .i64 op,.int .i64 aM,.dH e x]]=>match iu e jV x with
  |some x=>some (Nat.ble c.length 2000000&&nZ x,[.agg [.int .i64 op,.int .i64 aM,.dH jV (JN c x).1],.bool (JN c x).2])
  |none=>none
 |_=>none
theorem CB {x:List Raw}(h:nZ x=true):x.length<=2000000/\∀y∈x,ep y.2.2.2.1=true:=by
 unfold nZ at h;rw[ak]at h;exact⟨ay h.1,λy hy=>aK.1 h.2 y hy⟩
theorem Pe:gq X0 fR 88 ⟨none,[none,none],gV fCm⟩ :=
 con_V' rfl nv Rp MH MJ λvs ws hf=>by
  unfold fCm at hf;split at hf;case h_2=>cases hf
  rename_i c op aM e x;split at hf;case h_2=>cases hf
  rename_i x' hx;simp only[aq,ax,ak]at hf;obtain⟨⟨h1,h2⟩,rfl⟩:=hf;obtain⟨rfl,hx⟩:=bS hx;have hx:x=x':=hx;subst hx;obtain⟨k1,k2⟩:=CB h2;refine⟨rfl,Mh,x.length+1,?_⟩;rw[JD,dS k1];show Q5 _ _ _ _ _ _ _ _ _ _=_;refine(JG (ay h1) op aM (x.length+1) x.length x k1 k2 x [] (x.length+1) true rfl (by omega)).trans ?_;rw[dM];rfl
def N2:List pI:=(88,⟨none,[none,none],gV fCm⟩)::N1
theorem uB:gR X0 fR N2:=.cons Pe Rp
abbrev OG:=Option (AV×List Row)
def Y9 (m a b na nb:Nat)(s:SS):List AV:=[.int .i64 s.fJ,.own a na,.own b nb,.yu m,.str s.lab,.bool s.opn,.str s.bp,.int .i64 s.aN,.bool s.aR,.int .i64 s.aD,.int .i64 s.az]
def vA (s:SS)(cs:List Row):List Row:=.cells 70 (Y9 (cs.length+1) (cs.length+2) (cs.length+3) s.aH.length s.av.length s)::(cs++[.mp 68 s.aI,.list 59 iz s.aH 0 false false,.list 52 rO s.av 0 false false])
def uC (n:Nat)(c:Row)(l:List Row):Option (Bool×SS) :=
 match c,l with
 |.cells t [.int .i64 fJ,.own a na,.own b nb,.yu m,.str lab,.bool opn,.str bp,.int .i64 aN,.bool aR,.int .i64 aD,.int .i64 az],[.mp t1 aI,.list t2 e2 aH 0 false false,.list t3 e3 av 0 false false] =>
  match iu e2 iz aH,iu e3 rO av with
  |some aH,some av=>some (Nat.beq t 70&&(Nat.beq t1 68&&(Nat.beq t2 59&&(Nat.beq t3 52&&(Nat.beq m (n+1)&&(Nat.beq a (n+2)&&(Nat.beq b (n+3)&&(Nat.beq na aH.length&&Nat.beq nb av.length))))))),⟨fJ,aH,av,aI,lab,opn,bp,aN,aR,aD,az⟩)
  |_,_=>none
 |_,_=>none
theorem fV {n:Nat}{c:Row}{l:List Row}{s:SS}(h:uC n c l=some (true,s)):c = .cells 70 (Y9 (n+1) (n+2) (n+3) s.aH.length s.av.length s)/\l=[.mp 68 s.aI,.list 59 iz s.aH 0 false false,.list 52 rO s.av 0 false false]:=by
 unfold uC at h;split at h;case h_2=>cases h
 rename_i t fJ a na b nb m lab opn bp aN aR aD az t1 aI t2 e2 aH t3 e3 av;split at h;case h_2=>cases h
 rename_i syms' items' h2 h3;simp only[aq,ax,ak,aO]at h;obtain⟨⟨g1,g2,g3,g4,g5,g6,g7,g8,g9⟩,rfl⟩:=h;subst g1;subst g2;subst g3;subst g4;subst g5;subst g6;subst g7;obtain⟨rfl,h2⟩:=bS h2;obtain⟨rfl,h3⟩:=bS h3;have h2:aH=syms':=h2;have h3:av=items':=h3;subst h2;subst h3;have g8:na=aH.length:=g8;have g9:nb=av.length:=g9;subst g8;subst g9;exact⟨rfl,rfl⟩
def knB (s:SS):Bool:=s.aI.all λq=>Nat.ble (q.2.toNat) s.aH.length
def ag8 (s:SS):Bool:=Nat.ble s.lab.length 1000000&&Nat.ble s.bp.length 1000000
theorem abv {s:SS}(h:knB s=true)(w:List UInt8)(h0:0<iE s.aI w):iE s.aI w<=s.aH.length:=by
 have:∀l:List (List UInt8×Int),(l.all λq=>Nat.ble (q.2.toNat) s.aH.length)=true->0<iE l w->iE l w<=s.aH.length:=by
  intro l;induction l with
  |nil=>intro _ h0;exact absurd h0 (by show ¬(0:Int)<0;decide)
  |cons q l ih =>
   intro hl h0;rw[bW,ak]at hl;unfold iE at h0 ⊢;rw[au]at h0 ⊢;by_cases hq:decide (w=q.1)=true
   .rw[ag hq]at h0 ⊢;have:=ay hl.1;omega
   rw[aa hq]at h0 ⊢;exact ih hl.2 h0
 exact this s.aI h h0
def gJ (x:List Nd)(l:List Sy):Int×Bool×Int:=Rc x l 0 0
def fS (x:List Nd):List (List UInt8):=if rJ bX x=0 then vu x [] else []
def pCn:List Bool:=[true,true,true,true,false,true,false]
def X3:ez:=⟨gZ [0,6,25,26,27,8] pCn,.none,[]⟩
def mK0 (s:SS)(nm:List (List UInt8)):aG:=eT 2 [.cells 70 (Y9 1 3 4 s.aH.length s.av.length s),.mp 68 s.aI,.list 9 .str nm 0 false false,.list 59 iz s.aH 0 false false,.list 52 rO s.av 0 false false]
def mK1 (s:SS)(nm:List (List UInt8))(l:List Sy):aG:=eT 2 [.cells 70 (Y9 1 4 5 s.aH.length s.av.length s),.mp 68 s.aI,.list 9 .str nm 0 false false,.list 59 iz l 0 false false,.list 59 iz s.aH 0 false false,.list 52 rO s.av 0 false false]
def jK0 (s:SS)(X:List Nd)(nm:List (List UInt8))(r m n:Nat)(len i:Int):OG:=iH X0 (cV S1 N2 G1 _) X3 r 44 pCn gy m (lq 66 [(0,.ptr 0 0),(6,.dH eC X),(25,.own 2 n),(26,.int .i64 len),(27,.int .i64 i),(8,.dG)]) (mK0 s nm)
def TB (s:SS)(X:List Nd)(nm:List (List UInt8))(r m n:Nat)(l:List Sy)(k:Nat)(len i:Int):OG:=iH X0 (cV S1 N2 G1 _) X3 r 44 pCn gy m (lq 66 [(0,.ptr 0 0),(6,.dH eC X),(25,.own 2 n),(26,.int .i64 len),(27,.int .i64 i),(8,.own 3 k)]) (mK1 s nm l)
def JY (s:SS)(q:Int×Int):OG:=some (.fG [.int .i64 q.1,.int .i64 q.2],vA s [])
def CX (s:SS)(X:List Nd)(l:List Sy):OG:=ah (Nat.ble l.length 2000000) (ah (!bI (Rc X l 0 0).2.2 0) (JY s (0,(Rc X l 0 0).2.2)) (ah (Rc X l 0 0).2.1 (JY s (0,5)) (JY s ((Rc X l 0 0).1,0)))) none
def vO (s:SS)(nm:List (List UInt8))(len i:Int)(fin skip:OG)(new:Sy->OG):OG :=
 ah (bB i len) (s6 nm i λw=>ah (bB 0 (iE s.aI w)) (s6 s.aH (IntKind.wrap .i64 (iE s.aI w-1)) λy=>new (y.1,y.2.1,y.2.2)) skip) fin
theorem X4 (fJ:Int)(aH:List Sy)(av:List It)(aI:List (List UInt8×Int))(lab:List UInt8)(opn:Bool)(bp:List UInt8)(aN:Int)(aR:Bool)(aD az:Int)(X:List Nd)(nm:List (List UInt8))(r m n:Nat)(len i:Int) :
 jK0 ⟨fJ,aH,av,aI,lab,opn,bp,aN,aR,aD,az⟩ X nm r (m+1) n len i =
 vO ⟨fJ,aH,av,aI,lab,opn,bp,aN,aR,aD,az⟩ nm len i (CX ⟨fJ,aH,av,aI,lab,opn,bp,aN,aR,aD,az⟩ X []) (jK0 ⟨fJ,aH,av,aI,lab,opn,bp,aN,aR,aD,az⟩ X nm r m n len (IntKind.wrap .i64 (i+1)))
  λy=>TB ⟨fJ,aH,av,aI,lab,opn,bp,aN,aR,aD,az⟩ X nm r m n [y] 1 len (IntKind.wrap .i64 (i+1)):=by kernel_rfl
theorem X5 (fJ:Int)(aH:List Sy)(av:List It)(aI:List (List UInt8×Int))(lab:List UInt8)(opn:Bool)(bp:List UInt8)(aN:Int)(aR:Bool)(aD az:Int)(X:List Nd)(nm:List (List UInt8))(r m n:Nat)(l:List Sy)(k:Nat)(len i:Int) :
 TB ⟨fJ,aH,av,aI,lab,opn,bp,aN,aR,aD,az⟩ X nm r (m+1) n l k len i =
 vO ⟨fJ,aH,av,aI,lab,opn,bp,aN,aR,aD,az⟩ nm len i (CX ⟨fJ,aH,av,aI,lab,opn,bp,aN,aR,aD,az⟩ X l) (TB ⟨fJ,aH,av,aI,lab,opn,bp,aN,aR,aD,az⟩ X nm r m n l k len (IntKind.wrap .i64 (i+1)))
  λy=>ah (Nat.ble (l.length+1) 2000000) (TB ⟨fJ,aH,av,aI,lab,opn,bp,aN,aR,aD,az⟩ X nm r m n (l++[y]) (l.length+1) len (IntKind.wrap .i64 (i+1))) none:=by kernel_rfl
theorem ag9 (fJ:Int)(aH:List Sy)(av:List It)(aI:List (List UInt8×Int))(lab:List UInt8)(opn:Bool)(bp:List UInt8)(aN:Int)(aR:Bool)(aD az:Int)(x:List Nd)(r:Nat) :
 aT X0 (cV S1 N2 G1 _) X3 r 44 [.ptr 0 0,.dH eC x] (eT 2 (vA ⟨fJ,aH,av,aI,lab,opn,bp,aN,aR,aD,az⟩ [])) gy =
 (λgo:List UInt8->OG=>ah opn (go bp) (go lab)) λc=>ah (Nat.ble c.length 2000000&&ep x) (ah (!(dc c x).2) (JY ⟨fJ,aH,av,aI,lab,opn,bp,aN,aR,aD,az⟩ (0,3))
  (jK0 ⟨fJ,aH,av,aI,lab,opn,bp,aN,aR,aD,az⟩ (dc c x).1 (fS (dc c x).1) r r (fS (dc c x).1).length (fS (dc c x).1).length 0)) none:=by kernel_rfl
theorem TC {α:Type}{l:List α}{i:Int}(h0:0<=i)(h1:i<l.length):∃y pre Ka,l=pre++y::Ka/\(pre.length:Int)=i/\dQ l i=some y:=by
 obtain⟨n,rfl⟩:=Int.eq_ofNat_of_zero_le h0;have hn:n<l.length:=by omega
 refine⟨l[n],l.take n,l.drop (n+1),?_,?_,?_⟩
 .rw[List.getElem_cons_drop,eX]
 .rw[bY];omega
 show l[n]? = _;exact aP hn
theorem MK {s:SS}(hk:knB s=true)(hs:s.aH.length<=2000000){nm pre rest:List (List UInt8)}{w:List UInt8}(he:nm=pre++w::rest)(fin skip:OG)(new:Sy->OG) :
 vO s nm nm.length pre.length fin skip new=match sN s w with
  |some y=>new y
  |none=>skip:=by
 have hl:nm.length=pre.length+(rest.length+1):=by rw[he];simp
 unfold vO sN;rw[qG (by omega),he];show s6 _ _ _=_;rw[qt rfl,cF];by_cases h0:0<iE s.aI w
 .rw[ag h0,ag h0];have h1:=abv hk w h0;rw[i64_in (n:=iE s.aI w-1) (by omega) (by omega)];obtain⟨y,_,_,_,_,hy⟩:=TC (l:=s.aH) (i:=iE s.aI w-1) (by omega) (by omega);unfold s6;rw[hy]
 rw[aa h0,aa h0]
theorem aha {s:SS}(hk:knB s=true)(hs:s.aH.length<=2000000)(X:List Nd)(nm:List (List UInt8))(r n:Nat):∀(rest pre:List (List UInt8)) (m:Nat) (l:List Sy),nm=pre++rest->rest.length<m->l.length+rest.length<=2000000->pre.length+rest.length<=2000000 ->
 TB s X nm r m n l l.length nm.length pre.length=CX s X (l++rest.filterMap (sN s)):=by
 intro rest;induction rest with
 |nil =>
  intro pre m l he hm hl hp;obtain⟨m,rfl⟩:∃m',m=m'+1:=⟨m-1,by simp at hm;omega⟩;obtain rfl:nm=pre:=by rw[he];simp
  cases s;rw[X5];unfold vO;rw[fH (by omega)];show CX _ _ _=_;simp
 |cons w rest ih =>
  intro pre m l he hm hl hp;obtain⟨m,rfl⟩:∃m',m=m'+1:=⟨m-1,by simp at hm;omega⟩;have go:∀l':List Sy,l'.length+rest.length<=2000000->TB s X nm r m n l' l'.length nm.length (IntKind.wrap .i64 ((pre.length:Int)+1))=CX s X (l'++rest.filterMap (sN s)):=λl' hl'=>by
   have hp':pre.length+(rest.length+1)<=2000000:=by simpa using hp
   rw[i64_in (n:=(pre.length:Int)+1) (by omega) (by omega)];have:=ih (pre++[w]) m l' (by rw[he];simp) (by simp at hm;omega) hl' (by simp;omega);simpa using this
  have hstep:=MK hk hs he (CX s X l) (TB s X nm r m n l l.length nm.length (IntKind.wrap .i64 ((pre.length:Int)+1))) λy=>ah (Nat.ble (l.length+1) 2000000) (TB s X nm r m n (l++[y]) (l.length+1) nm.length (IntKind.wrap .i64 ((pre.length:Int)+1))) none
  have e:TB s X nm r (m+1) n l l.length nm.length pre.length=vO s nm nm.length pre.length (CX s X l) (TB s X nm r m n l l.length nm.length (IntKind.wrap .i64 ((pre.length:Int)+1))) λy=>ah (Nat.ble (l.length+1) 2000000) (TB s X nm r m n (l++[y]) (l.length+1) nm.length (IntKind.wrap .i64 ((pre.length:Int)+1))) none:=by
   cases s;exact X5 _ _ _ _ _ _ _ _ _ _ _ _ _ _ _ _ _ _ _ _
  rw[e,hstep,List.filterMap_cons];cases sN s w with
  |none=>exact go l (by simp at hl;omega)
  |some y =>
   simp only;rw[dS (by simp at hl;omega)];have:=go (l++[y]) (by simp at hl ⊢;omega);rw[aA,bJ]at this;exact this
theorem ahb {s:SS}(hk:knB s=true)(hs:s.aH.length<=2000000)(X:List Nd)(nm:List (List UInt8))(r n:Nat):∀(rest pre:List (List UInt8)) (m:Nat),nm=pre++rest->rest.length<m->pre.length+rest.length<=1000000 ->
 jK0 s X nm r m n nm.length pre.length=CX s X (rest.filterMap (sN s)):=by
 intro rest;induction rest with
 |nil =>
  intro pre m he hm hp;obtain⟨m,rfl⟩:∃m',m=m'+1:=⟨m-1,by simp at hm;omega⟩;obtain rfl:nm=pre:=by rw[he];simp
  cases s;rw[X4];unfold vO;rw[fH (by omega)];rfl
 |cons w rest ih =>
  intro pre m he hm hp;obtain⟨m,rfl⟩:∃m',m=m'+1:=⟨m-1,by simp at hm;omega⟩;have hp':pre.length+(rest.length+1)<=1000000:=by simpa using hp
  have hw:IntKind.wrap .i64 ((pre.length:Int)+1)=((pre++[w]).length:Int):=by rw[i64_in (n:=(pre.length:Int)+1) (by omega) (by omega)];simp
  have hstep:=MK hk hs he (CX s X []) (jK0 s X nm r m n nm.length (IntKind.wrap .i64 ((pre.length:Int)+1))) λy=>TB s X nm r m n [y] 1 nm.length (IntKind.wrap .i64 ((pre.length:Int)+1))
  have e:jK0 s X nm r (m+1) n nm.length pre.length=vO s nm nm.length pre.length (CX s X []) (jK0 s X nm r m n nm.length (IntKind.wrap .i64 ((pre.length:Int)+1))) λy=>TB s X nm r m n [y] 1 nm.length (IntKind.wrap .i64 ((pre.length:Int)+1)):=by
   cases s;exact X4 _ _ _ _ _ _ _ _ _ _ _ _ _ _ _ _ _ _
  rw[e,hstep,List.filterMap_cons,hw];cases sN s w with
  |none=>exact ih (pre++[w]) m (by rw[he];simp) (by simp at hm;omega) (by simp;omega)
  |some y=>exact aha hk hs X nm r n rest (pre++[w]) m [y] (by rw[he];simp) (by simp at hm;omega) (by simp;omega) (by simp;omega)
theorem FB:∀(x:List Nd) (o:List (List UInt8)),(vu x o).length<=o.length+x.length
 |[],o=>by simp[vu]
 |y::x,o=>by
  unfold vu;split
  .have:=FB x (o++[y.2.2.1]);simp at this ⊢;omega
  have:=FB x o;simp at this ⊢;omega
theorem abx (x:List Nd):(fS x).length<=200:=by
 unfold fS;split
 .rename_i h;have h1:=FB x [];have h2:=(AE h).2.1;simp at h1;omega
 simp
def zq (s:SS):Bool:=knB s&&(ag8 s&&(Nat.ble s.aH.length 1000000&&Nat.ble s.av.length 20000))
theorem sR {s:SS}(h:zq s=true):knB s=true/\(s.lab.length<=1000000/\s.bp.length<=1000000)/\s.aH.length<=1000000/\s.av.length<=20000:=by
 unfold zq ag8 at h;simp only[ak]at h;exact⟨h.1,⟨ay h.2.1.1,ay h.2.1.2⟩,ay h.2.2.1,ay h.2.2.2⟩
theorem rZ {s:SS}(h:zq s=true):(cn s).length<=1000000:=by
 obtain⟨_,⟨h1,h2⟩,_⟩:=sR h;unfold cn;split<;>assumption
theorem aby {s:SS}{x:List Nd}(h:(dc (cn s) x).2=true)(hl:((fS (dc (cn s) x).1).filterMap (sN s)).length<=2000000) :
 CX s (dc (cn s) x).1 ((fS (dc (cn s) x).1).filterMap (sN s))=JY s (cS gJ fS s x):=by
 unfold CX cS gJ;rw[dS hl,aa (by rw[h];decide)];show ah _ _ _=_;rw[cw];generalize Rc (dc (cn s) x).1 ((fS (dc (cn s) x).1).filterMap (sN s)) 0 0=q;by_cases h0:q.2.2=0
 .rw[ag h0,aa (by simp[h0])];cases hq:q.2.1<;>rfl
 rw[aa h0,ag h0]
theorem runK {s:SS}(hs:zq s=true){x:List Nd}(hx:ep x=true):aT X0 (cV S1 N2 G1 _) X3 300 44 [.ptr 0 0,.dH eC x] (eT 2 (vA s [])) gy=JY s (cS gJ fS s x):=by
 have hsc:=rZ hs;obtain⟨k1,_,k3,_⟩:=sR hs;have key:ah (Nat.ble (cn s).length 2000000&&ep x) (ah (!(dc (cn s) x).2) (JY s (0,3)) (jK0 s (dc (cn s) x).1 (fS (dc (cn s) x).1) 300 300 (fS (dc (cn s) x).1).length (fS (dc (cn s) x).1).length 0)) none=JY s (cS gJ fS s x):=by
  rw[dS (by omega),hx];show ah _ _ _=_;cases hn:(dc (cn s) x).2 with
  |false =>
   show JY _ _=_;unfold cS;rw[ag hn]
  |true =>
   show jK0 _ _ _ _ _ _ _ _=_;have hl:=abx (dc (cn s) x).1;refine(ahb k1 (by omega) (dc (cn s) x).1 (fS (dc (cn s) x).1) 300 _ (fS (dc (cn s) x).1) [] 300 rfl (by omega) (by show 0+_<=_;omega)).trans (aby hn ?_);have:=List.length_filterMap_le (sN s) (fS (dc (cn s) x).1);omega
 cases s with
 |mk fJ aH av aI lab opn bp aN aR aD az =>
  rw[ag9];cases opn<;>exact key
def gK (args:List AV)(rows:List Row):Option (Bool×AV×List Row) :=
 match args,rows with
 |[.ptr 0 0,.dH e x],c::l=>match iu e eC x,uC 0 c l with
  |some x,some (b,s)=>some (b&&(zq s&&ep x),.fG [.int .i64 (cS gJ fS s x).1,.int .i64 (cS gJ fS s x).2],vA s [])
  |_,_=>none
 |_,_=>none
theorem alK:j3 X0 fR 44 gK :=
 nI (λargs=>lt.bR rfl args) (qM nv uB MH) λargs rows v outs hg=>by
  unfold gK at hg;split at hg;case h_2=>cases hg
  rename_i e x c l;split at hg;case h_2=>cases hg
  rename_i x' b s hx hr;simp only[aq,ax,ak]at hg;obtain⟨⟨rfl,h1,h2⟩,rfl,rfl⟩:=hg;obtain⟨rfl,hx⟩:=bS hx;have hx:x=x':=hx;subst hx;obtain⟨rfl,rfl⟩:=fV hr;exact⟨X3,300,runK h1 h2⟩
def vV:List (Option (TypeId×Tv.Ty)):=[none,some (59,iz),some (52,rO)]
def G2:List AJ:=(44,⟨70,vV,gK⟩)::G1
theorem alL:pN X0 fR G2:=.cons alK MH
def Jj (x:RS):List AV:=[.str x.lab,.int .i64 x.aF,.int .i64 x.sz,.int .i64 x.op,.int .i64 x.aM,.dH jV x.args,.dH Fc x.data,.dH eC x.x,.dH eC x.ai]
def PE (n:Nat):Row:=.cells 67 [.ptr n 0]
def scR (c:List UInt8):Row:=.cells 106 [.str c]
def ML (x:RS):Row:=.cells 40 (Jj x)
def rdM (cs:List Row)(s:SS)(nb:Nat):List Row:=cs++[.cells 70 (Y9 (cs.length+1) (cs.length+2) (cs.length+3) s.aH.length nb s),.mp 68 s.aI,.list 59 iz s.aH 0 false false,.list 52 rO s.av 0 false false]
def pD1:List Bool:=[true,false]
def abz:ez:=⟨gZ [0,1,2,9,10,11] pD1,.none,[]⟩
def Za (x:RS)(c:List UInt8)(s:SS)(nb r m:Nat)(len i:Int):OG:=iH X0 (cV S1 N2 G1 _) abz r 91 pD1 gy m (lq 48 [(0,.ptr 0 0),(1,.ptr 1 0),(2,.ptr 2 0),(9,.dH Fc x.data),(10,.int .i64 len),(11,.int .i64 i)]) (eT 5 (rdM [ML x,PE 3,scR c] s nb))
def HP (x:RS)(c:List UInt8)(s:SS):OG:=some (.fG [],rdM [ML x,PE 3,scR c] s s.av.length)
def X6 (n sz:Int):Int:=IntKind.wrap .i64 (IntKind.wrap .i64 (Int.tdiv (IntKind.wrap .i64 (IntKind.wrap .i64 (n+sz)-1)) sz)*sz)
def ahc (t:List UInt8)(p:Int):List Int:=List.take p.toNat (List.drop 0 (me (List.replicate p.toNat (0:Int)) 0 (List.take (Nat.min (t.map cY).length p.toNat) (t.map cY))))
def FC {β:Type}(p:Int)(k:Option β):Option β:=ah (!bB p 0 && !bB p p && !bB 2000000 p) k none
def nN {β:Type}(n:Nat)(k:Option β):Option β:=ah (Nat.ble (n+1) 2000000) k none
def gS (s:SS)(l:List It):SS:={ s with av:=l }
def Cr (data:List Dt)(sz:Int)(c:List UInt8)(az:Int)(av:List It)(len i:Int)(J:List It->OG)(fin:OG):OG :=
 ah (bB i len) (s6 data i λy=>ah (bI (y.2.length:Int) 0)
  (ah (bI sz 0) none (FC (X6 y.1.length sz) (nN av.length (J (av++[(az,4,[],(0,0,[]),[],ahc y.1 (X6 y.1.length sz),0)])))))
  (ah (Nat.ble c.length 2000000&&ep y.2) (nN av.length (J (av++[(az,3,[],(0,0,[]),(dc c y.2).1,[],sz)]))) none)) fin
theorem X7 (a:Int)(lab:List UInt8)(aF sz op aM:Int)(args:List Raw)(data:List Dt)(xx ai:List Nd)(e f:Int)(c:List UInt8)(fJ:Int)(aH:List Sy)(av:List It)(aI:List (List UInt8×Int))(iF:List UInt8)(opn:Bool)(bp:List UInt8)(aN:Int)(aR:Bool)(aD az:Int)(nb r m:Nat)(len i:Int) :
 Za ⟨a,lab,aF,sz,op,aM,args,data,xx,ai,e,f⟩ c ⟨fJ,aH,av,aI,iF,opn,bp,aN,aR,aD,az⟩ nb r (m+1) len i =
 Cr data sz c az av len i (λl=>Za ⟨a,lab,aF,sz,op,aM,args,data,xx,ai,e,f⟩ c ⟨fJ,aH,l,aI,iF,opn,bp,aN,aR,aD,az⟩ (av.length+1) r m len (IntKind.wrap .i64 (i+1)))
  (HP ⟨a,lab,aF,sz,op,aM,args,data,xx,ai,e,f⟩ c ⟨fJ,aH,av,aI,iF,opn,bp,aN,aR,aD,az⟩):=by kernel_rfl
theorem abA (a:Int)(lab:List UInt8)(aF sz op aM:Int)(args:List Raw)(data:List Dt)(xx ai:List Nd)(e f:Int)(c:List UInt8)(fJ:Int)(aH:List Sy)(av:List It)(aI:List (List UInt8×Int))(iF:List UInt8)(opn:Bool)(bp:List UInt8)(aN:Int)(aR:Bool)(aD az:Int)(r:Nat) :
 aT X0 (cV S1 N2 G1 _) abz r 91 [.ptr 0 0,.ptr 1 0,.ptr 2 0] (eT 5 (rdM [ML ⟨a,lab,aF,sz,op,aM,args,data,xx,ai,e,f⟩,PE 3,scR c] ⟨fJ,aH,av,aI,iF,opn,bp,aN,aR,aD,az⟩ av.length)) gy =
 Za ⟨a,lab,aF,sz,op,aM,args,data,xx,ai,e,f⟩ c ⟨fJ,aH,av,aI,iF,opn,bp,aN,aR,aD,az⟩ av.length r r data.length 0:=by kernel_rfl
def X8 (az:Int)(c:List UInt8)(sz:Int)(d:Dt):It:=if d.2=[] then (az,4,[],(0,0,[]),[],Xs d.1 sz,0) else (az,3,[],(0,0,[]),(dc c d.2).1,[],sz)
def CC (sz:Int):Bool:=bI sz 1||(bI sz 2||(bI sz 4||bI sz 8))
def Kb (l:List Dt):Bool:=Nat.ble l.length 100000&&l.all λd=>Nat.ble d.1.length 1000000&&ep d.2
theorem sS {sz:Int}(h:CC sz=true):sz=1\/sz=2\/sz=4\/sz=8:=by
 unfold CC at h;simp only[eF,cI,eK]at h;exact h
theorem AK {n:Nat}{sz:Int}(h:sz=1\/sz=2\/sz=4\/sz=8):(n:Int)<=AB n sz/\AB n sz<=n+7:=by
 unfold AB;rcases h with rfl|rfl|rfl|rfl<;>rw[dg (by omega)]<;>omega
theorem Rq {n:Nat}{sz:Int}(h:sz=1\/sz=2\/sz=4\/sz=8)(hn:n<=1000000):X6 n sz=AB n sz:=by
 have h2:=AK (n:=n) h;have h3:0<=Int.tdiv ((n:Int)+sz-1) sz/\Int.tdiv ((n:Int)+sz-1) sz<=n+8:=by
  rcases h with rfl|rfl|rfl|rfl<;>rw[dg (by omega)]<;>omega
 unfold X6;rw[i64_in (n:=(n:Int)+sz) (by omega) (by omega),i64_in (n:=(n:Int)+sz-1) (by omega) (by omega),i64_in (n:=Int.tdiv ((n:Int)+sz-1) sz) (by omega) (by omega)];exact i64_in (by unfold AB at h2;omega) (by unfold AB at h2;omega)
theorem X9 {α:Type}:∀(v pre Ka:List α),v.length<=Ka.length->me (pre++Ka) pre.length v=pre++(v++Ka.drop v.length)
 |[],pre,Ka,_=>by simp[me]
 |a::v,pre,[],h=>by simp at h
 |a::v,pre,b::Ka,h=>by
  have e:(pre++b::Ka).set pre.length a=(pre++[a])++Ka:=by rw[kr _ _ (aC _),oy];simp
  show me ((pre++b::Ka).set pre.length a) (pre.length+1) v=_;rw[e];have:=X9 v (pre++[a]) Ka (by simpa using h);rw[aA]at this;refine this.trans ?_;simp
theorem abB {t:List UInt8}{sz:Int}(h:sz=1\/sz=2\/sz=4\/sz=8):ahc t (AB t.length sz)=Xs t sz:=by
 have h2:=AK (n:=t.length) h;unfold ahc Xs;generalize AB t.length sz=p at h2;have hmin:Nat.min (t.map cY).length p.toNat=(t.map cY).length:=gp (by simp;omega);have h4:=X9 (t.map cY) [] (List.replicate p.toNat (0:Int)) (by simp;omega);rw[hmin,kD,j4];have h5:me (List.replicate p.toNat (0:Int)) 0 (t.map cY)=t.map cY++List.replicate (p.toNat-t.length) 0:=by
  refine h4.trans ?_;simp
 rw[h5,cU (by simp;omega)]
theorem ahd (x:RS){c:List UInt8}(hc:c.length<=2000000)(s:SS)(r:Nat)(hz:x.sz=1\/x.sz=2\/x.sz=4\/x.sz=8)(hd:∀d∈x.data,d.1.length<=1000000/\ep d.2=true)(hx:x.data.length<=100000) :
 ∀(rest pre:List Dt) (m nb:Nat) (it:List It),x.data=pre++rest->rest.length<m->it.length+rest.length<=1000000->Za x c (gS s it) nb r m x.data.length pre.length=HP x c (gS s (it++rest.map (X8 s.az c x.sz))):=by
 intro rest;induction rest with
 |nil =>
  intro pre m nb it he hm hn;obtain⟨m,rfl⟩:∃m',m=m'+1:=⟨m-1,by simp at hm;omega⟩;have hp:x.data.length=pre.length:=by rw[he];simp
  have e:Za x c (gS s it) nb r (m+1) x.data.length pre.length=Cr x.data x.sz c s.az it x.data.length pre.length (λl=>Za x c (gS s l) (it.length+1) r m x.data.length (IntKind.wrap .i64 ((pre.length:Int)+1))) (HP x c (gS s it)):=by
   cases x;cases s;exact X7 ..
  rw[e];unfold Cr;rw[fH (by omega)];show HP _ _ _=_;simp[gS]
 |cons y rest ih =>
  intro pre m nb it he hm hn;obtain⟨m,rfl⟩:∃m',m=m'+1:=⟨m-1,by simp at hm;omega⟩;have hl:x.data.length=pre.length+(rest.length+1):=by rw[he];simp
  obtain⟨y1,y2⟩:=hd y (by rw[he];simp);have hn':it.length+(rest.length+1)<=1000000:=by simpa using hn
  have go:∀q:It,q=X8 s.az c x.sz y->Za x c (gS s (it++[q])) (it.length+1) r m x.data.length (IntKind.wrap .i64 ((pre.length:Int)+1))=HP x c (gS s (it++(y::rest).map (X8 s.az c x.sz))):=λq hq=>by
   rw[i64_in (n:=(pre.length:Int)+1) (by omega) (by omega)];have:=ih (pre++[y]) m (it.length+1) (it++[q]) (by rw[he];simp) (by simp at hm;omega) (by simp;omega);rw[aA]at this;refine this.trans ?_;rw[hq,bJ];rfl
  have e:Za x c (gS s it) nb r (m+1) x.data.length pre.length=Cr x.data x.sz c s.az it x.data.length pre.length (λl=>Za x c (gS s l) (it.length+1) r m x.data.length (IntKind.wrap .i64 ((pre.length:Int)+1))) (HP x c (gS s it)):=by
   cases x;cases s;exact X7 ..
  rw[e];unfold Cr;rw[qG (by omega),he];show s6 _ _ _=_;rw[qt rfl,cq,<-he];by_cases h0:(y.2.length:Int)=0
  .have h2:y.2=[]:=aQ.1 (by omega);have hp:=AK (n:=y.1.length) hz;rw[ag h0,xT (by omega),Rq hz y1];show FC _ _=_;unfold FC;rw[fH (a:=AB y.1.length x.sz) (b:=0) (by omega),fH (a:=AB y.1.length x.sz) (b:=AB y.1.length x.sz) (by omega),fH (a:=2000000) (by omega)];show nN _ _=_;unfold nN;rw[dS (by omega),abB hz];exact go _ (by unfold X8;rw[ag h2])
  have h2:y.2≠[]:=λq=>h0 (by rw[q];rfl)
  rw[aa h0,dS hc,y2];show nN _ _=_;unfold nN;rw[dS (by omega)];exact go _ (by unfold X8;rw[aa h2])
def FD:Row->Option (Bool×RS)
 |.cells t [.str lab,.int .i64 aF,.int .i64 sz,.int .i64 op,.int .i64 aM,.dH e1 args,.dH e2 data,.dH e3 x,.dH e4 ai] =>
  match iu e1 jV args,iu e2 Fc data,iu e3 eC x,iu e4 eC ai with
  |some args,some data,some x,some ai=>some (Nat.beq t 40,⟨0,lab,aF,sz,op,aM,args,data,x,ai,0,0⟩)
  |_,_,_,_=>none
 |_=>none
theorem nJ {r:Row}{x:RS}(h:FD r=some (true,x)):r=ML x:=by
 unfold FD at h;split at h;case h_2=>cases h
 rename_i t lab aF sz op aM e1 args e2 data e3 xx e4 ai;split at h;case h_2=>cases h
 rename_i a1 a2 a3 a4 h1 h2 h3 h4;simp only[aq,ax,aO]at h;obtain⟨rfl,rfl⟩:=h;obtain⟨rfl,h1⟩:=bS h1;obtain⟨rfl,h2⟩:=bS h2;obtain⟨rfl,h3⟩:=bS h3;obtain⟨rfl,h4⟩:=bS h4;have h1:args=a1:=h1;have h2:data=a2:=h2;have h3:xx=a3:=h3;have h4:ai=a4:=h4;subst h1;subst h2;subst h3;subst h4;rfl
def gD1 (args:List AV)(rows:List Row):Option (Bool×AV×List Row) :=
 match args,rows with
 |[.ptr 0 0,.ptr 1 0,.ptr 2 0],st :: .cells t1 [.ptr 3 0] :: .cells t2 [.str c]::rd::l=>match FD st,uC 3 rd l with
  |some (b,x),some (b',s)=>some (b&&(b'&&(Nat.beq t1 67&&(Nat.beq t2 106&&(Nat.ble c.length 2000000&&(CC x.sz&&(Kb x.data&&Nat.ble (s.av.length+x.data.length) 1000000)))))),.fG [],rdM [ML x,PE 3,scR c] (gS s (s.av++x.data.map (X8 s.az c x.sz))) (s.av++x.data.map (X8 s.az c x.sz)).length)
  |_,_=>none
 |_,_=>none
theorem sU {l:List Dt}(h:Kb l=true):l.length<=100000/\∀d∈l,d.1.length<=1000000/\ep d.2=true:=by
 unfold Kb at h;rw[ak]at h;refine⟨ay h.1,λd hd=>?_⟩;have:=aK.1 h.2 d hd;rw[ak]at this;exact⟨ay this.1,this.2⟩
theorem ahe:j3 X0 fR 91 gD1 :=
 nI (λargs=>lt.bR rfl args) (qM nv uB MH) λargs rows v outs hg=>by
  unfold gD1 at hg;split at hg;case h_2=>cases hg
  rename_i st t1 t2 c rd l;split at hg;case h_2=>cases hg
  rename_i b x b' s hs hr;simp only[aq,ax,ak,aO]at hg;obtain⟨⟨rfl,rfl,h1,h2,h3,h4,h5,h6⟩,rfl,rfl⟩:=hg;subst h1;subst h2;obtain rfl:=nJ hs;obtain⟨rfl,rfl⟩:=fV hr;obtain⟨d1,d2⟩:=sU h5;have h6:=ay h6;refine⟨abz,x.data.length+1,?_⟩;have e:aT X0 (cV S1 N2 G1 _) abz (x.data.length+1) 91 [.ptr 0 0,.ptr 1 0,.ptr 2 0] (eT 5 (rdM [ML x,PE 3,scR c] s s.av.length)) gy=Za x c s s.av.length (x.data.length+1) (x.data.length+1) x.data.length 0:=by
   cases x;cases s;exact abA ..
  refine Eq.trans ?_ ((ahd x (ay h3) s (x.data.length+1) (sS h4) d2 d1 x.data [] (x.data.length+1) s.av.length s.av rfl (by omega) h6).trans rfl);exact e
def G3:List AJ:=(91,⟨70,vV,gD1⟩)::G2
theorem adF:pN X0 fR G3:=.cons ahe alL
end
end Go.Proofs.YtbeckacfibledaaGreatDoor.ps.sr
