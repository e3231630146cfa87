/- Lists of nodes, instructions held against themselves. SourceOnce, as it runs. Items, symbols held against themselves. SourceOnce: its answer. From the layer to the machine: laws on sources. Sources: how long the lists in items are. Sources: the lines of two sources, one behind the other. Is a source short? SourceAhead. -/
import Derived.Test.YtbeckacfibledaaGreatDoorGrg
import Derived.Test.YtbeckacfibledaaGreatDoorGxe
import Derived.Test.YtbeckacfibledaaGreatDoorGva
import Derived.Test.YtbeckacfibledaaGreatDoorGrj
import Derived.Test.YtbeckacfibledaaGreatDoorGxb
set_option linter.unusedVariables false
set_option linter.unusedSimpArgs false

namespace Go.Proofs.YtbeckacfibledaaGreatDoor.ps
open Go.Tv Go.Ev Go.Px Go.Pp Go.Proofs.YtbeckacfibledaaGreatDoor.ex
set_option maxRecDepth 100000
noncomputable section
theorem Qi {id:FuncId}(hk:lt.inl id=true){M:List wh}{N:List pQ}(hM:iT X0 fU M)(hN:gY X0 fU N){sig:List (Option (TypeId×Tv.Ty))}{f:List AV->Option (Bool×List AV)}(sgA sg:List (List (Option Tv.Ty)))
 (h:∀vs ws,f vs=some (true,ws)->ws.all EZ=true/\∃an rounds,aT X0 (cN M N _) an rounds id (Fg sgA vs) aG.empty (rU sg)=some ws):gy X0 fU id ⟨none,sig,gV f⟩:=by
 intro ins outs rs hg;have hg:gV f ins=some (true,outs,rs):=hg;unfold gV at hg;split at hg;case h_2=>cases hg
 rename_i vs hv;split at hg;case h_2=>cases hg
 rename_i c ws hf;simp only[aq,ay]at hg;obtain⟨rfl,_,rfl⟩:=hg;obtain⟨h1,an,rounds,h2⟩:=h vs ws hf;have hi:=qV hv;subst hi;intro _;obtain⟨M1,h4⟩:=HC (nk hk) (jH hM hN _) h2;refine⟨ws,M1,?_,xu h1⟩;rw[sS,vG];exact λS E bJ hr hgl hl=>h4 S E bJ hr hgl (Fi sgA hl)
def F6 {α:Type}(a b:α):Bool:=@decide (a=b) (Classical.propDecidable _)
theorem rZ {α:Type}{a b:α}:F6 a b=true↔a=b:=by
 unfold F6;exact @decide_eq_true_iff _ (Classical.propDecidable _)
theorem uR {α:Type}(a:α):F6 a a=true:=rZ.2 rfl
theorem yh {α β:Type}{x:List α}(hx:x.length<=2000000){ok:α->Bool}{T:Option β}{j:Nat->Int->Option β}
 (step:∀m i a,i<(x.length:Int)->dQ x i=some a->ok a=true->j (m+1) i=j m (IntKind.wrap .i64 (i+1))) (stop:∀m,j (m+1) x.length=T) :
 ∀(rest pre:List α) (m:Nat),x=pre++rest->rest.length<m->(∀a∈rest,ok a=true)->j m pre.length=T:=by
 intro rest;induction rest with
 |nil =>
  intro pre m he hm _;obtain⟨m,rfl⟩:∃m',m=m'+1:=⟨m-1,by simp at hm;omega⟩;have hl:x.length=pre.length:=by rw[he];simp
  rw[<-hl];exact stop m
 |cons a rest ih =>
  intro pre m he hm hok;obtain⟨m,rfl⟩:∃m',m=m'+1:=⟨m-1,by simp at hm;omega⟩;have hl:x.length=pre.length+(rest.length+1):=by rw[he];simp
  have hin:=ih (pre++[a]) m (by rw[he];simp) (by simp at hm;omega) (λb hb=>hok b (by simp[hb]));rw[aA]at hin;rw[step m pre.length a (by omega) (by rw[he];exact kK pre rest a) (hok a (by simp)),i64_in (by omega) (by omega)];exact hin
def acV (x y:Nd):Bool:=decide (x.1=y.1)&&(decide (x.2.1=y.2.1)&&(decide (x.2.2.1=y.2.2.1)&&(decide (x.2.2.2.1=y.2.2.2.1)&&decide (x.2.2.2.2=y.2.2.2.2))))
def pSn:List Bool:=[true,true,false,true,false]
def acW:ei:=⟨gD [0,1,4,5] pSn,.none,[]⟩
def jSn (x y:List Nd)(r m:Nat)(i:Int):Option AV:=iF X0 (cN P3 [] AV) acW r 24 pSn (λv _=>some v) m (kr 26 [(0,.dH eC x),(1,.dH eC y),(4,.bool false),(5,.int .i64 i)]) (nA [])
theorem Y7 (x y:List Nd)(r m:Nat)(i:Int):jSn x y r (m+1) i=ah (bC i x.length) (Option.rec (motive:=λ_=>Option AV) none (λa=>Option.rec (motive:=λ_=>Option AV) none (λb=>ah (!acV a b) (some (.bool false)) (jSn x y r m (IntKind.wrap .i64 (i+1)))) (dQ y i)) (dQ x i)) (some (.bool true)):=by kernel_rfl
theorem acX (x y:List Nd)(r:Nat):aT X0 (cN P3 [] AV) acW r 24 [.dH eC x,.dH eC y] aG.empty (λv _=>some v)=ah (!bI x.length y.length) (some (.bool false)) (jSn x y r r 0):=by kernel_rfl
theorem amL {x:List Nd}(hx:x.length<=2000000):aT X0 (cN P3 [] AV) acW (x.length+1) 24 [.dH eC x,.dH eC x] aG.empty (λv _=>some v)=some (.bool true):=by
 rw[acX,cn,ag rfl];refine yh hx (ok:=λ_=>true) (j:=jSn x x (x.length+1)) (λm i a hi ha _=>?_) (λm=>?_) x [] _ rfl (by omega) (λ_ _=>rfl)
 .rw[Y7,pZ hi,ha];have:acV a a=true:=by simp[acV]
  show ah (!acV a a) _ _=_;rw[this];rfl
 rw[Y7,fL (by omega)]
def gSn (args:List AV):Option (Bool×List fA) :=
 match args with
 |[L,R]=>match G9 eC L,G9 eC R with
  |some x,some y=>some (F6 (α:=List Nd) x y&&Nat.ble x.length 2000000,[.val (.bool true)])
  |_,_=>none
 |_=>none
theorem aiP:dc X0 fU 24 gSn :=
 cS (nk rfl) (jH HP n0) λargs rs hg=>by
  unfold gSn at hg;split at hg;case h_2=>cases hg
  split at hg;case h_2=>cases hg
  rename_i x y hx hy;have e1:=iE hx;have e2:=iE hy;subst e1;subst e2;simp only[aq,ay,ak]at hg;obtain⟨⟨e,h1⟩,rfl⟩:=hg;have e:=rZ.1 e;subst e;exact⟨[.bool true],acW,x.length+1,amL (az h1),rfl,rfl⟩
def S1:List wh:=(24,[some eC,some eC],gSn)::P3
theorem nF:iT X0 fU S1:=.cons aiP HP
def R4 (A:List AV):Option Raw:=match A with
 |[.int .i64 k,.int .i64 c,.int .i64 n,.int .i64 bc,.int .i64 bn,.int .i64 ic,.int .i64 ix,.int .i64 sc,.int .i64 d,.int .i64 z,X,.bool r]=>match G9 eC X with
  |some x=>some (k,(c,n),((bc,bn),(ic,ix),sc,d,z),x,r)
  |none=>none
 |_=>none
theorem FU {A:List AV}{a:Raw}(h:R4 A=some a):A=TA a:=by
 unfold R4 at h;split at h
 .split at h
  .rename_i x hx;cases h;rw[iE hx];rfl
  cases h
 cases h
def acY:List (Option Tv.Ty):=[none,none,none,none,none,none,none,none,none,none,some eC,none]
def Ug (a:Raw):Bool:=Nat.ble a.2.2.2.1.length 2000000
def fSr (vs:List AV):Option (Bool×List AV) :=
 match Fg [acY,acY] vs with
 |[.agg A,.agg B]=>match R4 A,R4 B with
  |some a,some b=>some (F6 (α:=Raw) a b&&Ug a,[.bool true])
  |_,_=>none
 |_=>none
def ZF:List (List (Option Tv.Ty)):=[[none]]
abbrev Y8:=Option (List AV)
def FS:Y8:=some [.bool false]
def TS':Y8:=some [.bool true]
theorem aiQ (k c n bc bn ic ix sc d z:Int)(x:List Nd)(r:Bool):aT X0 (cN S1 NR _) gO 5 57 [.agg (TA (k,(c,n),((bc,bn),(ic,ix),sc,d,z),x,r)),.agg (TA (k,(c,n),((bc,bn),(ic,ix),sc,d,z),x,r))] aG.empty (rU ZF) =
 ah (bI k k) (ah (decide (c=c)&&decide (n=n)) (ah (decide (bc=bc)&&(decide (bn=bn)&&(decide (ic=ic)&&(decide (ix=ix)&&(decide (sc=sc)&&(decide (d=d)&&decide (z=z)))))))
  (ah (F6 (α:=List Nd) x x&&Nat.ble x.length 2000000) (some [.bool (r==r)]) none) FS) FS) FS:=by kernel_rfl
theorem amM {a:Raw}(h:Ug a=true):aT X0 (cN S1 NR _) gO 5 57 [.agg (TA a),.agg (TA a)] aG.empty (rU ZF)=TS':=by
 obtain⟨k,⟨c,n⟩,⟨⟨bc,bn⟩,⟨ic,ix⟩,sc,d,z⟩,x,r⟩:=a;have h:Nat.ble x.length 2000000=true:=h;rw[aiQ,h,uR];simp only[eF,decide_true,nW,kP];rfl
theorem aiR:gy X0 fU 57 ⟨none,[none,none],gV fSr⟩ :=
 Qi rfl nF ad5 [acY,acY] ZF λvs ws hf=>by
  unfold fSr at hf;split at hf;case h_2=>cases hf
  rename_i A B hv;split at hf;case h_2=>cases hf
  rename_i a b ha hb;simp only[aq,ay,ak]at hf;obtain⟨⟨e,g0⟩,rfl⟩:=hf;have e:=rZ.1 e;subst e;refine⟨rfl,gO,5,?_⟩;rw[hv,FU ha,FU hb];exact amM g0
def NS1:List pQ:=(57,⟨none,[none,none],gV fSr⟩)::NR
theorem Y9:gY X0 fU NS1:=.cons aiR ad5
def pSc:List Bool:=[true,true,false,true,false]
def acZ:ei:=⟨gD [2,3,4,5] pSc,.none,[]⟩
def Uh (o h:Int)(a:List Raw):List AV:=[.int .i64 o,.int .i64 h,.dH j3 a]
def jSc (o h:Int)(a:List Raw)(r m:Nat)(i:Int):Y8:=iF X0 (cN S1 NS1 _) acZ r 23 pSc (rU ZF) m (kr 46 [(2,.ptr 0 0),(3,.ptr 1 0),(4,.bool false),(5,.int .i64 i)]) (nA [.cells 36 (Uh o h a),.cells 36 (Uh o h a)])
theorem Za (o h:Int)(a:List Raw)(r m:Nat)(i:Int):jSc o h a r (m+1) i =
 ah (bC i a.length) (Option.rec (motive:=λ_=>Y8) none (λx=>Option.rec (motive:=λ_=>Y8) none (λy=>ah (F6 (α:=Raw) x y&&Ug x) (jSc o h a r m (IntKind.wrap .i64 (i+1))) none) (dQ a i)) (dQ a i)) TS':=by kernel_rfl
theorem ac0 (o h:Int)(a:List Raw)(r:Nat):aT X0 (cN S1 NS1 _) acZ r 23 [.agg (Uh o h a),.agg (Uh o h a)] aG.empty (rU ZF) =
 ah (!bI o o) FS (ah (!bI h h) FS (ah (!bI a.length a.length) FS (jSc o h a r r 0))):=by kernel_rfl
def ZG (l:List Raw):Bool:=Nat.ble l.length 2000000&&l.all Ug
def Na:List (Option Tv.Ty):=[none,none,some j3]
def fSc (vs:List AV):Option (Bool×List AV) :=
 match Fg [Na,Na] vs with
 |[.agg [.int .i64 o,.int .i64 h,L],.agg [.int .i64 o',.int .i64 h',L']]=>match G9 j3 L,G9 j3 L' with
  |some a,some b=>some ((F6 o o'&&(F6 h h'&&F6 (α:=List Raw) a b))&&ZG a,[.bool true])
  |_,_=>none
 |_=>none
theorem amO {a:List Raw}(hok:ZG a=true)(o h:Int):aT X0 (cN S1 NS1 _) acZ (a.length+1) 23 [.agg (Uh o h a),.agg (Uh o h a)] aG.empty (rU ZF)=TS':=by
 unfold ZG at hok;rw[ak,aK]at hok;obtain⟨h1,h2⟩:=hok;have h1:=az h1;rw[ac0,cn,ag rfl,cn,ag rfl,cn,ag rfl];refine yh h1 (ok:=Ug) (j:=jSc o h a (a.length+1)) (λm i x hi hx hk=>?_) (λm=>?_) a [] _ rfl (by omega) h2
 .rw[Za,pZ hi,hx];show ah (F6 x x&&Ug x) _ none=_;rw[uR,hk];rfl
 rw[Za,fL (by omega)]
theorem aiS:gy X0 fU 23 ⟨none,[none,none],gV fSc⟩ :=
 Qi rfl nF Y9 [Na,Na] ZF λvs ws hf=>by
  unfold fSc at hf;split at hf;case h_2=>cases hf
  rename_i o h L o' h' L' hv;split at hf;case h_2=>cases hf
  rename_i a b ha hb;simp only[aq,ay,ak]at hf;obtain⟨⟨⟨e1,e2,e3⟩,g0⟩,rfl⟩:=hf;have e1:=rZ.1 e1;have e2:=rZ.1 e2;have e3:=rZ.1 e3;subst e1;subst e2;subst e3;refine⟨rfl,acZ,a.length+1,?_⟩;rw[hv,iE ha,iE hb];exact amO g0 o h
def NS2:List pQ:=(23,⟨none,[none,none],gV fSc⟩)::NS1
theorem Zb:gY X0 fU NS2:=.cons aiS Y9
end
end Go.Proofs.YtbeckacfibledaaGreatDoor.ps
namespace Go.Tv
open Go.Ev (ah iL)
noncomputable section
end
end Go.Tv
namespace Go.Proofs.YtbeckacfibledaaGreatDoor.ps.sr
open Go.Tv Go.Ev Go.Px Go.Pp Go.Proofs.YtbeckacfibledaaGreatDoor.ex
set_option maxRecDepth 100000
noncomputable section
def gYs (args:List AV):Option (Bool×List fA) :=
 match args with
 |[]=>some (true,[.val (.bool true)])
 |_=>none
theorem amK:lt.kn 6 []=some (.bool true):=by kernel_rfl
theorem aiO:dc X0 fU 6 gYs :=
 SQ λargs rs hg=>by
  unfold gYs at hg;split at hg
  .simp only[aq,ay]at hg;obtain⟨_,rfl⟩:=hg;refine⟨_,.bool true,rfl,rfl,λS=>.bool _,rfl,λS bJ hl=>?_⟩;rw[hl.jx];exact⟨amK,rfl⟩
  cases hg
def S2:List wh:=(6,[],gYs)::S1
theorem aes:iT X0 fU S2:=.cons aiO nF
abbrev c7:cI AV:=cV S2 N4 G7 _
def tT:Option AV:=some (.bool true)
def tF:Option AV:=some (.bool false)
def Uf {α:Type}(l:List α)(i:Int)(k:α->Option AV):Option AV:=Option.rec (motive:=λ_=>Option AV) none k (dQ l i)
theorem Y6 {α:Type}(pre rest:List α)(y:α)(k:α->Option AV):Uf (pre++y::rest) (pre.length:Int) k=k y:=by
 unfold Uf;rw[kK]
end
end Go.Proofs.YtbeckacfibledaaGreatDoor.ps.sr
namespace Go.Proofs.YtbeckacfibledaaGreatDoor.ps.sr
open Go.Tv Go.Ev Go.Px Go.Pp Go.Proofs.YtbeckacfibledaaGreatDoor.ex
set_option maxRecDepth 100000
noncomputable section
def Ck (y:It):Bool:=ZG y.2.2.2.1.2.2&&(Nat.ble y.2.2.2.2.1.length 2000000&&Nat.ble y.2.2.2.2.2.1.length 2000000)
def itA (y:It):List AV:=[.int .i64 y.1,.int .i64 y.2.1,.str y.2.2.1,.int .i64 y.2.2.2.1.1,.int .i64 y.2.2.2.1.2.1,.dH j3 y.2.2.2.1.2.2,.dH eC y.2.2.2.2.1,.dH (.int .u8) y.2.2.2.2.2.1,.int .i64 y.2.2.2.2.2.2]
theorem ac1 (y:It):aT X0 (cN ps.S1 NS2 _) gO 5 17 [.agg (itA y),.agg (itA y)] aG.empty (rU ZF)=ah (bI y.1 y.1) (ah (bI y.2.1 y.2.1) (ah (decide (y.2.2.1=y.2.2.1))
 (ah ((F6 y.2.2.2.1.1 y.2.2.2.1.1&&(F6 y.2.2.2.1.2.1 y.2.2.2.1.2.1&&F6 (α:=List Raw) y.2.2.2.1.2.2 y.2.2.2.1.2.2))&&ZG y.2.2.2.1.2.2) (ah (F6 (α:=List Nd) y.2.2.2.2.1 y.2.2.2.2.1&&Nat.ble y.2.2.2.2.1.length 2000000)
  (ah (decide (y.2.2.2.2.2.1.map Zy=y.2.2.2.2.2.1.map Zy)) (some [.bool (bI y.2.2.2.2.2.2 y.2.2.2.2.2.2)]) FS) none) none) FS) FS) FS:=by kernel_rfl
theorem amQ {y:It}(h:Ck y=true):aT X0 (cN ps.S1 NS2 _) gO 5 17 [.agg (itA y),.agg (itA y)] aG.empty (rU ZF)=TS':=by
 unfold Ck at h;rw[ak,ak]at h;obtain⟨h1,h2,h3⟩:=h;rw[ac1,h1,h2];simp only[uR,eF,decide_true,nW,kP];rfl
def ac2:List (Option Tv.Ty):=[none,none,none,none,none,some j3,some eC,some (.int .u8),none]
def ac3 (A:List AV):Option It:=match A with
 |[.int .i64 a,.int .i64 b,.str c,.int .i64 d,.int .i64 e,R,X,B,.int .i64 n]=>match G9 j3 R,G9 eC X,G9 (.int .u8) B with
  |some r,some x,some l=>some (a,b,c,(d,e,r),x,l,n)
  |_,_,_=>none
 |_=>none
theorem Ig {A:List AV}{a:It}(h:ac3 A=some a):A=itA a:=by
 unfold ac3 at h;split at h
 .split at h
  .rename_i r x l h1 h2 h3;cases h;rw[iE h1,iE h2,iE h3];rfl
  cases h
 cases h
def fSi (vs:List AV):Option (Bool×List AV) :=
 match Fg [ac2,ac2] vs with
 |[.agg A,.agg B]=>match ac3 A,ac3 B with
  |some a,some b=>some (F6 (α:=It) a b&&Ck a,[.bool true])
  |_,_=>none
 |_=>none
theorem aiT:gy X0 fU 17 ⟨none,[none,none],gV fSi⟩ :=
 Qi rfl ps.nF Zb [ac2,ac2] ZF λvs ws hf=>by
  unfold fSi at hf;split at hf;case h_2=>cases hf
  rename_i A B hv;split at hf;case h_2=>cases hf
  rename_i a b ha hb;simp only[aq,ay,ak]at hf;obtain⟨⟨e,hk⟩,rfl⟩:=hf;have e:=rZ.1 e;subst e;refine⟨rfl,gO,5,?_⟩;rw[hv,Ig ha,Ig hb];exact amQ hk
def NI:List pQ:=(17,⟨none,[none,none],gV fSi⟩)::NS2
theorem aet:gY X0 fU NI:=.cons aiT Zb
def pSi:List Bool:=[true,true,false,true,false]
def Nu:ei:=⟨gD [0,1,4,5] pSi,.none,[]⟩
def jSi (x y:List It)(r m:Nat)(i:Int):Option AV:=iF X0 (cN ps.S1 NI AV) Nu r 9 pSi (λv _=>some v) m (kr 27 [(0,.dH qX x),(1,.dH qX y),(4,.bool false),(5,.int .i64 i)]) (nA [])
theorem Zc (x y:List It)(r m:Nat)(i:Int):jSi x y r (m+1) i=ah (bC i x.length) (Uf x i λa=>Uf y i λb=>ah (F6 (α:=It) a b&&Ck a) (jSi x y r m (IntKind.wrap .i64 (i+1))) none) tT:=by kernel_rfl
theorem ac4 (x y:List It)(r:Nat):aT X0 (cN ps.S1 NI AV) Nu r 9 [.dH qX x,.dH qX y] aG.empty (λv _=>some v)=ah (!bI x.length y.length) tF (jSi x y r r 0):=by kernel_rfl
theorem amR {x:List It}(h1:x.length<=2000000)(h2:∀y∈x,Ck y=true):aT X0 (cN ps.S1 NI AV) Nu (x.length+1) 9 [.dH qX x,.dH qX x] aG.empty (λv _=>some v)=tT:=by
 rw[ac4,cn,ag rfl];refine yh h1 (ok:=Ck) (j:=jSi x x (x.length+1)) (λm i a hi ha hk=>?_) (λm=>?_) x [] _ rfl (by omega) h2
 .rw[Zc,pZ hi];unfold Uf;rw[ha];show ah (F6 a a&&Ck a) _ none=_;rw[uR,hk];rfl
 rw[Zc,fL (by omega)]
def gSi (args:List AV):Option (Bool×List fA) :=
 match args with
 |[L,R]=>match G9 qX L,G9 qX R with
  |some x,some y=>some (F6 (α:=List It) x y&&(Nat.ble x.length 2000000&&x.all Ck),[.val (.bool true)])
  |_,_=>none
 |_=>none
theorem ac5:dc X0 fU 9 gSi :=
 cS (nk rfl) (jH ps.nF aet) λargs rs hg=>by
  unfold gSi at hg;split at hg;case h_2=>cases hg
  split at hg;case h_2=>cases hg
  rename_i x y hx hy;have e1:=iE hx;have e2:=iE hy;subst e1;subst e2;simp only[aq,ay,ak]at hg;obtain⟨⟨e,h1,h2⟩,rfl⟩:=hg;have e:=rZ.1 e;subst e;have h1:=az h1;refine⟨[.bool true],Nu,x.length+1,?_,rfl,rfl⟩;exact amR h1 (aK.1 h2)
def ac6 (a b:Sy):Bool:=decide (a.1=b.1)&&(decide (a.2.1=b.2.1)&&decide (a.2.2=b.2.2))
def jSy (x y:List Sy)(r m:Nat)(i:Int):Option AV:=iF X0 (cN ps.S1 NI AV) Nu r 10 pSi (λv _=>some v) m (kr 26 [(0,.dH gZ x),(1,.dH gZ y),(4,.bool false),(5,.int .i64 i)]) (nA [])
theorem Zd (x y:List Sy)(r m:Nat)(i:Int):jSy x y r (m+1) i=ah (bC i x.length) (Uf x i λa=>Uf y i λb=>ah (!ac6 a b) tF (jSy x y r m (IntKind.wrap .i64 (i+1)))) tT:=by kernel_rfl
theorem ac7 (x y:List Sy)(r:Nat):aT X0 (cN ps.S1 NI AV) Nu r 10 [.dH gZ x,.dH gZ y] aG.empty (λv _=>some v)=ah (!bI x.length y.length) tF (jSy x y r r 0):=by kernel_rfl
theorem Ui (a:Sy):ac6 a a=true:=by simp[ac6]
theorem amS {x:List Sy}(h1:x.length<=2000000):aT X0 (cN ps.S1 NI AV) Nu (x.length+1) 10 [.dH gZ x,.dH gZ x] aG.empty (λv _=>some v)=tT:=by
 rw[ac7,cn,ag rfl];refine yh h1 (ok:=λ_=>true) (j:=jSy x x (x.length+1)) (λm i a hi ha _=>?_) (λm=>?_) x [] _ rfl (by omega) (λ_ _=>rfl)
 .rw[Zd,pZ hi];unfold Uf;rw[ha];show ah (!ac6 a a) _ _=_;rw[Ui];rfl
 rw[Zd,fL (by omega)]
def gSy (args:List AV):Option (Bool×List fA) :=
 match args with
 |[L,R]=>match G9 gZ L,G9 gZ R with
  |some x,some y=>some (F6 (α:=List Sy) x y&&Nat.ble x.length 2000000,[.val (.bool true)])
  |_,_=>none
 |_=>none
theorem ac8:dc X0 fU 10 gSy :=
 cS (nk rfl) (jH ps.nF aet) λargs rs hg=>by
  unfold gSy at hg;split at hg;case h_2=>cases hg
  split at hg;case h_2=>cases hg
  rename_i x y hx hy;have e1:=iE hx;have e2:=iE hy;subst e1;subst e2;simp only[aq,ay,ak]at hg;obtain⟨⟨e,h1⟩,rfl⟩:=hg;have e:=rZ.1 e;subst e;have h1:=az h1;refine⟨[.bool true],Nu,x.length+1,?_,rfl,rfl⟩;exact amS h1
theorem Nt:∀(l:List (List UInt8)) (s:SS) (k:Nat),uT s (2*k) (1048576*k) 1100->uT (oq l s).1 (2*(k+l.length)) (1048576*((k+l.length:Nat):Int)) 1100
 |[],s,k,h=>h
 |w::l,s,k,h=>by
  obtain⟨hx,hv⟩:=bd.FR w;have h1:=Kf h (s.au+1);have h2:uT (iu gz fP mD { s with au:=s.au+1 } (eP w).1).1 (2*(k+1)) (1048576*((k+1:Nat):Int)) 1100:=by
   rw[show 2*(k+1)=2*k+2 by omega,show (1048576*((k+1:Nat):Int))=1048576*(k:Int)+1048576 by omega];exact aeq h1 hx hv
  have e:k+(w::l).length=(k+1)+l.length:=by simp only[aJ];omega
  unfold oq;rw[oU,e];by_cases h3:(eP w).2.1≠0
  .rw[ag h3];exact h1.up (by omega) (by omega)
  rw[aa h3];by_cases h4:(iu gz fP mD { s with au:=s.au+1 } (eP w).1).2≠0
  .rw[ag h4];exact(Kf h2 _).up (by omega) (by omega)
  rw[aa h4];exact Nt l _ (k+1) h2
theorem zE (s:List UInt8):(iy s).length<=s.length+1:=by rw[sq,cg];exact zD s
theorem acU (s:List UInt8):(nG s).1.2.1.length<=2*(s.length+1)/\(nG s).1.2.2.length<=20000:=by
 have h:=Nt (iy s) ye 0 amJ;have hl:=zE s;have h1:=h.aH;have h2:=h.av;by_cases he:(nG s).2.1=0
 .obtain ⟨_,_,e⟩:=XS gz fP mD eP he;have e:nG s=_:=e;rw[e];exact⟨br h1 (by omega),h2⟩
 have e:=XT gz fP mD eP he;have e:(nG s).1=_:=e;rw[e];exact⟨ct _,ct _⟩
end
end Go.Proofs.YtbeckacfibledaaGreatDoor.ps.sr
namespace Go.Proofs.YtbeckacfibledaaGreatDoor.ps.sr
open Go.Tv Go.Ev Go.Px Go.Pp Go.Proofs.YtbeckacfibledaaGreatDoor.ex
noncomputable section
theorem adh:∀g:Nat,g<8->g≠0->X0.gv g=[]
 |0,_,h=>by first|rfl|exact absurd rfl h
 |1,_,h=>by first|rfl|exact absurd rfl h
 |2,_,_=>rfl
 |3,_,_=>rfl
 |4,_,_=>rfl
 |5,_,_=>rfl
 |6,_,_=>rfl
 |7,_,_=>rfl
 |g+8,hg,_=>absurd hg (by omega)
theorem ju {w:World}{rows:List jJ}(h1:∃b,rows[0]? = some b/\b.live=true/\b.cells=lt.BW)(hr:lg rows w):fm X0 (vt w):=by
 refine Hi hr λg hg he=>?_
 by_cases hq:g=0
 .subst hq;obtain⟨b,e1,e2,e3⟩:=h1;exact⟨b,e1,e2,by rw[e3];rfl,by rw[e3];kernel_rfl⟩
 exact absurd (adh g hg hq) he
end
end Go.Proofs.YtbeckacfibledaaGreatDoor.ps.sr
namespace Go.Proofs.YtbeckacfibledaaGreatDoor.ps.sr
open Go.Tv Go.Ev Go.Px Go.Pp Go.Proofs.YtbeckacfibledaaGreatDoor.ex
set_option maxRecDepth 100000
noncomputable section
def Al (P:It->Prop)(s t:SS):Prop:=∀y∈t.av,y∈s.av\/P y
theorem Al.rfl' {P:It->Prop}(s:SS):Al P s s:=λ_ h=>.inl h
theorem Al.same {P:It->Prop}{s t:SS}(h:t.av=s.av):Al P s t:=λy hy=>.inl (h ▸ hy)
theorem Al.trans {P:It->Prop}{a b c:SS}(h:Al P a b)(k:Al P b c):Al P a c:=λy hy=>by
 rcases k y hy with q|q
 .exact h y q
 exact .inr q
theorem Cl {P:It->Prop}(s:SS)(a b c:Int){l:List It}(h:∀y∈l,P y):Al P s (jW s a b c l).1:=by
 unfold jW;split
 .exact .rfl' s
 split
 .exact .rfl' s
 intro y hy;rcases cz.1 hy with q|q
 .exact .inl q
 obtain⟨m,hm,q⟩:=List.mem_flatten.1 q;rw[(List.mem_replicate.1 hm).2]at q;exact .inr (h y q)
theorem FV {P:It->Prop}{s:SS}{w:List UInt8}{k:SR'}(h:Al P s k.1):Al P s (oT s w k).1:=by
 unfold oT;split
 .exact .rfl' s
 exact h
theorem xN {P:It->Prop}{s:SS}{x:List Nd}{k:Int->SR'}(h:∀n,Al P s (k n).1):Al P s (nE gz fP s x k).1:=by
 unfold nE;split
 .exact .rfl' s
 exact h _
def xO (n:Int):Prop:=0<=n/\n<=1000000
def ZH (y:It):Prop:=Ck y=true/\xO y.1
theorem FW {n k:Int}{w:List UInt8}{c:Int×Int×List Raw}{x:List Nd}{b:List Int}{m:Int}(h1:ZG c.2.2=true)(h2:x.length<=2000000)(h3:b.length<=2000000)(hn:xO n):ZH (n,k,w,c,x,b,m):=by
 refine⟨?_,hn⟩;show (ZG c.2.2&&(Nat.ble x.length 2000000&&Nat.ble b.length 2000000))=true;rw[h1,dS h2,dS h3];rfl
theorem DH:ZG []=true:=rfl
theorem Ze {s:SS}(hn:xO s.au){b:List Int}(h:b.length<=2000000):ZH (itB s b):=FW DH (by decide) h hn
theorem Zf {s:SS}(hn:xO s.au)(w:List UInt8):Al ZH s (vH s w).1:=by
 unfold vH;refine FV ?_;split
 .exact .same rfl
 exact Al.trans (b:={ s with lab:=if w.take 1=[46] then s.lab else w,aI:=iw s.aI (gu (cj s) w) 0 }) (.same rfl) (Cl _ _ _ _ λy hy=>by
  rw[cZ.1 hy];exact FW DH (by decide) (by decide) hn)
theorem FX {x:List Nd}(h:eu x=true):x.length<=2000000:=by
 unfold eu at h;rw[ak]at h;exact az h.1
theorem ac9 {c:List UInt8}{l:List Raw}(h:oo l=true):ZG (JZ c l).1=true:=by
 obtain⟨h1,h2⟩:=CO h;unfold ZG JZ;rw[ak,cg,dS h1,aK];refine⟨rfl,λr hr=>?_⟩;obtain⟨q,hq,rfl⟩:=bW.1 hr;refine dS ?_;show ((de c q.2.2.2.1).1).length<=_;unfold de;rw[cg];exact FX (h2 q hq)
theorem aiU {s:SS}(hn:xO s.au){sz:Int}(hz:sz=1\/sz=2\/sz=4\/sz=8){d:Dt}(h1:d.1.length<=1000000)(h2:eu d.2=true):ZH (dtC s sz d):=by
 unfold dtC;split
 .refine Ze hn ?_;have:=A0 (n:=d.1.length) hz;unfold XO;rw[aA,cg,iM];omega
 refine FW DH ?_ (by decide) hn;unfold de;rw[cg];exact FX h2
theorem ada {s:SS}(hn:xO s.au){x:RS}(hx:Nn x)(n:Int):Al ZH s (tM gz fP mD s x n).1:=by
 unfold tM;split
 .unfold xC;split
  .exact .rfl' s
  exact Cl _ _ _ _ λy hy=>by
   rw[cZ.1 hy];exact FW (ac9 hx.args) (by decide) (by decide) hn
 split
 .rename_i hk;obtain⟨hz,_⟩:=hx.k2 hk;unfold yN;split
  .exact .rfl' s
  refine Cl _ _ _ _ λy hy=>?_
  obtain⟨d,hd,rfl⟩:=bW.1 hy;obtain⟨a,b⟩:=(s9 hx.data).2 d hd;exact aiU hn (s8 hz) a b
 split
 .exact FV (xN λn=>.same rfl)
 split
 .exact xN λn=>by
   split
   .exact .rfl' s
   exact Cl _ _ _ _ λy hy=>by
    rw[cZ.1 hy];exact FW DH (by decide) (by decide) hn
 split
 .exact xN λn=>by
   split
   .exact .rfl' s
   split
   .exact .rfl' s
   exact .same rfl
 split
 .exact .same rfl
 split
 .exact FV (.same rfl)
 split
 .rename_i hk;have hz:=s8 (hx.k8 hk);exact xN λn=>by
   split
   .exact .rfl' s
   split
   .exact .rfl' s
   rename_i h1 h2;have h3:0<=n*x.sz/\n*x.sz<=1048576:=by
    rcases hz with e|e|e|e<;>rw[e]at h2 ⊢
    .have:Int.tdiv 1048576 1=1048576:=by decide
     omega
    .have:Int.tdiv 1048576 2=524288:=by decide
     omega
    .have:Int.tdiv 1048576 4=262144:=by decide
     omega
    have:Int.tdiv 1048576 8=131072:=by decide
    omega
   split
   .exact .same rfl
   exact Cl _ _ _ _ λy hy=>by
    rw[cZ.1 hy];exact Ze hn (by rw[iM];omega)
 split
 .unfold Fz;split
  .exact .rfl' s
  unfold powC;split
  .exact .rfl' s
  exact Cl _ _ _ _ λy hy=>by
   rw[cZ.1 hy];exact Ze hn (br (YL _ _ _) (by decide))
 exact .rfl' s
theorem R5 {s:SS}(hn:xO s.au){x:RS}(hx:Nn x)(n:Int):Al ZH s (sY gz fP mD s x n).1:=by
 unfold sY;split
 .exact .rfl' s
 exact ada hn hx n
theorem Nv {s:SS}(hn:xO s.au){x:RS}(hx:Nn x):Al ZH s (mM gz fP mD s x).1:=by
 unfold mM;split
 .exact R5 hn hx 1
 exact xN λn=>by
  split
  .exact .rfl' s
  exact R5 hn hx n
theorem adb {s:SS}(hn:xO s.au){x:RS}(hx:Nn x):Al ZH s (iu gz fP mD s x).1:=by
 unfold iu;split
 .split
  .exact Zf hn _
  exact(Zf hn _).trans (Nv (by rw[FA];exact hn) hx)
 exact Nv hn hx
theorem Nw:∀(l:List (List UInt8)) (s:SS),0<=s.au->s.au+l.length<=1000000->Al ZH s (oq l s).1
 |[],s,_,_=>.rfl' s
 |w::l,s,h0,h1=>by
  obtain⟨hx,_⟩:=bd.FR w;simp only[aJ]at h1;have hn:xO (s.au+1):=⟨by omega,by omega⟩;have h:=adb (s:={ s with au:=s.au+1 }) hn hx;have h2:Al ZH s { s with au:=s.au+1 }:=.same rfl;unfold oq;rw[oU];by_cases h3:(eP w).2.1≠0
  .rw[ag h3];exact h2
  rw[aa h3];by_cases h4:(iu gz fP mD { s with au:=s.au+1 } (eP w).1).2≠0
  .rw[ag h4];exact h2.trans (h.trans (.same rfl))
  rw[aa h4];have e:(iu gz fP mD { s with au:=s.au+1 } (eP w).1).1.au=s.au+1:=Cd gz fP mD _ _;exact h2.trans (h.trans (Nw l _ (by rw[e];omega) (by rw[e];omega)))
theorem Zg (l:List (List UInt8))(hl:l.length<=1000000):∀y∈(pW gz fP mD eP l).1.2.2,Ck y=true/\xO y.1:=by
 by_cases he:(pW gz fP mD eP l).2.1=0
 .obtain ⟨_,_,e⟩:=XS gz fP mD eP he;rw[e];intro y hy;rcases Nw l ye (bB _) (by show (0:Int)+_<=_;omega) y hy with q|q
  .cases q
  exact q
 rw[XT gz fP mD eP he];intro y hy;cases hy
end
end Go.Proofs.YtbeckacfibledaaGreatDoor.ps.sr
namespace Go.Proofs.YtbeckacfibledaaGreatDoor.ps.sr
open Go.Tv Go.Ev Go.Px Go.Pp Go.Proofs.YtbeckacfibledaaGreatDoor.ex
noncomputable section
def Zh (c:UInt8)(l:List (List UInt8)):List (List UInt8):=if c=10 then []::l else match l with
 |p::ps=>(c::p)::ps
 |[]=>[[c]]
theorem tP (c:UInt8)(r:List UInt8):sl.dh (c::r)=Zh c (sl.dh r):=rfl
theorem FY:∀(a b:List UInt8),sl.dh (a++10::b)=sl.dh a++sl.dh b
 |[],b=>by
  show sl.dh (10::b)=[[]]++sl.dh b;rw[tP];rfl
 |c::a,b=>by
  have ih:=FY a b;show sl.dh (c::(a++10::b))=sl.dh (c::a)++sl.dh b;rw[tP,tP,ih];unfold Zh;by_cases hc:c=10
  .rw[ag hc,ag hc];rfl
  rw[aa hc,aa hc];cases h:sl.dh a with
  |nil=>exact absurd h (sl.pn a)
  |cons p ps=>rfl
theorem Qj (a b:List UInt8):iy (a++10::b)=iy a++iy b:=by
 rw[sq,sq,sq,FY,eo]
theorem FZ:∀(a:List UInt8),(∀c∈a,c≠10)->sl.dh a=[a]
 |[],_=>rfl
 |c::a,h=>by
  have ih:=FZ a λx hx=>h x (by simp[hx])
  rw[tP,ih];unfold Zh;rw[aa (h c (by simp))]
end
end Go.Proofs.YtbeckacfibledaaGreatDoor.ps.sr
namespace Go.Proofs.YtbeckacfibledaaGreatDoor.ps.sr
open Go.Tv Go.Ev Go.Px Go.Pp Go.Proofs.YtbeckacfibledaaGreatDoor.ex
set_option maxRecDepth 100000
noncomputable section
def w4:List UInt8:=[116,105,109,101]
def w3:List UInt8:=[114,101,115]
def Cm:List UInt8->Bool
 |[]=>true
 |c::r=>if 4<=(c::r).length then (if (c::r).take 4=w4\/(c::r).take 3=w3 then false else Cm r) else true
theorem Nx (c:UInt8)(r:List UInt8):Cm (c::r)=if 4<=r.length+1 then (if (c::r).take 4=w4\/(c::r).take 3=w3 then false else Cm r) else true:=rfl
def xP (s:List UInt8):Bool:=decide (s.length<=2000)&&Cm s
def pSh:List Bool:=[true,true,false,true,false]
def ade:ei:=⟨gD [0,3] pSh,.none,[]⟩
def jSh (s:List UInt8)(r m:Nat)(i:Int):Option AV:=iF X0 c7 ade r 7 pSh (λv _=>some v) m (kr 28 [(0,.str s),(3,.int .i64 i)]) (nA [])
def inS (s:List UInt8)(i j:Int)(k:Option AV):Option AV:=ah (!bC i 0 && !bC j i && !bC s.length j) k none
theorem Zi (s:List UInt8)(r m:Nat)(i:Int):jSh s r (m+1) i=ah (!bC s.length (IntKind.wrap .i64 (i+4))) (inS s i (IntKind.wrap .i64 (i+4)) (ah (decide (dX s i (IntKind.wrap .i64 (i+4))=w4)) tF
 (inS s i (IntKind.wrap .i64 (i+3)) (ah (decide (dX s i (IntKind.wrap .i64 (i+3))=w3)) tF (jSh s r m (IntKind.wrap .i64 (i+1))))))) tT:=by kernel_rfl
theorem adf (s:List UInt8)(r:Nat):aT X0 c7 ade r 7 [.str s] aG.empty (λv _=>some v)=ah (bC 2000 s.length) tF (jSh s r r 0):=by kernel_rfl
theorem Zj {s:List UInt8}{i j:Int}(h0:0<=i)(h1:i<=j)(h2:j<=s.length)(k:Option AV):inS s i j k=k:=by
 unfold inS;rw[fL (by omega),fL (by omega),fL (by omega)];rfl
theorem aiV {s:List UInt8}(hs:s.length<=2000)(r:Nat):∀(rest pre:List UInt8) (m:Nat),s=pre++rest->rest.length<m->jSh s r m pre.length=some (.bool (Cm rest)):=by
 intro rest;induction rest with
 |nil =>
  intro pre m he hm;obtain⟨m,rfl⟩:∃m',m=m'+1:=⟨m-1,by simp at hm;omega⟩;have hl:s.length=pre.length:=by rw[he];simp
  rw[Zi,i64_in (by omega) (by omega),iU,aa (by omega)];rfl
 |cons c rest ih =>
  intro pre m he hm;obtain⟨m,rfl⟩:∃m',m=m'+1:=⟨m-1,by simp at hm;omega⟩;have hl:s.length=pre.length+(rest.length+1):=by rw[he];simp
  have hin:=ih (pre++[c]) m (by rw[he];simp) (by simp at hm;omega);rw[aA]at hin;have hin:jSh s r m ((pre.length:Int)+1)=some (.bool (Cm rest)):=hin;rw[Zi,i64_in (n:=(pre.length:Int)+4) (by omega) (by omega),i64_in (n:=(pre.length:Int)+3) (by omega) (by omega),i64_in (n:=(pre.length:Int)+1) (by omega) (by omega),hin,iU];rw[Nx];by_cases h4:4<=rest.length+1
  .have c4:dX s (pre.length:Int) ((pre.length:Int)+4)=(c::rest).take 4:=by
    unfold dX;rw[show ((pre.length:Int)).toNat=pre.length by omega,show ((pre.length:Int)+4).toNat-pre.length=4 by omega,he,mQ]
   have c3:dX s (pre.length:Int) ((pre.length:Int)+3)=(c::rest).take 3:=by
    unfold dX;rw[show ((pre.length:Int)).toNat=pre.length by omega,show ((pre.length:Int)+3).toNat-pre.length=3 by omega,he,mQ]
   rw[ag (by omega),ag h4,Zj (by omega) (by omega) (by omega),Zj (by omega) (by omega) (by omega),c4,c3];by_cases h1:(c::rest).take 4=w4
   .rw[aX h1,ag (.inl h1)];rfl
   rw[aU h1];by_cases h2:(c::rest).take 3=w3
   .rw[aX h2,ag (.inr h2)];rfl
   rw[aU h2,aa (λq=>q.elim h1 h2)]
  rw[aa (by omega),aa h4];rfl
def gSh (args:List AV):Option (Bool×List fA) :=
 match args with
 |[.str s]=>some (true,[.val (.bool (xP s))])
 |_=>none
theorem amU (s:List UInt8):aT X0 c7 ade (s.length+1) 7 [.str s] aG.empty (λv _=>some v)=some (.bool (xP s)):=by
 rw[adf,cA];unfold xP;by_cases h:s.length<=2000
 .rw[aa (by omega),aX h];exact aiV h _ s [] _ rfl (by omega)
 rw[ag (by omega),aU h];rfl
theorem aiW:dc X0 fU 7 gSh :=
 cS (nk rfl) (qW aes Y2 aer) λargs rs hg=>by
  unfold gSh at hg;split at hg;case h_2=>cases hg
  rename_i s;simp only[aq,ay]at hg;obtain⟨_,rfl⟩:=hg;exact⟨[.bool (xP s)],ade,s.length+1,amU s,rfl,rfl⟩
def S3:List wh:=(9,[some qX,some qX],gSi)::(10,[some gZ,some gZ],gSy)::(7,[none],gSh)::S2
theorem amV:iT X0 fU S3:=.cons ac5 (.cons ac8 (.cons aiW aes))
abbrev c8:cI AV:=cV S3 N4 G7 _
def Kg (x y:List It)(k:Option AV):Option AV:=ah (F6 (α:=List It) x y&&(Nat.ble x.length 2000000&&x.all Ck)) k none
def Kh (x y:List Sy)(k:Option AV):Option AV:=ah (F6 (α:=List Sy) x y&&Nat.ble x.length 2000000) k none
theorem Ny {x:List It}(h:x.length<=2000000)(hk:∀y∈x,Ck y=true)(k:Option AV):Kg x x k=k:=by
 unfold Kg;rw[uR,dS h,aK.2 hk];rfl
theorem Nz {x:List Sy}(h:x.length<=2000000)(k:Option AV):Kh x x k=k:=by
 unfold Kh;rw[uR,dS h];rfl
theorem Uj {s:List UInt8}(h:xP s=true):s.length<=2000:=by
 unfold xP at h;rw[ak]at h;exact fG h.1
end
end Go.Proofs.YtbeckacfibledaaGreatDoor.ps.sr
