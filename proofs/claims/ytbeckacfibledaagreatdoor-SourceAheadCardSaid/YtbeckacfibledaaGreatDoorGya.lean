/- Lists of nodes, instructions held against themselves. SourceOnce, as it runs. Items, symbols held against themselves. SourceOnce: its answer. From the layer to the machine: laws on sources. Sources: how long the lists in items are. Sources: the lines of two sources, one behind the other. Is a source short? SourceAhead. -/
import Derived.Test.YtbeckacfibledaaGreatDoorGrg
import Derived.Test.YtbeckacfibledaaGreatDoorGxe
import Derived.Test.YtbeckacfibledaaGreatDoorGva
import Derived.Test.YtbeckacfibledaaGreatDoorGrj
import Derived.Test.YtbeckacfibledaaGreatDoorGxb
set_option linter.unusedVariables false
set_option linter.unusedSimpArgs false

namespace Go.Proofs.YtbeckacfibledaaGreatDoor.ps
open Go.Tv Go.Ev Go.Px Go.Pp Go.Proofs.YtbeckacfibledaaGreatDoor.ex
set_option maxRecDepth 100000
noncomputable section
theorem PV {id:FuncId}(hk:lt.inl id=true){M:List vW}{N:List pI}(hM:iO X0 fR M)(hN:gR X0 fR N){sig:List (Option (TypeId×Tv.Ty))}{f:List AV->Option (Bool×List AV)}(sgA sg:List (List (Option Tv.Ty)))
 (h:∀vs ws,f vs=some (true,ws)->ws.all EN=true/\∃an rounds,aT X0 (cN M N _) an rounds id (EZ sgA vs) aG.empty (rK sg)=some ws):gq X0 fR id ⟨none,sig,gV f⟩:=by
 intro ins outs rs hg;have hg:gV f ins=some (true,outs,rs):=hg;unfold gV at hg;split at hg;case h_2=>cases hg
 rename_i vs hv;split at hg;case h_2=>cases hg
 rename_i c ws hf;simp only[aq,ax]at hg;obtain⟨rfl,_,rfl⟩:=hg;obtain⟨h1,an,rounds,h2⟩:=h vs ws hf;have hi:=qL hv;subst hi;intro _;obtain⟨M1,h4⟩:=Hq (nk hk) (jy hM hN _) h2;refine⟨ws,M1,?_,xe h1⟩;rw[sJ,vt];exact λS E bK hr hgl hl=>h4 S E bK hr hgl (E6 sgA hl)
def FR {α:Type}(a b:α):Bool:=@decide (a=b) (Classical.propDecidable _)
theorem rR {α:Type}{a b:α}:FR a b=true↔a=b:=by
 unfold FR;exact @decide_eq_true_iff _ (Classical.propDecidable _)
theorem uJ {α:Type}(a:α):FR a a=true:=rR.2 rfl
theorem x5 {α β:Type}{x:List α}(hx:x.length<=2000000){ok:α->Bool}{T:Option β}{j:Nat->Int->Option β}
 (step:∀m i a,i<(x.length:Int)->dQ x i=some a->ok a=true->j (m+1) i=j m (IntKind.wrap .i64 (i+1))) (stop:∀m,j (m+1) x.length=T) :
 ∀(rest pre:List α) (m:Nat),x=pre++rest->rest.length<m->(∀a∈rest,ok a=true)->j m pre.length=T:=by
 intro rest;induction rest with
 |nil =>
  intro pre m he hm _;obtain⟨m,rfl⟩:∃m',m=m'+1:=⟨m-1,by simp at hm;omega⟩;have hl:x.length=pre.length:=by rw[he];simp
  rw[<-hl];exact stop m
 |cons a rest ih =>
  intro pre m he hm hok;obtain⟨m,rfl⟩:∃m',m=m'+1:=⟨m-1,by simp at hm;omega⟩;have hl:x.length=pre.length+(rest.length+1):=by rw[he];simp
  have hin:=ih (pre++[a]) m (by rw[he];simp) (by simp at hm;omega) (λb hb=>hok b (by simp[hb]));rw[aA]at hin;rw[step m pre.length a (by omega) (by rw[he];exact lY pre rest a) (hok a (by simp)),i64_in (by omega) (by omega)];exact hin
def aco (x y:Nd):Bool:=decide (x.1=y.1)&&(decide (x.2.1=y.2.1)&&(decide (x.2.2.1=y.2.2.1)&&(decide (x.2.2.2.1=y.2.2.2.1)&&decide (x.2.2.2.2=y.2.2.2.2))))
def pSn:List Bool:=[true,true,false,true,false]
def acp:ez:=⟨gZ [0,1,4,5] pSn,.none,[]⟩
def jSn (x y:List Nd)(r m:Nat)(i:Int):Option AV:=iH X0 (cN P3 [] AV) acp r 24 pSn (λv _=>some v) m (lq 26 [(0,.dH eC x),(1,.dH eC y),(4,.bool false),(5,.int .i64 i)]) (oY [])
theorem YL (x y:List Nd)(r m:Nat)(i:Int):jSn x y r (m+1) i=ah (bB i x.length) (Option.rec (motive:=λ_=>Option AV) none (λa=>Option.rec (motive:=λ_=>Option AV) none (λb=>ah (!aco a b) (some (.bool false)) (jSn x y r m (IntKind.wrap .i64 (i+1)))) (dQ y i)) (dQ x i)) (some (.bool true)):=by kernel_rfl
theorem acq (x y:List Nd)(r:Nat):aT X0 (cN P3 [] AV) acp r 24 [.dH eC x,.dH eC y] aG.empty (λv _=>some v)=ah (!bI x.length y.length) (some (.bool false)) (jSn x y r r 0):=by kernel_rfl
theorem amg {x:List Nd}(hx:x.length<=2000000):aT X0 (cN P3 [] AV) acp (x.length+1) 24 [.dH eC x,.dH eC x] aG.empty (λv _=>some v)=some (.bool true):=by
 rw[acq,cw,ag rfl];refine x5 hx (ok:=λ_=>true) (j:=jSn x x (x.length+1)) (λm i a hi ha _=>?_) (λm=>?_) x [] _ rfl (by omega) (λ_ _=>rfl)
 .rw[YL,qG hi,ha];have:aco a a=true:=by simp[aco]
  show ah (!aco a a) _ _=_;rw[this];rfl
 rw[YL,fH (by omega)]
def gSn (args:List AV):Option (Bool×List fy) :=
 match args with
 |[L,R]=>match GM eC L,GM eC R with
  |some x,some y=>some (FR (α:=List Nd) x y&&Nat.ble x.length 2000000,[.val (.bool true)])
  |_,_=>none
 |_=>none
theorem aik:cZ X0 fR 24 gSn :=
 cR (nk rfl) (jy HB n0) λargs rs hg=>by
  unfold gSn at hg;split at hg;case h_2=>cases hg
  split at hg;case h_2=>cases hg
  rename_i x y hx hy;have e1:=iy hx;have e2:=iy hy;subst e1;subst e2;simp only[aq,ax,ak]at hg;obtain⟨⟨e,h1⟩,rfl⟩:=hg;have e:=rR.1 e;subst e;exact⟨[.bool true],acp,x.length+1,amg (ay h1),rfl,rfl⟩
def S1:List vW:=(24,[some eC,some eC],gSn)::P3
theorem nv:iO X0 fR S1:=.cons aik HB
def RH (A:List AV):Option Raw:=match A with
 |[.int .i64 k,.int .i64 c,.int .i64 n,.int .i64 bc,.int .i64 bn,.int .i64 ic,.int .i64 ix,.int .i64 sc,.int .i64 d,.int .i64 z,X,.bool r]=>match GM eC X with
  |some x=>some (k,(c,n),((bc,bn),(ic,ix),sc,d,z),x,r)
  |none=>none
 |_=>none
theorem FK {A:List AV}{a:Raw}(h:RH A=some a):A=Td a:=by
 unfold RH at h;split at h
 .split at h
  .rename_i x hx;cases h;rw[iy hx];rfl
  cases h
 cases h
def acr:List (Option Tv.Ty):=[none,none,none,none,none,none,none,none,none,none,some eC,none]
def TW (a:Raw):Bool:=Nat.ble a.2.2.2.1.length 2000000
def fSr (vs:List AV):Option (Bool×List AV) :=
 match EZ [acr,acr] vs with
 |[.agg A,.agg B]=>match RH A,RH B with
  |some a,some b=>some (FR (α:=Raw) a b&&TW a,[.bool true])
  |_,_=>none
 |_=>none
def Zb:List (List (Option Tv.Ty)):=[[none]]
abbrev YM:=Option (List AV)
def FS:YM:=some [.bool false]
def TS':YM:=some [.bool true]
theorem ail (k c n bc bn ic ix sc d z:Int)(x:List Nd)(r:Bool):aT X0 (cN S1 NR _) gG 5 57 [.agg (Td (k,(c,n),((bc,bn),(ic,ix),sc,d,z),x,r)),.agg (Td (k,(c,n),((bc,bn),(ic,ix),sc,d,z),x,r))] aG.empty (rK Zb) =
 ah (bI k k) (ah (decide (c=c)&&decide (n=n)) (ah (decide (bc=bc)&&(decide (bn=bn)&&(decide (ic=ic)&&(decide (ix=ix)&&(decide (sc=sc)&&(decide (d=d)&&decide (z=z)))))))
  (ah (FR (α:=List Nd) x x&&Nat.ble x.length 2000000) (some [.bool (r==r)]) none) FS) FS) FS:=by kernel_rfl
theorem amh {a:Raw}(h:TW a=true):aT X0 (cN S1 NR _) gG 5 57 [.agg (Td a),.agg (Td a)] aG.empty (rK Zb)=TS':=by
 obtain⟨k,⟨c,n⟩,⟨⟨bc,bn⟩,⟨ic,ix⟩,sc,d,z⟩,x,r⟩:=a;have h:Nat.ble x.length 2000000=true:=h;rw[ail,h,uJ];simp only[eF,decide_true,nP,kK];rfl
theorem aim:gq X0 fR 57 ⟨none,[none,none],gV fSr⟩ :=
 PV rfl nv adA [acr,acr] Zb λvs ws hf=>by
  unfold fSr at hf;split at hf;case h_2=>cases hf
  rename_i A B hv;split at hf;case h_2=>cases hf
  rename_i a b ha hb;simp only[aq,ax,ak]at hf;obtain⟨⟨e,g0⟩,rfl⟩:=hf;have e:=rR.1 e;subst e;refine⟨rfl,gG,5,?_⟩;rw[hv,FK ha,FK hb];exact amh g0
def NS1:List pI:=(57,⟨none,[none,none],gV fSr⟩)::NR
theorem YN:gR X0 fR NS1:=.cons aim adA
def pSc:List Bool:=[true,true,false,true,false]
def acs:ez:=⟨gZ [2,3,4,5] pSc,.none,[]⟩
def TX (o h:Int)(a:List Raw):List AV:=[.int .i64 o,.int .i64 h,.dH jV a]
def jSc (o h:Int)(a:List Raw)(r m:Nat)(i:Int):YM:=iH X0 (cN S1 NS1 _) acs r 23 pSc (rK Zb) m (lq 46 [(2,.ptr 0 0),(3,.ptr 1 0),(4,.bool false),(5,.int .i64 i)]) (oY [.cells 36 (TX o h a),.cells 36 (TX o h a)])
theorem YO (o h:Int)(a:List Raw)(r m:Nat)(i:Int):jSc o h a r (m+1) i =
 ah (bB i a.length) (Option.rec (motive:=λ_=>YM) none (λx=>Option.rec (motive:=λ_=>YM) none (λy=>ah (FR (α:=Raw) x y&&TW x) (jSc o h a r m (IntKind.wrap .i64 (i+1))) none) (dQ a i)) (dQ a i)) TS':=by kernel_rfl
theorem acu (o h:Int)(a:List Raw)(r:Nat):aT X0 (cN S1 NS1 _) acs r 23 [.agg (TX o h a),.agg (TX o h a)] aG.empty (rK Zb) =
 ah (!bI o o) FS (ah (!bI h h) FS (ah (!bI a.length a.length) FS (jSc o h a r r 0))):=by kernel_rfl
def Zc (l:List Raw):Bool:=Nat.ble l.length 2000000&&l.all TW
def MJ:List (Option Tv.Ty):=[none,none,some jV]
def fSc (vs:List AV):Option (Bool×List AV) :=
 match EZ [MJ,MJ] vs with
 |[.agg [.int .i64 o,.int .i64 h,L],.agg [.int .i64 o',.int .i64 h',L']]=>match GM jV L,GM jV L' with
  |some a,some b=>some ((FR o o'&&(FR h h'&&FR (α:=List Raw) a b))&&Zc a,[.bool true])
  |_,_=>none
 |_=>none
theorem amj {a:List Raw}(hok:Zc a=true)(o h:Int):aT X0 (cN S1 NS1 _) acs (a.length+1) 23 [.agg (TX o h a),.agg (TX o h a)] aG.empty (rK Zb)=TS':=by
 unfold Zc at hok;rw[ak,aK]at hok;obtain⟨h1,h2⟩:=hok;have h1:=ay h1;rw[acu,cw,ag rfl,cw,ag rfl,cw,ag rfl];refine x5 h1 (ok:=TW) (j:=jSc o h a (a.length+1)) (λm i x hi hx hk=>?_) (λm=>?_) a [] _ rfl (by omega) h2
 .rw[YO,qG hi,hx];show ah (FR x x&&TW x) _ none=_;rw[uJ,hk];rfl
 rw[YO,fH (by omega)]
theorem ain:gq X0 fR 23 ⟨none,[none,none],gV fSc⟩ :=
 PV rfl nv YN [MJ,MJ] Zb λvs ws hf=>by
  unfold fSc at hf;split at hf;case h_2=>cases hf
  rename_i o h L o' h' L' hv;split at hf;case h_2=>cases hf
  rename_i a b ha hb;simp only[aq,ax,ak]at hf;obtain⟨⟨⟨e1,e2,e3⟩,g0⟩,rfl⟩:=hf;have e1:=rR.1 e1;have e2:=rR.1 e2;have e3:=rR.1 e3;subst e1;subst e2;subst e3;refine⟨rfl,acs,a.length+1,?_⟩;rw[hv,iy ha,iy hb];exact amj g0 o h
def NS2:List pI:=(23,⟨none,[none,none],gV fSc⟩)::NS1
theorem YP:gR X0 fR NS2:=.cons ain YN
end
end Go.Proofs.YtbeckacfibledaaGreatDoor.ps
namespace Go.Tv
open Go.Ev (ah iG)
noncomputable section
end
end Go.Tv
namespace Go.Proofs.YtbeckacfibledaaGreatDoor.ps.sr
open Go.Tv Go.Ev Go.Px Go.Pp Go.Proofs.YtbeckacfibledaaGreatDoor.ex
set_option maxRecDepth 100000
noncomputable section
def gYs (args:List AV):Option (Bool×List fy) :=
 match args with
 |[]=>some (true,[.val (.bool true)])
 |_=>none
theorem amf:lt.kn 6 []=some (.bool true):=by kernel_rfl
theorem aij:cZ X0 fR 6 gYs :=
 Sw λargs rs hg=>by
  unfold gYs at hg;split at hg
  .simp only[aq,ax]at hg;obtain⟨_,rfl⟩:=hg;refine⟨_,.bool true,rfl,rfl,λS=>.bool _,rfl,λS bK hl=>?_⟩;rw[hl.js];exact⟨amf,rfl⟩
  cases hg
def S2:List vW:=(6,[],gYs)::S1
theorem adW:iO X0 fR S2:=.cons aij nv
abbrev c7:cH AV:=cV S2 N4 G7 _
def tT:Option AV:=some (.bool true)
def tF:Option AV:=some (.bool false)
def atO {α:Type}(l:List α)(i:Int)(k:α->Option AV):Option AV:=Option.rec (motive:=λ_=>Option AV) none k (dQ l i)
end
end Go.Proofs.YtbeckacfibledaaGreatDoor.ps.sr
namespace Go.Proofs.YtbeckacfibledaaGreatDoor.ps.sr
open Go.Tv Go.Ev Go.Px Go.Pp Go.Proofs.YtbeckacfibledaaGreatDoor.ex
set_option maxRecDepth 100000
noncomputable section
def CZ (y:It):Bool:=Zc y.2.2.2.1.2.2&&(Nat.ble y.2.2.2.2.1.length 2000000&&Nat.ble y.2.2.2.2.2.1.length 2000000)
def itA (y:It):List AV:=[.int .i64 y.1,.int .i64 y.2.1,.str y.2.2.1,.int .i64 y.2.2.2.1.1,.int .i64 y.2.2.2.1.2.1,.dH jV y.2.2.2.1.2.2,.dH eC y.2.2.2.2.1,.dH (.int .u8) y.2.2.2.2.2.1,.int .i64 y.2.2.2.2.2.2]
theorem acv (y:It):aT X0 (cN ps.S1 NS2 _) gG 5 17 [.agg (itA y),.agg (itA y)] aG.empty (rK Zb)=ah (bI y.1 y.1) (ah (bI y.2.1 y.2.1) (ah (decide (y.2.2.1=y.2.2.1))
 (ah ((FR y.2.2.2.1.1 y.2.2.2.1.1&&(FR y.2.2.2.1.2.1 y.2.2.2.1.2.1&&FR (α:=List Raw) y.2.2.2.1.2.2 y.2.2.2.1.2.2))&&Zc y.2.2.2.1.2.2) (ah (FR (α:=List Nd) y.2.2.2.2.1 y.2.2.2.2.1&&Nat.ble y.2.2.2.2.1.length 2000000)
  (ah (decide (y.2.2.2.2.2.1.map Y4=y.2.2.2.2.2.1.map Y4)) (some [.bool (bI y.2.2.2.2.2.2 y.2.2.2.2.2.2)]) FS) none) none) FS) FS) FS:=by kernel_rfl
theorem aml {y:It}(h:CZ y=true):aT X0 (cN ps.S1 NS2 _) gG 5 17 [.agg (itA y),.agg (itA y)] aG.empty (rK Zb)=TS':=by
 unfold CZ at h;rw[ak,ak]at h;obtain⟨h1,h2,h3⟩:=h;rw[acv,h1,h2];simp only[uJ,eF,decide_true,nP,kK];rfl
def acw:List (Option Tv.Ty):=[none,none,none,none,none,some jV,some eC,some (.int .u8),none]
def acy (A:List AV):Option It:=match A with
 |[.int .i64 a,.int .i64 b,.str c,.int .i64 d,.int .i64 e,R,X,B,.int .i64 n]=>match GM jV R,GM eC X,GM (.int .u8) B with
  |some r,some x,some l=>some (a,b,c,(d,e,r),x,l,n)
  |_,_,_=>none
 |_=>none
theorem HW {A:List AV}{a:It}(h:acy A=some a):A=itA a:=by
 unfold acy at h;split at h
 .split at h
  .rename_i r x l h1 h2 h3;cases h;rw[iy h1,iy h2,iy h3];rfl
  cases h
 cases h
def fSi (vs:List AV):Option (Bool×List AV) :=
 match EZ [acw,acw] vs with
 |[.agg A,.agg B]=>match acy A,acy B with
  |some a,some b=>some (FR (α:=It) a b&&CZ a,[.bool true])
  |_,_=>none
 |_=>none
theorem aio:gq X0 fR 17 ⟨none,[none,none],gV fSi⟩ :=
 PV rfl ps.nv YP [acw,acw] Zb λvs ws hf=>by
  unfold fSi at hf;split at hf;case h_2=>cases hf
  rename_i A B hv;split at hf;case h_2=>cases hf
  rename_i a b ha hb;simp only[aq,ax,ak]at hf;obtain⟨⟨e,hk⟩,rfl⟩:=hf;have e:=rR.1 e;subst e;refine⟨rfl,gG,5,?_⟩;rw[hv,HW ha,HW hb];exact aml hk
def NI:List pI:=(17,⟨none,[none,none],gV fSi⟩)::NS2
theorem adX:gR X0 fR NI:=.cons aio YP
def pSi:List Bool:=[true,true,false,true,false]
def M9:ez:=⟨gZ [0,1,4,5] pSi,.none,[]⟩
def jSi (x y:List It)(r m:Nat)(i:Int):Option AV:=iH X0 (cN ps.S1 NI AV) M9 r 9 pSi (λv _=>some v) m (lq 27 [(0,.dH rO x),(1,.dH rO y),(4,.bool false),(5,.int .i64 i)]) (oY [])
theorem YQ (x y:List It)(r m:Nat)(i:Int):jSi x y r (m+1) i=ah (bB i x.length) (atO x i λa=>atO y i λb=>ah (FR (α:=It) a b&&CZ a) (jSi x y r m (IntKind.wrap .i64 (i+1))) none) tT:=by kernel_rfl
theorem acz (x y:List It)(r:Nat):aT X0 (cN ps.S1 NI AV) M9 r 9 [.dH rO x,.dH rO y] aG.empty (λv _=>some v)=ah (!bI x.length y.length) tF (jSi x y r r 0):=by kernel_rfl
theorem amm {x:List It}(h1:x.length<=2000000)(h2:∀y∈x,CZ y=true):aT X0 (cN ps.S1 NI AV) M9 (x.length+1) 9 [.dH rO x,.dH rO x] aG.empty (λv _=>some v)=tT:=by
 rw[acz,cw,ag rfl];refine x5 h1 (ok:=CZ) (j:=jSi x x (x.length+1)) (λm i a hi ha hk=>?_) (λm=>?_) x [] _ rfl (by omega) h2
 .rw[YQ,qG hi];unfold atO;rw[ha];show ah (FR a a&&CZ a) _ none=_;rw[uJ,hk];rfl
 rw[YQ,fH (by omega)]
def gSi (args:List AV):Option (Bool×List fy) :=
 match args with
 |[L,R]=>match GM rO L,GM rO R with
  |some x,some y=>some (FR (α:=List It) x y&&(Nat.ble x.length 2000000&&x.all CZ),[.val (.bool true)])
  |_,_=>none
 |_=>none
theorem acA:cZ X0 fR 9 gSi :=
 cR (nk rfl) (jy ps.nv adX) λargs rs hg=>by
  unfold gSi at hg;split at hg;case h_2=>cases hg
  split at hg;case h_2=>cases hg
  rename_i x y hx hy;have e1:=iy hx;have e2:=iy hy;subst e1;subst e2;simp only[aq,ax,ak]at hg;obtain⟨⟨e,h1,h2⟩,rfl⟩:=hg;have e:=rR.1 e;subst e;have h1:=ay h1;refine⟨[.bool true],M9,x.length+1,?_,rfl,rfl⟩;exact amm h1 (aK.1 h2)
def acB (a b:Sy):Bool:=decide (a.1=b.1)&&(decide (a.2.1=b.2.1)&&decide (a.2.2=b.2.2))
def jSy (x y:List Sy)(r m:Nat)(i:Int):Option AV:=iH X0 (cN ps.S1 NI AV) M9 r 10 pSi (λv _=>some v) m (lq 26 [(0,.dH iz x),(1,.dH iz y),(4,.bool false),(5,.int .i64 i)]) (oY [])
theorem YR (x y:List Sy)(r m:Nat)(i:Int):jSy x y r (m+1) i=ah (bB i x.length) (atO x i λa=>atO y i λb=>ah (!acB a b) tF (jSy x y r m (IntKind.wrap .i64 (i+1)))) tT:=by kernel_rfl
theorem acC (x y:List Sy)(r:Nat):aT X0 (cN ps.S1 NI AV) M9 r 10 [.dH iz x,.dH iz y] aG.empty (λv _=>some v)=ah (!bI x.length y.length) tF (jSy x y r r 0):=by kernel_rfl
theorem TY (a:Sy):acB a a=true:=by simp[acB]
theorem amn {x:List Sy}(h1:x.length<=2000000):aT X0 (cN ps.S1 NI AV) M9 (x.length+1) 10 [.dH iz x,.dH iz x] aG.empty (λv _=>some v)=tT:=by
 rw[acC,cw,ag rfl];refine x5 h1 (ok:=λ_=>true) (j:=jSy x x (x.length+1)) (λm i a hi ha _=>?_) (λm=>?_) x [] _ rfl (by omega) (λ_ _=>rfl)
 .rw[YR,qG hi];unfold atO;rw[ha];show ah (!acB a a) _ _=_;rw[TY];rfl
 rw[YR,fH (by omega)]
def gSy (args:List AV):Option (Bool×List fy) :=
 match args with
 |[L,R]=>match GM iz L,GM iz R with
  |some x,some y=>some (FR (α:=List Sy) x y&&Nat.ble x.length 2000000,[.val (.bool true)])
  |_,_=>none
 |_=>none
theorem acD:cZ X0 fR 10 gSy :=
 cR (nk rfl) (jy ps.nv adX) λargs rs hg=>by
  unfold gSy at hg;split at hg;case h_2=>cases hg
  split at hg;case h_2=>cases hg
  rename_i x y hx hy;have e1:=iy hx;have e2:=iy hy;subst e1;subst e2;simp only[aq,ax,ak]at hg;obtain⟨⟨e,h1⟩,rfl⟩:=hg;have e:=rR.1 e;subst e;have h1:=ay h1;refine⟨[.bool true],M9,x.length+1,?_,rfl,rfl⟩;exact amn h1
theorem MZ:∀(l:List (List UInt8)) (s:SS) (k:Nat),uK s (2*k) (1048576*k) 1100->uK (qY l s).1 (2*(k+l.length)) (1048576*((k+l.length:Nat):Int)) 1100
 |[],s,k,h=>h
 |w::l,s,k,h=>by
  obtain⟨hx,hv⟩:=bd.FH w;have h1:=J5 h (s.az+1);have h2:uK (jW gJ fS ny { s with az:=s.az+1 } (gI w).1).1 (2*(k+1)) (1048576*((k+1:Nat):Int)) 1100:=by
   rw[show 2*(k+1)=2*k+2 by omega,show (1048576*((k+1:Nat):Int))=1048576*(k:Int)+1048576 by omega];exact adU h1 hx hv
  have e:k+(w::l).length=(k+1)+l.length:=by simp only[aJ];omega
  unfold qY;rw[sO,e];by_cases h3:(gI w).2.1≠0
  .rw[ag h3];exact h1.up (by omega) (by omega)
  rw[aa h3];by_cases h4:(jW gJ fS ny { s with az:=s.az+1 } (gI w).1).2≠0
  .rw[ag h4];exact(J5 h2 _).up (by omega) (by omega)
  rw[aa h4];exact MZ l _ (k+1) h2
theorem FJ (s:List UInt8):(jQ s).length<=s.length+1:=by rw[uI,cy];exact zn s
theorem acn (s:List UInt8):(yg s).1.2.1.length<=2*(s.length+1)/\(yg s).1.2.2.length<=20000:=by
 have h:=MZ (jQ s) Fk 0 ame;have hl:=FJ s;have h1:=h.aH;have h2:=h.av;by_cases he:(yg s).2.1=0
 .obtain ⟨_,_,e⟩:=JQ gJ fS ny gI he;have e:yg s=_:=e;rw[e];exact⟨br h1 (by omega),h2⟩
 have e:=XA gJ fS ny gI he;have e:(yg s).1=_:=e;rw[e];exact⟨ck _,ck _⟩
end
end Go.Proofs.YtbeckacfibledaaGreatDoor.ps.sr
namespace Go.Proofs.YtbeckacfibledaaGreatDoor.ps.sr
open Go.Tv Go.Ev Go.Px Go.Pp Go.Proofs.YtbeckacfibledaaGreatDoor.ex
noncomputable section
theorem acK:∀g:Nat,g<8->g≠0->X0.gv g=[]
 |0,_,h=>by first|rfl|exact absurd rfl h
 |1,_,h=>by first|rfl|exact absurd rfl h
 |2,_,_=>rfl
 |3,_,_=>rfl
 |4,_,_=>rfl
 |5,_,_=>rfl
 |6,_,_=>rfl
 |7,_,_=>rfl
 |g+8,hg,_=>absurd hg (by omega)
theorem jo {w:World}{rows:List jC}(h1:∃b,rows[0]? = some b/\b.live=true/\b.cells=lt.BI)(hr:kV rows w):fk X0 (vi w):=by
 refine GU hr λg hg he=>?_
 by_cases hq:g=0
 .subst hq;obtain⟨b,e1,e2,e3⟩:=h1;exact⟨b,e1,e2,by rw[e3];rfl,by rw[e3];kernel_rfl⟩
 exact absurd (acK g hg hq) he
end
end Go.Proofs.YtbeckacfibledaaGreatDoor.ps.sr
namespace Go.Proofs.YtbeckacfibledaaGreatDoor.ps.sr
open Go.Tv Go.Ev Go.Px Go.Pp Go.Proofs.YtbeckacfibledaaGreatDoor.ex
set_option maxRecDepth 100000
noncomputable section
def Al (P:It->Prop)(s t:SS):Prop:=∀y∈t.av,y∈s.av\/P y
theorem Al.rfl' {P:It->Prop}(s:SS):Al P s s:=λ_ h=>.inl h
theorem Al.same {P:It->Prop}{s t:SS}(h:t.av=s.av):Al P s t:=λy hy=>.inl (h ▸ hy)
theorem Al.trans {P:It->Prop}{a b c:SS}(h:Al P a b)(k:Al P b c):Al P a c:=λy hy=>by
 rcases k y hy with q|q
 .exact h y q
 exact .inr q
theorem B7 {P:It->Prop}(s:SS)(a b c:Int){l:List It}(h:∀y∈l,P y):Al P s (ko s a b c l).1:=by
 unfold ko;split
 .exact .rfl' s
 split
 .exact .rfl' s
 intro y hy;rcases cJ.1 hy with q|q
 .exact .inl q
 obtain⟨m,hm,q⟩:=List.mem_flatten.1 q;rw[(List.mem_replicate.1 hm).2]at q;exact .inr (h y q)
theorem FL {P:It->Prop}{s:SS}{w:List UInt8}{k:SR'}(h:Al P s k.1):Al P s (pL s w k).1:=by
 unfold pL;split
 .exact .rfl' s
 exact h
theorem xB {P:It->Prop}{s:SS}{x:List Nd}{k:Int->SR'}(h:∀n,Al P s (k n).1):Al P s (nY gJ fS s x k).1:=by
 unfold nY;split
 .exact .rfl' s
 exact h _
def xC (n:Int):Prop:=0<=n/\n<=1000000
def Zd (y:It):Prop:=CZ y=true/\xC y.1
theorem FM {n k:Int}{w:List UInt8}{c:Int×Int×List Raw}{x:List Nd}{b:List Int}{m:Int}(h1:Zc c.2.2=true)(h2:x.length<=2000000)(h3:b.length<=2000000)(hn:xC n):Zd (n,k,w,c,x,b,m):=by
 refine⟨?_,hn⟩;show (Zc c.2.2&&(Nat.ble x.length 2000000&&Nat.ble b.length 2000000))=true;rw[h1,dS h2,dS h3];rfl
theorem Dw:Zc []=true:=rfl
theorem YS {s:SS}(hn:xC s.az){b:List Int}(h:b.length<=2000000):Zd (itB s b):=FM Dw (by decide) h hn
theorem YT {s:SS}(hn:xC s.az)(w:List UInt8):Al Zd s (yf s w).1:=by
 unfold yf;refine FL ?_;split
 .exact .same rfl
 exact Al.trans (b:={ s with lab:=if w.take 1=[46] then s.lab else w,aI:=ia s.aI (gx (cn s) w) 0 }) (.same rfl) (B7 _ _ _ _ λy hy=>by
  rw[dD.1 hy];exact FM Dw (by decide) (by decide) hn)
theorem FN {x:List Nd}(h:ep x=true):x.length<=2000000:=by
 unfold ep at h;rw[ak]at h;exact ay h.1
theorem acE {c:List UInt8}{l:List Raw}(h:nZ l=true):Zc (JN c l).1=true:=by
 obtain⟨h1,h2⟩:=CB h;unfold Zc JN;rw[ak,cy,dS h1,aK];refine⟨rfl,λr hr=>?_⟩;obtain⟨q,hq,rfl⟩:=bZ.1 hr;refine dS ?_;show ((dc c q.2.2.2.1).1).length<=_;unfold dc;rw[cy];exact FN (h2 q hq)
theorem aip {s:SS}(hn:xC s.az){sz:Int}(hz:sz=1\/sz=2\/sz=4\/sz=8){d:Dt}(h1:d.1.length<=1000000)(h2:ep d.2=true):Zd (dtC s sz d):=by
 unfold dtC;split
 .refine YS hn ?_;have:=AK (n:=d.1.length) hz;unfold Xs;rw[aA,cy,iI];omega
 refine FM Dw ?_ (by decide) hn;unfold dc;rw[cy];exact FN h2
theorem acF {s:SS}(hn:xC s.az){x:RS}(hx:MU x)(n:Int):Al Zd s (vN gJ fS ny s x n).1:=by
 unfold vN;split
 .unfold AA;split
  .exact .rfl' s
  exact B7 _ _ _ _ λy hy=>by
   rw[dD.1 hy];exact FM (acE hx.args) (by decide) (by decide) hn
 split
 .rename_i hk;obtain⟨hz,_⟩:=hx.k2 hk;unfold Cy;split
  .exact .rfl' s
  refine B7 _ _ _ _ λy hy=>?_
  obtain⟨d,hd,rfl⟩:=bZ.1 hy;obtain⟨a,b⟩:=(sU hx.data).2 d hd;exact aip hn (sS hz) a b
 split
 .exact FL (xB λn=>.same rfl)
 split
 .exact xB λn=>by
   split
   .exact .rfl' s
   exact B7 _ _ _ _ λy hy=>by
    rw[dD.1 hy];exact FM Dw (by decide) (by decide) hn
 split
 .exact xB λn=>by
   split
   .exact .rfl' s
   split
   .exact .rfl' s
   exact .same rfl
 split
 .exact .same rfl
 split
 .exact FL (.same rfl)
 split
 .rename_i hk;have hz:=sS (hx.k8 hk);exact xB λn=>by
   split
   .exact .rfl' s
   split
   .exact .rfl' s
   rename_i h1 h2;have h3:0<=n*x.sz/\n*x.sz<=1048576:=by
    rcases hz with e|e|e|e<;>rw[e]at h2 ⊢
    .have:Int.tdiv 1048576 1=1048576:=by decide
     omega
    .have:Int.tdiv 1048576 2=524288:=by decide
     omega
    .have:Int.tdiv 1048576 4=262144:=by decide
     omega
    have:Int.tdiv 1048576 8=131072:=by decide
    omega
   split
   .exact .same rfl
   exact B7 _ _ _ _ λy hy=>by
    rw[dD.1 hy];exact YS hn (by rw[iI];omega)
 split
 .unfold JP;split
  .exact .rfl' s
  unfold powC;split
  .exact .rfl' s
  exact B7 _ _ _ _ λy hy=>by
   rw[dD.1 hy];exact YS hn (br (Yq _ _ _) (by decide))
 exact .rfl' s
theorem RI {s:SS}(hn:xC s.az){x:RS}(hx:MU x)(n:Int):Al Zd s (ux gJ fS ny s x n).1:=by
 unfold ux;split
 .exact .rfl' s
 exact acF hn hx n
theorem Na {s:SS}(hn:xC s.az){x:RS}(hx:MU x):Al Zd s (pM gJ fS ny s x).1:=by
 unfold pM;split
 .exact RI hn hx 1
 exact xB λn=>by
  split
  .exact .rfl' s
  exact RI hn hx n
theorem acG {s:SS}(hn:xC s.az){x:RS}(hx:MU x):Al Zd s (jW gJ fS ny s x).1:=by
 unfold jW;split
 .split
  .exact YT hn _
  exact(YT hn _).trans (Na (by rw[Fq];exact hn) hx)
 exact Na hn hx
theorem Nb:∀(l:List (List UInt8)) (s:SS),0<=s.az->s.az+l.length<=1000000->Al Zd s (qY l s).1
 |[],s,_,_=>.rfl' s
 |w::l,s,h0,h1=>by
  obtain⟨hx,_⟩:=bd.FH w;simp only[aJ]at h1;have hn:xC (s.az+1):=⟨by omega,by omega⟩;have h:=acG (s:={ s with az:=s.az+1 }) hn hx;have h2:Al Zd s { s with az:=s.az+1 }:=.same rfl;unfold qY;rw[sO];by_cases h3:(gI w).2.1≠0
  .rw[ag h3];exact h2
  rw[aa h3];by_cases h4:(jW gJ fS ny { s with az:=s.az+1 } (gI w).1).2≠0
  .rw[ag h4];exact h2.trans (h.trans (.same rfl))
  rw[aa h4];have e:(jW gJ fS ny { s with az:=s.az+1 } (gI w).1).1.az=s.az+1:=HJ gJ fS ny _ _;exact h2.trans (h.trans (Nb l _ (by rw[e];omega) (by rw[e];omega)))
theorem aiq (l:List (List UInt8))(hl:l.length<=1000000):∀y∈(qX gJ fS ny gI l).1.2.2,CZ y=true/\xC y.1:=by
 by_cases he:(qX gJ fS ny gI l).2.1=0
 .obtain ⟨_,_,e⟩:=JQ gJ fS ny gI he;rw[e];intro y hy;rcases Nb l Fk (bE _) (by show (0:Int)+_<=_;omega) y hy with q|q
  .cases q
  exact q
 rw[XA gJ fS ny gI he];intro y hy;cases hy
end
end Go.Proofs.YtbeckacfibledaaGreatDoor.ps.sr
namespace Go.Proofs.YtbeckacfibledaaGreatDoor.ps.sr
open Go.Tv Go.Ev Go.Px Go.Pp Go.Proofs.YtbeckacfibledaaGreatDoor.ex
noncomputable section
def adY (c:UInt8)(l:List (List UInt8)):List (List UInt8):=if c=10 then []::l else match l with
 |p::ps=>(c::p)::ps
 |[]=>[[c]]
theorem xD (c:UInt8)(r:List UInt8):sl.di (c::r)=adY c (sl.di r):=rfl
theorem FO:∀(a b:List UInt8),sl.di (a++10::b)=sl.di a++sl.di b
 |[],b=>by
  show sl.di (10::b)=[[]]++sl.di b;rw[xD];rfl
 |c::a,b=>by
  have ih:=FO a b;show sl.di (c::(a++10::b))=sl.di (c::a)++sl.di b;rw[xD,xD,ih];unfold adY;by_cases hc:c=10
  .rw[ag hc,ag hc];rfl
  rw[aa hc,aa hc];cases h:sl.di a with
  |nil=>exact absurd h (sl.oZ a)
  |cons p ps=>rfl
theorem PW (a b:List UInt8):jQ (a++10::b)=jQ a++jQ b:=by
 rw[uI,uI,uI,FO,fC]
end
end Go.Proofs.YtbeckacfibledaaGreatDoor.ps.sr
namespace Go.Proofs.YtbeckacfibledaaGreatDoor.ps.sr
open Go.Tv Go.Ev Go.Px Go.Pp Go.Proofs.YtbeckacfibledaaGreatDoor.ex
set_option maxRecDepth 100000
noncomputable section
def w4:List UInt8:=[116,105,109,101]
def w3:List UInt8:=[114,101,115]
def B8:List UInt8->Bool
 |[]=>true
 |c::r=>if 4<=(c::r).length then (if (c::r).take 4=w4\/(c::r).take 3=w3 then false else B8 r) else true
theorem Nc (c:UInt8)(r:List UInt8):B8 (c::r)=if 4<=r.length+1 then (if (c::r).take 4=w4\/(c::r).take 3=w3 then false else B8 r) else true:=rfl
def tR (s:List UInt8):Bool:=decide (s.length<=2000)&&B8 s
def pSh:List Bool:=[true,true,false,true,false]
def acH:ez:=⟨gZ [0,3] pSh,.none,[]⟩
def jSh (s:List UInt8)(r m:Nat)(i:Int):Option AV:=iH X0 c7 acH r 7 pSh (λv _=>some v) m (lq 28 [(0,.str s),(3,.int .i64 i)]) (oY [])
def inS (s:List UInt8)(i j:Int)(k:Option AV):Option AV:=ah (!bB i 0 && !bB j i && !bB s.length j) k none
theorem YU (s:List UInt8)(r m:Nat)(i:Int):jSh s r (m+1) i=ah (!bB s.length (IntKind.wrap .i64 (i+4))) (inS s i (IntKind.wrap .i64 (i+4)) (ah (decide (dX s i (IntKind.wrap .i64 (i+4))=w4)) tF
 (inS s i (IntKind.wrap .i64 (i+3)) (ah (decide (dX s i (IntKind.wrap .i64 (i+3))=w3)) tF (jSh s r m (IntKind.wrap .i64 (i+1))))))) tT:=by kernel_rfl
theorem acI (s:List UInt8)(r:Nat):aT X0 c7 acH r 7 [.str s] aG.empty (λv _=>some v)=ah (bB 2000 s.length) tF (jSh s r r 0):=by kernel_rfl
theorem YV {s:List UInt8}{i j:Int}(h0:0<=i)(h1:i<=j)(h2:j<=s.length)(k:Option AV):inS s i j k=k:=by
 unfold inS;rw[fH (by omega),fH (by omega),fH (by omega)];rfl
theorem air {s:List UInt8}(hs:s.length<=2000)(r:Nat):∀(rest pre:List UInt8) (m:Nat),s=pre++rest->rest.length<m->jSh s r m pre.length=some (.bool (B8 rest)):=by
 intro rest;induction rest with
 |nil =>
  intro pre m he hm;obtain⟨m,rfl⟩:∃m',m=m'+1:=⟨m-1,by simp at hm;omega⟩;have hl:s.length=pre.length:=by rw[he];simp
  rw[YU,i64_in (by omega) (by omega),iP,aa (by omega)];rfl
 |cons c rest ih =>
  intro pre m he hm;obtain⟨m,rfl⟩:∃m',m=m'+1:=⟨m-1,by simp at hm;omega⟩;have hl:s.length=pre.length+(rest.length+1):=by rw[he];simp
  have hin:=ih (pre++[c]) m (by rw[he];simp) (by simp at hm;omega);rw[aA]at hin;have hin:jSh s r m ((pre.length:Int)+1)=some (.bool (B8 rest)):=hin;rw[YU,i64_in (n:=(pre.length:Int)+4) (by omega) (by omega),i64_in (n:=(pre.length:Int)+3) (by omega) (by omega),i64_in (n:=(pre.length:Int)+1) (by omega) (by omega),hin,iP];rw[Nc];by_cases h4:4<=rest.length+1
  .have c4:dX s (pre.length:Int) ((pre.length:Int)+4)=(c::rest).take 4:=by
    unfold dX;rw[show ((pre.length:Int)).toNat=pre.length by omega,show ((pre.length:Int)+4).toNat-pre.length=4 by omega,he,mL]
   have c3:dX s (pre.length:Int) ((pre.length:Int)+3)=(c::rest).take 3:=by
    unfold dX;rw[show ((pre.length:Int)).toNat=pre.length by omega,show ((pre.length:Int)+3).toNat-pre.length=3 by omega,he,mL]
   rw[ag (by omega),ag h4,YV (by omega) (by omega) (by omega),YV (by omega) (by omega) (by omega),c4,c3];by_cases h1:(c::rest).take 4=w4
   .rw[aX h1,ag (.inl h1)];rfl
   rw[aU h1];by_cases h2:(c::rest).take 3=w3
   .rw[aX h2,ag (.inr h2)];rfl
   rw[aU h2,aa (λq=>q.elim h1 h2)]
  rw[aa (by omega),aa h4];rfl
def gSh (args:List AV):Option (Bool×List fy) :=
 match args with
 |[.str s]=>some (true,[.val (.bool (tR s))])
 |_=>none
theorem amq (s:List UInt8):aT X0 c7 acH (s.length+1) 7 [.str s] aG.empty (λv _=>some v)=some (.bool (tR s)):=by
 rw[acI,cF];unfold tR;by_cases h:s.length<=2000
 .rw[aa (by omega),aX h];exact air h _ s [] _ rfl (by omega)
 rw[ag (by omega),aU h];rfl
theorem ais:cZ X0 fR 7 gSh :=
 cR (nk rfl) (qM adW YH adV) λargs rs hg=>by
  unfold gSh at hg;split at hg;case h_2=>cases hg
  rename_i s;simp only[aq,ax]at hg;obtain⟨_,rfl⟩:=hg;exact⟨[.bool (tR s)],acH,s.length+1,amq s,rfl,rfl⟩
def S3:List vW:=(9,[some rO,some rO],gSi)::(10,[some iz,some iz],gSy)::(7,[none],gSh)::S2
theorem amr:iO X0 fR S3:=.cons acA (.cons acD (.cons ais adW))
abbrev c8:cH AV:=cV S3 N4 G7 _
def noW (x:Ls×Int×Int):Bool:=decide (x.2.1=0)&&decide (x.2.2=0)
def PY (x y:List It)(k:Option AV):Option AV:=ah (FR (α:=List It) x y&&(Nat.ble x.length 2000000&&x.all CZ)) k none
def PZ (x y:List Sy)(k:Option AV):Option AV:=ah (FR (α:=List Sy) x y&&Nat.ble x.length 2000000) k none
def JS {α:Type}(l:List α)(n:Nat)(k:List α->Option AV):Option AV:=ah (!bB (n:Int) 0 && !bB (l.length:Int) n) (k (dX l 0 n)) none
def ahT (x y:Ls×Int×Int):Option AV:=ah (!noW x) tT (ah (!noW y) tT (ah (!bB y.1.2.2.length x.1.2.2.length) (ah (!bB y.1.2.1.length x.1.2.1.length)
 (JS y.1.2.2 x.1.2.2.length λl=>PY l x.1.2.2 (JS y.1.2.1 x.1.2.1.length λm=>PZ m x.1.2.1 tT)) tF) tF))
theorem acJ (a b:List UInt8):aT X0 c8 gG 5 3 [.str a,.str b] aG.empty (λv _=>some v)=ah (!tR a) tT (ah (!tR b) tT (ah (Nat.ble a.length 200000)
 (ah (Nat.ble (a.length+1) 9223372036854775807) (ah (Nat.ble ((a++[10]).length+b.length) 9223372036854775807) (ah (Nat.ble (a++[10]++b).length 200000) (ahT (yg a) (yg (a++[10]++b))) none) none) none) none)):=by kernel_rfl
theorem Nf {α:Type}(x l:List α)(k:List α->Option AV):JS (x++l) x.length k=k x:=by
 unfold JS;rw[fH (by omega),fH (by rw[aA];omega)];have:dX (x++l) 0 (x.length:Int)=x:=by
  unfold dX;rw[show ((0:Int)).toNat=0 from rfl,j4,show ((x.length:Int)).toNat-0=x.length by omega,o8]
 rw[this];rfl
theorem Ng {x:List It}(h:x.length<=2000000)(hk:∀y∈x,CZ y=true)(k:Option AV):PY x x k=k:=by
 unfold PY;rw[uJ,dS h,aK.2 hk];rfl
theorem Nh {x:List Sy}(h:x.length<=2000000)(k:Option AV):PZ x x k=k:=by
 unfold PZ;rw[uJ,dS h];rfl
theorem HX {s:List UInt8}(h:tR s=true):s.length<=2000:=by
 unfold tR at h;rw[ak]at h;exact ef h.1
theorem amt (a b:List UInt8):aT X0 c8 gG 5 3 [.str a,.str b] aG.empty (λv _=>some v)=tT:=by
 rw[acJ];cases ha:tR a with
 |false=>rfl
 |true =>
  cases hb:tR b with
  |false=>rfl
  |true =>
   have la:=HX ha;have lb:=HX hb;rw[dS (by omega),dS (by omega),dS (by rw[aA];simp only[aJ,bz];omega),dS (by rw[aA,aA];simp only[aJ,bz];omega)];show ahT (yg a) (yg (a++[10]++b))=tT;unfold ahT;cases h1:noW (yg a) with
   |false=>rfl
   |true =>
    cases h2:noW (yg (a++[10]++b)) with
    |false=>rfl
    |true =>
     unfold noW at h1 h2;rw[ak]at h1 h2;have e1:=ef h1.1;have e2:=ef h2.1;have hl:jQ (a++[10]++b)=jQ a++jQ b:=by rw[bJ];exact PW a b
     have hs:yg (a++[10]++b)=qX gJ fS ny gI (jQ a++jQ b):=by unfold yg;rw[hl]
     rw[hs]at e2 ⊢;obtain⟨⟨l,hi⟩,⟨m,hy⟩⟩:=Tp gJ fS ny gI e1 e2;obtain⟨n1,n2⟩:=acn a;have hk:=λy hy=>(aiq (jQ a) (br (FJ a) (by omega)) y hy).1
     rw[hi,hy];have n1:(qX gJ fS ny gI (jQ a)).1.2.1.length<=2*(a.length+1):=n1;have n2:(qX gJ fS ny gI (jQ a)).1.2.2.length<=20000:=n2;generalize hx:(qX gJ fS ny gI (jQ a)).1=x at n1 n2 hk;rw[Nf,Ng (by omega) hk,Nf,Nh (by omega),fH (by rw[aA];omega),fH (by rw[aA];omega)];rfl
end
end Go.Proofs.YtbeckacfibledaaGreatDoor.ps.sr
