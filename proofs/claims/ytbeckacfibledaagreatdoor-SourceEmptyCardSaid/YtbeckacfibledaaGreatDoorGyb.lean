/- SourceEmpty, as it runs. SourceEmpty: its answer. -/
import Derived.Test.YtbeckacfibledaaGreatDoorGya
set_option linter.unusedVariables false
set_option linter.unusedSimpArgs false

namespace Go.Proofs.YtbeckacfibledaaGreatDoor.ps.sr
open Go.Tv Go.Ev Go.Px Go.Pp Go.Proofs.YtbeckacfibledaaGreatDoor.ex
set_option maxRecDepth 100000
noncomputable section
def pE1:List Bool:=[true,true,true,true,true,true,false,true,false]
def pE2:List Bool:=[true,true,true,true,true,true,true,false,true,false]
def pE3:List Bool:=[true,true,true,true,true,true,true,true,true,true,true,false,true,false]
def anE:ei:=⟨rR (gD [0,1,2,7,9,10,11] pE1) (rR (gD [0,1,2,7,9,10,12] pE2) (gD [1,7,13,15,17] pE3)),.none,[]⟩
def rF (e a:Int):Row:=.cells 43 [.int .i64 e,.int .i64 a]
def wY (s:List UInt8)(n:Int)(u g:List UInt8)(i:Int):fJ:=kr 119 [(0,.str s),(1,.int .i64 n),(2,.str u),(7,.bool true),(9,.ptr 0 0),(10,.str g),(11,.int .i64 i)]
def BK (s:List UInt8)(n:Int)(u g:List UInt8)(i:Int):fJ:=kr 119 [(0,.str s),(1,.int .i64 n),(2,.str u),(7,.bool true),(9,.ptr 0 0),(10,.str g),(12,.int .i64 i)]
def fE3 (n i:Int):fJ:=kr 119 [(1,.int .i64 n),(7,.bool true),(13,.ptr 0 0),(15,.ptr 1 0),(17,.int .i64 i)]
def liC (o:Int)(a b m k:Nat):Row:=.cells 27 [.int .i64 o,.own a m,.own b k]
def mE3 (o:Int)(a:List Sy)(b:List It)(o':Int)(a':List Sy)(b':List It)(k:Nat):aG:=nA [liC o 2 3 a.length b.length,liC o' 4 5 a'.length k,.list 59 gZ a 0 false false,.list 52 qX b 0 false false,.list 59 gZ a' 0 false false,.list 52 qX b' 0 false false]
abbrev lE (p:List Bool)(r m:Nat)(f:fJ)(H:aG):Option AV:=iF X0 c8 anE r 4 p (λv _=>some v) m f H
def jE1 (s:List UInt8)(n:Int)(u:List UInt8)(e a:Int)(r m:Nat)(g:List UInt8)(i:Int):Option AV:=lE pE1 r m (wY s n u g i) (nA [rF e a])
def jE2 (s:List UInt8)(n:Int)(u:List UInt8)(e a:Int)(g:List UInt8)(r m:Nat)(i:Int):Option AV:=lE pE2 r m (BK s n u g i) (nA [rF e a])
def jE3 (n:Int)(x:Ls)(o':Int)(a':List Sy)(r m:Nat)(b':List It)(k:Nat)(i:Int):Option AV:=lE pE3 r m (fE3 n i) (mE3 x.1 x.2.1 x.2.2 o' a' b' k)
def Ki (n:Nat)(k:Option AV):Option AV:=ah (Nat.ble n 9223372036854775807) k none
def Zk (l:List It)(i:Int)(y:It)(n:Int):List It:=l.set i.toNat (n,y.2.1,y.2.2.1,(y.2.2.2.1.1,y.2.2.2.1.2.1,y.2.2.2.1.2.2),y.2.2.2.2.1,y.2.2.2.2.2.1,y.2.2.2.2.2.2)
theorem J4 (s:List UInt8)(n:Int)(u:List UInt8)(e a:Int)(r m:Nat)(g:List UInt8)(i:Int):jE1 s n u e a r (m+1) g i =
 ah (bC i n) (Ki (g.length+2) (Ki ((g++[32,59]).length+u.length) (Ki ((g++[32,59]++u).length+1) (jE1 s n u e a r m (g++[32,59]++u++[10]) (IntKind.wrap .i64 (i+1)))))) (jE2 s n u e a g r r 0):=by kernel_rfl
def emT (n e:Int)(x y:Ls×Int×Int)(k:Option AV):Option AV:=ah (!bI e 0) tF (ah (!bI x.2.1 y.2.1) tF (ah (!bI x.2.1 0) (ah (!bI y.2.2 (IntKind.wrap .i64 (x.2.2+n))) tF k) k))
theorem Zl (s:List UInt8)(n:Int)(u:List UInt8)(e a:Int)(g:List UInt8)(r m:Nat)(i:Int):jE2 s n u e a g r (m+1) i =
 ah (bC i u.length) (Uf u i λc=>ah (bI (cY c) 10) tT (jE2 s n u e a g r m (IntKind.wrap .i64 (i+1))))
  (ah (Nat.ble s.length 200000) (Ki (g.length+s.length) (ah (Nat.ble (g++s).length 200000) (emT n e (nG s) (nG (g++s)) (jE3 n (nG s).1 (nG (g++s)).1.1 (nG (g++s)).1.2.1 r r (nG (g++s)).1.2.2 (nG (g++s)).1.2.2.length 0)) none)) none):=by kernel_rfl
theorem Zm (n:Int)(x:Ls)(o':Int)(a':List Sy)(r m:Nat)(b':List It)(k:Nat)(i:Int):jE3 n x o' a' r (m+1) b' k i =
 ah (bC i k) (Uf b' i λy=>Uf b' i λz=>jE3 n x o' a' r m (Zk b' i z (IntKind.wrap .i64 (y.1-n))) k (IntKind.wrap .i64 (i+1)))
  (ah (bI x.1 o') (Kh x.2.1 a' (Kg x.2.2 b' tT)) tF):=by kernel_rfl
def emA (s u:List UInt8)(n:Int)(r:Nat):Option AV:=ah (!xP s) tT (ah (bC 50 u.length) tT (Ki (2+u.length) (jE1 s n u (eP ([32,59]++u)).2.1 (eP ([32,59]++u)).2.2 r r [] 0)))
theorem aiX (s u:List UInt8)(n:Int)(r:Nat):aT X0 c8 anE r 4 [.str s,.int .i64 n,.str u] aG.empty (λv _=>some v) =
 ah (bC (Int.tmod n 21) 0) (emA s u (IntKind.wrap .i64 (Int.tmod n 21+21)) r) (emA s u (Int.tmod n 21) r):=by kernel_rfl
theorem adg (v:List UInt8)(h:v.length<=900):lt.jZ (32::59::v)=([],0,0):=by
 have e:lt.ql (32::59::v) (32::59::v).length (32::59::v)=([],0,0):=by
  show lt.ql (32::59::v) (v.length+1+1) (32::59::v)=_;rw[lt.ql,ag (by decide),lt.ql,aa (by decide),ag (by decide)]
 unfold lt.jZ;rw[e,aa (by simp only[aJ];omega)];rfl
theorem Uk (n:Int):qa n [] qq=(true,qq):=by rfl
theorem NB (v:List UInt8)(h:v.length<=900):eP (32::59::v)=(qq,0,0):=by
 unfold eP;rw[adg v h,aa (λq=>q rfl)];show (if (qa ((32::59::v).length:Int) [] qq).1=true then _ else _)=_;rw[Uk,ag rfl]
theorem Ul:Quiet qq:=⟨rfl,rfl,rfl⟩
theorem Zn (u:List UInt8):∃v,sl.sL (32::59::u)=32::59::v/\v.length<=u.length:=by
 unfold sl.sL;rw[fL (by simp only[aJ];omega)];show ∃v,ah _ _ _=32::59::v/\_;by_cases hu:u=[]
 .subst hu;exact⟨[],by rfl,aC _⟩
 have hl:0<u.length:=by
  cases u with
  |nil=>exact absurd rfl hu
  |cons a l=>simp
 cases hd:decide (dX (32::59::u) (((32::59::u).length:Int)-1) (32::59::u).length=[13]) with
 |false=>exact⟨u,rfl,aC _⟩
 |true =>
  refine⟨u.take (u.length-1),?_,by rw[bR];omega⟩;show dX (32::59::u) 0 (((32::59::u).length:Int)-1)=_;unfold dX;rw[show ((0:Int)).toNat=0 from rfl,ke,show (((32::59::u).length:Int)-1).toNat-0=(u.length-1)+1+1 by simp only[aJ];omega];rfl
def uS (u:List UInt8):Nat->List UInt8
 |0=>[]
 |n+1=>uS u n++[32,59]++u++[10]
theorem Kj (u:List UInt8):∀n,(uS u n).length=n*(u.length+3)
 |0=>by simp[uS]
 |n+1=>by
  rw[uS,aA,aA,aA,Kj u n,oG];simp only[aJ,bA];omega
theorem Ih {u:List UInt8}(hu:∀c∈u,c≠10)(s:List UInt8):∀(n:Nat) ,iy (uS u n++s)=List.replicate n (sl.sL (32::59::u))++iy s
 |0=>rfl
 |n+1=>by
  have e:uS u (n+1)++s=uS u n++((32::59::u)++10::s):=by
   rw[uS];simp
  rw[e,Ih hu _ n,Qj,sq (32::59::u),FZ _ (λc hc=>by
   rcases bt.1 hc with rfl|hc
   .decide
   rcases bt.1 hc with rfl|hc
   .decide
   exact hu c hc)]
  show _++([sl.sL (32::59::u)]++iy s)=_;rw[<-bM,List.replicate_succ']
theorem aiY {s u:List UInt8}{n:Nat}{e a:Int}{r:Nat}(hu:u.length<=50)(hn:n<=20):∀(d i m:Nat),i+d=n->d<m->jE1 s n u e a r m (uS u i) i=jE2 s n u e a (uS u n) r r 0:=by
 intro d;induction d with
 |zero =>
  intro i m he hm;obtain⟨m,rfl⟩:∃m',m=m'+1:=⟨m-1,by omega⟩;have:i=n:=by omega
  subst this;rw[J4,fL (by omega)]
 |succ d ih =>
  intro i m he hm;obtain⟨m,rfl⟩:∃m',m=m'+1:=⟨m-1,by omega⟩;have hl:=Kj u i;have hb:i*(u.length+3)<=20*53:=pH (by omega) (by omega);have so:∀(q:Nat) (k:Option AV),q<=100000->Ki q k=k:=λq k hq=>by unfold Ki;rw[dS (by omega)]
  have l2:(uS u i++[32,59]).length=(uS u i).length+2:=by simp
  have l3:(uS u i++[32,59]++u).length=(uS u i).length+2+u.length:=by simp;omega
  rw[J4,pZ (by omega),so _ _ (by omega),so _ _ (by omega),so _ _ (by omega),i64_in (by omega) (by omega)];exact ih (i+1) m (by omega) (by omega)
theorem aiZ {s u:List UInt8}{n e a:Int}{g:List UInt8}{r:Nat}(hu:u.length<=50)(hend:(∀c∈u,c≠10)->∀m,jE2 s n u e a g r (m+1) u.length=tT) :
 ∀(rest pre:List UInt8) (m:Nat),u=pre++rest->rest.length<m->(∀c∈pre,c≠10)->jE2 s n u e a g r m pre.length=tT:=by
 intro rest;induction rest with
 |nil =>
  intro pre m he hm hp;obtain⟨m,rfl⟩:∃m',m=m'+1:=⟨m-1,by simp at hm;omega⟩;have e:u=pre:=by rw[he];simp
  have:=hend (by rw[e];exact hp) m;rw[e]at this ⊢;exact this
 |cons c rest ih =>
  intro pre m he hm hp;obtain⟨m,rfl⟩:∃m',m=m'+1:=⟨m-1,by simp at hm;omega⟩;have hl:u.length=pre.length+(rest.length+1):=by rw[he];simp
  have hg:∀k,Uf u (pre.length:Int) k=k c:=λk=>by rw[he];exact Y6 pre rest c k
  rw[Zl,pZ (by omega),hg,cq];by_cases hc:cY c=10
  .rw[ag hc]
  rw[aa hc,i64_in (by omega) (by omega)];have hin:=ih (pre++[c]) m (by rw[he];simp) (by simp at hm;omega) (λx hx=>by
   rcases cz.1 hx with q|q
   .exact hp x q
   rw[cZ.1 q];rintro rfl;exact hc rfl)
  rw[aA]at hin;exact hin
theorem ai0 {n:Int}{x:Ls}{o':Int}{a':List Sy}{r:Nat}(hn:0<=n){Y:List It}(hY:Y.length<=20000)(hx:∀y∈Y,-1000000<=y.1/\y.1<=2000000)(hn2:n<=20)(hend:∀m,jE3 n x o' a' r (m+1) (Y.map (F5 (-n))) Y.length Y.length=tT) :
 ∀(rest pre:List It) (m:Nat),Y=pre++rest->rest.length<m->jE3 n x o' a' r m (pre.map (F5 (-n))++rest) Y.length pre.length=tT:=by
 intro rest;induction rest with
 |nil =>
  intro pre m he hm;obtain⟨m,rfl⟩:∃m',m=m'+1:=⟨m-1,by simp at hm;omega⟩;have e:Y=pre:=by rw[he];simp
  have:=hend m;rw[e]at this ⊢;simpa using this
 |cons y rest ih =>
  intro pre m he hm;obtain⟨m,rfl⟩:∃m',m=m'+1:=⟨m-1,by simp at hm;omega⟩;have hl:Y.length=pre.length+(rest.length+1):=by rw[he];simp
  have hy:=hx y (by rw[he];simp);have A6:(pre.map (F5 (-n))).length=pre.length:=cg ..;have hg:∀k,Uf (pre.map (F5 (-n))++y::rest) (pre.length:Int) k=k y:=λk=>by rw[<-A6];exact Y6 _ rest y k
  have hs:Zk (pre.map (F5 (-n))++y::rest) (pre.length:Int) y (y.1-n)=(pre++[y]).map (F5 (-n))++rest:=by
   unfold Zk;rw[show ((pre.length:Int)).toNat=pre.length by omega,eo,bM];rw[iO _ _ (by omega),A6,mb];rfl
  rw[Zm,pZ (by omega),hg,hg,i64_in (n:=y.1-n) (by omega) (by omega),i64_in (n:=(pre.length:Int)+1) (by omega) (by omega),hs];have hin:=ih (pre++[y]) m (by rw[he];simp) (by simp at hm;omega);rw[aA]at hin;exact hin
theorem Zo (n:Int)(y:It):F5 (-n) (F5 n y)=y:=by
 obtain⟨a,b⟩:=y;show ((a+n + -n,b):It)=(a,b);rw[show a+n + -n=a by omega]
theorem F1:∀(l:List (List UInt8)) (s:SS),s.au<=(oq l s).1.au/\(oq l s).1.au<=s.au+l.length
 |[],s=>⟨bB _,by show s.au<=s.au+0;omega⟩
 |w::l,s=>by
  unfold oq;rw[oU];simp only[aJ];by_cases h3:(eP w).2.1≠0
  .rw[ag h3];show s.au<=s.au+1/\s.au+1<=_;omega
  rw[aa h3];by_cases h4:(iu gz fP mD { s with au:=s.au+1 } (eP w).1).2≠0
  .rw[ag h4];show s.au<=s.au+1/\s.au+1<=_;omega
  rw[aa h4];have ih:=F1 l (iu gz fP mD { s with au:=s.au+1 } (eP w).1).1;have e:(iu gz fP mD { s with au:=s.au+1 } (eP w).1).1.au=s.au+1:=Cd gz fP mD _ _;unfold oq at ih;rw[e]at ih;omega
theorem Zp (s:List UInt8)(h:s.length<=2000):(∀y∈(nG s).1.2.2,0<=y.1/\y.1<=1000000)/\0<=(nG s).2.2/\(nG s).2.2<=s.length+1:=by
 have hl:=F1 (iy s) ye;have hn:=zE s;have h0:ye.au=0:=rfl;rw[h0]at hl;refine⟨λy hy=>(Zg (iy s) (by omega) y hy).2,?_⟩;have hl:0<=(gj gz fP mD eP (iy s) ye).1.au/\(gj gz fP mD eP (iy s) ye).1.au<=0+(iy s).length:=hl;have:(nG s).2.2=0\/(nG s).2.2=(gj gz fP mD eP (iy s) ye).1.au:=by
  show (pW gz fP mD eP (iy s)).2.2=0\/(pW gz fP mD eP (iy s)).2.2=_;unfold pW;split
  .exact .inr rfl
  split
  .exact .inr rfl
  exact .inl rfl
 rcases this with h|h<;>rw[h]<;>omega
theorem Ya (s u:List UInt8){n:Nat}(hn:n<=20){r:Nat}(hr:30000<r):emA s u n r=tT:=by
 unfold emA;cases hs:xP s with
 |false=>rfl
 |true =>
  have ls:=Uj hs;show ah (bC 50 u.length) _ _=tT;rw[cA];by_cases hu:(50:Int)<u.length
  .rw[ag hu]
  rw[aa hu];have so:∀(q:Nat) (k:Option AV),q<=100000->Ki q k=k:=λq k hq=>by unfold Ki;rw[dS (by omega)]
  have e0:eP ([32,59]++u)=(qq,0,0):=NB u (by omega);rw[so _ _ (by omega),e0];have e1:=aiY (s:=s) (u:=u) (n:=n) (e:=0) (a:=0) (r:=r) (by omega) hn n 0 r (by omega) (by omega);refine Eq.trans (show jE1 s n u 0 0 r r [] 0=_ from e1) ?_;refine aiZ (by omega) (λhnl m=>?_) u [] r rfl (by omega) (λc hc=>by cases hc);have hb:n*(u.length+3)<=20*53:=pH (by omega) (by omega);have hg:=Kj u n;rw[Zl,fL (by omega),dS (by omega),so _ _ (by omega),dS (by rw[aA];omega)];obtain⟨v,hv,hv2⟩:=Zn u
  have hq:(eP (32::59::v)).2.1=0/\Quiet (eP (32::59::v)).1:=by rw[NB v (by omega)];exact⟨rfl,Ul⟩
  obtain⟨h1,h2,h3⟩:=TM gz fP mD eP hq.1 hq.2 (iy s) n;have hl:nG (uS u n++s)=pW gz fP mD eP (List.replicate n (32::59::v)++iy s):=by
   unfold nG;rw[Ih hnl s n,hv]
  rw[<-hl]at h1 h2 h3;obtain⟨b1,b2⟩:=acU s;obtain⟨c1,c2,c3⟩:=Zp s ls;have hk:∀y∈(nG s).1.2.2,Ck y=true:=λy hy=>(Zg (iy s) (br (zE s) (by omega)) y hy).1
  show emT (n:Int) 0 (nG s) (nG (uS u n++s)) _=tT;have hrest:jE3 (n:Int) (nG s).1 (nG (uS u n++s)).1.1 (nG (uS u n++s)).1.2.1 r r (nG (uS u n++s)).1.2.2 (nG (uS u n++s)).1.2.2.length 0=tT:=by
   rw[h3];have hY:((nG s).1.2.2.map (F5 n)).length<=20000:=by rw[cg];exact b2
   refine ai0 (n:=(n:Int)) (by omega) hY (λy hy=>?_) (by omega) (λm=>?_) ((nG s).1.2.2.map (F5 n)) [] r rfl (by omega)
   .obtain ⟨x,hx,rfl⟩:=bW.1 hy;obtain⟨q1,q2⟩:=c1 x hx;show -1000000<=x.1+(n:Int)/\x.1+(n:Int)<=2000000;omega
   have Yf:((nG s).1.2.2.map (F5 n)).map (F5 (-n))=(nG s).1.2.2:=by
    rw[j8];have:(F5 (-n)∘F5 n)=id:=by funext y;exact Zo n y
    rw[this,List.map_id]
   rw[Yf,Zm,fL (by omega),cq,ag rfl];show Kh _ _ (Kg _ _ tT)=tT;rw[Nz (by omega)];exact Ny (by omega) hk _
  unfold emT;rw[cn,ag rfl,cn,ag h1.symm,cn,hrest];by_cases hz:(nG s).2.1=0
  .rw[ag hz]
  rw[aa hz,cn,h2 hz,i64_in (by omega) (by omega),ag rfl]
theorem amX (s u:List UInt8)(n:Int){r:Nat}(hr:30000<r):aT X0 c8 anE r 4 [.str s,.int .i64 n,.str u] aG.empty (λv _=>some v)=tT:=by
 rw[aiX,cA];have h : -21<Int.tmod n 21/\Int.tmod n 21<21:=by
  rw[Int.tmod_eq_emod];split<;>omega
 by_cases h0:Int.tmod n 21<0
 .rw[ag h0,i64_in (by omega) (by omega)];have:=Ya s u (n:=(Int.tmod n 21+21).toNat) (by omega) hr;rw[show (((Int.tmod n 21+21).toNat:Nat):Int)=Int.tmod n 21+21 by omega]at this;exact this
 rw[aa h0];have:=Ya s u (n:=(Int.tmod n 21).toNat) (by omega) hr;rw[show (((Int.tmod n 21).toNat:Nat):Int)=Int.tmod n 21 by omega]at this;exact this
end
end Go.Proofs.YtbeckacfibledaaGreatDoor.ps.sr
