/- Tokens: bytes. -/
import Derived.Test.YtbeckacfibledaaGreatDoorGra
set_option linter.unusedVariables false
set_option linter.unusedSimpArgs false

namespace Go.Proofs.YtbeckacfibledaaGreatDoor.lt
open Go.Tv Go.Ev
set_option maxRecDepth 100000
def kK (n:Int):Bool:=decide (97<=n/\n<=122\/65<=n/\n<=90\/n=95\/n=46)
def rD (n:Int):Bool:=kK n||decide (48<=n/\n<=57)
def uf (n:Int):Bool:=decide (32<=n/\n<=126)
theorem aou (gv:Nat->aI)(n:Int):aT (Xg gv) (c0 gv AV) gC 5 26 [.int .u8 n] aH.empty (λv _=>some v)=some (.bool (kK n)):=by
 have h:aT (Xg gv) (c0 gv AV) gC 5 26 [.int .u8 n] aH.empty (λv _=>some v)=zT n 97 122 (some (.bool true)) (zT n 65 90 (some (.bool true)) (ah (bS n 95) (some (.bool true)) (some (.bool (bS n 46))))):=by kernel_rfl
 rw[h];simp only[F2,cH];unfold kK;split
 .rw[bg (by omega)]
 split
 .rw[bg (by omega)]
 split
 .rw[bg (by omega)]
 refine bO (λx=>some (AV.bool x)) ?_;rw[fD,bX,fL,aZ];omega
theorem aov (gv:Nat->aI)(n:Int):aT (Xg gv) (c0 gv AV) gC 5 63 [.int .u8 n] aH.empty (λv _=>some v)=some (.bool (uf n)):=by
 have h:aT (Xg gv) (c0 gv AV) gC 5 63 [.int .u8 n] aH.empty (λv _=>some v)=ah (!bN n 32) (some (.bool (!bN 126 n))) (some (.bool false)):=by kernel_rfl
 rw[h,jM];unfold uf;split
 .refine bO (λx=>some (AV.bool x)) ?_;rw[dc,bX,aU,bJ,aZ];omega
 rw[aY (by omega)]
noncomputable def gBy (p:Int->Bool)(args:aI):Option (Bool×List gj) :=
 match args with
 |[.int .u8 n]=>some (true,[.val (.bool (p n))])
 |_=>none
theorem QW {gv:Nat->aI}{call:∀ β,dz β}(a:∀ β,dO (Xg gv) (eM (Xg gv) kn) (call β)){f:FuncId}(c:inl f=true){p:Int->Bool}(h:∀n,aT (Xg gv) (call AV) gC 5 f [.int .u8 n] aH.empty (λv _=>some v)=some (.bool (p n))):dQ (Xg gv) (eM (Xg gv) kn) f (gBy p) :=
 dG (λargs=>cn c args) a λargs rs b=>by
  unfold gBy at b;split at b
  .rename_i n;simp only[aq,az]at b;obtain⟨d,rfl⟩:=b;exact⟨[.bool (p n)],gC,5,h n,rfl,rfl⟩
  cases b
theorem age (gv:Nat->aI):dQ (Xg gv) (eM (Xg gv) kn) 26 (gBy kK):=QW (BP gv) rfl (aou gv)
theorem aow (gv:Nat->aI):dQ (Xg gv) (eM (Xg gv) kn) 63 (gBy uf):=QW (BP gv) rfl (aov gv)
noncomputable def M1:List xw:=[(26,[none],gBy kK),(63,[none],gBy uf)]
theorem agf (gv:Nat->aI):jy (Xg gv) (eM (Xg gv) kn) M1:=.cons (age gv) (.cons (aow gv) .nil)
noncomputable def d1 (gv:Nat->aI)(β:Type):dz β:=uc (Xg gv) (Wv M1) inl 200 β 20
theorem aox (gv:Nat->aI)(β:Type):dO (Xg gv) (eM (Xg gv) kn) (d1 gv β):=mM (agf gv) (λf h args=>cn h args) 200 20 β
theorem aoy (gv:Nat->aI)(n:Int):aT (Xg gv) (d1 gv AV) gC 5 58 [.int .u8 n] aH.empty (λv _=>some v)=some (.bool (rD n)):=by
 have h:aT (Xg gv) (d1 gv AV) gC 5 58 [.int .u8 n] aH.empty (λv _=>some v)=ah (kK n) (some (.bool true)) (ah (!bN n 48) (some (.bool (!bN 57 n))) (some (.bool false))):=by kernel_rfl
 rw[h,ay,jM];unfold rD;split
 .rename_i a;rw[a];rfl
 rename_i a;have a:kK n=false:=by simpa using a
 rw[a,Bool.false_or];split
 .refine bO (λx=>some (AV.bool x)) ?_;rw[dc,bX,aU,bJ,aZ];omega
 rw[aY (by omega)]
theorem aoz (gv:Nat->aI):dQ (Xg gv) (eM (Xg gv) kn) 58 (gBy rD):=QW (aox gv) rfl (aoy gv)
noncomputable def M2:List xw:=(58,[none],gBy rD)::M1
theorem agh (gv:Nat->aI):jy (Xg gv) (eM (Xg gv) kn) M2:=.cons (aoz gv) (agf gv)
noncomputable def d2 (gv:Nat->aI)(β:Type):dz β:=uc (Xg gv) (Wv M2) inl 200 β 20
theorem YM (gv:Nat->aI)(β:Type):dO (Xg gv) (eM (Xg gv) kn) (d2 gv β):=mM (agh gv) (λf h args=>cn h args) 200 20 β
abbrev Cut:=au×Int×Int×Int
noncomputable def fG (r:Cut):bx:=some (.gI [.str r.1,.int .i64 r.2.1,.agg [.int .i64 r.2.2.1,.int .i64 r.2.2.2]])
def pNm:eJ:=[true,true,false,false]
def pTx:eJ:=[true,false,true,false]
noncomputable def K9:fe:=⟨iM [0,1,6,7] pNm,.none,[]⟩
noncomputable def aiQ:fe:=⟨iM [0,1,6,7] pTx,.none,[]⟩
noncomputable def La (k:Nat)(s:au)(a e:Int):gJ:=lS k [(0,.str s),(1,.int .i64 a),(6,.ptr 0 0),(7,.int .i64 e)]
noncomputable def jNm (gv:Nat->aI)(s:au)(a:Int)(r m:Nat)(e:Int):bx:=jo (Xg gv) (d2 gv AV) K9 r 27 pNm (λv _=>some v) m (La 33 s a e) mT
noncomputable def jTx (gv:Nat->aI)(s:au)(a:Int)(r m:Nat)(e:Int):bx:=jo (Xg gv) (d2 gv AV) aiQ r 29 pTx (λv _=>some v) m (La 40 s a e) mT
noncomputable def Tb (s:au)(a e:Int):bx:=ah (!bN a 0 && !bN e a && !bN ↑s.length e) (fG (dZ s a e,e,0,0)) none
noncomputable def QX (s:au)(a e:Int)(go:Int->bx):bx :=
 ah (bN e ↑s.length)
  (Option.rec (motive:=λ_=>bx) none (λc=>ah (rD (cS c)) (ah (bS (IntKind.wrap .i64 (e-a)) 60) (fG ([],0,3,e)) (go (IntKind.wrap .i64 (e+1)))) (Tb s a e)) (eL s e))
  (Tb s a e)
noncomputable def QZ (s:au)(a e:Int)(go:Int->bx):bx :=
 ah (bN e ↑s.length)
  (Option.rec (motive:=λ_=>bx) none (λc=>ah (bS (cS c) 34)
   (ah (!bN (IntKind.wrap .i64 (a+1)) 0 && !bN e (IntKind.wrap .i64 (a+1)) && !bN ↑s.length e) (fG (dZ s (IntKind.wrap .i64 (a+1)) e,IntKind.wrap .i64 (e+1),0,0)) none)
   (Option.rec (motive:=λ_=>bx) none (λc=>ah (!uf (cS c)) (fG ([],0,4,e)) (go (IntKind.wrap .i64 (e+1)))) (eL s e))) (eL s e))
  (fG ([],0,4,↑s.length))
theorem wR (gv:Nat->aI)(s:au)(a:Int)(r m:Nat)(e:Int):jNm gv s a r (m+1) e=QX s a e (jNm gv s a r m):=by kernel_rfl
theorem YN (gv:Nat->aI)(s:au)(a:Int)(r m:Nat)(e:Int):jTx gv s a r (m+1) e=QZ s a e (jTx gv s a r m):=by kernel_rfl
theorem Lb (gv:Nat->aI)(s:au)(a:Int)(m:Nat):aT (Xg gv) (d2 gv AV) K9 m 27 [.str s,.int .i64 a] aH.empty (λv _=>some v)=jNm gv s a m m a:=by kernel_rfl
theorem adi (gv:Nat->aI)(s:au)(a:Int)(m:Nat):aT (Xg gv) (d2 gv AV) aiQ m 29 [.str s,.int .i64 a] aH.empty (λv _=>some v)=jTx gv s a m m (IntKind.wrap .i64 (a+1)):=by kernel_rfl
def jN (s:au)(a:Nat):au->Nat->Cut
 |[],e=>(dZ s a e,e,0,0)
 |c::r,e=>if rD (cS c) then (if e=a+60 then ([],0,3,e) else jN s a r (e+1)) else (dZ s a e,e,0,0)
def iH (s:au)(a:Nat):au->Nat->Cut
 |[],_=>([],0,4,s.length)
 |c::r,e=>if cS c=34 then (dZ s (a+1) e,e+1,0,0) else if uf (cS c) then iH s a r (e+1) else ([],0,4,e)
theorem N9 (s:au)(a e:Nat)(h:a<=e)(b:e<=s.length):Tb s a e=fG (dZ s a e,e,0,0):=by
 unfold Tb;rw[gB (by omega),gB (by omega),gB (by omega)];rfl
theorem aiR (gv:Nat->aI)(s:au)(l:s.length<2000000)(a r:Nat):∀(rest pre:au) (m:Nat),s=pre++rest->rest.length<m->a<=pre.length ->
 jNm gv s a r m pre.length=fG (jN s a rest pre.length):=by
 intro rest;induction rest with
 |nil =>
  intro pre m d e f;obtain⟨m,rfl⟩:∃g,m=g+1:=⟨m-1,by simp at e;omega⟩;have i:s.length=pre.length:=by rw[d];simp
  rw[wR];unfold QX;rw[gB (by omega),N9 s a _ f (by omega)];rfl
 |cons c rest j =>
  intro pre m d e f;obtain⟨m,rfl⟩:∃g,m=g+1:=⟨m-1,by simp at e;omega⟩;have i:s.length=pre.length+(rest.length+1):=by rw[d];simp
  have k:eL s (pre.length:Int)=some c:=by rw[d];exact mc pre rest c
  have b:IntKind.wrap .i64 ((pre.length:Int)+1)=((pre++[c]).length:Int):=by rw[i64_in (by omega) (by omega)];simp
  rw[wR];unfold QX;rw[rC (by omega),k,N9 s a _ f (by omega),b,i64_in (n:=(pre.length:Int)-a) (by omega) (by omega)];show ah (rD (cS c)) (ah (bS ((pre.length:Int)-a) 60) _ (jNm gv s a r m ((pre++[c]).length:Int))) _=_;rw[jN,ay];split
  .by_cases h:pre.length=a+60
   .rw[HX (by omega),ag h]
   rw[y9 (by omega),aa h];show jNm gv s a r m ((pre++[c]).length:Int)=_;rw[j (pre++[c]) m (by rw[d];simp) (by simp at e;omega) (by simp;omega),aA,fh]
  rfl
theorem aiS (gv:Nat->aI)(s:au)(p:s.length<2000000)(a r:Nat):∀(rest pre:au) (m:Nat),s=pre++rest->rest.length<m->a+1<=pre.length ->
 jTx gv s a r m pre.length=fG (iH s a rest pre.length):=by
 intro rest;induction rest with
 |nil =>
  intro pre m e f i;obtain⟨m,rfl⟩:∃h,m=h+1:=⟨m-1,by simp at f;omega⟩;have j:s.length=pre.length:=by rw[e];simp
  rw[YN];unfold QZ;rw[gB (by omega)];rfl
 |cons c rest k =>
  intro pre m e f i;obtain⟨m,rfl⟩:∃h,m=h+1:=⟨m-1,by simp at f;omega⟩;have j:s.length=pre.length+(rest.length+1):=by rw[e];simp
  have l:eL s (pre.length:Int)=some c:=by rw[e];exact mc pre rest c
  have d:IntKind.wrap .i64 ((pre.length:Int)+1)=((pre++[c]).length:Int):=by rw[i64_in (by omega) (by omega)];simp
  rw[YN];unfold QZ;rw[rC (by omega),l,d,i64_in (n:=(a:Int)+1) (by omega) (by omega),gB (a:=(a:Int)+1) (by omega),gB (a:=(pre.length:Int)) (b:=(a:Int)+1) (by omega),gB (a:=(s.length:Int)) (by omega)];show ah (bS (cS c) 34) (fG (dZ s ((a:Int)+1) (pre.length:Int),((pre++[c]).length:Int),0,0)) (ah (!uf (cS c)) _ (jTx gv s a r m ((pre++[c]).length:Int)))=_;rw[iH];by_cases g:cS c=34
  .rw[HX g,ag g,aA,fh];rfl
  rw[y9 g,aa g];show ah (!uf (cS c)) _ _=_;cases o:uf (cS c)
  .rfl
  show jTx gv s a r m ((pre++[c]).length:Int)=_;rw[ag rfl,k (pre++[c]) m (by rw[e];simp) (by simp at f;omega) (by simp;omega),aA,fh]
def iE (s:au)(a:Nat):Cut:=jN s a (s.drop a) a
def vk (s:au)(a:Nat):Cut:=iH s a (s.drop (a+1)) (a+1)
theorem aoA (gv:Nat->aI)(s:au)(b:s.length<2000000)(a:Nat)(d:a<s.length) :
 aT (Xg gv) (d2 gv AV) K9 (s.length+1) 27 [.str s,.int .i64 a] aH.empty (λv _=>some v)=fG (iE s a):=by
 rw[Lb];have c:(s.take a).length=a:=by simp;omega
 have:=aiR gv s b a (s.length+1) (s.drop a) (s.take a) (s.length+1) (by simp) (by simp;omega) (by omega);rw[c]at this;exact this
theorem aoB (gv:Nat->aI)(s:au)(b:s.length<2000000)(a:Nat)(d:a<s.length) :
 aT (Xg gv) (d2 gv AV) aiQ (s.length+1) 29 [.str s,.int .i64 a] aH.empty (λv _=>some v)=fG (vk s a):=by
 rw[adi,i64_in (by omega) (by omega)];have c:(s.take (a+1)).length=a+1:=by simp;omega
 have:=aiS gv s b a (s.length+1) (s.drop (a+1)) (s.take (a+1)) (s.length+1) (by simp) (by simp;omega) (by omega);rw[c]at this;exact this
noncomputable def Lc (f:au->Nat->Cut)(args:aI):Option (Bool×List gj) :=
 match args with
 |[.str s,.int .i64 a]=>some (!bN a 0&&bN a ↑s.length&&Nat.ble s.length 1999999,[.val (.str (f s a.toNat).1),.val (.int .i64 (f s a.toNat).2.1),.val (.agg [.int .i64 (f s a.toNat).2.2.1,.int .i64 (f s a.toNat).2.2.2])])
 |_=>none
theorem Tc {gv:Nat->aI}{id:FuncId}(c:inl id=true){an:fe}{f:au->Nat->Cut}(h:∀(s:au),s.length<2000000->∀a:Nat,a<s.length->aT (Xg gv) (d2 gv AV) an (s.length+1) id [.str s,.int .i64 a] aH.empty (λv _=>some v)=fG (f s a)):dQ (Xg gv) (eM (Xg gv) kn) id (Lc f) :=
 dG (λargs=>cn c args) (YM gv) λargs rs b=>by
  unfold Lc at b;split at b
  .rename_i s a;simp only[aq,az,ak,dc,aU,bJ,aZ,bF]at b;obtain⟨⟨⟨d,e⟩,g⟩,rfl⟩:=b;obtain⟨n,rfl⟩:∃n:Nat,a=n:=⟨a.toNat,by omega⟩;rw[bf];exact⟨[.str (f s n).1,.int .i64 (f s n).2.1,.agg [.int .i64 (f s n).2.2.1,.int .i64 (f s n).2.2.2]],an,s.length+1,h s (by omega) n (by omega),rfl,rfl⟩
  cases b
theorem aoC (gv:Nat->aI):dQ (Xg gv) (eM (Xg gv) kn) 27 (Lc iE):=Tc rfl (aoA gv)
theorem aoD (gv:Nat->aI):dQ (Xg gv) (eM (Xg gv) kn) 29 (Lc vk):=Tc rfl (aoB gv)
def preB (s p:au):Bool:=decide (s.take p.length=p)
theorem aoE (gv:Nat->aI)(s p:au):aT (Xg gv) (d2 gv AV) gC 5 64 [.str s,.str p] aH.empty (λv _=>some v)=some (.bool (preB s p)):=by
 have h:aT (Xg gv) (d2 gv AV) gC 5 64 [.str s,.str p] aH.empty (λv _=>some v)=ah (!bN ↑s.length ↑p.length) (ah (!bN ↑p.length 0 && !bN ↑s.length ↑p.length) (some (.bool (decide (dZ s 0 ↑p.length=p)))) none) (some (.bool false)):=by kernel_rfl
 rw[h,jM];unfold preB;split
 .rw[gB (by omega),gB (by omega)];show some (AV.bool (decide (dZ s 0 ↑p.length=p)))=_;have e:dZ s 0 (p.length:Int)=s.take p.length:=by unfold dZ;simp
  rw[e]
 rw[aY];intro a;have:=bO List.length a;simp only[bV]at this;omega
noncomputable def adj (args:aI):Option (Bool×List gj) :=
 match args with
 |[.str s,.str p]=>some (true,[.val (.bool (preB s p))])
 |_=>none
theorem agi (gv:Nat->aI):dQ (Xg gv) (eM (Xg gv) kn) 64 adj :=
 dG (λargs=>cn rfl args) (YM gv) λargs rs a=>by
  unfold adj at a;split at a
  .rename_i s p;simp only[aq,az]at a;obtain⟨b,rfl⟩:=a;exact⟨[.bool (preB s p)],gC,5,aoE gv s p,rfl,rfl⟩
  cases a
noncomputable def M3:List xw:=(64,[none,none],adj)::M2
theorem Td (gv:Nat->aI):jy (Xg gv) (eM (Xg gv) kn) M3:=.cons (agi gv) (agh gv)
noncomputable def d3 (gv:Nat->aI)(β:Type):dz β:=uc (Xg gv) (Wv M3) inl 200 β 20
theorem aoF (gv:Nat->aI)(β:Type):dO (Xg gv) (eM (Xg gv) kn) (d3 gv β):=mM (Td gv) (λf h args=>cn h args) 200 20 β
def yj:cA:=[[36,36],[60,60],[62,62],[43],[45],[42],[47],[37],[38],[124],[94],[126],[40],[41],[91],[93],[44],[58],[36]]
noncomputable def Te (s:au)(a:Int):cA->bx
 |[]=>fG ([],0,4,a)
 |g::r=>ah (!bN a 0 && !bN ↑s.length a) (ah (preB (dZ s a ↑s.length) g) (fG (g,IntKind.wrap .i64 (a + ↑g.length),0,0)) (Te s a r)) none
def oN (s:au)(a:Nat):cA->Cut
 |[]=>([],0,4,a)
 |g::r=>if preB (s.drop a) g then (g,a+g.length,0,0) else oN s a r
def uT (s:au)(a:Nat):Cut:=oN s a yj
theorem YP (s:au)(a:Int):aT (Xg C6) (d3 C6 AV) gC 20 30 [.str s,.int .i64 a] aH.empty (λv _=>some v)=Te s a yj:=by kernel_rfl
theorem Oa (s:au)(a:Nat):dZ s (a:Int) (s.length:Int)=s.drop a:=by
 unfold dZ;simp only[bf];exact cz (by simp)
theorem YQ (s:au)(d:s.length<2000000)(a:Nat)(e:a<s.length):∀l:cA,(∀g∈l,g.length<3)->Te s a l=fG (oN s a l):=by
 intro l;induction l with
 |nil=>intro _;rfl
 |cons g r c =>
  intro b;have f:=b g (cq ..);rw[Te,oN,gB (by omega),gB (by omega),Oa,i64_in (by omega) (by omega)];show ah (preB (s.drop a) g) _ _=_;rw[ay,c λg h=>b g (bI _ h)];split<;>rfl
theorem adk (s:au)(b:s.length<2000000)(a:Nat)(c:a<s.length):aT (Xg C6) (d3 C6 AV) gC 20 30 [.str s,.int .i64 a] aH.empty (λv _=>some v)=fG (uT s a):=by
 rw[YP];exact YQ s b a c yj (by decide)
theorem aoG:dQ (Xg C6) (eM (Xg C6) kn) 30 (Lc uT) :=
 dG (λargs=>cn rfl args) (aoF C6) λargs rs b=>by
  unfold Lc at b;split at b
  .rename_i s a;simp only[aq,az,ak,dc,aU,bJ,aZ,bF]at b;obtain⟨⟨⟨c,d⟩,e⟩,rfl⟩:=b;obtain⟨n,rfl⟩:∃n:Nat,a=n:=⟨a.toNat,by omega⟩;rw[bf];exact⟨[.str (uT s n).1,.int .i64 (uT s n).2.1,.agg [.int .i64 (uT s n).2.2.1,.int .i64 (uT s n).2.2.2]],gC,20,adk s (by omega) n (by omega),rfl,rfl⟩
  cases b
noncomputable def M5:List xw:=[(26,[none],gBy kK),(27,[none,none],Lc iE),(29,[none,none],Lc vk),(30,[none,none],Lc uT),(28,[none,none],YL)]
theorem I8:jy (Xg C6) (eM (Xg C6) kn) M5:=.cons (age C6) (.cons (aoC C6) (.cons (aoD C6) (.cons aoG (.cons (aot C6) .nil))))
noncomputable def d5 (β:Type):dz β:=uc (Xg C6) (Wv M5) inl 200 β 20
theorem aoH (β:Type):dO (Xg C6) (eM (Xg C6) kn) (d5 β):=mM I8 (λf h args=>cn h args) 200 20 β
def pLx:eJ:=[true,true,true,false,true,false]
noncomputable def Vl:fe:=⟨iM [0,3,4,5] pLx,.none,[]⟩
noncomputable def wS (v:AV)(H:aH):Option (AV×Option Row) :=
 match v with
 |.gI (.own i _::_)=>some (v,H.get i)
 |_=>some (v,none)
theorem adl {X:ji}{kn:Ev.fZ}{f:FuncId}(e:∀args,kn f args=none){g:aI->Option (Bool×List gj)}{call:∀ β,dz β}(a:∀ β,dO X (eM X kn) (call β))
 (h:∀args rs,g args=some (true,rs)->∃vs an rounds o,aT X (call (AV×Option Row)) an rounds f args aH.empty wS=some (tf vs,o)/\∀H:aH,wS (tf vs) H=some (tf vs,o)->uQ H [] vs rs):dQ X (eM X kn) f g:=by
 intro args rs i;obtain⟨vs,an,rounds,o,j,k⟩:=h args rs i;obtain⟨v',d,b,k2⟩:=mH (nf:=false) (a _) (λh=>by cases h) j;have l:v'=tf vs:=by
  unfold wS at b;split at b<;>exact(lg (bT b)).1
 subst l;refine⟨vs,d,λS E m n c p=>?_,k d b⟩;obtain⟨S',q,E',a1,a2,r,s,_⟩:=k2 S E m n c p;exact⟨S',q,E',iy e a1,EA a2,r,s⟩
abbrev eE:Ty:=.pair (.int .i64) (.pair (.int .i64) (.pair .str (.int .i64)))
abbrev Piece:=Int×Int×au×Int
abbrev mN:=Option (AV×Option Row)
noncomputable def aoI (s:au)(out:AV)(left:au):gJ:=lS 107 [(0,.str s),(3,.ptr 0 0),(4,out),(5,.str left)]
noncomputable def jL0 (s:au)(r m:Nat)(left:au):mN:=jo (Xg C6) (d5 (AV×Option Row)) Vl r 18 pLx wS m (aoI s .eB left) mT
noncomputable def jL1 (s:au)(r m:Nat)(out:List Piece)(k:Nat)(left:au):mN:=jo (Xg C6) (d5 (AV×Option Row)) Vl r 18 pLx wS m (aoI s (.own 1 k) left) (oL [.cells 43 [.int .i64 0,.int .i64 0],.list 81 eE out 0 false false])
noncomputable def Gb (f a:Int):mN:=some (.gI [.eB,.agg [.int .i64 f,.int .i64 a]],none)
noncomputable def YR (out:List Piece)(k:Nat):mN:=some (.gI [.own 1 k,.agg [.int .i64 0,.int .i64 0]],some (.list 81 eE out 0 false false))
noncomputable def rP (s left:au):Int:=IntKind.wrap .i64 (↑s.length - ↑left.length)
noncomputable def sn (s:au)(e f a:Int)(p:Piece)(room:mN->mN)(go:Piece->au->mN):mN :=
 ah (!bS f 0) (Gb f a) (room (ah (!bN e 0 && !bN ↑s.length e) (go p (dZ s e ↑s.length)) none))
noncomputable def Vm (s left:au)(kind:Int)(r:Cut)(room:mN->mN)(go:Piece->au->mN):mN :=
 ah (!bN (rP s left) 0&&bN (rP s left) ↑s.length&&Nat.ble s.length 1999999) (sn s r.2.1 r.2.2.1 r.2.2.2 (kind,0,r.1,rP s left) room go) none
noncomputable def Vn (s left:au)(room:mN->mN)(go:Piece->au->mN):mN :=
 ah (Nat.ble s.length 1999999) (sn s (jq s (rP s left)).2.1 (jq s (rP s left)).2.2.1 (jq s (rP s left)).2.2.2 (2,(jq s (rP s left)).1,[],rP s left) room go) none
noncomputable def DL (s left:au)(c:UInt8)(room:mN->mN)(go:Piece->au->mN):mN :=
 ah (bS (cS c) 39) (Vn s left room go) (ah (bS (cS c) 34) (Vm s left 3 (vk s (rP s left).toNat) room go) (Vm s left 4 (uT s (rP s left).toNat) room go))
noncomputable def Ld (left:au)(skip:au->mN):mN:=ah (!bN 1 0 && !bN ↑left.length 1) (skip (dZ left 1 ↑left.length)) none
noncomputable def Tf (s left:au)(done:mN)(skip:au->mN)(room:mN->mN)(go:Piece->au->mN):mN :=
 ah (!decide (left=[])) (Option.rec (motive:=λ_=>mN) none (λc =>
  ah (bS (cS c) 32) (Ld left skip) (ah (bS (cS c) 9) (Ld left skip) (ah (bS (cS c) 59) (skip [])
   (ah (kK (cS c)) (Vm s left 1 (iE s (rP s left).toNat) room go) (ah (!bN (cS c) 48) (ah (!bN 57 (cS c)) (Vn s left room go) (DL s left c room go)) (DL s left c room go)))))) (eL left 0)) done
noncomputable def agj (out:List Piece)(x:mN):mN:=ah (Nat.ble (out.length+1) 2000000) x none
theorem Q0 (s:au)(r m:Nat)(left:au):jL0 s r (m+1) left=Tf s left (Gb 0 0) (jL0 s r m) (λx=>x) (λp=>jL1 s r m [p] 1):=by kernel_rfl
theorem Q1 (s:au)(r m:Nat)(out:List Piece)(k:Nat)(left:au):jL1 s r (m+1) out k left=Tf s left (YR out k) (jL1 s r m out k) (agj out) (λp=>jL1 s r m (out++[p]) (out.length+1)):=by kernel_rfl
theorem aiT (s:au)(m:Nat):aT (Xg C6) (d5 (AV×Option Row)) Vl m 18 [.str s] aH.empty wS=ah (bN 1000 ↑s.length) (Gb 3 1000) (jL0 s m m s):=by kernel_rfl
theorem Vo (s:au)(a:Nat):∀(rest:au) (e:Nat),(jN s a rest e).2.2.1=0->(e:Int)<=(jN s a rest e).2.1/\(jN s a rest e).2.1<=(e:Int)+rest.length:=by
 intro rest;induction rest with
 |nil=>intro e _;simp only[jN];exact⟨bL _,by simp⟩
 |cons c r d =>
  intro e h;rw[jN]at h ⊢;split at h
  .rename_i b;rw[ag b];split at h
   .exact absurd h (by simp)
   rename_i f;rw[aa f];have:=d (e+1) h;simp only[aJ];omega
  rename_i b;rw[aa b];simp only[aJ];omega
theorem Q2 (s:au)(a:Nat):∀(rest:au) (e:Nat),(iH s a rest e).2.2.1=0->(e:Int)<(iH s a rest e).2.1/\(iH s a rest e).2.1<=(e:Int)+rest.length:=by
 intro rest;induction rest with
 |nil=>intro e h;exact absurd h (by simp[iH])
 |cons c r d =>
  intro e h;rw[iH]at h ⊢;split at h
  .rename_i b;rw[ag b];simp only[aJ];omega
  rename_i b;rw[aa b];split at h
  .rename_i f;rw[ag f];have:=d (e+1) h;simp only[aJ];omega
  exact absurd h (by simp)
theorem Vp (len:Nat):∀(rest:au) (k N i:Nat),(ot len rest k N i).2.2.1=0->(i:Int)<(ot len rest k N i).2.1/\(ot len rest k N i).2.1<=(i:Int)+rest.length:=by
 intro rest;induction rest with
 |nil=>intro k N i h;exact absurd h (by simp[ot])
 |cons c r e =>
  intro k N i h;rw[ot]at h ⊢;split at h
  .rename_i a;rw[ag a];split at h
   .exact absurd h (by simp)
   rename_i b;rw[aa b];simp only[aJ];omega
  rename_i a;rw[aa a];split at h
  .exact absurd h (by simp)
  rename_i b;rw[aa b];split at h
  .exact absurd h (by simp)
  rename_i d;rw[aa d];have:=e _ _ (i+1) h;simp only[aJ];omega
theorem Vq (s:au)(a:Nat):∀l:cA,(∀g∈l,0<g.length)->(oN s a l).2.2.1=0->(a:Int)<(oN s a l).2.1/\(oN s a l).2.1<=(s.length:Int):=by
 intro l;induction l with
 |nil=>intro _ h;exact absurd h (by simp[oN])
 |cons g r d =>
  intro c h;have e:=c g (cq ..);rw[oN]at h ⊢;split at h
  .rename_i b;rw[ag b];unfold preB at b;have:=bO List.length (gz b);simp only[bV,bB]at this;show (a:Int)<(a:Int)+g.length/\(a:Int)+g.length<=s.length;omega
  rename_i b;rw[aa b];exact d (λg h=>c g (bI _ h)) h
theorem Vr (w:au)(a:Nat)(h:(sV w a).2.2.1=0):(sV w a).2.1=(a:Int)+w.length:=by
 unfold sV at h ⊢;split at h
 .exact absurd h (by simp)
 rename_i b;rw[aa b];split at h
 .exact absurd h (by simp)
 rename_i c;rw[aa c]
def fN (s:au)(c:UInt8)(a:Nat):Piece×Int×Int×Int :=
 if kK (cS c) then ((1,0,(iE s a).1,a),(iE s a).2)
 else if 48<=cS c/\cS c<=57\/cS c=39 then ((2,(jq s a).1,[],a),(jq s a).2)
 else if cS c=34 then ((3,0,(vk s a).1,a),(vk s a).2)
 else ((4,0,(uT s a).1,a),(uT s a).2)
theorem vL {s:au}{a:Nat}{c:UInt8}{r:au}(d:s.drop a=c::r)(h:(fN s c a).2.2.1=0):(a:Int)<(fN s c a).2.1/\(fN s c a).2.1<=s.length:=by
 have p:s.length-a=r.length+1:=by have:=bO List.length d;simpa using this
 have f:s.drop (a+1)=r:=by rw[<-dB,d];rfl
 have i:s.getD a 0=c:=by
  have m:(s.drop a).getD 0 0=c:=by rw[d];rfl
  rw[<-m];simp[List.getD]
 unfold fN at h ⊢;split at h
 .rename_i g;rw[ag g];unfold iE at h ⊢;rw[d,jN]at h ⊢;have n:rD (cS c)=true:=by unfold rD;rw[g];rfl
  rw[ag n,aa (by omega)]at h ⊢;have:=Vo s a r (a+1) h;show (a:Int)<(jN s a r (a+1)).2.1/\(jN s a r (a+1)).2.1<=_;omega
 rename_i g;rw[aa g];split at h
 .rename_i j;rw[ag j];unfold jq at h ⊢;rw[aa (by omega),aa (by omega),bf,i]at h ⊢;split at h
  .rename_i b;rw[ag b];unfold qK at h ⊢;rw[f]at h ⊢;have:=Vp s.length r 0 0 (a+1) h;show (a:Int)<(ot s.length r 0 0 (a+1)).2.1/\(ot s.length r 0 0 (a+1)).2.1<=_;omega
  rename_i b;rw[aa b];have k:48<=cS c/\cS c<=57:=by omega
  rw[ag k]at h ⊢;have:=Vr _ a h;rw[this];have o:nQ (cS c)=true:=by unfold nQ;simp;omega
  have e:((s.drop a).takeWhile λc=>nQ (cS c))=c::(r.takeWhile λc=>nQ (cS c)):=by rw[d,fQ,ag o]
  have q:=(List.takeWhile_sublist (λc=>nQ (cS c)) (l:=r)).length_le;rw[e,aJ];omega
 rename_i j;rw[aa j];split at h
 .rename_i b;rw[ag b];unfold vk at h ⊢;rw[f]at h ⊢;have:=Q2 s a r (a+1) h;show (a:Int)<(iH s a r (a+1)).2.1/\(iH s a r (a+1)).2.1<=_;omega
 rename_i b;rw[aa b];exact Vq s a yj (by decide) h
theorem Vs (c:UInt8)(r:au):dZ (c::r) 1 ↑(c::r).length=r:=by
 unfold dZ;simp
theorem Oc {s:au}{e f a:Int}{p:Piece}{room:mN->mN}{go:Piece->au->mN}(h:f=0->0<=e/\e<=s.length) :
 sn s e f a p room go=if f=0 then room (go p (s.drop e.toNat)) else Gb f a:=by
 unfold sn;by_cases b:f=0
 .rw[HX b,ag b];obtain⟨c,d⟩:=h b;rw[gB (by omega),gB (by omega)];obtain⟨n,rfl⟩:∃n:Nat,e=n:=⟨e.toNat,by omega⟩;show room (go p (dZ s n s.length))=_;rw[Oa,bf]
 rw[y9 b,aa b];rfl
theorem Tg {s:au}(y:s.length<=1000){a:Nat}{c:UInt8}{r:au}(t:s.drop a=c::r)(done:mN)(skip:au->mN)(room:mN->mN)(go:Piece->au->mN) :
 Tf s (c::r) done skip room go=if cS c=32\/cS c=9 then skip r else if cS c=59 then skip [] else if (fN s c a).2.2.1=0 then room (go (fN s c a).1 (s.drop (fN s c a).2.1.toNat)) else Gb (fN s c a).2.2.1 (fN s c a).2.2.2:=by
 have z:s.length-a=r.length+1:=by have:=bO List.length t;simpa using this
 have f:rP s (c::r)=(a:Int):=by
  unfold rP;rw[aJ,i64_in (by omega) (by omega)];omega
 have b:=vL t;have u:Ld (c::r) skip=skip r:=by
  unfold Ld;rw[gB (by omega),gB (by rw[aJ];omega),Vs];rfl
 have v:(!bN (a:Int) 0&&bN (a:Int) ↑s.length&&Nat.ble s.length 1999999)=true:=by
  rw[gB (by omega),rC (by omega),fm (by omega)];rfl
 have m:Nat.ble s.length 1999999=true:=fm (by omega);unfold Tf;rw[aY (by simp),show eL (c::r) 0=some c from mc [] r c];show ah (bS (cS c) 32) _ (ah (bS (cS c) 9) _ (ah (bS (cS c) 59) _ _))=_;rw[u];by_cases i:cS c=32
 .rw[HX i,ag (.inl i)]
 rw[y9 i];show ah (bS (cS c) 9) _ _=_;by_cases n:cS c=9
 .rw[HX n,ag (.inr n)]
 rw[y9 n,aa (by omega)];show ah (bS (cS c) 59) _ _=_;by_cases g:cS c=59
 .rw[HX g,ag g]
 rw[y9 g,aa g];show ah (kK (cS c)) _ _=_;have o:∀(kind:Int) (q:Cut),(q.2.2.1=0->(a:Int)<q.2.1/\q.2.1<=s.length)->Vm s (c::r) kind q room go=if q.2.2.1=0 then room (go (kind,0,q.1,(a:Int)) (s.drop q.2.1.toNat)) else Gb q.2.2.1 q.2.2.2:=by
  intro kind q w;unfold Vm;rw[f,v];show sn _ _ _ _ _ _ _=_;exact Oc λh=>by have:=w h;omega
 unfold fN at b ⊢;by_cases k:kK (cS c)=true
 .rw[ag k]at b;rw[k,ag rfl];show Vm _ _ _ _ _ _=_;rw[f,bf];exact o 1 _ b
 rw[aa k]at b;rw[aa k,Bool.eq_false_iff.2 k];show ah (!bN (cS c) 48) (ah (!bN 57 (cS c)) (Vn s (c::r) room go) (DL s (c::r) c room go)) (DL s (c::r) c room go)=_;have l:(48<=cS c/\cS c<=57\/cS c=39)->Vn s (c::r) room go=if (jq s (a:Int)).2.2.1=0 then room (go (2,(jq s (a:Int)).1,[],(a:Int)) (s.drop (jq s (a:Int)).2.1.toNat)) else Gb (jq s (a:Int)).2.2.1 (jq s (a:Int)).2.2.2:=by
  intro p;rw[ag p]at b;unfold Vn;rw[f,m];show sn _ _ _ _ _ _ _=_;exact Oc λh=>by have:=b h;dsimp only at this;omega
 by_cases p:48<=cS c/\cS c<=57
 .have d:48<=cS c/\cS c<=57\/cS c=39:=.inl p;rw[gB (by omega),gB (by omega),ag d];exact l d
 have x:ah (!bN (cS c) 48) (ah (!bN 57 (cS c)) (Vn s (c::r) room go) (DL s (c::r) c room go)) (DL s (c::r) c room go)=DL s (c::r) c room go:=by
  rw[jM,jM];split
  .rw[aa (by omega)]
  rfl
 rw[x];unfold DL;by_cases j:cS c=39
 .have d:48<=cS c/\cS c<=57\/cS c=39:=.inr j;rw[HX j,ag d];exact l d
 have d:¬(48<=cS c/\cS c<=57\/cS c=39):=by omega
 rw[aa d]at b;rw[y9 j,aa d];show ah (bS (cS c) 34) _ _=_;rw[f,bf];by_cases e:cS c=34
 .rw[ag e]at b;rw[HX e,ag e];exact o 3 _ b
 rw[aa e]at b;rw[y9 e,aa e];exact o 4 _ b
def gD (s:au):Nat->au->List Piece×Int×Int
 |0,_=>([],0,0)
 |_+1,[]=>([],0,0)
 |n+1,c::r =>
  if cS c=32\/cS c=9 then gD s n r else if cS c=59 then ([],0,0)
  else if (fN s c (s.length-(r.length+1))).2.2.1=0 then
   ((fN s c (s.length-(r.length+1))).1::(gD s n (s.drop (fN s c (s.length-(r.length+1))).2.1.toNat)).1,(gD s n (s.drop (fN s c (s.length-(r.length+1))).2.1.toNat)).2)
  else ([],(fN s c (s.length-(r.length+1))).2.2)
noncomputable def Vt (out:List Piece)(t:List Piece×Int×Int):mN:=if t.2.1=0 then YR (out++t.1) (out++t.1).length else Gb t.2.1 t.2.2
theorem aiV (s:au)(h:s.length<=1000)(rd:Nat):∀(n m:Nat) (out:List Piece) (left:au),left.length<=n->n<m->s.drop (s.length-left.length)=left->out.length+n<=1000 ->
 jL1 s rd m out out.length left=Vt out (gD s n left):=by
 intro n;induction n with
 |zero =>
  intro m out left b i _ _;obtain⟨m,rfl⟩:∃d,m=d+1:=⟨m-1,by omega⟩;have:left=[]:=aS.1 (by omega);subst this;rw[Q1];show YR out out.length=_;unfold Vt gD;simp
 |succ n f =>
  intro m out left b i a l;obtain⟨m,rfl⟩:∃d,m=d+1:=⟨m-1,by omega⟩
  match left,b,a with
  |[],_,_ =>
   rw[Q1];show YR out out.length=_;unfold Vt gD;simp
  |c::r,b,a =>
   rw[aJ]at b a;have j:r.length+1<=s.length:=by
    have:=bO List.length a;simp only[bB,aJ]at this;omega
   have k:s.drop (s.length-r.length)=r:=by
    have:s.length-r.length=s.length-(r.length+1)+1:=by omega
    rw[this,<-dB,a];rfl
   rw[Q1,Tg h a,gD];split
   .exact f m out r (by omega) (by omega) k (by omega)
   split
   .have:=f m out [] (by simp) (by omega) (by simp) (by omega);rw[this];cases n<;>rfl
   split
   .rename_i g;have o:=vL a g;unfold agj;rw[fm (by omega)];show jL1 s rd m (out++[_]) (out.length+1) _=_;have e:out.length+1=(out++[(fN s c (s.length-(r.length+1))).1]).length:=by simp
    rw[e,f m _ _ (by simp only[bB];omega) (by omega) (by rw[bB];congr 1;omega) (by simp;omega)];unfold Vt;simp only[bC,List.singleton_append]
   rename_i g;unfold Vt;rw[aa g]
noncomputable def Th (t:List Piece×Int×Int):mN:=if t.2.1=0 then (if t.1=[] then Gb 0 0 else YR t.1 t.1.length) else Gb t.2.1 t.2.2
theorem aiW (s:au)(f:s.length<=1000)(rd:Nat):∀(n m:Nat) (left:au),left.length<=n->n<m->s.drop (s.length-left.length)=left->n<=1000 ->
 jL0 s rd m left=Th (gD s n left):=by
 intro n;induction n with
 |zero =>
  intro m left b h _ _;obtain⟨m,rfl⟩:∃d,m=d+1:=⟨m-1,by omega⟩;have:left=[]:=aS.1 (by omega);subst this;rw[Q0];rfl
 |succ n g =>
  intro m left b h a k;obtain⟨m,rfl⟩:∃d,m=d+1:=⟨m-1,by omega⟩
  match left,b,a with
  |[],_,_ =>
   rw[Q0];rfl
  |c::r,b,a =>
   rw[aJ]at b a;have i:r.length+1<=s.length:=by
    have:=bO List.length a;simp only[bB,aJ]at this;omega
   have j:s.drop (s.length-r.length)=r:=by
    have:s.length-r.length=s.length-(r.length+1)+1:=by omega
    rw[this,<-dB,a];rfl
   rw[Q0,Tg f a,gD];split
   .exact g m r (by omega) (by omega) j (by omega)
   split
   .have:=g m [] (by simp) (by omega) (by simp) (by omega);rw[this];cases n<;>rfl
   split
   .rename_i e;have l:=vL a e;have:=aiV s f rd n m [(fN s c (s.length-(r.length+1))).1] (s.drop (fN s c (s.length-(r.length+1))).2.1.toNat) (by simp only[bB];omega) (by omega) (by rw[bB];congr 1;omega) (by simp;omega);refine this.trans ?_;unfold Vt Th;simp only[List.singleton_append];split
    .rw[aa (by simp)]
    rfl
   rename_i e;unfold Th;rw[aa e]
def gq (s:au):List Piece×Int×Int :=
 if 1000<s.length then ([],3,1000) else if (gD s s.length s).2.1=0 then ((gD s s.length s).1,0,0) else ([],(gD s s.length s).2)
noncomputable def aiX (args:aI):Option (Bool×List gj) :=
 match args with
 |[.str s]=>some (true,[.list 81 eE (gq s).1,.val (.agg [.int .i64 (gq s).2.1,.int .i64 (gq s).2.2])])
 |_=>none
theorem YS (s:au):aT (Xg C6) (d5 (AV×Option Row)) Vl (s.length+1) 18 [.str s] aH.empty wS =
 if (gq s).1=[] then Gb (gq s).2.1 (gq s).2.2 else some (.gI [.own 1 (gq s).1.length,.agg [.int .i64 (gq s).2.1,.int .i64 (gq s).2.2]],some (.list 81 eE (gq s).1 0 false false)):=by
 rw[aiT];unfold gq;by_cases b:1000<s.length
 .rw[rC (by omega),ag b,ag rfl]
 rw[gB (by omega),aa b];show jL0 s (s.length+1) (s.length+1) s=_;rw[aiW s (by omega) _ s.length _ s (aG _) (by omega) (by simp) (by omega)];unfold Th;by_cases a:(gD s s.length s).2.1=0
 .rw[ag a,ag a];rfl
 rw[aa a,aa a,ag rfl]
theorem aoL:dQ (Xg C6) (eM (Xg C6) kn) 18 aiX :=
 adl (λargs=>cn rfl args) aoH λargs rs a=>by
  unfold aiX at a;split at a
  .rename_i s;simp only[aq,az]at a;obtain⟨_,rfl⟩:=a;by_cases h:(gq s).1=[]
   .refine ⟨[.eB,.agg [.int .i64 (gq s).2.1,.int .i64 (gq s).2.2]],Vl,s.length+1,none,?_,λH _=>⟨rfl,.inr ⟨rfl,h,rfl,rfl,trivial⟩⟩⟩;rw[YS,ag h];rfl
   refine⟨[.own 1 (gq s).1.length,.agg [.int .i64 (gq s).2.1,.int .i64 (gq s).2.2]],Vl,s.length+1,some (.list 81 eE (gq s).1 0 false false),?_,λH b=>⟨rfl,.inl ⟨1,0,false,rfl,?_,by simp,rfl,rfl,trivial⟩⟩⟩
   .rw[YS,aa h];rfl
   exact(lg (bT b)).2
  cases a
end Go.Proofs.YtbeckacfibledaaGreatDoor.lt
namespace Go.Proofs.YtbeckacfibledaaGreatDoor.lt
open Go.Tv Go.Ev
set_option maxRecDepth 100000
noncomputable section
def pN1:eJ:=[true,true,false,true,false]
def ado:fe:=⟨iM [0,19,20] pN1,.none,[]⟩
theorem YV {s:au}(l:s.length<2000000){p:UInt8->Bool}{j:Nat->Int->bx}{A B:bx} (step:∀m i,j (m+1) i=ah (bN i ↑s.length) (Option.rec (motive:=λ_=>bx) none (λc=>ah (!p c) A (j m (IntKind.wrap .i64 (i+1)))) (eL s i)) B) :
 ∀(rest pre:au) (m:Nat),s=pre++rest->rest.length<m->j m pre.length=if rest.all p=true then B else A:=by
 intro rest;induction rest with
 |nil =>
  intro pre m b d;obtain⟨m,rfl⟩:∃e,m=e+1:=⟨m-1,by simp at d;omega⟩;have g:s.length=pre.length:=by rw[b];simp
  rw[step,gB (by omega)];rfl
 |cons c rest h =>
  intro pre m b d;obtain⟨m,rfl⟩:∃e,m=e+1:=⟨m-1,by simp at d;omega⟩;have g:s.length=pre.length+(rest.length+1):=by rw[b];simp
  have k:eL s (pre.length:Int)=some c:=by rw[b];exact mc pre rest c
  have a:=h (pre++[c]) m (by rw[b];simp) (by simp at d;omega);rw[aA]at a;have a:j m ((pre.length:Int)+1)=if rest.all p=true then B else A:=a;rw[step,rC (by omega),k,i64_in (n:=(pre.length:Int)+1) (by omega) (by omega)];show ah (!p c) A (j m ((pre.length:Int)+1))=_;rw[a];cases f:p c
  .simp[f]
  simp[f]
def yl (c:UInt8):Bool:=rD (cS c)
def bZ (s:au):Bool:=match s with
 |[]=>false
 |c::r=>decide (r.length<60)&&kK (cS c)&&(c::r).all yl
noncomputable def jN1 (gv:Nat->aI)(s:au)(r m:Nat)(i:Int):bx:=jo (Xg gv) (d2 gv AV) ado r 155 pN1 (λv _=>some v) m (lS 29 [(0,.str s),(19,.int .i64 s.length),(20,.int .i64 i)]) aH.empty
theorem aiZ (gv:Nat->aI)(s:au)(r m:Nat)(i:Int):jN1 gv s r (m+1) i=ah (bN i ↑s.length) (Option.rec (motive:=λ_=>bx) none (λc=>ah (!yl c) (some (.bool false)) (jN1 gv s r m (IntKind.wrap .i64 (i+1)))) (eL s i)) (some (.bool true)):=by kernel_rfl
theorem adp (gv:Nat->aI)(s:au)(r:Nat):aT (Xg gv) (d2 gv AV) ado r 155 [.str s] aH.empty (λv _=>some v) =
 ah (bS ↑s.length 0) (some (.bool false)) (ah (bN 60 ↑s.length) (some (.bool false)) (Option.rec (motive:=λ_=>bx) none (λc=>ah (!kK (cS c)) (some (.bool false)) (jN1 gv s r r 0)) (eL s 0))):=by kernel_rfl
theorem Q4 {n:Int}(h:kK n=true):rD n=true:=by unfold rD;rw[h];rfl
theorem aoP (gv:Nat->aI)(s:au):aT (Xg gv) (d2 gv AV) ado 100 155 [.str s] aH.empty (λv _=>some v)=some (.bool (bZ s)):=by
 rw[adp];cases s with
 |nil=>rfl
 |cons c r =>
  show _=some (AV.bool (decide (r.length<60)&&kK (cS c)&&(c::r).all yl));rw[y9 (by simp;omega)];by_cases h:r.length<60
  .rw[gB (by simp;omega),bg h];have a:=YV (s:=c::r) (by simp;omega) (aiZ gv (c::r) 100) (c::r) [] 100 rfl (by simp;omega);have a:jN1 gv (c::r) 100 100 0=_:=a;rw[a];show ah (!kK (cS c)) _ _=_;cases kK (cS c)
   .rfl
   cases (c::r).all yl<;>rfl
  rw[rC (by simp;omega),aY h];rfl
def gNm (args:aI):Option (Bool×List gj) :=
 match args with
 |[.str s]=>some (true,[.val (.bool (bZ s))])
 |_=>none
theorem aoQ (gv:Nat->aI):dQ (Xg gv) (eM (Xg gv) kn) 155 gNm :=
 dG (λargs=>cn rfl args) (YM gv) λargs rs a=>by
  unfold gNm at a;split at a
  .rename_i s;simp only[aq,az]at a;obtain⟨_,rfl⟩:=a;exact⟨[.bool (bZ s)],ado,100,aoP gv s,rfl,rfl⟩
  cases a
end
end Go.Proofs.YtbeckacfibledaaGreatDoor.lt
namespace Go.Proofs.YtbeckacfibledaaGreatDoor.lt
open Go.Tv Go.Ev
set_option maxRecDepth 100000
def Stop:au->Prop
 |[]=>True
 |c::_=>rD (cS c)=false
theorem adr (p S e:au):dZ (p++S++e) (p.length:Int) ((p.length+S.length:Nat):Int)=S:=by
 unfold dZ;rw[bC,bf,bf,eI,kY,qQ]
theorem Gf (T:au)(a:Nat){e:au}(b:Stop e):∀(S2:au) (k:Nat),S2.all yl=true->k+S2.length<=60->jN T a (S2++e) (a+k)=(dZ T a ((a+(k+S2.length):Nat):Int),((a+(k+S2.length):Nat):Int),0,0)
 |[],k,_,_=>by
  cases e with
  |nil=>rfl
  |cons c q =>
   have b:rD (cS c)=false:=b;rw[cE,jN,aa (by rw[b];exact lz)];rfl
 |c::S2,k,h,d=>by
  simp only[ck,ak,aJ]at h d;have f:rD (cS c)=true:=h.1;rw[cB,jN,ag f,aa (by omega)];have:=Gf T a b S2 (k+1) h.2 (by omega);rw[show k+1+S2.length=k+(c::S2).length by simp;omega]at this;exact this
theorem Q5 {t:au}(h:bZ t=true):∃d r,t=d::r/\r.length<60/\kK (cS d)=true/\(d::r).all yl=true:=by
 cases t with
 |nil=>cases h
 |cons d r =>
  have h:(decide (r.length<60)&&kK (cS d)&&(d::r).all yl)=true:=h;simp only[ak,aZ]at h;exact⟨d,r,rfl,h.1.1,h.1.2,h.2⟩
theorem YW {p t e:au}(g:bZ t=true)(h:Stop e)(n:Nat):gD (p++t++e) (n+1) (t++e) =
 ((1,0,t,(p.length:Int))::(gD (p++t++e) n e).1,(gD (p++t++e) n e).2):=by
 obtain⟨d,r,rfl,m,a,i⟩:=Q5 g;have j:(p++(d::r)++e).drop p.length=d::r++e:=by rw[bC,eI]
 have k:(p++(d::r)++e).length-((r++e).length+1)=p.length:=by simp
 have f:¬(cS d=32\/cS d=9)/\cS d≠59:=by
  unfold kK at a;simp only[aZ]at a;omega
 have b:fN (p++(d::r)++e) d p.length=((1,0,d::r,(p.length:Int)),(p.length:Int)+(r.length+1:Nat),0,0):=by
  unfold fN iE;rw[ag a,j];have:=Gf (p++d::r++e) p.length h (d::r) 0 i (by simp;omega);rw[nE,cj,adr]at this;rw[this];simp
 show gD _ (n+1) (d::(r++e))=_;rw[gD,aa f.1,aa f.2,k,b,ag rfl];have c:(p++(d::r)++e).drop ((p.length:Int)+((r.length+1:Nat):Int)).toNat=e:=by
  have l:((p.length:Int)+((r.length+1:Nat):Int)).toNat=(p++(d::r)).length:=by simp;omega
  rw[l,eI]
 simp only[c]
theorem I9 (s r:au)(n:Nat):gD s (n+1) (32::r)=gD s n r:=by
 rw[gD,ag (.inl (by decide))]
theorem lex_nil (s:au)(n:Nat):gD s n []=([],0,0):=by cases n<;>rfl
theorem Da {s:au}{a:Nat}{d:UInt8}{r:au}(e:s.drop a=d::r) :
 jq s (a:Int)=if cS d=39 then qK s a else if 48<=cS d/\cS d<=57 then sV ((s.drop a).takeWhile λc=>nQ (cS c)) a else (0,0,6,(a:Int)):=by
 have g:s.length-a=r.length+1:=by have:=bO List.length e;simpa using this
 have b:s.getD a 0=d:=by
  have f:(s.drop a).getD 0 0=d:=by rw[e];rfl
  rw[<-f];simp[List.getD]
 unfold jq;rw[aa (by omega),aa (by omega),bf,b]
end Go.Proofs.YtbeckacfibledaaGreatDoor.lt
