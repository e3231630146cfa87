/- Tokens: bytes. Tokens: names and quoted texts. Tokens: signs. Tokens: signs. Tokens: a line. Tokens: a line, round by round. Tokens: every piece ends behind its place. Tokens: the contract of Lex. Tokens: the contract of Lex. Names: token.Name; what Lex makes of a name. What Lex makes of a line that has a name, and little more. -/
import Derived.Test.YtbeckacfibledaaGreatDoorGra
set_option linter.unusedVariables false
set_option linter.unusedSimpArgs false

namespace Go.Proofs.YtbeckacfibledaaGreatDoor.lt
open Go.Tv Go.Ev
set_option maxRecDepth 100000
def lZ (n:Int):Bool:=decide (97<=n/\n<=122\/65<=n/\n<=90\/n=95\/n=46)
def um (n:Int):Bool:=lZ n||decide (48<=n/\n<=57)
def tO (n:Int):Bool:=decide (32<=n/\n<=126)
theorem akA (gv:Nat->List AV)(n:Int):aT (Xg gv) (c0 gv AV) gG 5 26 [.int .u8 n] aG.empty (λv _=>some v)=some (.bool (lZ n)):=by
 have h:aT (Xg gv) (c0 gv AV) gG 5 26 [.int .u8 n] aG.empty (λv _=>some v)=yz n 97 122 (some (.bool true)) (yz n 65 90 (some (.bool true)) (ah (bI n 95) (some (.bool true)) (some (.bool (bI n 46))))):=by kernel_rfl
 rw[h];simp only[Ez,cq];unfold lZ;split
 .rw[aX (by omega)]
 split
 .rw[aX (by omega)]
 split
 .rw[aX (by omega)]
 refine cj (λx=>some (AV.bool x)) ?_;rw[eF,bO,eK,aV];omega
theorem akB (gv:Nat->List AV)(n:Int):aT (Xg gv) (c0 gv AV) gG 5 63 [.int .u8 n] aG.empty (λv _=>some v)=some (.bool (tO n)):=by
 have h:aT (Xg gv) (c0 gv AV) gG 5 63 [.int .u8 n] aG.empty (λv _=>some v)=ah (!bB n 32) (some (.bool (!bB 126 n))) (some (.bool false)):=by kernel_rfl
 rw[h,iP];unfold tO;split
 .refine cj (λx=>some (AV.bool x)) ?_;rw[cA,bO,aS,bH,aV];omega
 rw[aU (by omega)]
noncomputable def gBy (p:Int->Bool)(args:List AV):Option (Bool×List fy) :=
 match args with
 |[.int .u8 n]=>some (true,[.val (.bool (p n))])
 |_=>none
theorem OE {gv:Nat->List AV}{call:∀ β,cH β}(hcall:∀ β,cX (Xg gv) (dR (Xg gv) kn) (call β)){f:FuncId}(hk:inl f=true){p:Int->Bool}(h:∀n,aT (Xg gv) (call AV) gG 5 f [.int .u8 n] aG.empty (λv _=>some v)=some (.bool (p n))):cZ (Xg gv) (dR (Xg gv) kn) f (gBy p) :=
 cR (λargs=>bR hk args) hcall λargs rs hg=>by
  unfold gBy at hg;split at hg
  .rename_i n;simp only[aq,ax]at hg;obtain⟨h1,rfl⟩:=hg;exact⟨[.bool (p n)],gG,5,h n,rfl,rfl⟩
  cases hg
theorem ac5 (gv:Nat->List AV):cZ (Xg gv) (dR (Xg gv) kn) 26 (gBy lZ):=OE (Ae gv) rfl (akA gv)
theorem akC (gv:Nat->List AV):cZ (Xg gv) (dR (Xg gv) kn) 63 (gBy tO):=OE (Ae gv) rfl (akB gv)
noncomputable def M1:List vW:=[(26,[none],gBy lZ),(63,[none],gBy tO)]
theorem ac6 (gv:Nat->List AV):iO (Xg gv) (dR (Xg gv) kn) M1:=.cons (ac5 gv) (.cons (akC gv) .nil)
noncomputable def d1 (gv:Nat->List AV)(β:Type):cH β:=sy (Xg gv) (T4 M1) inl 200 β 20
theorem akD (gv:Nat->List AV)(β:Type):cX (Xg gv) (dR (Xg gv) kn) (d1 gv β):=lp (ac6 gv) (λf h args=>bR h args) 200 20 β
theorem akE (gv:Nat->List AV)(n:Int):aT (Xg gv) (d1 gv AV) gG 5 58 [.int .u8 n] aG.empty (λv _=>some v)=some (.bool (um n)):=by
 have h:aT (Xg gv) (d1 gv AV) gG 5 58 [.int .u8 n] aG.empty (λv _=>some v)=ah (lZ n) (some (.bool true)) (ah (!bB n 48) (some (.bool (!bB 57 n))) (some (.bool false))):=by kernel_rfl
 rw[h,au,iP];unfold um;split
 .rename_i hf;rw[hf];rfl
 rename_i hf;have hf:lZ n=false:=by simpa using hf
 rw[hf,Bool.false_or];split
 .refine cj (λx=>some (AV.bool x)) ?_;rw[cA,bO,aS,bH,aV];omega
 rw[aU (by omega)]
theorem akF (gv:Nat->List AV):cZ (Xg gv) (dR (Xg gv) kn) 58 (gBy um):=OE (akD gv) rfl (akE gv)
noncomputable def M2:List vW:=(58,[none],gBy um)::M1
theorem ac7 (gv:Nat->List AV):iO (Xg gv) (dR (Xg gv) kn) M2:=.cons (akF gv) (ac6 gv)
noncomputable def d2 (gv:Nat->List AV)(β:Type):cH β:=sy (Xg gv) (T4 M2) inl 200 β 20
theorem We (gv:Nat->List AV)(β:Type):cX (Xg gv) (dR (Xg gv) kn) (d2 gv β):=lp (ac7 gv) (λf h args=>bR h args) 200 20 β
abbrev Cut:=List UInt8×Int×Int×Int
noncomputable def eH (r:Cut):Option AV:=some (.fG [.str r.1,.int .i64 r.2.1,.agg [.int .i64 r.2.2.1,.int .i64 r.2.2.2]])
def pNm:List Bool:=[true,true,false,false]
def pTx:List Bool:=[true,false,true,false]
noncomputable def Ji:ez:=⟨gZ [0,1,6,7] pNm,.none,[]⟩
noncomputable def afy:ez:=⟨gZ [0,1,6,7] pTx,.none,[]⟩
noncomputable def Jj (k:Nat)(s:List UInt8)(a e:Int):fM:=lq k [(0,.str s),(1,.int .i64 a),(6,.ptr 0 0),(7,.int .i64 e)]
noncomputable def jNm (gv:Nat->List AV)(s:List UInt8)(a:Int)(r m:Nat)(e:Int):Option AV:=iH (Xg gv) (d2 gv AV) Ji r 27 pNm (λv _=>some v) m (Jj 33 s a e) mT
noncomputable def jTx (gv:Nat->List AV)(s:List UInt8)(a:Int)(r m:Nat)(e:Int):Option AV:=iH (Xg gv) (d2 gv AV) afy r 29 pTx (λv _=>some v) m (Jj 40 s a e) mT
noncomputable def QJ (s:List UInt8)(a e:Int):Option AV:=ah (!bB a 0 && !bB e a && !bB ↑s.length e) (eH (dX s a e,e,0,0)) none
noncomputable def OH (s:List UInt8)(a e:Int)(go:Int->Option AV):Option AV :=
 ah (bB e ↑s.length)
  (Option.rec (motive:=λ_=>Option AV) none (λc=>ah (um (cY c)) (ah (bI (IntKind.wrap .i64 (e-a)) 60) (eH ([],0,3,e)) (go (IntKind.wrap .i64 (e+1)))) (QJ s a e)) (dQ s e))
  (QJ s a e)
noncomputable def OI (s:List UInt8)(a e:Int)(go:Int->Option AV):Option AV :=
 ah (bB e ↑s.length)
  (Option.rec (motive:=λ_=>Option AV) none (λc=>ah (bI (cY c) 34)
   (ah (!bB (IntKind.wrap .i64 (a+1)) 0 && !bB e (IntKind.wrap .i64 (a+1)) && !bB ↑s.length e) (eH (dX s (IntKind.wrap .i64 (a+1)) e,IntKind.wrap .i64 (e+1),0,0)) none)
   (Option.rec (motive:=λ_=>Option AV) none (λc=>ah (!tO (cY c)) (eH ([],0,4,e)) (go (IntKind.wrap .i64 (e+1)))) (dQ s e))) (dQ s e))
  (eH ([],0,4,↑s.length))
theorem vm (gv:Nat->List AV)(s:List UInt8)(a:Int)(r m:Nat)(e:Int):jNm gv s a r (m+1) e=OH s a e (jNm gv s a r m):=by kernel_rfl
theorem Wf (gv:Nat->List AV)(s:List UInt8)(a:Int)(r m:Nat)(e:Int):jTx gv s a r (m+1) e=OI s a e (jTx gv s a r m):=by kernel_rfl
theorem Jk (gv:Nat->List AV)(s:List UInt8)(a:Int)(m:Nat):aT (Xg gv) (d2 gv AV) Ji m 27 [.str s,.int .i64 a] aG.empty (λv _=>some v)=jNm gv s a m m a:=by kernel_rfl
theorem aac (gv:Nat->List AV)(s:List UInt8)(a:Int)(m:Nat):aT (Xg gv) (d2 gv AV) afy m 29 [.str s,.int .i64 a] aG.empty (λv _=>some v)=jTx gv s a m m (IntKind.wrap .i64 (a+1)):=by kernel_rfl
def nM (s:List UInt8)(a:Nat):List UInt8->Nat->Cut
 |[],e=>(dX s a e,e,0,0)
 |c::r,e=>if um (cY c) then (if e=a+60 then ([],0,3,e) else nM s a r (e+1)) else (dX s a e,e,0,0)
def jL (s:List UInt8)(a:Nat):List UInt8->Nat->Cut
 |[],_=>([],0,4,s.length)
 |c::r,e=>if cY c=34 then (dX s (a+1) e,e+1,0,0) else if tO (cY c) then jL s a r (e+1) else ([],0,4,e)
theorem LU (s:List UInt8)(a e:Nat)(h:a<=e)(h2:e<=s.length):QJ s a e=eH (dX s a e,e,0,0):=by
 unfold QJ;rw[fH (by omega),fH (by omega),fH (by omega)];rfl
theorem afz (gv:Nat->List AV)(s:List UInt8)(hs:s.length<2000000)(a r:Nat):∀(rest pre:List UInt8) (m:Nat),s=pre++rest->rest.length<m->a<=pre.length ->
 jNm gv s a r m pre.length=eH (nM s a rest pre.length):=by
 intro rest;induction rest with
 |nil =>
  intro pre m he hm hp;obtain⟨m,rfl⟩:∃m',m=m'+1:=⟨m-1,by simp at hm;omega⟩;have hl:s.length=pre.length:=by rw[he];simp
  rw[vm];unfold OH;rw[fH (by omega),LU s a _ hp (by omega)];rfl
 |cons c rest ih =>
  intro pre m he hm hp;obtain⟨m,rfl⟩:∃m',m=m'+1:=⟨m-1,by simp at hm;omega⟩;have hl:s.length=pre.length+(rest.length+1):=by rw[he];simp
  have hg:dQ s (pre.length:Int)=some c:=by rw[he];exact lY pre rest c
  have hnext:IntKind.wrap .i64 ((pre.length:Int)+1)=((pre++[c]).length:Int):=by rw[i64_in (by omega) (by omega)];simp
  rw[vm];unfold OH;rw[qG (by omega),hg,LU s a _ hp (by omega),hnext,i64_in (n:=(pre.length:Int)-a) (by omega) (by omega)];show ah (um (cY c)) (ah (bI ((pre.length:Int)-a) 60) _ (jNm gv s a r m ((pre++[c]).length:Int))) _=_;rw[nM,au];split
  .by_cases Wg:pre.length=a+60
   .rw[F3 (by omega),ag Wg]
   rw[xT (by omega),aa Wg];show jNm gv s a r m ((pre++[c]).length:Int)=_;rw[ih (pre++[c]) m (by rw[he];simp) (by simp at hm;omega) (by simp;omega),aA,ek]
  rfl
theorem afA (gv:Nat->List AV)(s:List UInt8)(hs:s.length<2000000)(a r:Nat):∀(rest pre:List UInt8) (m:Nat),s=pre++rest->rest.length<m->a+1<=pre.length ->
 jTx gv s a r m pre.length=eH (jL s a rest pre.length):=by
 intro rest;induction rest with
 |nil =>
  intro pre m he hm hp;obtain⟨m,rfl⟩:∃m',m=m'+1:=⟨m-1,by simp at hm;omega⟩;have hl:s.length=pre.length:=by rw[he];simp
  rw[Wf];unfold OI;rw[fH (by omega)];rfl
 |cons c rest ih =>
  intro pre m he hm hp;obtain⟨m,rfl⟩:∃m',m=m'+1:=⟨m-1,by simp at hm;omega⟩;have hl:s.length=pre.length+(rest.length+1):=by rw[he];simp
  have hg:dQ s (pre.length:Int)=some c:=by rw[he];exact lY pre rest c
  have hnext:IntKind.wrap .i64 ((pre.length:Int)+1)=((pre++[c]).length:Int):=by rw[i64_in (by omega) (by omega)];simp
  rw[Wf];unfold OI;rw[qG (by omega),hg,hnext,i64_in (n:=(a:Int)+1) (by omega) (by omega),fH (a:=(a:Int)+1) (by omega),fH (a:=(pre.length:Int)) (b:=(a:Int)+1) (by omega),fH (a:=(s.length:Int)) (by omega)];show ah (bI (cY c) 34) (eH (dX s ((a:Int)+1) (pre.length:Int),((pre++[c]).length:Int),0,0)) (ah (!tO (cY c)) _ (jTx gv s a r m ((pre++[c]).length:Int)))=_;rw[jL];by_cases hc:cY c=34
  .rw[F3 hc,ag hc,aA,ek];rfl
  rw[xT hc,aa hc];show ah (!tO (cY c)) _ _=_;cases hpl:tO (cY c)
  .rfl
  show jTx gv s a r m ((pre++[c]).length:Int)=_;rw[ag rfl,ih (pre++[c]) m (by rw[he];simp) (by simp at hm;omega) (by simp;omega),aA,ek]
def gx (s:List UInt8)(a:Nat):Cut:=nM s a (s.drop a) a
def vn (s:List UInt8)(a:Nat):Cut:=jL s a (s.drop (a+1)) (a+1)
theorem akG (gv:Nat->List AV)(s:List UInt8)(hs:s.length<2000000)(a:Nat)(ha:a<s.length) :
 aT (Xg gv) (d2 gv AV) Ji (s.length+1) 27 [.str s,.int .i64 a] aG.empty (λv _=>some v)=eH (gx s a):=by
 rw[Jk];have hl:(s.take a).length=a:=by simp;omega
 have:=afz gv s hs a (s.length+1) (s.drop a) (s.take a) (s.length+1) (by simp) (by simp;omega) (by omega);rw[hl]at this;exact this
theorem akH (gv:Nat->List AV)(s:List UInt8)(hs:s.length<2000000)(a:Nat)(ha:a<s.length) :
 aT (Xg gv) (d2 gv AV) afy (s.length+1) 29 [.str s,.int .i64 a] aG.empty (λv _=>some v)=eH (vn s a):=by
 rw[aac,i64_in (by omega) (by omega)];have hl:(s.take (a+1)).length=a+1:=by simp;omega
 have:=afA gv s hs a (s.length+1) (s.drop (a+1)) (s.take (a+1)) (s.length+1) (by simp) (by simp;omega) (by omega);rw[hl]at this;exact this
noncomputable def Jl (f:List UInt8->Nat->Cut)(args:List AV):Option (Bool×List fy) :=
 match args with
 |[.str s,.int .i64 a]=>some (!bB a 0&&bB a ↑s.length&&Nat.ble s.length 1999999,[.val (.str (f s a.toNat).1),.val (.int .i64 (f s a.toNat).2.1),.val (.agg [.int .i64 (f s a.toNat).2.2.1,.int .i64 (f s a.toNat).2.2.2])])
 |_=>none
theorem QK {gv:Nat->List AV}{id:FuncId}(hk:inl id=true){an:ez}{f:List UInt8->Nat->Cut}(h:∀(s:List UInt8),s.length<2000000->∀a:Nat,a<s.length->aT (Xg gv) (d2 gv AV) an (s.length+1) id [.str s,.int .i64 a] aG.empty (λv _=>some v)=eH (f s a)):cZ (Xg gv) (dR (Xg gv) kn) id (Jl f) :=
 cR (λargs=>bR hk args) (We gv) λargs rs hg=>by
  unfold Jl at hg;split at hg
  .rename_i s a;simp only[aq,ax,ak,cA,aS,bH,aV,bt]at hg;obtain⟨⟨⟨h1,h2⟩,h3⟩,rfl⟩:=hg;obtain⟨n,rfl⟩:∃n:Nat,a=n:=⟨a.toNat,by omega⟩;rw[bg];exact⟨[.str (f s n).1,.int .i64 (f s n).2.1,.agg [.int .i64 (f s n).2.2.1,.int .i64 (f s n).2.2.2]],an,s.length+1,h s (by omega) n (by omega),rfl,rfl⟩
  cases hg
theorem akI (gv:Nat->List AV):cZ (Xg gv) (dR (Xg gv) kn) 27 (Jl gx):=QK rfl (akG gv)
theorem akJ (gv:Nat->List AV):cZ (Xg gv) (dR (Xg gv) kn) 29 (Jl vn):=QK rfl (akH gv)
def preB (s p:List UInt8):Bool:=decide (s.take p.length=p)
theorem akK (gv:Nat->List AV)(s p:List UInt8):aT (Xg gv) (d2 gv AV) gG 5 64 [.str s,.str p] aG.empty (λv _=>some v)=some (.bool (preB s p)):=by
 have h:aT (Xg gv) (d2 gv AV) gG 5 64 [.str s,.str p] aG.empty (λv _=>some v)=ah (!bB ↑s.length ↑p.length) (ah (!bB ↑p.length 0 && !bB ↑s.length ↑p.length) (some (.bool (decide (dX s 0 ↑p.length=p)))) none) (some (.bool false)):=by kernel_rfl
 rw[h,iP];unfold preB;split
 .rw[fH (by omega),fH (by omega)];show some (AV.bool (decide (dX s 0 ↑p.length=p)))=_;have e:dX s 0 (p.length:Int)=s.take p.length:=by unfold dX;simp
  rw[e]
 rw[aU];intro h2;have:=cj List.length h2;simp only[bY]at this;omega
noncomputable def aad (args:List AV):Option (Bool×List fy) :=
 match args with
 |[.str s,.str p]=>some (true,[.val (.bool (preB s p))])
 |_=>none
theorem ac8 (gv:Nat->List AV):cZ (Xg gv) (dR (Xg gv) kn) 64 aad :=
 cR (λargs=>bR rfl args) (We gv) λargs rs hg=>by
  unfold aad at hg;split at hg
  .rename_i s p;simp only[aq,ax]at hg;obtain⟨h1,rfl⟩:=hg;exact⟨[.bool (preB s p)],gG,5,akK gv s p,rfl,rfl⟩
  cases hg
noncomputable def M3:List vW:=(64,[none,none],aad)::M2
theorem QL (gv:Nat->List AV):iO (Xg gv) (dR (Xg gv) kn) M3:=.cons (ac8 gv) (ac7 gv)
noncomputable def d3 (gv:Nat->List AV)(β:Type):cH β:=sy (Xg gv) (T4 M3) inl 200 β 20
theorem akL (gv:Nat->List AV)(β:Type):cX (Xg gv) (dR (Xg gv) kn) (d3 gv β):=lp (QL gv) (λf h args=>bR h args) 200 20 β
def zf:List (List UInt8):=[[36,36],[60,60],[62,62],[43],[45],[42],[47],[37],[38],[124],[94],[126],[40],[41],[91],[93],[44],[58],[36]]
noncomputable def QN (s:List UInt8)(a:Int):List (List UInt8)->Option AV
 |[]=>eH ([],0,4,a)
 |g::r=>ah (!bB a 0 && !bB ↑s.length a) (ah (preB (dX s a ↑s.length) g) (eH (g,IntKind.wrap .i64 (a + ↑g.length),0,0)) (QN s a r)) none
def sC (s:List UInt8)(a:Nat):List (List UInt8)->Cut
 |[]=>([],0,4,a)
 |g::r=>if preB (s.drop a) g then (g,a+g.length,0,0) else sC s a r
def vI (s:List UInt8)(a:Nat):Cut:=sC s a zf
theorem Wh (s:List UInt8)(a:Int):aT (Xg BJ) (d3 BJ AV) gG 20 30 [.str s,.int .i64 a] aG.empty (λv _=>some v)=QN s a zf:=by kernel_rfl
theorem LW (s:List UInt8)(a:Nat):dX s (a:Int) (s.length:Int)=s.drop a:=by
 unfold dX;simp only[bg];exact cU (by simp)
theorem Wi (s:List UInt8)(hs:s.length<2000000)(a:Nat)(ha:a<s.length):∀l:List (List UInt8),(∀g∈l,g.length<3)->QN s a l=eH (sC s a l):=by
 intro l;induction l with
 |nil=>intro _;rfl
 |cons g r ih =>
  intro hl;have hg:=hl g (cD ..);rw[QN,sC,fH (by omega),fH (by omega),LW,i64_in (by omega) (by omega)];show ah (preB (s.drop a) g) _ _=_;rw[au,ih λg h=>hl g (bD _ h)];split<;>rfl
theorem aae (s:List UInt8)(hs:s.length<2000000)(a:Nat)(ha:a<s.length):aT (Xg BJ) (d3 BJ AV) gG 20 30 [.str s,.int .i64 a] aG.empty (λv _=>some v)=eH (vI s a):=by
 rw[Wh];exact Wi s hs a ha zf (by decide)
theorem akM:cZ (Xg BJ) (dR (Xg BJ) kn) 30 (Jl vI) :=
 cR (λargs=>bR rfl args) (akL BJ) λargs rs hg=>by
  unfold Jl at hg;split at hg
  .rename_i s a;simp only[aq,ax,ak,cA,aS,bH,aV,bt]at hg;obtain⟨⟨⟨h1,h2⟩,h3⟩,rfl⟩:=hg;obtain⟨n,rfl⟩:∃n:Nat,a=n:=⟨a.toNat,by omega⟩;rw[bg];exact⟨[.str (vI s n).1,.int .i64 (vI s n).2.1,.agg [.int .i64 (vI s n).2.2.1,.int .i64 (vI s n).2.2.2]],gG,20,aae s (by omega) n (by omega),rfl,rfl⟩
  cases hg
noncomputable def M5:List vW:=[(26,[none],gBy lZ),(27,[none,none],Jl gx),(29,[none,none],Jl vn),(30,[none,none],Jl vI),(28,[none,none],Wc)]
theorem G8:iO (Xg BJ) (dR (Xg BJ) kn) M5:=.cons (ac5 BJ) (.cons (akI BJ) (.cons (akJ BJ) (.cons akM (.cons (akz BJ) .nil))))
noncomputable def d5 (β:Type):cH β:=sy (Xg BJ) (T4 M5) inl 200 β 20
theorem akN (β:Type):cX (Xg BJ) (dR (Xg BJ) kn) (d5 β):=lp G8 (λf h args=>bR h args) 200 20 β
def pLx:List Bool:=[true,true,true,false,true,false]
noncomputable def SL:ez:=⟨gZ [0,3,4,5] pLx,.none,[]⟩
noncomputable def vo (v:AV)(H:aG):Option (AV×Option Row) :=
 match v with
 |.fG (.own i _::_)=>some (v,H.get i)
 |_=>some (v,none)
theorem aaf {X:gY}{kn:Ev.fc}{f:FuncId}(hk:∀args,kn f args=none){g:List AV->Option (Bool×List fy)}{call:∀ β,cH β}(hcall:∀ β,cX X (dR X kn) (call β))
 (h:∀args rs,g args=some (true,rs)->∃vs an rounds o,aT X (call (AV×Option Row)) an rounds f args aG.empty vo=some (rH vs,o)/\∀H:aG,vo (rH vs) H=some (rH vs,o)->tn H [] vs rs):cZ X (dR X kn) f g:=by
 intro args rs hg;obtain⟨vs,an,rounds,o,h1,h2⟩:=h args rs hg;obtain⟨v',H1,k1,k2⟩:=kW (nf:=false) (hcall _) (λh=>by cases h) h1;have k3:v'=rH vs:=by
  unfold vo at k1;split at k1<;>exact(jI (bM k1)).1
 subst k3;refine⟨vs,H1,λS E bK hr hgl hl=>?_,h2 H1 k1⟩;obtain⟨S',vE,E',a1,a2,a3,a4,_⟩:=k2 S E bK hr hgl hl;exact⟨S',vE,E',gb hk a1,Dh a2,a3,a4⟩
abbrev dL:Ty:=.pair (.int .i64) (.pair (.int .i64) (.pair .str (.int .i64)))
abbrev Piece:=Int×Int×List UInt8×Int
abbrev lA:=Option (AV×Option Row)
noncomputable def akO (s:List UInt8)(out:AV)(left:List UInt8):fM:=lq 107 [(0,.str s),(3,.ptr 0 0),(4,out),(5,.str left)]
noncomputable def jL0 (s:List UInt8)(r m:Nat)(left:List UInt8):lA:=iH (Xg BJ) (d5 (AV×Option Row)) SL r 18 pLx vo m (akO s .dG left) mT
noncomputable def jL1 (s:List UInt8)(r m:Nat)(out:List Piece)(k:Nat)(left:List UInt8):lA:=iH (Xg BJ) (d5 (AV×Option Row)) SL r 18 pLx vo m (akO s (.own 1 k) left) (oY [.cells 43 [.int .i64 0,.int .i64 0],.list 81 dL out 0 false false])
noncomputable def EH (f a:Int):lA:=some (.fG [.dG,.agg [.int .i64 f,.int .i64 a]],none)
noncomputable def Wj (out:List Piece)(k:Nat):lA:=some (.fG [.own 1 k,.agg [.int .i64 0,.int .i64 0]],some (.list 81 dL out 0 false false))
noncomputable def qc (s left:List UInt8):Int:=IntKind.wrap .i64 (↑s.length - ↑left.length)
noncomputable def qw (s:List UInt8)(e f a:Int)(p:Piece)(room:lA->lA)(go:Piece->List UInt8->lA):lA :=
 ah (!bI f 0) (EH f a) (room (ah (!bB e 0 && !bB ↑s.length e) (go p (dX s e ↑s.length)) none))
noncomputable def SM (s left:List UInt8)(kind:Int)(r:Cut)(room:lA->lA)(go:Piece->List UInt8->lA):lA :=
 ah (!bB (qc s left) 0&&bB (qc s left) ↑s.length&&Nat.ble s.length 1999999) (qw s r.2.1 r.2.2.1 r.2.2.2 (kind,0,r.1,qc s left) room go) none
noncomputable def SN (s left:List UInt8)(room:lA->lA)(go:Piece->List UInt8->lA):lA :=
 ah (Nat.ble s.length 1999999) (qw s (lz s (qc s left)).2.1 (lz s (qc s left)).2.2.1 (lz s (qc s left)).2.2.2 (2,(lz s (qc s left)).1,[],qc s left) room go) none
noncomputable def Cs (s left:List UInt8)(c:UInt8)(room:lA->lA)(go:Piece->List UInt8->lA):lA :=
 ah (bI (cY c) 39) (SN s left room go) (ah (bI (cY c) 34) (SM s left 3 (vn s (qc s left).toNat) room go) (SM s left 4 (vI s (qc s left).toNat) room go))
noncomputable def Jm (left:List UInt8)(skip:List UInt8->lA):lA:=ah (!bB 1 0 && !bB ↑left.length 1) (skip (dX left 1 ↑left.length)) none
noncomputable def QO (s left:List UInt8)(done:lA)(skip:List UInt8->lA)(room:lA->lA)(go:Piece->List UInt8->lA):lA :=
 ah (!decide (left=[])) (Option.rec (motive:=λ_=>lA) none (λc =>
  ah (bI (cY c) 32) (Jm left skip) (ah (bI (cY c) 9) (Jm left skip) (ah (bI (cY c) 59) (skip [])
   (ah (lZ (cY c)) (SM s left 1 (gx s (qc s left).toNat) room go) (ah (!bB (cY c) 48) (ah (!bB 57 (cY c)) (SN s left room go) (Cs s left c room go)) (Cs s left c room go)))))) (dQ left 0)) done
noncomputable def ac9 (out:List Piece)(x:lA):lA:=ah (Nat.ble (out.length+1) 2000000) x none
theorem OJ (s:List UInt8)(r m:Nat)(left:List UInt8):jL0 s r (m+1) left=QO s left (EH 0 0) (jL0 s r m) (λx=>x) (λp=>jL1 s r m [p] 1):=by kernel_rfl
theorem OK (s:List UInt8)(r m:Nat)(out:List Piece)(k:Nat)(left:List UInt8):jL1 s r (m+1) out k left=QO s left (Wj out k) (jL1 s r m out k) (ac9 out) (λp=>jL1 s r m (out++[p]) (out.length+1)):=by kernel_rfl
theorem afB (s:List UInt8)(m:Nat):aT (Xg BJ) (d5 (AV×Option Row)) SL m 18 [.str s] aG.empty vo=ah (bB 1000 ↑s.length) (EH 3 1000) (jL0 s m m s):=by kernel_rfl
theorem SP (s:List UInt8)(a:Nat):∀(rest:List UInt8) (e:Nat),(nM s a rest e).2.2.1=0->(e:Int)<=(nM s a rest e).2.1/\(nM s a rest e).2.1<=(e:Int)+rest.length:=by
 intro rest;induction rest with
 |nil=>intro e _;simp only[nM];exact⟨bE _,by simp⟩
 |cons c r ih =>
  intro e h;rw[nM]at h ⊢;split at h
  .rename_i hm;rw[ag hm];split at h
   .exact absurd h (by simp)
   rename_i Wg;rw[aa Wg];have:=ih (e+1) h;simp only[aJ];omega
  rename_i hm;rw[aa hm];simp only[aJ];omega
theorem OM (s:List UInt8)(a:Nat):∀(rest:List UInt8) (e:Nat),(jL s a rest e).2.2.1=0->(e:Int)<(jL s a rest e).2.1/\(jL s a rest e).2.1<=(e:Int)+rest.length:=by
 intro rest;induction rest with
 |nil=>intro e h;exact absurd h (by simp[jL])
 |cons c r ih =>
  intro e h;rw[jL]at h ⊢;split at h
  .rename_i hm;rw[ag hm];simp only[aJ];omega
  rename_i hm;rw[aa hm];split at h
  .rename_i hp;rw[ag hp];have:=ih (e+1) h;simp only[aJ];omega
  exact absurd h (by simp)
theorem SQ (len:Nat):∀(rest:List UInt8) (k N i:Nat),(pU len rest k N i).2.2.1=0->(i:Int)<(pU len rest k N i).2.1/\(pU len rest k N i).2.1<=(i:Int)+rest.length:=by
 intro rest;induction rest with
 |nil=>intro k N i h;exact absurd h (by simp[pU])
 |cons c r ih =>
  intro k N i h;rw[pU]at h ⊢;split at h
  .rename_i hm;rw[ag hm];split at h
   .exact absurd h (by simp)
   rename_i hk;rw[aa hk];simp only[aJ];omega
  rename_i hm;rw[aa hm];split at h
  .exact absurd h (by simp)
  rename_i hk;rw[aa hk];split at h
  .exact absurd h (by simp)
  rename_i hk8;rw[aa hk8];have:=ih _ _ (i+1) h;simp only[aJ];omega
theorem SU (s:List UInt8)(a:Nat):∀l:List (List UInt8),(∀g∈l,0<g.length)->(sC s a l).2.2.1=0->(a:Int)<(sC s a l).2.1/\(sC s a l).2.1<=(s.length:Int):=by
 intro l;induction l with
 |nil=>intro _ h;exact absurd h (by simp[sC])
 |cons g r ih =>
  intro hl h;have hg:=hl g (cD ..);rw[sC]at h ⊢;split at h
  .rename_i hp;rw[ag hp];unfold preB at hp;have:=cj List.length (ef hp);simp only[bY,bQ]at this;show (a:Int)<(a:Int)+g.length/\(a:Int)+g.length<=s.length;omega
  rename_i hp;rw[aa hp];exact ih (λg h=>hl g (bD _ h)) h
theorem SV (w:List UInt8)(a:Nat)(h:(yC w a).2.2.1=0):(yC w a).2.1=(a:Int)+w.length:=by
 unfold yC at h ⊢;split at h
 .exact absurd h (by simp)
 rename_i h1;rw[aa h1];split at h
 .exact absurd h (by simp)
 rename_i h2;rw[aa h2]
def jM (s:List UInt8)(c:UInt8)(a:Nat):Piece×Int×Int×Int :=
 if lZ (cY c) then ((1,0,(gx s a).1,a),(gx s a).2)
 else if 48<=cY c/\cY c<=57\/cY c=39 then ((2,(lz s a).1,[],a),(lz s a).2)
 else if cY c=34 then ((3,0,(vn s a).1,a),(vn s a).2)
 else ((4,0,(vI s a).1,a),(vI s a).2)
theorem xU {s:List UInt8}{a:Nat}{c:UInt8}{r:List UInt8}(hd:s.drop a=c::r)(h:(jM s c a).2.2.1=0):(a:Int)<(jM s c a).2.1/\(jM s c a).2.1<=s.length:=by
 have hl:s.length-a=r.length+1:=by have:=cj List.length hd;simpa using this
 have hd1:s.drop (a+1)=r:=by rw[<-eJ,hd];rfl
 have hgd:s.getD a 0=c:=by
  have h0:(s.drop a).getD 0 0=c:=by rw[hd];rfl
  rw[<-h0];simp[List.getD]
 unfold jM at h ⊢;split at h
 .rename_i hf;rw[ag hf];unfold gx at h ⊢;rw[hd,nM]at h ⊢;have hm:um (cY c)=true:=by unfold um;rw[hf];rfl
  rw[ag hm,aa (by omega)]at h ⊢;have:=SP s a r (a+1) h;show (a:Int)<(nM s a r (a+1)).2.1/\(nM s a r (a+1)).2.1<=_;omega
 rename_i hf;rw[aa hf];split at h
 .rename_i hn;rw[ag hn];unfold lz at h ⊢;rw[aa (by omega),aa (by omega),bg,hgd]at h ⊢;split at h
  .rename_i hq;rw[ag hq];unfold pV at h ⊢;rw[hd1]at h ⊢;have:=SQ s.length r 0 0 (a+1) h;show (a:Int)<(pU s.length r 0 0 (a+1)).2.1/\(pU s.length r 0 0 (a+1)).2.1<=_;omega
  rename_i hq;rw[aa hq];have hn':48<=cY c/\cY c<=57:=by omega
  rw[ag hn']at h ⊢;have:=SV _ a h;rw[this];have hw:pQ (cY c)=true:=by unfold pQ;simp;omega
  have e:((s.drop a).takeWhile λc=>pQ (cY c))=c::(r.takeWhile λc=>pQ (cY c)):=by rw[hd,jl,ag hw]
  have h3:=(List.takeWhile_sublist (λc=>pQ (cY c)) (l:=r)).length_le;rw[e,aJ];omega
 rename_i hn;rw[aa hn];split at h
 .rename_i hq;rw[ag hq];unfold vn at h ⊢;rw[hd1]at h ⊢;have:=OM s a r (a+1) h;show (a:Int)<(jL s a r (a+1)).2.1/\(jL s a r (a+1)).2.1<=_;omega
 rename_i hq;rw[aa hq];exact SU s a zf (by decide) h
theorem SW (c:UInt8)(r:List UInt8):dX (c::r) 1 ↑(c::r).length=r:=by
 unfold dX;simp
theorem LX {s:List UInt8}{e f a:Int}{p:Piece}{room:lA->lA}{go:Piece->List UInt8->lA}(h:f=0->0<=e/\e<=s.length) :
 qw s e f a p room go=if f=0 then room (go p (s.drop e.toNat)) else EH f a:=by
 unfold qw;by_cases hf:f=0
 .rw[F3 hf,ag hf];obtain⟨h1,h2⟩:=h hf;rw[fH (by omega),fH (by omega)];obtain⟨n,rfl⟩:∃n:Nat,e=n:=⟨e.toNat,by omega⟩;show room (go p (dX s n s.length))=_;rw[LW,bg]
 rw[xT hf,aa hf];rfl
theorem QS {s:List UInt8}(hs:s.length<=1000){a:Nat}{c:UInt8}{r:List UInt8}(hd:s.drop a=c::r)(done:lA)(skip:List UInt8->lA)(room:lA->lA)(go:Piece->List UInt8->lA) :
 QO s (c::r) done skip room go=if cY c=32\/cY c=9 then skip r else if cY c=59 then skip [] else if (jM s c a).2.2.1=0 then room (go (jM s c a).1 (s.drop (jM s c a).2.1.toNat)) else EH (jM s c a).2.2.1 (jM s c a).2.2.2:=by
 have hl:s.length-a=r.length+1:=by have:=cj List.length hd;simpa using this
 have hpl:qc s (c::r)=(a:Int):=by
  unfold qc;rw[aJ,i64_in (by omega) (by omega)];omega
 have hend:=xU hd;have hb:Jm (c::r) skip=skip r:=by
  unfold Jm;rw[fH (by omega),fH (by rw[aJ];omega),SW];rfl
 have hg:(!bB (a:Int) 0&&bB (a:Int) ↑s.length&&Nat.ble s.length 1999999)=true:=by
  rw[fH (by omega),qG (by omega),eo (by omega)];rfl
 have hg2:Nat.ble s.length 1999999=true:=eo (by omega);unfold QO;rw[aU (by simp),show dQ (c::r) 0=some c from lY [] r c];show ah (bI (cY c) 32) _ (ah (bI (cY c) 9) _ (ah (bI (cY c) 59) _ _))=_;rw[hb];by_cases h32:cY c=32
 .rw[F3 h32,ag (.inl h32)]
 rw[xT h32];show ah (bI (cY c) 9) _ _=_;by_cases h9:cY c=9
 .rw[F3 h9,ag (.inr h9)]
 rw[xT h9,aa (by omega)];show ah (bI (cY c) 59) _ _=_;by_cases h59:cY c=59
 .rw[F3 h59,ag h59]
 rw[xT h59,aa h59];show ah (lZ (cY c)) _ _=_;have SK:∀(kind:Int) (q:Cut),(q.2.2.1=0->(a:Int)<q.2.1/\q.2.1<=s.length)->SM s (c::r) kind q room go=if q.2.2.1=0 then room (go (kind,0,q.1,(a:Int)) (s.drop q.2.1.toNat)) else EH q.2.2.1 q.2.2.2:=by
  intro kind q hq;unfold SM;rw[hpl,hg];show qw _ _ _ _ _ _ _=_;exact LX λh=>by have:=hq h;omega
 unfold jM at hend ⊢;by_cases hf:lZ (cY c)=true
 .rw[ag hf]at hend;rw[hf,ag rfl];show SM _ _ _ _ _ _=_;rw[hpl,bg];exact SK 1 _ hend
 rw[aa hf]at hend;rw[aa hf,Bool.eq_false_iff.2 hf];show ah (!bB (cY c) 48) (ah (!bB 57 (cY c)) (SN s (c::r) room go) (Cs s (c::r) c room go)) (Cs s (c::r) c room go)=_;have akQ:(48<=cY c/\cY c<=57\/cY c=39)->SN s (c::r) room go=if (lz s (a:Int)).2.2.1=0 then room (go (2,(lz s (a:Int)).1,[],(a:Int)) (s.drop (lz s (a:Int)).2.1.toNat)) else EH (lz s (a:Int)).2.2.1 (lz s (a:Int)).2.2.2:=by
  intro hn;rw[ag hn]at hend;unfold SN;rw[hpl,hg2];show qw _ _ _ _ _ _ _=_;exact LX λh=>by have:=hend h;dsimp only at this;omega
 by_cases hn:48<=cY c/\cY c<=57
 .have hd3:48<=cY c/\cY c<=57\/cY c=39:=.inl hn;rw[fH (by omega),fH (by omega),ag hd3];exact akQ hd3
 have hr:ah (!bB (cY c) 48) (ah (!bB 57 (cY c)) (SN s (c::r) room go) (Cs s (c::r) c room go)) (Cs s (c::r) c room go)=Cs s (c::r) c room go:=by
  rw[iP,iP];split
  .rw[aa (by omega)]
  rfl
 rw[hr];unfold Cs;by_cases h39:cY c=39
 .have hd3:48<=cY c/\cY c<=57\/cY c=39:=.inr h39;rw[F3 h39,ag hd3];exact akQ hd3
 have hd3:¬(48<=cY c/\cY c<=57\/cY c=39):=by omega
 rw[aa hd3]at hend;rw[xT h39,aa hd3];show ah (bI (cY c) 34) _ _=_;rw[hpl,bg];by_cases Y8:cY c=34
 .rw[ag Y8]at hend;rw[F3 Y8,ag Y8];exact SK 3 _ hend
 rw[aa Y8]at hend;rw[xT Y8,aa Y8];exact SK 4 _ hend
def sD (s:List UInt8):Nat->List UInt8->List Piece×Int×Int
 |0,_=>([],0,0)
 |_+1,[]=>([],0,0)
 |n+1,c::r =>
  if cY c=32\/cY c=9 then sD s n r else if cY c=59 then ([],0,0)
  else if (jM s c (s.length-(r.length+1))).2.2.1=0 then
   ((jM s c (s.length-(r.length+1))).1::(sD s n (s.drop (jM s c (s.length-(r.length+1))).2.1.toNat)).1,(sD s n (s.drop (jM s c (s.length-(r.length+1))).2.1.toNat)).2)
  else ([],(jM s c (s.length-(r.length+1))).2.2)
noncomputable def SX (out:List Piece)(t:List Piece×Int×Int):lA:=if t.2.1=0 then Wj (out++t.1) (out++t.1).length else EH t.2.1 t.2.2
theorem afD (s:List UInt8)(hs:s.length<=1000)(rd:Nat):∀(n m:Nat) (out:List Piece) (left:List UInt8),left.length<=n->n<m->s.drop (s.length-left.length)=left->out.length+n<=1000 ->
 jL1 s rd m out out.length left=SX out (sD s n left):=by
 intro n;induction n with
 |zero =>
  intro m out left h1 h2 _ _;obtain⟨m,rfl⟩:∃m',m=m'+1:=⟨m-1,by omega⟩;have:left=[]:=aQ.1 (by omega);subst this;rw[OK];show Wj out out.length=_;unfold SX sD;simp
 |succ n ih =>
  intro m out left h1 h2 h3 h4;obtain⟨m,rfl⟩:∃m',m=m'+1:=⟨m-1,by omega⟩
  match left,h1,h3 with
  |[],_,_ =>
   rw[OK];show Wj out out.length=_;unfold SX sD;simp
  |c::r,h1,h3 =>
   rw[aJ]at h1 h3;have hle:r.length+1<=s.length:=by
    have:=cj List.length h3;simp only[bQ,aJ]at this;omega
   have hr:s.drop (s.length-r.length)=r:=by
    have:s.length-r.length=s.length-(r.length+1)+1:=by omega
    rw[this,<-eJ,h3];rfl
   rw[OK,QS hs h3,sD];split
   .exact ih m out r (by omega) (by omega) hr (by omega)
   split
   .have:=ih m out [] (by simp) (by omega) (by simp) (by omega);rw[this];cases n<;>rfl
   split
   .rename_i hp;have he:=xU h3 hp;unfold ac9;rw[eo (by omega)];show jL1 s rd m (out++[_]) (out.length+1) _=_;have e:out.length+1=(out++[(jM s c (s.length-(r.length+1))).1]).length:=by simp
    rw[e,ih m _ _ (by simp only[bQ];omega) (by omega) (by rw[bQ];congr 1;omega) (by simp;omega)];unfold SX;simp only[bJ,List.singleton_append]
   rename_i hp;unfold SX;rw[aa hp]
noncomputable def QT (t:List Piece×Int×Int):lA:=if t.2.1=0 then (if t.1=[] then EH 0 0 else Wj t.1 t.1.length) else EH t.2.1 t.2.2
theorem afE (s:List UInt8)(hs:s.length<=1000)(rd:Nat):∀(n m:Nat) (left:List UInt8),left.length<=n->n<m->s.drop (s.length-left.length)=left->n<=1000 ->
 jL0 s rd m left=QT (sD s n left):=by
 intro n;induction n with
 |zero =>
  intro m left h1 h2 _ _;obtain⟨m,rfl⟩:∃m',m=m'+1:=⟨m-1,by omega⟩;have:left=[]:=aQ.1 (by omega);subst this;rw[OJ];rfl
 |succ n ih =>
  intro m left h1 h2 h3 h4;obtain⟨m,rfl⟩:∃m',m=m'+1:=⟨m-1,by omega⟩
  match left,h1,h3 with
  |[],_,_ =>
   rw[OJ];rfl
  |c::r,h1,h3 =>
   rw[aJ]at h1 h3;have hle:r.length+1<=s.length:=by
    have:=cj List.length h3;simp only[bQ,aJ]at this;omega
   have hr:s.drop (s.length-r.length)=r:=by
    have:s.length-r.length=s.length-(r.length+1)+1:=by omega
    rw[this,<-eJ,h3];rfl
   rw[OJ,QS hs h3,sD];split
   .exact ih m r (by omega) (by omega) hr (by omega)
   split
   .have:=ih m [] (by simp) (by omega) (by simp) (by omega);rw[this];cases n<;>rfl
   split
   .rename_i hp;have he:=xU h3 hp;have:=afD s hs rd n m [(jM s c (s.length-(r.length+1))).1] (s.drop (jM s c (s.length-(r.length+1))).2.1.toNat) (by simp only[bQ];omega) (by omega) (by rw[bQ];congr 1;omega) (by simp;omega);refine this.trans ?_;unfold SX QT;simp only[List.singleton_append];split
    .rw[aa (by simp)]
    rfl
   rename_i hp;unfold QT;rw[aa hp]
def kf (s:List UInt8):List Piece×Int×Int :=
 if 1000<s.length then ([],3,1000) else if (sD s s.length s).2.1=0 then ((sD s s.length s).1,0,0) else ([],(sD s s.length s).2)
noncomputable def afF (args:List AV):Option (Bool×List fy) :=
 match args with
 |[.str s]=>some (true,[.list 81 dL (kf s).1,.val (.agg [.int .i64 (kf s).2.1,.int .i64 (kf s).2.2])])
 |_=>none
theorem Wk (s:List UInt8):aT (Xg BJ) (d5 (AV×Option Row)) SL (s.length+1) 18 [.str s] aG.empty vo =
 if (kf s).1=[] then EH (kf s).2.1 (kf s).2.2 else some (.fG [.own 1 (kf s).1.length,.agg [.int .i64 (kf s).2.1,.int .i64 (kf s).2.2]],some (.list 81 dL (kf s).1 0 false false)):=by
 rw[afB];unfold kf;by_cases hl:1000<s.length
 .rw[qG (by omega),ag hl,ag rfl]
 rw[fH (by omega),aa hl];show jL0 s (s.length+1) (s.length+1) s=_;rw[afE s (by omega) _ s.length _ s (aC _) (by omega) (by simp) (by omega)];unfold QT;by_cases hf:(sD s s.length s).2.1=0
 .rw[ag hf,ag hf];rfl
 rw[aa hf,aa hf,ag rfl]
theorem akR:cZ (Xg BJ) (dR (Xg BJ) kn) 18 afF :=
 aaf (λargs=>bR rfl args) akN λargs rs hg=>by
  unfold afF at hg;split at hg
  .rename_i s;simp only[aq,ax]at hg;obtain⟨_,rfl⟩:=hg;by_cases h:(kf s).1=[]
   .refine ⟨[.dG,.agg [.int .i64 (kf s).2.1,.int .i64 (kf s).2.2]],SL,s.length+1,none,?_,λH _=>⟨rfl,.inr ⟨rfl,h,rfl,rfl,trivial⟩⟩⟩;rw[Wk,ag h];rfl
   refine⟨[.own 1 (kf s).1.length,.agg [.int .i64 (kf s).2.1,.int .i64 (kf s).2.2]],SL,s.length+1,some (.list 81 dL (kf s).1 0 false false),?_,λH hH=>⟨rfl,.inl ⟨1,0,false,rfl,?_,by simp,rfl,rfl,trivial⟩⟩⟩
   .rw[Wk,aa h];rfl
   exact(jI (bM hH)).2
  cases hg
end Go.Proofs.YtbeckacfibledaaGreatDoor.lt
namespace Go.Proofs.YtbeckacfibledaaGreatDoor.lt
open Go.Tv Go.Ev
set_option maxRecDepth 100000
noncomputable section
def pN1:List Bool:=[true,true,false,true,false]
def aai:ez:=⟨gZ [0,19,20] pN1,.none,[]⟩
theorem Wn {s:List UInt8}(hs:s.length<2000000){p:UInt8->Bool}{j:Nat->Int->Option AV}{A B:Option AV} (step:∀m i,j (m+1) i=ah (bB i ↑s.length) (Option.rec (motive:=λ_=>Option AV) none (λc=>ah (!p c) A (j m (IntKind.wrap .i64 (i+1)))) (dQ s i)) B) :
 ∀(rest pre:List UInt8) (m:Nat),s=pre++rest->rest.length<m->j m pre.length=if rest.all p=true then B else A:=by
 intro rest;induction rest with
 |nil =>
  intro pre m he hm;obtain⟨m,rfl⟩:∃m',m=m'+1:=⟨m-1,by simp at hm;omega⟩;have hl:s.length=pre.length:=by rw[he];simp
  rw[step,fH (by omega)];rfl
 |cons c rest ih =>
  intro pre m he hm;obtain⟨m,rfl⟩:∃m',m=m'+1:=⟨m-1,by simp at hm;omega⟩;have hl:s.length=pre.length+(rest.length+1):=by rw[he];simp
  have hg:dQ s (pre.length:Int)=some c:=by rw[he];exact lY pre rest c
  have hin:=ih (pre++[c]) m (by rw[he];simp) (by simp at hm;omega);rw[aA]at hin;have hin:j m ((pre.length:Int)+1)=if rest.all p=true then B else A:=hin;rw[step,qG (by omega),hg,i64_in (n:=(pre.length:Int)+1) (by omega) (by omega)];show ah (!p c) A (j m ((pre.length:Int)+1))=_;rw[hin];cases hp:p c
  .simp[hp]
  simp[hp]
def Ct (c:UInt8):Bool:=um (cY c)
def bX (s:List UInt8):Bool:=match s with
 |[]=>false
 |c::r=>decide (r.length<60)&&lZ (cY c)&&(c::r).all Ct
noncomputable def jN1 (gv:Nat->List AV)(s:List UInt8)(r m:Nat)(i:Int):Option AV:=iH (Xg gv) (d2 gv AV) aai r 155 pN1 (λv _=>some v) m (lq 29 [(0,.str s),(19,.int .i64 s.length),(20,.int .i64 i)]) aG.empty
theorem afH (gv:Nat->List AV)(s:List UInt8)(r m:Nat)(i:Int):jN1 gv s r (m+1) i=ah (bB i ↑s.length) (Option.rec (motive:=λ_=>Option AV) none (λc=>ah (!Ct c) (some (.bool false)) (jN1 gv s r m (IntKind.wrap .i64 (i+1)))) (dQ s i)) (some (.bool true)):=by kernel_rfl
theorem aaj (gv:Nat->List AV)(s:List UInt8)(r:Nat):aT (Xg gv) (d2 gv AV) aai r 155 [.str s] aG.empty (λv _=>some v) =
 ah (bI ↑s.length 0) (some (.bool false)) (ah (bB 60 ↑s.length) (some (.bool false)) (Option.rec (motive:=λ_=>Option AV) none (λc=>ah (!lZ (cY c)) (some (.bool false)) (jN1 gv s r r 0)) (dQ s 0))):=by kernel_rfl
theorem OQ {n:Int}(h:lZ n=true):um n=true:=by unfold um;rw[h];rfl
theorem akV (gv:Nat->List AV)(s:List UInt8):aT (Xg gv) (d2 gv AV) aai 100 155 [.str s] aG.empty (λv _=>some v)=some (.bool (bX s)):=by
 rw[aaj];cases s with
 |nil=>rfl
 |cons c r =>
  show _=some (AV.bool (decide (r.length<60)&&lZ (cY c)&&(c::r).all Ct));rw[xT (by simp;omega)];by_cases h:r.length<60
  .rw[fH (by simp;omega),aX h];have hl:=Wn (s:=c::r) (by simp;omega) (afH gv (c::r) 100) (c::r) [] 100 rfl (by simp;omega);have hl:jN1 gv (c::r) 100 100 0=_:=hl;rw[hl];show ah (!lZ (cY c)) _ _=_;cases lZ (cY c)
   .rfl
   cases (c::r).all Ct<;>rfl
  rw[qG (by simp;omega),aU h];rfl
def gNm (args:List AV):Option (Bool×List fy) :=
 match args with
 |[.str s]=>some (true,[.val (.bool (bX s))])
 |_=>none
theorem akW (gv:Nat->List AV):cZ (Xg gv) (dR (Xg gv) kn) 155 gNm :=
 cR (λargs=>bR rfl args) (We gv) λargs rs hg=>by
  unfold gNm at hg;split at hg
  .rename_i s;simp only[aq,ax]at hg;obtain⟨_,rfl⟩:=hg;exact⟨[.bool (bX s)],aai,100,akV gv s,rfl,rfl⟩
  cases hg
end
end Go.Proofs.YtbeckacfibledaaGreatDoor.lt
namespace Go.Proofs.YtbeckacfibledaaGreatDoor.lt
open Go.Tv Go.Ev
set_option maxRecDepth 100000
end Go.Proofs.YtbeckacfibledaaGreatDoor.lt
