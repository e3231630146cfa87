/- Tokens: bytes. Tokens: names and quoted texts. Tokens: signs. Tokens: signs. Tokens: a line. Tokens: a line, round by round. Tokens: every piece ends behind its place. Tokens: the contract of Lex. Tokens: the contract of Lex. Names: token.Name; what Lex makes of a name. What Lex makes of a line that has a name, and little more. -/
import Derived.Test.YtfggompceldfgaaGreatDoorGra
set_option linter.unusedVariables false
set_option linter.unusedSimpArgs false

namespace Go.Proofs.YtfggompceldfgaaGreatDoor.lt
open Go.Tv Go.Ev
set_option maxRecDepth 100000
def lY (n:Int):Bool:=decide (97<=n/\n<=122\/65<=n/\n<=90\/n=95\/n=46)
def uj (n:Int):Bool:=lY n||decide (48<=n/\n<=57)
def tL (n:Int):Bool:=decide (32<=n/\n<=126)
theorem ajI (gv:Nat->List AV)(n:Int):aT (Xg gv) (c0 gv AV) ia 5 40 [.int .u8 n] aH.empty (λv _=>some v)=some (.bool (lY n)):=by
 have h:aT (Xg gv) (c0 gv AV) ia 5 40 [.int .u8 n] aH.empty (λv _=>some v)=yh n 97 122 (some (.bool true)) (yh n 65 90 (some (.bool true)) (ah (bI n 95) (some (.bool true)) (some (.bool (bI n 46))))):=by kernel_rfl
 rw[h];simp only[Ep,ck];unfold lY;split
 .rw[bf (by omega)]
 split
 .rw[bf (by omega)]
 split
 .rw[bf (by omega)]
 refine cn (λx=>some (AV.bool x)) ?_;rw[eT,bO,eI,aV];omega
theorem ajJ (gv:Nat->List AV)(n:Int):aT (Xg gv) (c0 gv AV) ia 5 79 [.int .u8 n] aH.empty (λv _=>some v)=some (.bool (tL n)):=by
 have h:aT (Xg gv) (c0 gv AV) ia 5 79 [.int .u8 n] aH.empty (λv _=>some v)=ah (!bB n 32) (some (.bool (!bB 126 n))) (some (.bool false)):=by kernel_rfl
 rw[h,jM];unfold tL;split
 .refine cn (λx=>some (AV.bool x)) ?_;rw[cB,bO,aS,bH,aV];omega
 rw[aU (by omega)]
noncomputable def ZH (p:Int->Bool)(args:List AV):Option (Bool×List fN) :=
 match args with
 |[.int .u8 n]=>some (true,[.val (.bool (p n))])
 |_=>none
theorem Oa {gv:Nat->List AV}{call:∀ β,cI β}(hcall:∀ β,cT (Xg gv) (dO (Xg gv) kn) (call β)){f:FuncId}(hk:inl f=true){p:Int->Bool}(h:∀n,aT (Xg gv) (call AV) ia 5 f [.int .u8 n] aH.empty (λv _=>some v)=some (.bool (p n))):dh (Xg gv) (dO (Xg gv) kn) f (ZH p) :=
 dA (λargs=>bS hk args) hcall λargs rs hg=>by
  unfold ZH at hg;split at hg
  .rename_i n;simp only[aq,ax]at hg;obtain⟨h1,rfl⟩:=hg;exact⟨[.bool (p n)],ia,5,h n,rfl,rfl⟩
  cases hg
theorem ack (gv:Nat->List AV):dh (Xg gv) (dO (Xg gv) kn) 40 (ZH lY):=Oa (z8 gv) rfl (ajI gv)
theorem ajK (gv:Nat->List AV):dh (Xg gv) (dO (Xg gv) kn) 79 (ZH tL):=Oa (z8 gv) rfl (ajJ gv)
noncomputable def M1:List xX:=[(40,[none],ZH lY),(79,[none],ZH tL)]
theorem acm (gv:Nat->List AV):jx (Xg gv) (dO (Xg gv) kn) M1:=.cons (ack gv) (.cons (ajK gv) .nil)
noncomputable def d1 (gv:Nat->List AV)(β:Type):cI β:=sx (Xg gv) (Tw M1) inl 200 β 20
theorem ajL (gv:Nat->List AV)(β:Type):cT (Xg gv) (dO (Xg gv) kn) (d1 gv β):=lg (acm gv) (λf h args=>bS h args) 200 20 β
theorem ajM (gv:Nat->List AV)(n:Int):aT (Xg gv) (d1 gv AV) ia 5 74 [.int .u8 n] aH.empty (λv _=>some v)=some (.bool (uj n)):=by
 have h:aT (Xg gv) (d1 gv AV) ia 5 74 [.int .u8 n] aH.empty (λv _=>some v)=ah (lY n) (some (.bool true)) (ah (!bB n 48) (some (.bool (!bB 57 n))) (some (.bool false))):=by kernel_rfl
 rw[h,av,jM];unfold uj;split
 .rename_i hf;rw[hf];rfl
 rename_i hf;have hf:lY n=false:=by simpa using hf
 rw[hf,Bool.false_or];split
 .refine cn (λx=>some (AV.bool x)) ?_;rw[cB,bO,aS,bH,aV];omega
 rw[aU (by omega)]
theorem ajN (gv:Nat->List AV):dh (Xg gv) (dO (Xg gv) kn) 74 (ZH uj):=Oa (ajL gv) rfl (ajM gv)
noncomputable def M2:List xX:=(74,[none],ZH uj)::M1
theorem acn (gv:Nat->List AV):jx (Xg gv) (dO (Xg gv) kn) M2:=.cons (ajN gv) (acm gv)
noncomputable def d2 (gv:Nat->List AV)(β:Type):cI β:=sx (Xg gv) (Tw M2) inl 200 β 20
theorem VK (gv:Nat->List AV)(β:Type):cT (Xg gv) (dO (Xg gv) kn) (d2 gv β):=lg (acn gv) (λf h args=>bS h args) 200 20 β
abbrev Cut:=List UInt8×Int×Int×Int
noncomputable def eF (r:Cut):Option AV:=some (.fH [.str r.1,.int .i64 r.2.1,.agg [.int .i64 r.2.2.1,.int .i64 r.2.2.2]])
def pNm:List Bool:=[true,true,false,false]
def pTx:List Bool:=[true,false,true,false]
noncomputable def I0:eD:=⟨gZ [0,1,6,7] pNm,.none,[]⟩
noncomputable def aeL:eD:=⟨gZ [0,1,6,7] pTx,.none,[]⟩
noncomputable def I1 (k:Nat)(s:List UInt8)(a e:Int):fF:=lz k [(0,.str s),(1,.int .i64 a),(6,.ptr 0 0),(7,.int .i64 e)]
noncomputable def jNm (gv:Nat->List AV)(s:List UInt8)(a:Int)(r m:Nat)(e:Int):Option AV:=jf (Xg gv) (d2 gv AV) I0 r 41 pNm (λv _=>some v) m (I1 33 s a e) mT
noncomputable def jTx (gv:Nat->List AV)(s:List UInt8)(a:Int)(r m:Nat)(e:Int):Option AV:=jf (Xg gv) (d2 gv AV) aeL r 43 pTx (λv _=>some v) m (I1 40 s a e) mT
noncomputable def Qh (s:List UInt8)(a e:Int):Option AV:=ah (!bB a 0 && !bB e a && !bB ↑s.length e) (eF (eA s a e,e,0,0)) none
noncomputable def Oc (s:List UInt8)(a e:Int)(go:Int->Option AV):Option AV :=
 ah (bB e ↑s.length)
  (Option.rec (motive:=λ_=>Option AV) none (λc=>ah (uj (cU c)) (ah (bI (IntKind.wrap .i64 (e-a)) 60) (eF ([],0,3,e)) (go (IntKind.wrap .i64 (e+1)))) (Qh s a e)) (dX s e))
  (Qh s a e)
noncomputable def Od (s:List UInt8)(a e:Int)(go:Int->Option AV):Option AV :=
 ah (bB e ↑s.length)
  (Option.rec (motive:=λ_=>Option AV) none (λc=>ah (bI (cU c) 34)
   (ah (!bB (IntKind.wrap .i64 (a+1)) 0 && !bB e (IntKind.wrap .i64 (a+1)) && !bB ↑s.length e) (eF (eA s (IntKind.wrap .i64 (a+1)) e,IntKind.wrap .i64 (e+1),0,0)) none)
   (Option.rec (motive:=λ_=>Option AV) none (λc=>ah (!tL (cU c)) (eF ([],0,4,e)) (go (IntKind.wrap .i64 (e+1)))) (dX s e))) (dX s e))
  (eF ([],0,4,↑s.length))
theorem vh (gv:Nat->List AV)(s:List UInt8)(a:Int)(r m:Nat)(e:Int):jNm gv s a r (m+1) e=Oc s a e (jNm gv s a r m):=by kernel_rfl
theorem VL (gv:Nat->List AV)(s:List UInt8)(a:Int)(r m:Nat)(e:Int):jTx gv s a r (m+1) e=Od s a e (jTx gv s a r m):=by kernel_rfl
theorem I2 (gv:Nat->List AV)(s:List UInt8)(a:Int)(m:Nat):aT (Xg gv) (d2 gv AV) I0 m 41 [.str s,.int .i64 a] aH.empty (λv _=>some v)=jNm gv s a m m a:=by kernel_rfl
theorem ZI (gv:Nat->List AV)(s:List UInt8)(a:Int)(m:Nat):aT (Xg gv) (d2 gv AV) aeL m 43 [.str s,.int .i64 a] aH.empty (λv _=>some v)=jTx gv s a m m (IntKind.wrap .i64 (a+1)):=by kernel_rfl
def nM (s:List UInt8)(a:Nat):List UInt8->Nat->Cut
 |[],e=>(eA s a e,e,0,0)
 |c::r,e=>if uj (cU c) then (if e=a+60 then ([],0,3,e) else nM s a r (e+1)) else (eA s a e,e,0,0)
def jN (s:List UInt8)(a:Nat):List UInt8->Nat->Cut
 |[],_=>([],0,4,s.length)
 |c::r,e=>if cU c=34 then (eA s (a+1) e,e+1,0,0) else if tL (cU c) then jN s a r (e+1) else ([],0,4,e)
theorem Lz (s:List UInt8)(a e:Nat)(h:a<=e)(h2:e<=s.length):Qh s a e=eF (eA s a e,e,0,0):=by
 unfold Qh;rw[fG (by omega),fG (by omega),fG (by omega)];rfl
theorem aeM (gv:Nat->List AV)(s:List UInt8)(hs:s.length<2000000)(a r:Nat):∀(rest pre:List UInt8) (m:Nat),s=pre++rest->rest.length<m->a<=pre.length ->
 jNm gv s a r m pre.length=eF (nM s a rest pre.length):=by
 intro rest;induction rest with
 |nil =>
  intro pre m he hm hp;obtain⟨m,rfl⟩:∃m',m=m'+1:=⟨m-1,by simp at hm;omega⟩;have hl:s.length=pre.length:=by rw[he];simp
  rw[vh];unfold Oc;rw[fG (by omega),Lz s a _ hp (by omega)];rfl
 |cons c rest ih =>
  intro pre m he hm hp;obtain⟨m,rfl⟩:∃m',m=m'+1:=⟨m-1,by simp at hm;omega⟩;have hl:s.length=pre.length+(rest.length+1):=by rw[he];simp
  have hg:dX s (pre.length:Int)=some c:=by rw[he];exact lX pre rest c
  have hnext:IntKind.wrap .i64 ((pre.length:Int)+1)=((pre++[c]).length:Int):=by rw[i64_in (by omega) (by omega)];simp
  rw[vh];unfold Oc;rw[pL (by omega),hg,Lz s a _ hp (by omega),hnext,i64_in (n:=(pre.length:Int)-a) (by omega) (by omega)];show ah (uj (cU c)) (ah (bI ((pre.length:Int)-a) 60) _ (jNm gv s a r m ((pre++[c]).length:Int))) _=_;rw[nM,av];split
  .by_cases VM:pre.length=a+60
   .rw[FL (by omega),ag VM]
   rw[xI (by omega),aa VM];show jNm gv s a r m ((pre++[c]).length:Int)=_;rw[ih (pre++[c]) m (by rw[he];simp) (by simp at hm;omega) (by simp;omega),aA,ef]
  rfl
theorem aeN (gv:Nat->List AV)(s:List UInt8)(hs:s.length<2000000)(a r:Nat):∀(rest pre:List UInt8) (m:Nat),s=pre++rest->rest.length<m->a+1<=pre.length ->
 jTx gv s a r m pre.length=eF (jN s a rest pre.length):=by
 intro rest;induction rest with
 |nil =>
  intro pre m he hm hp;obtain⟨m,rfl⟩:∃m',m=m'+1:=⟨m-1,by simp at hm;omega⟩;have hl:s.length=pre.length:=by rw[he];simp
  rw[VL];unfold Od;rw[fG (by omega)];rfl
 |cons c rest ih =>
  intro pre m he hm hp;obtain⟨m,rfl⟩:∃m',m=m'+1:=⟨m-1,by simp at hm;omega⟩;have hl:s.length=pre.length+(rest.length+1):=by rw[he];simp
  have hg:dX s (pre.length:Int)=some c:=by rw[he];exact lX pre rest c
  have hnext:IntKind.wrap .i64 ((pre.length:Int)+1)=((pre++[c]).length:Int):=by rw[i64_in (by omega) (by omega)];simp
  rw[VL];unfold Od;rw[pL (by omega),hg,hnext,i64_in (n:=(a:Int)+1) (by omega) (by omega),fG (a:=(a:Int)+1) (by omega),fG (a:=(pre.length:Int)) (b:=(a:Int)+1) (by omega),fG (a:=(s.length:Int)) (by omega)];show ah (bI (cU c) 34) (eF (eA s ((a:Int)+1) (pre.length:Int),((pre++[c]).length:Int),0,0)) (ah (!tL (cU c)) _ (jTx gv s a r m ((pre++[c]).length:Int)))=_;rw[jN];by_cases hc:cU c=34
  .rw[FL hc,ag hc,aA,ef];rfl
  rw[xI hc,aa hc];show ah (!tL (cU c)) _ _=_;cases hpl:tL (cU c)
  .rfl
  show jTx gv s a r m ((pre++[c]).length:Int)=_;rw[ag rfl,ih (pre++[c]) m (by rw[he];simp) (by simp at hm;omega) (by simp;omega),aA,ef]
def fO (s:List UInt8)(a:Nat):Cut:=nM s a (s.drop a) a
def vi (s:List UInt8)(a:Nat):Cut:=jN s a (s.drop (a+1)) (a+1)
theorem ajO (gv:Nat->List AV)(s:List UInt8)(hs:s.length<2000000)(a:Nat)(ha:a<s.length) :
 aT (Xg gv) (d2 gv AV) I0 (s.length+1) 41 [.str s,.int .i64 a] aH.empty (λv _=>some v)=eF (fO s a):=by
 rw[I2];have hl:(s.take a).length=a:=by simp;omega
 have:=aeM gv s hs a (s.length+1) (s.drop a) (s.take a) (s.length+1) (by simp) (by simp;omega) (by omega);rw[hl]at this;exact this
theorem ajP (gv:Nat->List AV)(s:List UInt8)(hs:s.length<2000000)(a:Nat)(ha:a<s.length) :
 aT (Xg gv) (d2 gv AV) aeL (s.length+1) 43 [.str s,.int .i64 a] aH.empty (λv _=>some v)=eF (vi s a):=by
 rw[ZI,i64_in (by omega) (by omega)];have hl:(s.take (a+1)).length=a+1:=by simp;omega
 have:=aeN gv s hs a (s.length+1) (s.drop (a+1)) (s.take (a+1)) (s.length+1) (by simp) (by simp;omega) (by omega);rw[hl]at this;exact this
noncomputable def I3 (f:List UInt8->Nat->Cut)(args:List AV):Option (Bool×List fN) :=
 match args with
 |[.str s,.int .i64 a]=>some (!bB a 0&&bB a ↑s.length&&Nat.ble s.length 1999999,[.val (.str (f s a.toNat).1),.val (.int .i64 (f s a.toNat).2.1),.val (.agg [.int .i64 (f s a.toNat).2.2.1,.int .i64 (f s a.toNat).2.2.2])])
 |_=>none
theorem Qi {gv:Nat->List AV}{id:FuncId}(hk:inl id=true){an:eD}{f:List UInt8->Nat->Cut}(h:∀(s:List UInt8),s.length<2000000->∀a:Nat,a<s.length->aT (Xg gv) (d2 gv AV) an (s.length+1) id [.str s,.int .i64 a] aH.empty (λv _=>some v)=eF (f s a)):dh (Xg gv) (dO (Xg gv) kn) id (I3 f) :=
 dA (λargs=>bS hk args) (VK gv) λargs rs hg=>by
  unfold I3 at hg;split at hg
  .rename_i s a;simp only[aq,ax,ak,cB,aS,bH,aV,br]at hg;obtain⟨⟨⟨h1,h2⟩,h3⟩,rfl⟩:=hg;obtain⟨n,rfl⟩:∃n:Nat,a=n:=⟨a.toNat,by omega⟩;rw[bh];exact⟨[.str (f s n).1,.int .i64 (f s n).2.1,.agg [.int .i64 (f s n).2.2.1,.int .i64 (f s n).2.2.2]],an,s.length+1,h s (by omega) n (by omega),rfl,rfl⟩
  cases hg
theorem ajQ (gv:Nat->List AV):dh (Xg gv) (dO (Xg gv) kn) 41 (I3 fO):=Qi rfl (ajO gv)
theorem ajR (gv:Nat->List AV):dh (Xg gv) (dO (Xg gv) kn) 43 (I3 vi):=Qi rfl (ajP gv)
def preB (s p:List UInt8):Bool:=decide (s.take p.length=p)
theorem ajS (gv:Nat->List AV)(s p:List UInt8):aT (Xg gv) (d2 gv AV) ia 5 80 [.str s,.str p] aH.empty (λv _=>some v)=some (.bool (preB s p)):=by
 have h:aT (Xg gv) (d2 gv AV) ia 5 80 [.str s,.str p] aH.empty (λv _=>some v)=ah (!bB ↑s.length ↑p.length) (ah (!bB ↑p.length 0 && !bB ↑s.length ↑p.length) (some (.bool (decide (eA s 0 ↑p.length=p)))) none) (some (.bool false)):=by kernel_rfl
 rw[h,jM];unfold preB;split
 .rw[fG (by omega),fG (by omega)];show some (AV.bool (decide (eA s 0 ↑p.length=p)))=_;have e:eA s 0 (p.length:Int)=s.take p.length:=by unfold eA;simp
  rw[e]
 rw[aU];intro h2;have:=cn List.length h2;simp only[bZ]at this;omega
noncomputable def ZJ (args:List AV):Option (Bool×List fN) :=
 match args with
 |[.str s,.str p]=>some (true,[.val (.bool (preB s p))])
 |_=>none
theorem aco (gv:Nat->List AV):dh (Xg gv) (dO (Xg gv) kn) 80 ZJ :=
 dA (λargs=>bS rfl args) (VK gv) λargs rs hg=>by
  unfold ZJ at hg;split at hg
  .rename_i s p;simp only[aq,ax]at hg;obtain⟨h1,rfl⟩:=hg;exact⟨[.bool (preB s p)],ia,5,ajS gv s p,rfl,rfl⟩
  cases hg
noncomputable def M3:List xX:=(80,[none,none],ZJ)::M2
theorem Qj (gv:Nat->List AV):jx (Xg gv) (dO (Xg gv) kn) M3:=.cons (aco gv) (acn gv)
noncomputable def d3 (gv:Nat->List AV)(β:Type):cI β:=sx (Xg gv) (Tw M3) inl 200 β 20
theorem ajT (gv:Nat->List AV)(β:Type):cT (Xg gv) (dO (Xg gv) kn) (d3 gv β):=lg (Qj gv) (λf h args=>bS h args) 200 20 β
def y5:List (List UInt8):=[[36,36],[60,60],[62,62],[43],[45],[42],[47],[37],[38],[124],[94],[126],[40],[41],[91],[93],[44],[58],[36]]
noncomputable def Qk (s:List UInt8)(a:Int):List (List UInt8)->Option AV
 |[]=>eF ([],0,4,a)
 |g::r=>ah (!bB a 0 && !bB ↑s.length a) (ah (preB (eA s a ↑s.length) g) (eF (g,IntKind.wrap .i64 (a + ↑g.length),0,0)) (Qk s a r)) none
def sC (s:List UInt8)(a:Nat):List (List UInt8)->Cut
 |[]=>([],0,4,a)
 |g::r=>if preB (s.drop a) g then (g,a+g.length,0,0) else sC s a r
def vB (s:List UInt8)(a:Nat):Cut:=sC s a y5
theorem VN (s:List UInt8)(a:Int):aT (Xg BB) (d3 BB AV) ia 20 44 [.str s,.int .i64 a] aH.empty (λv _=>some v)=Qk s a y5:=by kernel_rfl
theorem LA (s:List UInt8)(a:Nat):eA s (a:Int) (s.length:Int)=s.drop a:=by
 unfold eA;simp only[bh];exact cS (by simp)
theorem VO (s:List UInt8)(hs:s.length<2000000)(a:Nat)(ha:a<s.length):∀l:List (List UInt8),(∀g∈l,g.length<3)->Qk s a l=eF (sC s a l):=by
 intro l;induction l with
 |nil=>intro _;rfl
 |cons g r ih =>
  intro hl;have hg:=hl g (cE ..);rw[Qk,sC,fG (by omega),fG (by omega),LA,i64_in (by omega) (by omega)];show ah (preB (s.drop a) g) _ _=_;rw[av,ih λg h=>hl g (bE _ h)];split<;>rfl
theorem ZK (s:List UInt8)(hs:s.length<2000000)(a:Nat)(ha:a<s.length):aT (Xg BB) (d3 BB AV) ia 20 44 [.str s,.int .i64 a] aH.empty (λv _=>some v)=eF (vB s a):=by
 rw[VN];exact VO s hs a ha y5 (by decide)
theorem ajU:dh (Xg BB) (dO (Xg BB) kn) 44 (I3 vB) :=
 dA (λargs=>bS rfl args) (ajT BB) λargs rs hg=>by
  unfold I3 at hg;split at hg
  .rename_i s a;simp only[aq,ax,ak,cB,aS,bH,aV,br]at hg;obtain⟨⟨⟨h1,h2⟩,h3⟩,rfl⟩:=hg;obtain⟨n,rfl⟩:∃n:Nat,a=n:=⟨a.toNat,by omega⟩;rw[bh];exact⟨[.str (vB s n).1,.int .i64 (vB s n).2.1,.agg [.int .i64 (vB s n).2.2.1,.int .i64 (vB s n).2.2.2]],ia,20,ZK s (by omega) n (by omega),rfl,rfl⟩
  cases hg
noncomputable def M5:List xX:=[(40,[none],ZH lY),(41,[none,none],I3 fO),(43,[none,none],I3 vi),(44,[none,none],I3 vB),(42,[none,none],VJ)]
theorem GI:jx (Xg BB) (dO (Xg BB) kn) M5:=.cons (ack BB) (.cons (ajQ BB) (.cons (ajR BB) (.cons ajU (.cons (ajH BB) .nil))))
noncomputable def d5 (β:Type):cI β:=sx (Xg BB) (Tw M5) inl 200 β 20
theorem ajV (β:Type):cT (Xg BB) (dO (Xg BB) kn) (d5 β):=lg GI (λf h args=>bS h args) 200 20 β
def pLx:List Bool:=[true,true,true,false,true,false]
noncomputable def Si:eD:=⟨gZ [0,3,4,5] pLx,.none,[]⟩
noncomputable def vk (v:AV)(H:aH):Option (AV×Option Row) :=
 match v with
 |.fH (.own i _::_)=>some (v,H.get i)
 |_=>some (v,none)
theorem ZL {X:gU}{kn:Ev.fc}{f:FuncId}(hk:∀args,kn f args=none){g:List AV->Option (Bool×List fN)}{call:∀ β,cI β}(hcall:∀ β,cT X (dO X kn) (call β))
 (h:∀args rs,g args=some (true,rs)->∃vs an rounds o,aT X (call (AV×Option Row)) an rounds f args aH.empty vk=some (rJ vs,o)/\∀H:aH,vk (rJ vs) H=some (rJ vs,o)->tf H [] vs rs):dh X (dO X kn) f g:=by
 intro args rs hg;obtain⟨vs,an,rounds,o,h1,h2⟩:=h args rs hg;obtain⟨v',H1,k1,k2⟩:=kV (nf:=false) (hcall _) (λh=>by cases h) h1;have k3:v'=rJ vs:=by
  unfold vk at k1;split at k1<;>exact(jI (bL k1)).1
 subst k3;refine⟨vs,H1,λS E bM hr hgl hl=>?_,h2 H1 k1⟩;obtain⟨S',vE,E',a1,a2,a3,a4,_⟩:=k2 S E bM hr hgl hl;exact⟨S',vE,E',fZ hk a1,C9 a2,a3,a4⟩
abbrev dJ:Ty:=.pair (.int .i64) (.pair (.int .i64) (.pair .str (.int .i64)))
abbrev Piece:=Int×Int×List UInt8×Int
abbrev lu:=Option (AV×Option Row)
noncomputable def ajW (s:List UInt8)(out:AV)(left:List UInt8):fF:=lz 107 [(0,.str s),(3,.ptr 0 0),(4,out),(5,.str left)]
noncomputable def jL0 (s:List UInt8)(r m:Nat)(left:List UInt8):lu:=jf (Xg BB) (d5 (AV×Option Row)) Si r 29 pLx vk m (ajW s .dg left) mT
noncomputable def jL1 (s:List UInt8)(r m:Nat)(out:List Piece)(k:Nat)(left:List UInt8):lu:=jf (Xg BB) (d5 (AV×Option Row)) Si r 29 pLx vk m (ajW s (.own 1 k) left) (pz [.cells 48 [.int .i64 0,.int .i64 0],.list 96 dJ out 0 false false])
noncomputable def Ez (f a:Int):lu:=some (.fH [.dg,.agg [.int .i64 f,.int .i64 a]],none)
noncomputable def VP (out:List Piece)(k:Nat):lu:=some (.fH [.own 1 k,.agg [.int .i64 0,.int .i64 0]],some (.list 96 dJ out 0 false false))
noncomputable def qb (s left:List UInt8):Int:=IntKind.wrap .i64 (↑s.length - ↑left.length)
noncomputable def qy (s:List UInt8)(e f a:Int)(p:Piece)(room:lu->lu)(go:Piece->List UInt8->lu):lu :=
 ah (!bI f 0) (Ez f a) (room (ah (!bB e 0 && !bB ↑s.length e) (go p (eA s e ↑s.length)) none))
noncomputable def Sj (s left:List UInt8)(kind:Int)(r:Cut)(room:lu->lu)(go:Piece->List UInt8->lu):lu :=
 ah (!bB (qb s left) 0&&bB (qb s left) ↑s.length&&Nat.ble s.length 1999999) (qy s r.2.1 r.2.2.1 r.2.2.2 (kind,0,r.1,qb s left) room go) none
noncomputable def Sk (s left:List UInt8)(room:lu->lu)(go:Piece->List UInt8->lu):lu :=
 ah (Nat.ble s.length 1999999) (qy s (lq s (qb s left)).2.1 (lq s (qb s left)).2.2.1 (lq s (qb s left)).2.2.2 (2,(lq s (qb s left)).1,[],qb s left) room go) none
noncomputable def Cl (s left:List UInt8)(c:UInt8)(room:lu->lu)(go:Piece->List UInt8->lu):lu :=
 ah (bI (cU c) 39) (Sk s left room go) (ah (bI (cU c) 34) (Sj s left 3 (vi s (qb s left).toNat) room go) (Sj s left 4 (vB s (qb s left).toNat) room go))
noncomputable def I4 (left:List UInt8)(skip:List UInt8->lu):lu:=ah (!bB 1 0 && !bB ↑left.length 1) (skip (eA left 1 ↑left.length)) none
noncomputable def Ql (s left:List UInt8)(done:lu)(skip:List UInt8->lu)(room:lu->lu)(go:Piece->List UInt8->lu):lu :=
 ah (!decide (left=[])) (Option.rec (motive:=λ_=>lu) none (λc =>
  ah (bI (cU c) 32) (I4 left skip) (ah (bI (cU c) 9) (I4 left skip) (ah (bI (cU c) 59) (skip [])
   (ah (lY (cU c)) (Sj s left 1 (fO s (qb s left).toNat) room go) (ah (!bB (cU c) 48) (ah (!bB 57 (cU c)) (Sk s left room go) (Cl s left c room go)) (Cl s left c room go)))))) (dX left 0)) done
noncomputable def acp (out:List Piece)(x:lu):lu:=ah (Nat.ble (out.length+1) 2000000) x none
theorem Oe (s:List UInt8)(r m:Nat)(left:List UInt8):jL0 s r (m+1) left=Ql s left (Ez 0 0) (jL0 s r m) (λx=>x) (λp=>jL1 s r m [p] 1):=by kernel_rfl
theorem Og (s:List UInt8)(r m:Nat)(out:List Piece)(k:Nat)(left:List UInt8):jL1 s r (m+1) out k left=Ql s left (VP out k) (jL1 s r m out k) (acp out) (λp=>jL1 s r m (out++[p]) (out.length+1)):=by kernel_rfl
theorem aeO (s:List UInt8)(m:Nat):aT (Xg BB) (d5 (AV×Option Row)) Si m 29 [.str s] aH.empty vk=ah (bB 1000 ↑s.length) (Ez 3 1000) (jL0 s m m s):=by kernel_rfl
theorem Sl (s:List UInt8)(a:Nat):∀(rest:List UInt8) (e:Nat),(nM s a rest e).2.2.1=0->(e:Int)<=(nM s a rest e).2.1/\(nM s a rest e).2.1<=(e:Int)+rest.length:=by
 intro rest;induction rest with
 |nil=>intro e _;simp only[nM];exact⟨bx _,by simp⟩
 |cons c r ih =>
  intro e h;rw[nM]at h ⊢;split at h
  .rename_i hm;rw[ag hm];split at h
   .exact absurd h (by simp)
   rename_i VM;rw[aa VM];have:=ih (e+1) h;simp only[aJ];omega
  rename_i hm;rw[aa hm];simp only[aJ];omega
theorem Oh (s:List UInt8)(a:Nat):∀(rest:List UInt8) (e:Nat),(jN s a rest e).2.2.1=0->(e:Int)<(jN s a rest e).2.1/\(jN s a rest e).2.1<=(e:Int)+rest.length:=by
 intro rest;induction rest with
 |nil=>intro e h;exact absurd h (by simp[jN])
 |cons c r ih =>
  intro e h;rw[jN]at h ⊢;split at h
  .rename_i hm;rw[ag hm];simp only[aJ];omega
  rename_i hm;rw[aa hm];split at h
  .rename_i hp;rw[ag hp];have:=ih (e+1) h;simp only[aJ];omega
  exact absurd h (by simp)
theorem Sm (len:Nat):∀(rest:List UInt8) (k N i:Nat),(pN len rest k N i).2.2.1=0->(i:Int)<(pN len rest k N i).2.1/\(pN len rest k N i).2.1<=(i:Int)+rest.length:=by
 intro rest;induction rest with
 |nil=>intro k N i h;exact absurd h (by simp[pN])
 |cons c r ih =>
  intro k N i h;rw[pN]at h ⊢;split at h
  .rename_i hm;rw[ag hm];split at h
   .exact absurd h (by simp)
   rename_i hk;rw[aa hk];simp only[aJ];omega
  rename_i hm;rw[aa hm];split at h
  .exact absurd h (by simp)
  rename_i hk;rw[aa hk];split at h
  .exact absurd h (by simp)
  rename_i hk8;rw[aa hk8];have:=ih _ _ (i+1) h;simp only[aJ];omega
theorem Sn (s:List UInt8)(a:Nat):∀l:List (List UInt8),(∀g∈l,0<g.length)->(sC s a l).2.2.1=0->(a:Int)<(sC s a l).2.1/\(sC s a l).2.1<=(s.length:Int):=by
 intro l;induction l with
 |nil=>intro _ h;exact absurd h (by simp[sC])
 |cons g r ih =>
  intro hl h;have hg:=hl g (cE ..);rw[sC]at h ⊢;split at h
  .rename_i hp;rw[ag hp];unfold preB at hp;have:=cn List.length (gp hp);simp only[bZ,bR]at this;show (a:Int)<(a:Int)+g.length/\(a:Int)+g.length<=s.length;omega
  rename_i hp;rw[aa hp];exact ih (λg h=>hl g (bE _ h)) h
theorem Sq (w:List UInt8)(a:Nat)(h:(ym w a).2.2.1=0):(ym w a).2.1=(a:Int)+w.length:=by
 unfold ym at h ⊢;split at h
 .exact absurd h (by simp)
 rename_i h1;rw[aa h1];split at h
 .exact absurd h (by simp)
 rename_i h2;rw[aa h2]
def jO (s:List UInt8)(c:UInt8)(a:Nat):Piece×Int×Int×Int :=
 if lY (cU c) then ((1,0,(fO s a).1,a),(fO s a).2)
 else if 48<=cU c/\cU c<=57\/cU c=39 then ((2,(lq s a).1,[],a),(lq s a).2)
 else if cU c=34 then ((3,0,(vi s a).1,a),(vi s a).2)
 else ((4,0,(vB s a).1,a),(vB s a).2)
theorem xJ {s:List UInt8}{a:Nat}{c:UInt8}{r:List UInt8}(hd:s.drop a=c::r)(h:(jO s c a).2.2.1=0):(a:Int)<(jO s c a).2.1/\(jO s c a).2.1<=s.length:=by
 have hl:s.length-a=r.length+1:=by have:=cn List.length hd;simpa using this
 have hd1:s.drop (a+1)=r:=by rw[<-eH,hd];rfl
 have hgd:s.getD a 0=c:=by
  have h0:(s.drop a).getD 0 0=c:=by rw[hd];rfl
  rw[<-h0];simp[List.getD]
 unfold jO at h ⊢;split at h
 .rename_i hf;rw[ag hf];unfold fO at h ⊢;rw[hd,nM]at h ⊢;have hm:uj (cU c)=true:=by unfold uj;rw[hf];rfl
  rw[ag hm,aa (by omega)]at h ⊢;have:=Sl s a r (a+1) h;show (a:Int)<(nM s a r (a+1)).2.1/\(nM s a r (a+1)).2.1<=_;omega
 rename_i hf;rw[aa hf];split at h
 .rename_i hn;rw[ag hn];unfold lq at h ⊢;rw[aa (by omega),aa (by omega),bh,hgd]at h ⊢;split at h
  .rename_i hq;rw[ag hq];unfold pO at h ⊢;rw[hd1]at h ⊢;have:=Sm s.length r 0 0 (a+1) h;show (a:Int)<(pN s.length r 0 0 (a+1)).2.1/\(pN s.length r 0 0 (a+1)).2.1<=_;omega
  rename_i hq;rw[aa hq];have hn':48<=cU c/\cU c<=57:=by omega
  rw[ag hn']at h ⊢;have:=Sq _ a h;rw[this];have hw:pM (cU c)=true:=by unfold pM;simp;omega
  have e:((s.drop a).takeWhile λc=>pM (cU c))=c::(r.takeWhile λc=>pM (cU c)):=by rw[hd,jj,ag hw]
  have h3:=(List.takeWhile_sublist (λc=>pM (cU c)) (l:=r)).length_le;rw[e,aJ];omega
 rename_i hn;rw[aa hn];split at h
 .rename_i hq;rw[ag hq];unfold vi at h ⊢;rw[hd1]at h ⊢;have:=Oh s a r (a+1) h;show (a:Int)<(jN s a r (a+1)).2.1/\(jN s a r (a+1)).2.1<=_;omega
 rename_i hq;rw[aa hq];exact Sn s a y5 (by decide) h
theorem Sr (c:UInt8)(r:List UInt8):eA (c::r) 1 ↑(c::r).length=r:=by
 unfold eA;simp
theorem LB {s:List UInt8}{e f a:Int}{p:Piece}{room:lu->lu}{go:Piece->List UInt8->lu}(h:f=0->0<=e/\e<=s.length) :
 qy s e f a p room go=if f=0 then room (go p (s.drop e.toNat)) else Ez f a:=by
 unfold qy;by_cases hf:f=0
 .rw[FL hf,ag hf];obtain⟨h1,h2⟩:=h hf;rw[fG (by omega),fG (by omega)];obtain⟨n,rfl⟩:∃n:Nat,e=n:=⟨e.toNat,by omega⟩;show room (go p (eA s n s.length))=_;rw[LA,bh]
 rw[xI hf,aa hf];rfl
theorem Qm {s:List UInt8}(hs:s.length<=1000){a:Nat}{c:UInt8}{r:List UInt8}(hd:s.drop a=c::r)(done:lu)(skip:List UInt8->lu)(room:lu->lu)(go:Piece->List UInt8->lu) :
 Ql s (c::r) done skip room go=if cU c=32\/cU c=9 then skip r else if cU c=59 then skip [] else if (jO s c a).2.2.1=0 then room (go (jO s c a).1 (s.drop (jO s c a).2.1.toNat)) else Ez (jO s c a).2.2.1 (jO s c a).2.2.2:=by
 have hl:s.length-a=r.length+1:=by have:=cn List.length hd;simpa using this
 have hpl:qb s (c::r)=(a:Int):=by
  unfold qb;rw[aJ,i64_in (by omega) (by omega)];omega
 have hend:=xJ hd;have hb:I4 (c::r) skip=skip r:=by
  unfold I4;rw[fG (by omega),fG (by rw[aJ];omega),Sr];rfl
 have hg:(!bB (a:Int) 0&&bB (a:Int) ↑s.length&&Nat.ble s.length 1999999)=true:=by
  rw[fG (by omega),pL (by omega),ek (by omega)];rfl
 have hg2:Nat.ble s.length 1999999=true:=ek (by omega);unfold Ql;rw[aU (by simp),show dX (c::r) 0=some c from lX [] r c];show ah (bI (cU c) 32) _ (ah (bI (cU c) 9) _ (ah (bI (cU c) 59) _ _))=_;rw[hb];by_cases h32:cU c=32
 .rw[FL h32,ag (.inl h32)]
 rw[xI h32];show ah (bI (cU c) 9) _ _=_;by_cases h9:cU c=9
 .rw[FL h9,ag (.inr h9)]
 rw[xI h9,aa (by omega)];show ah (bI (cU c) 59) _ _=_;by_cases h59:cU c=59
 .rw[FL h59,ag h59]
 rw[xI h59,aa h59];show ah (lY (cU c)) _ _=_;have Sh:∀(kind:Int) (q:Cut),(q.2.2.1=0->(a:Int)<q.2.1/\q.2.1<=s.length)->Sj s (c::r) kind q room go=if q.2.2.1=0 then room (go (kind,0,q.1,(a:Int)) (s.drop q.2.1.toNat)) else Ez q.2.2.1 q.2.2.2:=by
  intro kind q hq;unfold Sj;rw[hpl,hg];show qy _ _ _ _ _ _ _=_;exact LB λh=>by have:=hq h;omega
 unfold jO at hend ⊢;by_cases hf:lY (cU c)=true
 .rw[ag hf]at hend;rw[hf,ag rfl];show Sj _ _ _ _ _ _=_;rw[hpl,bh];exact Sh 1 _ hend
 rw[aa hf]at hend;rw[aa hf,Bool.eq_false_iff.2 hf];show ah (!bB (cU c) 48) (ah (!bB 57 (cU c)) (Sk s (c::r) room go) (Cl s (c::r) c room go)) (Cl s (c::r) c room go)=_;have ajY:(48<=cU c/\cU c<=57\/cU c=39)->Sk s (c::r) room go=if (lq s (a:Int)).2.2.1=0 then room (go (2,(lq s (a:Int)).1,[],(a:Int)) (s.drop (lq s (a:Int)).2.1.toNat)) else Ez (lq s (a:Int)).2.2.1 (lq s (a:Int)).2.2.2:=by
  intro hn;rw[ag hn]at hend;unfold Sk;rw[hpl,hg2];show qy _ _ _ _ _ _ _=_;exact LB λh=>by have:=hend h;dsimp only at this;omega
 by_cases hn:48<=cU c/\cU c<=57
 .have hd3:48<=cU c/\cU c<=57\/cU c=39:=.inl hn;rw[fG (by omega),fG (by omega),ag hd3];exact ajY hd3
 have hr:ah (!bB (cU c) 48) (ah (!bB 57 (cU c)) (Sk s (c::r) room go) (Cl s (c::r) c room go)) (Cl s (c::r) c room go)=Cl s (c::r) c room go:=by
  rw[jM,jM];split
  .rw[aa (by omega)]
  rfl
 rw[hr];unfold Cl;by_cases h39:cU c=39
 .have hd3:48<=cU c/\cU c<=57\/cU c=39:=.inr h39;rw[FL h39,ag hd3];exact ajY hd3
 have hd3:¬(48<=cU c/\cU c<=57\/cU c=39):=by omega
 rw[aa hd3]at hend;rw[xI h39,aa hd3];show ah (bI (cU c) 34) _ _=_;rw[hpl,bh];by_cases YH:cU c=34
 .rw[ag YH]at hend;rw[FL YH,ag YH];exact Sh 3 _ hend
 rw[aa YH]at hend;rw[xI YH,aa YH];exact Sh 4 _ hend
def sD (s:List UInt8):Nat->List UInt8->List Piece×Int×Int
 |0,_=>([],0,0)
 |_+1,[]=>([],0,0)
 |n+1,c::r =>
  if cU c=32\/cU c=9 then sD s n r else if cU c=59 then ([],0,0)
  else if (jO s c (s.length-(r.length+1))).2.2.1=0 then
   ((jO s c (s.length-(r.length+1))).1::(sD s n (s.drop (jO s c (s.length-(r.length+1))).2.1.toNat)).1,(sD s n (s.drop (jO s c (s.length-(r.length+1))).2.1.toNat)).2)
  else ([],(jO s c (s.length-(r.length+1))).2.2)
noncomputable def Ss (out:List Piece)(t:List Piece×Int×Int):lu:=if t.2.1=0 then VP (out++t.1) (out++t.1).length else Ez t.2.1 t.2.2
theorem aeQ (s:List UInt8)(hs:s.length<=1000)(rd:Nat):∀(n m:Nat) (out:List Piece) (left:List UInt8),left.length<=n->n<m->s.drop (s.length-left.length)=left->out.length+n<=1000 ->
 jL1 s rd m out out.length left=Ss out (sD s n left):=by
 intro n;induction n with
 |zero =>
  intro m out left h1 h2 _ _;obtain⟨m,rfl⟩:∃m',m=m'+1:=⟨m-1,by omega⟩;have:left=[]:=aQ.1 (by omega);subst this;rw[Og];show VP out out.length=_;unfold Ss sD;simp
 |succ n ih =>
  intro m out left h1 h2 h3 h4;obtain⟨m,rfl⟩:∃m',m=m'+1:=⟨m-1,by omega⟩
  match left,h1,h3 with
  |[],_,_ =>
   rw[Og];show VP out out.length=_;unfold Ss sD;simp
  |c::r,h1,h3 =>
   rw[aJ]at h1 h3;have hle:r.length+1<=s.length:=by
    have:=cn List.length h3;simp only[bR,aJ]at this;omega
   have hr:s.drop (s.length-r.length)=r:=by
    have:s.length-r.length=s.length-(r.length+1)+1:=by omega
    rw[this,<-eH,h3];rfl
   rw[Og,Qm hs h3,sD];split
   .exact ih m out r (by omega) (by omega) hr (by omega)
   split
   .have:=ih m out [] (by simp) (by omega) (by simp) (by omega);rw[this];cases n<;>rfl
   split
   .rename_i hp;have he:=xJ h3 hp;unfold acp;rw[ek (by omega)];show jL1 s rd m (out++[_]) (out.length+1) _=_;have e:out.length+1=(out++[(jO s c (s.length-(r.length+1))).1]).length:=by simp
    rw[e,ih m _ _ (by simp only[bR];omega) (by omega) (by rw[bR];congr 1;omega) (by simp;omega)];unfold Ss;simp only[bQ,List.singleton_append]
   rename_i hp;unfold Ss;rw[aa hp]
noncomputable def Qn (t:List Piece×Int×Int):lu:=if t.2.1=0 then (if t.1=[] then Ez 0 0 else VP t.1 t.1.length) else Ez t.2.1 t.2.2
theorem aeR (s:List UInt8)(hs:s.length<=1000)(rd:Nat):∀(n m:Nat) (left:List UInt8),left.length<=n->n<m->s.drop (s.length-left.length)=left->n<=1000 ->
 jL0 s rd m left=Qn (sD s n left):=by
 intro n;induction n with
 |zero =>
  intro m left h1 h2 _ _;obtain⟨m,rfl⟩:∃m',m=m'+1:=⟨m-1,by omega⟩;have:left=[]:=aQ.1 (by omega);subst this;rw[Oe];rfl
 |succ n ih =>
  intro m left h1 h2 h3 h4;obtain⟨m,rfl⟩:∃m',m=m'+1:=⟨m-1,by omega⟩
  match left,h1,h3 with
  |[],_,_ =>
   rw[Oe];rfl
  |c::r,h1,h3 =>
   rw[aJ]at h1 h3;have hle:r.length+1<=s.length:=by
    have:=cn List.length h3;simp only[bR,aJ]at this;omega
   have hr:s.drop (s.length-r.length)=r:=by
    have:s.length-r.length=s.length-(r.length+1)+1:=by omega
    rw[this,<-eH,h3];rfl
   rw[Oe,Qm hs h3,sD];split
   .exact ih m r (by omega) (by omega) hr (by omega)
   split
   .have:=ih m [] (by simp) (by omega) (by simp) (by omega);rw[this];cases n<;>rfl
   split
   .rename_i hp;have he:=xJ h3 hp;have:=aeQ s hs rd n m [(jO s c (s.length-(r.length+1))).1] (s.drop (jO s c (s.length-(r.length+1))).2.1.toNat) (by simp only[bR];omega) (by omega) (by rw[bR];congr 1;omega) (by simp;omega);refine this.trans ?_;unfold Ss Qn;simp only[List.singleton_append];split
    .rw[aa (by simp)]
    rfl
   rename_i hp;unfold Qn;rw[aa hp]
def j3 (s:List UInt8):List Piece×Int×Int :=
 if 1000<s.length then ([],3,1000) else if (sD s s.length s).2.1=0 then ((sD s s.length s).1,0,0) else ([],(sD s s.length s).2)
noncomputable def aeS (args:List AV):Option (Bool×List fN) :=
 match args with
 |[.str s]=>some (true,[.list 96 dJ (j3 s).1,.val (.agg [.int .i64 (j3 s).2.1,.int .i64 (j3 s).2.2])])
 |_=>none
theorem VQ (s:List UInt8):aT (Xg BB) (d5 (AV×Option Row)) Si (s.length+1) 29 [.str s] aH.empty vk =
 if (j3 s).1=[] then Ez (j3 s).2.1 (j3 s).2.2 else some (.fH [.own 1 (j3 s).1.length,.agg [.int .i64 (j3 s).2.1,.int .i64 (j3 s).2.2]],some (.list 96 dJ (j3 s).1 0 false false)):=by
 rw[aeO];unfold j3;by_cases hl:1000<s.length
 .rw[pL (by omega),ag hl,ag rfl]
 rw[fG (by omega),aa hl];show jL0 s (s.length+1) (s.length+1) s=_;rw[aeR s (by omega) _ s.length _ s (aG _) (by omega) (by simp) (by omega)];unfold Qn;by_cases hf:(sD s s.length s).2.1=0
 .rw[ag hf,ag hf];rfl
 rw[aa hf,aa hf,ag rfl]
theorem ajZ:dh (Xg BB) (dO (Xg BB) kn) 29 aeS :=
 ZL (λargs=>bS rfl args) ajV λargs rs hg=>by
  unfold aeS at hg;split at hg
  .rename_i s;simp only[aq,ax]at hg;obtain⟨_,rfl⟩:=hg;by_cases h:(j3 s).1=[]
   .refine ⟨[.dg,.agg [.int .i64 (j3 s).2.1,.int .i64 (j3 s).2.2]],Si,s.length+1,none,?_,λH _=>⟨rfl,.inr ⟨rfl,h,rfl,rfl,trivial⟩⟩⟩;rw[VQ,ag h];rfl
   refine⟨[.own 1 (j3 s).1.length,.agg [.int .i64 (j3 s).2.1,.int .i64 (j3 s).2.2]],Si,s.length+1,some (.list 96 dJ (j3 s).1 0 false false),?_,λH hH=>⟨rfl,.inl ⟨1,0,false,rfl,?_,by simp,rfl,rfl,trivial⟩⟩⟩
   .rw[VQ,aa h];rfl
   exact(jI (bL hH)).2
  cases hg
end Go.Proofs.YtfggompceldfgaaGreatDoor.lt
namespace Go.Proofs.YtfggompceldfgaaGreatDoor.lt
open Go.Tv Go.Ev
set_option maxRecDepth 100000
noncomputable section
def pN1:List Bool:=[true,true,false,true,false]
def ZO:eD:=⟨gZ [0,19,20] pN1,.none,[]⟩
theorem VU {s:List UInt8}(hs:s.length<2000000){p:UInt8->Bool}{j:Nat->Int->Option AV}{A B:Option AV} (step:∀m i,j (m+1) i=ah (bB i ↑s.length) (Option.rec (motive:=λ_=>Option AV) none (λc=>ah (!p c) A (j m (IntKind.wrap .i64 (i+1)))) (dX s i)) B) :
 ∀(rest pre:List UInt8) (m:Nat),s=pre++rest->rest.length<m->j m pre.length=if rest.all p=true then B else A:=by
 intro rest;induction rest with
 |nil =>
  intro pre m he hm;obtain⟨m,rfl⟩:∃m',m=m'+1:=⟨m-1,by simp at hm;omega⟩;have hl:s.length=pre.length:=by rw[he];simp
  rw[step,fG (by omega)];rfl
 |cons c rest ih =>
  intro pre m he hm;obtain⟨m,rfl⟩:∃m',m=m'+1:=⟨m-1,by simp at hm;omega⟩;have hl:s.length=pre.length+(rest.length+1):=by rw[he];simp
  have hg:dX s (pre.length:Int)=some c:=by rw[he];exact lX pre rest c
  have hin:=ih (pre++[c]) m (by rw[he];simp) (by simp at hm;omega);rw[aA]at hin;have hin:j m ((pre.length:Int)+1)=if rest.all p=true then B else A:=hin;rw[step,pL (by omega),hg,i64_in (n:=(pre.length:Int)+1) (by omega) (by omega)];show ah (!p c) A (j m ((pre.length:Int)+1))=_;rw[hin];cases hp:p c
  .simp[hp]
  simp[hp]
def Cm (c:UInt8):Bool:=uj (cU c)
def bX (s:List UInt8):Bool:=match s with
 |[]=>false
 |c::r=>decide (r.length<60)&&lY (cU c)&&(c::r).all Cm
noncomputable def jN1 (gv:Nat->List AV)(s:List UInt8)(r m:Nat)(i:Int):Option AV:=jf (Xg gv) (d2 gv AV) ZO r 169 pN1 (λv _=>some v) m (lz 29 [(0,.str s),(19,.int .i64 s.length),(20,.int .i64 i)]) aH.empty
theorem aeU (gv:Nat->List AV)(s:List UInt8)(r m:Nat)(i:Int):jN1 gv s r (m+1) i=ah (bB i ↑s.length) (Option.rec (motive:=λ_=>Option AV) none (λc=>ah (!Cm c) (some (.bool false)) (jN1 gv s r m (IntKind.wrap .i64 (i+1)))) (dX s i)) (some (.bool true)):=by kernel_rfl
theorem ZP (gv:Nat->List AV)(s:List UInt8)(r:Nat):aT (Xg gv) (d2 gv AV) ZO r 169 [.str s] aH.empty (λv _=>some v) =
 ah (bI ↑s.length 0) (some (.bool false)) (ah (bB 60 ↑s.length) (some (.bool false)) (Option.rec (motive:=λ_=>Option AV) none (λc=>ah (!lY (cU c)) (some (.bool false)) (jN1 gv s r r 0)) (dX s 0))):=by kernel_rfl
theorem Oj {n:Int}(h:lY n=true):uj n=true:=by unfold uj;rw[h];rfl
theorem aj3 (gv:Nat->List AV)(s:List UInt8):aT (Xg gv) (d2 gv AV) ZO 100 169 [.str s] aH.empty (λv _=>some v)=some (.bool (bX s)):=by
 rw[ZP];cases s with
 |nil=>rfl
 |cons c r =>
  show _=some (AV.bool (decide (r.length<60)&&lY (cU c)&&(c::r).all Cm));rw[xI (by simp;omega)];by_cases h:r.length<60
  .rw[fG (by simp;omega),bf h];have hl:=VU (s:=c::r) (by simp;omega) (aeU gv (c::r) 100) (c::r) [] 100 rfl (by simp;omega);have hl:jN1 gv (c::r) 100 100 0=_:=hl;rw[hl];show ah (!lY (cU c)) _ _=_;cases lY (cU c)
   .rfl
   cases (c::r).all Cm<;>rfl
  rw[pL (by simp;omega),aU h];rfl
def gNm (args:List AV):Option (Bool×List fN) :=
 match args with
 |[.str s]=>some (true,[.val (.bool (bX s))])
 |_=>none
theorem aj4 (gv:Nat->List AV):dh (Xg gv) (dO (Xg gv) kn) 169 gNm :=
 dA (λargs=>bS rfl args) (VK gv) λargs rs hg=>by
  unfold gNm at hg;split at hg
  .rename_i s;simp only[aq,ax]at hg;obtain⟨_,rfl⟩:=hg;exact⟨[.bool (bX s)],ZO,100,aj3 gv s,rfl,rfl⟩
  cases hg
end
end Go.Proofs.YtfggompceldfgaaGreatDoor.lt
namespace Go.Proofs.YtfggompceldfgaaGreatDoor.lt
open Go.Tv Go.Ev
set_option maxRecDepth 100000
end Go.Proofs.YtfggompceldfgaaGreatDoor.lt
