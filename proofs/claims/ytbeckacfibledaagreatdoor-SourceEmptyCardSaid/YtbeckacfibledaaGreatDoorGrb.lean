/- Tokens: bytes. Tokens: names and quoted texts. Tokens: signs. Tokens: signs. Tokens: a line. Tokens: a line, round by round. Tokens: every piece ends behind its place. Tokens: the contract of Lex. Tokens: the contract of Lex. Names: token.Name; what Lex makes of a name. What Lex makes of a line that has a name, and little more. -/
import Derived.Test.YtbeckacfibledaaGreatDoorGra
set_option linter.unusedVariables false
set_option linter.unusedSimpArgs false

namespace Go.Proofs.YtbeckacfibledaaGreatDoor.lt
open Go.Tv Go.Ev
set_option maxRecDepth 100000
def l6 (n:Int):Bool:=decide (97<=n/\n<=122\/65<=n/\n<=90\/n=95\/n=46)
def uA (n:Int):Bool:=l6 n||decide (48<=n/\n<=57)
def ua (n:Int):Bool:=decide (32<=n/\n<=126)
theorem ak8 (gv:Nat->List AV)(n:Int):aT (Xg gv) (c0 gv AV) gO 5 26 [.int .u8 n] aG.empty (λv _=>some v)=some (.bool (l6 n)):=by
 have h:aT (Xg gv) (c0 gv AV) gO 5 26 [.int .u8 n] aG.empty (λv _=>some v)=yJ n 97 122 (some (.bool true)) (yJ n 65 90 (some (.bool true)) (ah (bI n 95) (some (.bool true)) (some (.bool (bI n 46))))):=by kernel_rfl
 rw[h];simp only[EK,cq];unfold l6;split
 .rw[aX (by omega)]
 split
 .rw[aX (by omega)]
 split
 .rw[aX (by omega)]
 refine cr (λx=>some (AV.bool x)) ?_;rw[eF,bO,eK,aV];omega
theorem ak9 (gv:Nat->List AV)(n:Int):aT (Xg gv) (c0 gv AV) gO 5 63 [.int .u8 n] aG.empty (λv _=>some v)=some (.bool (ua n)):=by
 have h:aT (Xg gv) (c0 gv AV) gO 5 63 [.int .u8 n] aG.empty (λv _=>some v)=ah (!bC n 32) (some (.bool (!bC 126 n))) (some (.bool false)):=by kernel_rfl
 rw[h,iU];unfold ua;split
 .refine cr (λx=>some (AV.bool x)) ?_;rw[cD,bO,aS,bH,aV];omega
 rw[aU (by omega)]
noncomputable def gBy (p:Int->Bool)(args:List AV):Option (Bool×List fA) :=
 match args with
 |[.int .u8 n]=>some (true,[.val (.bool (p n))])
 |_=>none
theorem O4 {gv:Nat->List AV}{call:∀ β,cI β}(hcall:∀ β,cX (Xg gv) (dR (Xg gv) kn) (call β)){f:FuncId}(hk:inl f=true){p:Int->Bool}(h:∀n,aT (Xg gv) (call AV) gO 5 f [.int .u8 n] aG.empty (λv _=>some v)=some (.bool (p n))):dc (Xg gv) (dR (Xg gv) kn) f (gBy p) :=
 cS (λargs=>bS hk args) hcall λargs rs hg=>by
  unfold gBy at hg;split at hg
  .rename_i n;simp only[aq,ay]at hg;obtain⟨h1,rfl⟩:=hg;exact⟨[.bool (p n)],gO,5,h n,rfl,rfl⟩
  cases hg
theorem adC (gv:Nat->List AV):dc (Xg gv) (dR (Xg gv) kn) 26 (gBy l6):=O4 (Av gv) rfl (ak8 gv)
theorem ala (gv:Nat->List AV):dc (Xg gv) (dR (Xg gv) kn) 63 (gBy ua):=O4 (Av gv) rfl (ak9 gv)
noncomputable def M1:List wh:=[(26,[none],gBy l6),(63,[none],gBy ua)]
theorem adD (gv:Nat->List AV):iT (Xg gv) (dR (Xg gv) kn) M1:=.cons (adC gv) (.cons (ala gv) .nil)
noncomputable def d1 (gv:Nat->List AV)(β:Type):cI β:=sJ (Xg gv) (Uq M1) inl 200 β 20
theorem alb (gv:Nat->List AV)(β:Type):cX (Xg gv) (dR (Xg gv) kn) (d1 gv β):=lB (adD gv) (λf h args=>bS h args) 200 20 β
theorem alc (gv:Nat->List AV)(n:Int):aT (Xg gv) (d1 gv AV) gO 5 58 [.int .u8 n] aG.empty (λv _=>some v)=some (.bool (uA n)):=by
 have h:aT (Xg gv) (d1 gv AV) gO 5 58 [.int .u8 n] aG.empty (λv _=>some v)=ah (l6 n) (some (.bool true)) (ah (!bC n 48) (some (.bool (!bC 57 n))) (some (.bool false))):=by kernel_rfl
 rw[h,ax,iU];unfold uA;split
 .rename_i hf;rw[hf];rfl
 rename_i hf;have hf:l6 n=false:=by simpa using hf
 rw[hf,Bool.false_or];split
 .refine cr (λx=>some (AV.bool x)) ?_;rw[cD,bO,aS,bH,aV];omega
 rw[aU (by omega)]
theorem ald (gv:Nat->List AV):dc (Xg gv) (dR (Xg gv) kn) 58 (gBy uA):=O4 (alb gv) rfl (alc gv)
noncomputable def M2:List wh:=(58,[none],gBy uA)::M1
theorem adE (gv:Nat->List AV):iT (Xg gv) (dR (Xg gv) kn) M2:=.cons (ald gv) (adD gv)
noncomputable def d2 (gv:Nat->List AV)(β:Type):cI β:=sJ (Xg gv) (Uq M2) inl 200 β 20
theorem WB (gv:Nat->List AV)(β:Type):cX (Xg gv) (dR (Xg gv) kn) (d2 gv β):=lB (adE gv) (λf h args=>bS h args) 200 20 β
abbrev Cut:=List UInt8×Int×Int×Int
noncomputable def eH (r:Cut):Option AV:=some (.fH [.str r.1,.int .i64 r.2.1,.agg [.int .i64 r.2.2.1,.int .i64 r.2.2.2]])
def pNm:List Bool:=[true,true,false,false]
def pTx:List Bool:=[true,false,true,false]
noncomputable def Ju:ei:=⟨gD [0,1,6,7] pNm,.none,[]⟩
noncomputable def af4:ei:=⟨gD [0,1,6,7] pTx,.none,[]⟩
noncomputable def Jv (k:Nat)(s:List UInt8)(a e:Int):fJ:=kr k [(0,.str s),(1,.int .i64 a),(6,.ptr 0 0),(7,.int .i64 e)]
noncomputable def jNm (gv:Nat->List AV)(s:List UInt8)(a:Int)(r m:Nat)(e:Int):Option AV:=iF (Xg gv) (d2 gv AV) Ju r 27 pNm (λv _=>some v) m (Jv 33 s a e) mT
noncomputable def jTx (gv:Nat->List AV)(s:List UInt8)(a:Int)(r m:Nat)(e:Int):Option AV:=iF (Xg gv) (d2 gv AV) af4 r 29 pTx (λv _=>some v) m (Jv 40 s a e) mT
noncomputable def Q5 (s:List UInt8)(a e:Int):Option AV:=ah (!bC a 0 && !bC e a && !bC ↑s.length e) (eH (dX s a e,e,0,0)) none
noncomputable def O5 (s:List UInt8)(a e:Int)(go:Int->Option AV):Option AV :=
 ah (bC e ↑s.length)
  (Option.rec (motive:=λ_=>Option AV) none (λc=>ah (uA (cY c)) (ah (bI (IntKind.wrap .i64 (e-a)) 60) (eH ([],0,3,e)) (go (IntKind.wrap .i64 (e+1)))) (Q5 s a e)) (dQ s e))
  (Q5 s a e)
noncomputable def O6 (s:List UInt8)(a e:Int)(go:Int->Option AV):Option AV :=
 ah (bC e ↑s.length)
  (Option.rec (motive:=λ_=>Option AV) none (λc=>ah (bI (cY c) 34)
   (ah (!bC (IntKind.wrap .i64 (a+1)) 0 && !bC e (IntKind.wrap .i64 (a+1)) && !bC ↑s.length e) (eH (dX s (IntKind.wrap .i64 (a+1)) e,IntKind.wrap .i64 (e+1),0,0)) none)
   (Option.rec (motive:=λ_=>Option AV) none (λc=>ah (!ua (cY c)) (eH ([],0,4,e)) (go (IntKind.wrap .i64 (e+1)))) (dQ s e))) (dQ s e))
  (eH ([],0,4,↑s.length))
theorem vA (gv:Nat->List AV)(s:List UInt8)(a:Int)(r m:Nat)(e:Int):jNm gv s a r (m+1) e=O5 s a e (jNm gv s a r m):=by kernel_rfl
theorem WC (gv:Nat->List AV)(s:List UInt8)(a:Int)(r m:Nat)(e:Int):jTx gv s a r (m+1) e=O6 s a e (jTx gv s a r m):=by kernel_rfl
theorem Jw (gv:Nat->List AV)(s:List UInt8)(a:Int)(m:Nat):aT (Xg gv) (d2 gv AV) Ju m 27 [.str s,.int .i64 a] aG.empty (λv _=>some v)=jNm gv s a m m a:=by kernel_rfl
theorem aaG (gv:Nat->List AV)(s:List UInt8)(a:Int)(m:Nat):aT (Xg gv) (d2 gv AV) af4 m 29 [.str s,.int .i64 a] aG.empty (λv _=>some v)=jTx gv s a m m (IntKind.wrap .i64 (a+1)):=by kernel_rfl
def nT (s:List UInt8)(a:Nat):List UInt8->Nat->Cut
 |[],e=>(dX s a e,e,0,0)
 |c::r,e=>if uA (cY c) then (if e=a+60 then ([],0,3,e) else nT s a r (e+1)) else (dX s a e,e,0,0)
def jR (s:List UInt8)(a:Nat):List UInt8->Nat->Cut
 |[],_=>([],0,4,s.length)
 |c::r,e=>if cY c=34 then (dX s (a+1) e,e+1,0,0) else if ua (cY c) then jR s a r (e+1) else ([],0,4,e)
theorem Mb (s:List UInt8)(a e:Nat)(h:a<=e)(h2:e<=s.length):Q5 s a e=eH (dX s a e,e,0,0):=by
 unfold Q5;rw[fL (by omega),fL (by omega),fL (by omega)];rfl
theorem af5 (gv:Nat->List AV)(s:List UInt8)(hs:s.length<2000000)(a r:Nat):∀(rest pre:List UInt8) (m:Nat),s=pre++rest->rest.length<m->a<=pre.length ->
 jNm gv s a r m pre.length=eH (nT s a rest pre.length):=by
 intro rest;induction rest with
 |nil =>
  intro pre m he hm hp;obtain⟨m,rfl⟩:∃m',m=m'+1:=⟨m-1,by simp at hm;omega⟩;have hl:s.length=pre.length:=by rw[he];simp
  rw[vA];unfold O5;rw[fL (by omega),Mb s a _ hp (by omega)];rfl
 |cons c rest ih =>
  intro pre m he hm hp;obtain⟨m,rfl⟩:∃m',m=m'+1:=⟨m-1,by simp at hm;omega⟩;have hl:s.length=pre.length+(rest.length+1):=by rw[he];simp
  have hg:dQ s (pre.length:Int)=some c:=by rw[he];exact kK pre rest c
  have hnext:IntKind.wrap .i64 ((pre.length:Int)+1)=((pre++[c]).length:Int):=by rw[i64_in (by omega) (by omega)];simp
  rw[vA];unfold O5;rw[pZ (by omega),hg,Mb s a _ hp (by omega),hnext,i64_in (n:=(pre.length:Int)-a) (by omega) (by omega)];show ah (uA (cY c)) (ah (bI ((pre.length:Int)-a) 60) _ (jNm gv s a r m ((pre++[c]).length:Int))) _=_;rw[nT,ax];split
  .by_cases WD:pre.length=a+60
   .rw[Gg (by omega),ag WD]
   rw[x9 (by omega),aa WD];show jNm gv s a r m ((pre++[c]).length:Int)=_;rw[ih (pre++[c]) m (by rw[he];simp) (by simp at hm;omega) (by simp;omega),aA,ek]
  rfl
theorem af6 (gv:Nat->List AV)(s:List UInt8)(hs:s.length<2000000)(a r:Nat):∀(rest pre:List UInt8) (m:Nat),s=pre++rest->rest.length<m->a+1<=pre.length ->
 jTx gv s a r m pre.length=eH (jR s a rest pre.length):=by
 intro rest;induction rest with
 |nil =>
  intro pre m he hm hp;obtain⟨m,rfl⟩:∃m',m=m'+1:=⟨m-1,by simp at hm;omega⟩;have hl:s.length=pre.length:=by rw[he];simp
  rw[WC];unfold O6;rw[fL (by omega)];rfl
 |cons c rest ih =>
  intro pre m he hm hp;obtain⟨m,rfl⟩:∃m',m=m'+1:=⟨m-1,by simp at hm;omega⟩;have hl:s.length=pre.length+(rest.length+1):=by rw[he];simp
  have hg:dQ s (pre.length:Int)=some c:=by rw[he];exact kK pre rest c
  have hnext:IntKind.wrap .i64 ((pre.length:Int)+1)=((pre++[c]).length:Int):=by rw[i64_in (by omega) (by omega)];simp
  rw[WC];unfold O6;rw[pZ (by omega),hg,hnext,i64_in (n:=(a:Int)+1) (by omega) (by omega),fL (a:=(a:Int)+1) (by omega),fL (a:=(pre.length:Int)) (b:=(a:Int)+1) (by omega),fL (a:=(s.length:Int)) (by omega)];show ah (bI (cY c) 34) (eH (dX s ((a:Int)+1) (pre.length:Int),((pre++[c]).length:Int),0,0)) (ah (!ua (cY c)) _ (jTx gv s a r m ((pre++[c]).length:Int)))=_;rw[jR];by_cases hc:cY c=34
  .rw[Gg hc,ag hc,aA,ek];rfl
  rw[x9 hc,aa hc];show ah (!ua (cY c)) _ _=_;cases hpl:ua (cY c)
  .rfl
  show jTx gv s a r m ((pre++[c]).length:Int)=_;rw[ag rfl,ih (pre++[c]) m (by rw[he];simp) (by simp at hm;omega) (by simp;omega),aA,ek]
def gu (s:List UInt8)(a:Nat):Cut:=nT s a (s.drop a) a
def vB (s:List UInt8)(a:Nat):Cut:=jR s a (s.drop (a+1)) (a+1)
theorem ale (gv:Nat->List AV)(s:List UInt8)(hs:s.length<2000000)(a:Nat)(ha:a<s.length) :
 aT (Xg gv) (d2 gv AV) Ju (s.length+1) 27 [.str s,.int .i64 a] aG.empty (λv _=>some v)=eH (gu s a):=by
 rw[Jw];have hl:(s.take a).length=a:=by simp;omega
 have:=af5 gv s hs a (s.length+1) (s.drop a) (s.take a) (s.length+1) (by simp) (by simp;omega) (by omega);rw[hl]at this;exact this
theorem alf (gv:Nat->List AV)(s:List UInt8)(hs:s.length<2000000)(a:Nat)(ha:a<s.length) :
 aT (Xg gv) (d2 gv AV) af4 (s.length+1) 29 [.str s,.int .i64 a] aG.empty (λv _=>some v)=eH (vB s a):=by
 rw[aaG,i64_in (by omega) (by omega)];have hl:(s.take (a+1)).length=a+1:=by simp;omega
 have:=af6 gv s hs a (s.length+1) (s.drop (a+1)) (s.take (a+1)) (s.length+1) (by simp) (by simp;omega) (by omega);rw[hl]at this;exact this
noncomputable def Jy (f:List UInt8->Nat->Cut)(args:List AV):Option (Bool×List fA) :=
 match args with
 |[.str s,.int .i64 a]=>some (!bC a 0&&bC a ↑s.length&&Nat.ble s.length 1999999,[.val (.str (f s a.toNat).1),.val (.int .i64 (f s a.toNat).2.1),.val (.agg [.int .i64 (f s a.toNat).2.2.1,.int .i64 (f s a.toNat).2.2.2])])
 |_=>none
theorem Q6 {gv:Nat->List AV}{id:FuncId}(hk:inl id=true){an:ei}{f:List UInt8->Nat->Cut}(h:∀(s:List UInt8),s.length<2000000->∀a:Nat,a<s.length->aT (Xg gv) (d2 gv AV) an (s.length+1) id [.str s,.int .i64 a] aG.empty (λv _=>some v)=eH (f s a)):dc (Xg gv) (dR (Xg gv) kn) id (Jy f) :=
 cS (λargs=>bS hk args) (WB gv) λargs rs hg=>by
  unfold Jy at hg;split at hg
  .rename_i s a;simp only[aq,ay,ak,cD,aS,bH,aV,bu]at hg;obtain⟨⟨⟨h1,h2⟩,h3⟩,rfl⟩:=hg;obtain⟨n,rfl⟩:∃n:Nat,a=n:=⟨a.toNat,by omega⟩;rw[bg];exact⟨[.str (f s n).1,.int .i64 (f s n).2.1,.agg [.int .i64 (f s n).2.2.1,.int .i64 (f s n).2.2.2]],an,s.length+1,h s (by omega) n (by omega),rfl,rfl⟩
  cases hg
theorem alg (gv:Nat->List AV):dc (Xg gv) (dR (Xg gv) kn) 27 (Jy gu):=Q6 rfl (ale gv)
theorem alh (gv:Nat->List AV):dc (Xg gv) (dR (Xg gv) kn) 29 (Jy vB):=Q6 rfl (alf gv)
def preB (s p:List UInt8):Bool:=decide (s.take p.length=p)
theorem ali (gv:Nat->List AV)(s p:List UInt8):aT (Xg gv) (d2 gv AV) gO 5 64 [.str s,.str p] aG.empty (λv _=>some v)=some (.bool (preB s p)):=by
 have h:aT (Xg gv) (d2 gv AV) gO 5 64 [.str s,.str p] aG.empty (λv _=>some v)=ah (!bC ↑s.length ↑p.length) (ah (!bC ↑p.length 0 && !bC ↑s.length ↑p.length) (some (.bool (decide (dX s 0 ↑p.length=p)))) none) (some (.bool false)):=by kernel_rfl
 rw[h,iU];unfold preB;split
 .rw[fL (by omega),fL (by omega)];show some (AV.bool (decide (dX s 0 ↑p.length=p)))=_;have e:dX s 0 (p.length:Int)=s.take p.length:=by unfold dX;simp
  rw[e]
 rw[aU];intro h2;have:=cr List.length h2;simp only[bR]at this;omega
noncomputable def aaH (args:List AV):Option (Bool×List fA) :=
 match args with
 |[.str s,.str p]=>some (true,[.val (.bool (preB s p))])
 |_=>none
theorem adF (gv:Nat->List AV):dc (Xg gv) (dR (Xg gv) kn) 64 aaH :=
 cS (λargs=>bS rfl args) (WB gv) λargs rs hg=>by
  unfold aaH at hg;split at hg
  .rename_i s p;simp only[aq,ay]at hg;obtain⟨h1,rfl⟩:=hg;exact⟨[.bool (preB s p)],gO,5,ali gv s p,rfl,rfl⟩
  cases hg
noncomputable def M3:List wh:=(64,[none,none],aaH)::M2
theorem Q7 (gv:Nat->List AV):iT (Xg gv) (dR (Xg gv) kn) M3:=.cons (adF gv) (adE gv)
noncomputable def d3 (gv:Nat->List AV)(β:Type):cI β:=sJ (Xg gv) (Uq M3) inl 200 β 20
theorem alj (gv:Nat->List AV)(β:Type):cX (Xg gv) (dR (Xg gv) kn) (d3 gv β):=lB (Q7 gv) (λf h args=>bS h args) 200 20 β
def zq:List (List UInt8):=[[36,36],[60,60],[62,62],[43],[45],[42],[47],[37],[38],[124],[94],[126],[40],[41],[91],[93],[44],[58],[36]]
noncomputable def Q8 (s:List UInt8)(a:Int):List (List UInt8)->Option AV
 |[]=>eH ([],0,4,a)
 |g::r=>ah (!bC a 0 && !bC ↑s.length a) (ah (preB (dX s a ↑s.length) g) (eH (g,IntKind.wrap .i64 (a + ↑g.length),0,0)) (Q8 s a r)) none
def sN (s:List UInt8)(a:Nat):List (List UInt8)->Cut
 |[]=>([],0,4,a)
 |g::r=>if preB (s.drop a) g then (g,a+g.length,0,0) else sN s a r
def vR (s:List UInt8)(a:Nat):Cut:=sN s a zq
theorem WE (s:List UInt8)(a:Int):aT (Xg BX) (d3 BX AV) gO 20 30 [.str s,.int .i64 a] aG.empty (λv _=>some v)=Q8 s a zq:=by kernel_rfl
theorem Mc (s:List UInt8)(a:Nat):dX s (a:Int) (s.length:Int)=s.drop a:=by
 unfold dX;simp only[bg];exact cU (by simp)
theorem WG (s:List UInt8)(hs:s.length<2000000)(a:Nat)(ha:a<s.length):∀l:List (List UInt8),(∀g∈l,g.length<3)->Q8 s a l=eH (sN s a l):=by
 intro l;induction l with
 |nil=>intro _;rfl
 |cons g r ih =>
  intro hl;have hg:=hl g (cF ..);rw[Q8,sN,fL (by omega),fL (by omega),Mc,i64_in (by omega) (by omega)];show ah (preB (s.drop a) g) _ _=_;rw[ax,ih λg h=>hl g (bE _ h)];split<;>rfl
theorem aaI (s:List UInt8)(hs:s.length<2000000)(a:Nat)(ha:a<s.length):aT (Xg BX) (d3 BX AV) gO 20 30 [.str s,.int .i64 a] aG.empty (λv _=>some v)=eH (vR s a):=by
 rw[WE];exact WG s hs a ha zq (by decide)
theorem alk:dc (Xg BX) (dR (Xg BX) kn) 30 (Jy vR) :=
 cS (λargs=>bS rfl args) (alj BX) λargs rs hg=>by
  unfold Jy at hg;split at hg
  .rename_i s a;simp only[aq,ay,ak,cD,aS,bH,aV,bu]at hg;obtain⟨⟨⟨h1,h2⟩,h3⟩,rfl⟩:=hg;obtain⟨n,rfl⟩:∃n:Nat,a=n:=⟨a.toNat,by omega⟩;rw[bg];exact⟨[.str (vR s n).1,.int .i64 (vR s n).2.1,.agg [.int .i64 (vR s n).2.2.1,.int .i64 (vR s n).2.2.2]],gO,20,aaI s (by omega) n (by omega),rfl,rfl⟩
  cases hg
noncomputable def M5:List wh:=[(26,[none],gBy l6),(27,[none,none],Jy gu),(29,[none,none],Jy vB),(30,[none,none],Jy vR),(28,[none,none],WA)]
theorem Ht:iT (Xg BX) (dR (Xg BX) kn) M5:=.cons (adC BX) (.cons (alg BX) (.cons (alh BX) (.cons alk (.cons (ak7 BX) .nil))))
noncomputable def d5 (β:Type):cI β:=sJ (Xg BX) (Uq M5) inl 200 β 20
theorem alm (β:Type):cX (Xg BX) (dR (Xg BX) kn) (d5 β):=lB Ht (λf h args=>bS h args) 200 20 β
def pLx:List Bool:=[true,true,true,false,true,false]
noncomputable def Td:ei:=⟨gD [0,3,4,5] pLx,.none,[]⟩
noncomputable def vC (v:AV)(H:aG):Option (AV×Option Row) :=
 match v with
 |.fH (.own i _::_)=>some (v,H.get i)
 |_=>some (v,none)
theorem aaJ {X:ij}{kn:Ev.fe}{f:FuncId}(hk:∀args,kn f args=none){g:List AV->Option (Bool×List fA)}{call:∀ β,cI β}(hcall:∀ β,cX X (dR X kn) (call β))
 (h:∀args rs,g args=some (true,rs)->∃vs an rounds o,aT X (call (AV×Option Row)) an rounds f args aG.empty vC=some (rQ vs,o)/\∀H:aG,vC (rQ vs) H=some (rQ vs,o)->tE H [] vs rs):dc X (dR X kn) f g:=by
 intro args rs hg;obtain⟨vs,an,rounds,o,h1,h2⟩:=h args rs hg;obtain⟨v',H1,k1,k2⟩:=lp (nf:=false) (hcall _) (λh=>by cases h) h1;have k3:v'=rQ vs:=by
  unfold vC at k1;split at k1<;>exact(jN (bL k1)).1
 subst k3;refine⟨vs,H1,λS E bJ hr hgl hl=>?_,h2 H1 k1⟩;obtain⟨S',vE,E',a1,a2,a3,a4,_⟩:=k2 S E bJ hr hgl hl;exact⟨S',vE,E',gi hk a1,Du a2,a3,a4⟩
abbrev dL:Ty:=.pair (.int .i64) (.pair (.int .i64) (.pair .str (.int .i64)))
abbrev Piece:=Int×Int×List UInt8×Int
abbrev lF:=Option (AV×Option Row)
noncomputable def aln (s:List UInt8)(out:AV)(left:List UInt8):fJ:=kr 107 [(0,.str s),(3,.ptr 0 0),(4,out),(5,.str left)]
noncomputable def jL0 (s:List UInt8)(r m:Nat)(left:List UInt8):lF:=iF (Xg BX) (d5 (AV×Option Row)) Td r 18 pLx vC m (aln s .dG left) mT
noncomputable def jL1 (s:List UInt8)(r m:Nat)(out:List Piece)(k:Nat)(left:List UInt8):lF:=iF (Xg BX) (d5 (AV×Option Row)) Td r 18 pLx vC m (aln s (.own 1 k) left) (nA [.cells 43 [.int .i64 0,.int .i64 0],.list 81 dL out 0 false false])
noncomputable def ET (f a:Int):lF:=some (.fH [.dG,.agg [.int .i64 f,.int .i64 a]],none)
noncomputable def WH (out:List Piece)(k:Nat):lF:=some (.fH [.own 1 k,.agg [.int .i64 0,.int .i64 0]],some (.list 81 dL out 0 false false))
noncomputable def qk (s left:List UInt8):Int:=IntKind.wrap .i64 (↑s.length - ↑left.length)
noncomputable def qG (s:List UInt8)(e f a:Int)(p:Piece)(room:lF->lF)(go:Piece->List UInt8->lF):lF :=
 ah (!bI f 0) (ET f a) (room (ah (!bC e 0 && !bC ↑s.length e) (go p (dX s e ↑s.length)) none))
noncomputable def Te (s left:List UInt8)(kind:Int)(r:Cut)(room:lF->lF)(go:Piece->List UInt8->lF):lF :=
 ah (!bC (qk s left) 0&&bC (qk s left) ↑s.length&&Nat.ble s.length 1999999) (qG s r.2.1 r.2.2.1 r.2.2.2 (kind,0,r.1,qk s left) room go) none
noncomputable def Tf (s left:List UInt8)(room:lF->lF)(go:Piece->List UInt8->lF):lF :=
 ah (Nat.ble s.length 1999999) (qG s (lD s (qk s left)).2.1 (lD s (qk s left)).2.2.1 (lD s (qk s left)).2.2.2 (2,(lD s (qk s left)).1,[],qk s left) room go) none
noncomputable def CG (s left:List UInt8)(c:UInt8)(room:lF->lF)(go:Piece->List UInt8->lF):lF :=
 ah (bI (cY c) 39) (Tf s left room go) (ah (bI (cY c) 34) (Te s left 3 (vB s (qk s left).toNat) room go) (Te s left 4 (vR s (qk s left).toNat) room go))
noncomputable def Jz (left:List UInt8)(skip:List UInt8->lF):lF:=ah (!bC 1 0 && !bC ↑left.length 1) (skip (dX left 1 ↑left.length)) none
noncomputable def Q9 (s left:List UInt8)(done:lF)(skip:List UInt8->lF)(room:lF->lF)(go:Piece->List UInt8->lF):lF :=
 ah (!decide (left=[])) (Option.rec (motive:=λ_=>lF) none (λc =>
  ah (bI (cY c) 32) (Jz left skip) (ah (bI (cY c) 9) (Jz left skip) (ah (bI (cY c) 59) (skip [])
   (ah (l6 (cY c)) (Te s left 1 (gu s (qk s left).toNat) room go) (ah (!bC (cY c) 48) (ah (!bC 57 (cY c)) (Tf s left room go) (CG s left c room go)) (CG s left c room go)))))) (dQ left 0)) done
noncomputable def adG (out:List Piece)(x:lF):lF:=ah (Nat.ble (out.length+1) 2000000) x none
theorem O7 (s:List UInt8)(r m:Nat)(left:List UInt8):jL0 s r (m+1) left=Q9 s left (ET 0 0) (jL0 s r m) (λx=>x) (λp=>jL1 s r m [p] 1):=by kernel_rfl
theorem O8 (s:List UInt8)(r m:Nat)(out:List Piece)(k:Nat)(left:List UInt8):jL1 s r (m+1) out k left=Q9 s left (WH out k) (jL1 s r m out k) (adG out) (λp=>jL1 s r m (out++[p]) (out.length+1)):=by kernel_rfl
theorem af7 (s:List UInt8)(m:Nat):aT (Xg BX) (d5 (AV×Option Row)) Td m 18 [.str s] aG.empty vC=ah (bC 1000 ↑s.length) (ET 3 1000) (jL0 s m m s):=by kernel_rfl
theorem Tg (s:List UInt8)(a:Nat):∀(rest:List UInt8) (e:Nat),(nT s a rest e).2.2.1=0->(e:Int)<=(nT s a rest e).2.1/\(nT s a rest e).2.1<=(e:Int)+rest.length:=by
 intro rest;induction rest with
 |nil=>intro e _;simp only[nT];exact⟨bB _,by simp⟩
 |cons c r ih =>
  intro e h;rw[nT]at h ⊢;split at h
  .rename_i hm;rw[ag hm];split at h
   .exact absurd h (by simp)
   rename_i WD;rw[aa WD];have:=ih (e+1) h;simp only[aJ];omega
  rename_i hm;rw[aa hm];simp only[aJ];omega
theorem O9 (s:List UInt8)(a:Nat):∀(rest:List UInt8) (e:Nat),(jR s a rest e).2.2.1=0->(e:Int)<(jR s a rest e).2.1/\(jR s a rest e).2.1<=(e:Int)+rest.length:=by
 intro rest;induction rest with
 |nil=>intro e h;exact absurd h (by simp[jR])
 |cons c r ih =>
  intro e h;rw[jR]at h ⊢;split at h
  .rename_i hm;rw[ag hm];simp only[aJ];omega
  rename_i hm;rw[aa hm];split at h
  .rename_i hp;rw[ag hp];have:=ih (e+1) h;simp only[aJ];omega
  exact absurd h (by simp)
theorem Th (len:Nat):∀(rest:List UInt8) (k N i:Nat),(p6 len rest k N i).2.2.1=0->(i:Int)<(p6 len rest k N i).2.1/\(p6 len rest k N i).2.1<=(i:Int)+rest.length:=by
 intro rest;induction rest with
 |nil=>intro k N i h;exact absurd h (by simp[p6])
 |cons c r ih =>
  intro k N i h;rw[p6]at h ⊢;split at h
  .rename_i hm;rw[ag hm];split at h
   .exact absurd h (by simp)
   rename_i hk;rw[aa hk];simp only[aJ];omega
  rename_i hm;rw[aa hm];split at h
  .exact absurd h (by simp)
  rename_i hk;rw[aa hk];split at h
  .exact absurd h (by simp)
  rename_i hk8;rw[aa hk8];have:=ih _ _ (i+1) h;simp only[aJ];omega
theorem Ti (s:List UInt8)(a:Nat):∀l:List (List UInt8),(∀g∈l,0<g.length)->(sN s a l).2.2.1=0->(a:Int)<(sN s a l).2.1/\(sN s a l).2.1<=(s.length:Int):=by
 intro l;induction l with
 |nil=>intro _ h;exact absurd h (by simp[sN])
 |cons g r ih =>
  intro hl h;have hg:=hl g (cF ..);rw[sN]at h ⊢;split at h
  .rename_i hp;rw[ag hp];unfold preB at hp;have:=cr List.length (fG hp);simp only[bR,bQ]at this;show (a:Int)<(a:Int)+g.length/\(a:Int)+g.length<=s.length;omega
  rename_i hp;rw[aa hp];exact ih (λg h=>hl g (bE _ h)) h
theorem Tj (w:List UInt8)(a:Nat)(h:(yM w a).2.2.1=0):(yM w a).2.1=(a:Int)+w.length:=by
 unfold yM at h ⊢;split at h
 .exact absurd h (by simp)
 rename_i h1;rw[aa h1];split at h
 .exact absurd h (by simp)
 rename_i h2;rw[aa h2]
def jU (s:List UInt8)(c:UInt8)(a:Nat):Piece×Int×Int×Int :=
 if l6 (cY c) then ((1,0,(gu s a).1,a),(gu s a).2)
 else if 48<=cY c/\cY c<=57\/cY c=39 then ((2,(lD s a).1,[],a),(lD s a).2)
 else if cY c=34 then ((3,0,(vB s a).1,a),(vB s a).2)
 else ((4,0,(vR s a).1,a),(vR s a).2)
theorem ya {s:List UInt8}{a:Nat}{c:UInt8}{r:List UInt8}(hd:s.drop a=c::r)(h:(jU s c a).2.2.1=0):(a:Int)<(jU s c a).2.1/\(jU s c a).2.1<=s.length:=by
 have hl:s.length-a=r.length+1:=by have:=cr List.length hd;simpa using this
 have hd1:s.drop (a+1)=r:=by rw[<-eJ,hd];rfl
 have hgd:s.getD a 0=c:=by
  have h0:(s.drop a).getD 0 0=c:=by rw[hd];rfl
  rw[<-h0];simp[List.getD]
 unfold jU at h ⊢;split at h
 .rename_i hf;rw[ag hf];unfold gu at h ⊢;rw[hd,nT]at h ⊢;have hm:uA (cY c)=true:=by unfold uA;rw[hf];rfl
  rw[ag hm,aa (by omega)]at h ⊢;have:=Tg s a r (a+1) h;show (a:Int)<(nT s a r (a+1)).2.1/\(nT s a r (a+1)).2.1<=_;omega
 rename_i hf;rw[aa hf];split at h
 .rename_i hn;rw[ag hn];unfold lD at h ⊢;rw[aa (by omega),aa (by omega),bg,hgd]at h ⊢;split at h
  .rename_i hq;rw[ag hq];unfold p7 at h ⊢;rw[hd1]at h ⊢;have:=Th s.length r 0 0 (a+1) h;show (a:Int)<(p6 s.length r 0 0 (a+1)).2.1/\(p6 s.length r 0 0 (a+1)).2.1<=_;omega
  rename_i hq;rw[aa hq];have hn':48<=cY c/\cY c<=57:=by omega
  rw[ag hn']at h ⊢;have:=Tj _ a h;rw[this];have hw:p5 (cY c)=true:=by unfold p5;simp;omega
  have e:((s.drop a).takeWhile λc=>p5 (cY c))=c::(r.takeWhile λc=>p5 (cY c)):=by rw[hd,jr,ag hw]
  have h3:=(List.takeWhile_sublist (λc=>p5 (cY c)) (l:=r)).length_le;rw[e,aJ];omega
 rename_i hn;rw[aa hn];split at h
 .rename_i hq;rw[ag hq];unfold vB at h ⊢;rw[hd1]at h ⊢;have:=O9 s a r (a+1) h;show (a:Int)<(jR s a r (a+1)).2.1/\(jR s a r (a+1)).2.1<=_;omega
 rename_i hq;rw[aa hq];exact Ti s a zq (by decide) h
theorem Tk (c:UInt8)(r:List UInt8):dX (c::r) 1 ↑(c::r).length=r:=by
 unfold dX;simp
theorem Md {s:List UInt8}{e f a:Int}{p:Piece}{room:lF->lF}{go:Piece->List UInt8->lF}(h:f=0->0<=e/\e<=s.length) :
 qG s e f a p room go=if f=0 then room (go p (s.drop e.toNat)) else ET f a:=by
 unfold qG;by_cases hf:f=0
 .rw[Gg hf,ag hf];obtain⟨h1,h2⟩:=h hf;rw[fL (by omega),fL (by omega)];obtain⟨n,rfl⟩:∃n:Nat,e=n:=⟨e.toNat,by omega⟩;show room (go p (dX s n s.length))=_;rw[Mc,bg]
 rw[x9 hf,aa hf];rfl
theorem Ra {s:List UInt8}(hs:s.length<=1000){a:Nat}{c:UInt8}{r:List UInt8}(hd:s.drop a=c::r)(done:lF)(skip:List UInt8->lF)(room:lF->lF)(go:Piece->List UInt8->lF) :
 Q9 s (c::r) done skip room go=if cY c=32\/cY c=9 then skip r else if cY c=59 then skip [] else if (jU s c a).2.2.1=0 then room (go (jU s c a).1 (s.drop (jU s c a).2.1.toNat)) else ET (jU s c a).2.2.1 (jU s c a).2.2.2:=by
 have hl:s.length-a=r.length+1:=by have:=cr List.length hd;simpa using this
 have hpl:qk s (c::r)=(a:Int):=by
  unfold qk;rw[aJ,i64_in (by omega) (by omega)];omega
 have hend:=ya hd;have hb:Jz (c::r) skip=skip r:=by
  unfold Jz;rw[fL (by omega),fL (by rw[aJ];omega),Tk];rfl
 have hg:(!bC (a:Int) 0&&bC (a:Int) ↑s.length&&Nat.ble s.length 1999999)=true:=by
  rw[fL (by omega),pZ (by omega),ep (by omega)];rfl
 have hg2:Nat.ble s.length 1999999=true:=ep (by omega);unfold Q9;rw[aU (by simp),show dQ (c::r) 0=some c from kK [] r c];show ah (bI (cY c) 32) _ (ah (bI (cY c) 9) _ (ah (bI (cY c) 59) _ _))=_;rw[hb];by_cases h32:cY c=32
 .rw[Gg h32,ag (.inl h32)]
 rw[x9 h32];show ah (bI (cY c) 9) _ _=_;by_cases h9:cY c=9
 .rw[Gg h9,ag (.inr h9)]
 rw[x9 h9,aa (by omega)];show ah (bI (cY c) 59) _ _=_;by_cases h59:cY c=59
 .rw[Gg h59,ag h59]
 rw[x9 h59,aa h59];show ah (l6 (cY c)) _ _=_;have Tc:∀(kind:Int) (q:Cut),(q.2.2.1=0->(a:Int)<q.2.1/\q.2.1<=s.length)->Te s (c::r) kind q room go=if q.2.2.1=0 then room (go (kind,0,q.1,(a:Int)) (s.drop q.2.1.toNat)) else ET q.2.2.1 q.2.2.2:=by
  intro kind q hq;unfold Te;rw[hpl,hg];show qG _ _ _ _ _ _ _=_;exact Md λh=>by have:=hq h;omega
 unfold jU at hend ⊢;by_cases hf:l6 (cY c)=true
 .rw[ag hf]at hend;rw[hf,ag rfl];show Te _ _ _ _ _ _=_;rw[hpl,bg];exact Tc 1 _ hend
 rw[aa hf]at hend;rw[aa hf,Bool.eq_false_iff.2 hf];show ah (!bC (cY c) 48) (ah (!bC 57 (cY c)) (Tf s (c::r) room go) (CG s (c::r) c room go)) (CG s (c::r) c room go)=_;have alp:(48<=cY c/\cY c<=57\/cY c=39)->Tf s (c::r) room go=if (lD s (a:Int)).2.2.1=0 then room (go (2,(lD s (a:Int)).1,[],(a:Int)) (s.drop (lD s (a:Int)).2.1.toNat)) else ET (lD s (a:Int)).2.2.1 (lD s (a:Int)).2.2.2:=by
  intro hn;rw[ag hn]at hend;unfold Tf;rw[hpl,hg2];show qG _ _ _ _ _ _ _=_;exact Md λh=>by have:=hend h;dsimp only at this;omega
 by_cases hn:48<=cY c/\cY c<=57
 .have hd3:48<=cY c/\cY c<=57\/cY c=39:=.inl hn;rw[fL (by omega),fL (by omega),ag hd3];exact alp hd3
 have hr:ah (!bC (cY c) 48) (ah (!bC 57 (cY c)) (Tf s (c::r) room go) (CG s (c::r) c room go)) (CG s (c::r) c room go)=CG s (c::r) c room go:=by
  rw[iU,iU];split
  .rw[aa (by omega)]
  rfl
 rw[hr];unfold CG;by_cases h39:cY c=39
 .have hd3:48<=cY c/\cY c<=57\/cY c=39:=.inr h39;rw[Gg h39,ag hd3];exact alp hd3
 have hd3:¬(48<=cY c/\cY c<=57\/cY c=39):=by omega
 rw[aa hd3]at hend;rw[x9 h39,aa hd3];show ah (bI (cY c) 34) _ _=_;rw[hpl,bg];by_cases ZC:cY c=34
 .rw[ag ZC]at hend;rw[Gg ZC,ag ZC];exact Tc 3 _ hend
 rw[aa ZC]at hend;rw[x9 ZC,aa ZC];exact Tc 4 _ hend
def ql (s:List UInt8):Nat->List UInt8->List Piece×Int×Int
 |0,_=>([],0,0)
 |_+1,[]=>([],0,0)
 |n+1,c::r =>
  if cY c=32\/cY c=9 then ql s n r else if cY c=59 then ([],0,0)
  else if (jU s c (s.length-(r.length+1))).2.2.1=0 then
   ((jU s c (s.length-(r.length+1))).1::(ql s n (s.drop (jU s c (s.length-(r.length+1))).2.1.toNat)).1,(ql s n (s.drop (jU s c (s.length-(r.length+1))).2.1.toNat)).2)
  else ([],(jU s c (s.length-(r.length+1))).2.2)
noncomputable def Tl (out:List Piece)(t:List Piece×Int×Int):lF:=if t.2.1=0 then WH (out++t.1) (out++t.1).length else ET t.2.1 t.2.2
theorem af9 (s:List UInt8)(hs:s.length<=1000)(rd:Nat):∀(n m:Nat) (out:List Piece) (left:List UInt8),left.length<=n->n<m->s.drop (s.length-left.length)=left->out.length+n<=1000 ->
 jL1 s rd m out out.length left=Tl out (ql s n left):=by
 intro n;induction n with
 |zero =>
  intro m out left h1 h2 _ _;obtain⟨m,rfl⟩:∃m',m=m'+1:=⟨m-1,by omega⟩;have:left=[]:=aQ.1 (by omega);subst this;rw[O8];show WH out out.length=_;unfold Tl ql;simp
 |succ n ih =>
  intro m out left h1 h2 h3 h4;obtain⟨m,rfl⟩:∃m',m=m'+1:=⟨m-1,by omega⟩
  match left,h1,h3 with
  |[],_,_ =>
   rw[O8];show WH out out.length=_;unfold Tl ql;simp
  |c::r,h1,h3 =>
   rw[aJ]at h1 h3;have hle:r.length+1<=s.length:=by
    have:=cr List.length h3;simp only[bQ,aJ]at this;omega
   have hr:s.drop (s.length-r.length)=r:=by
    have:s.length-r.length=s.length-(r.length+1)+1:=by omega
    rw[this,<-eJ,h3];rfl
   rw[O8,Ra hs h3,ql];split
   .exact ih m out r (by omega) (by omega) hr (by omega)
   split
   .have:=ih m out [] (by simp) (by omega) (by simp) (by omega);rw[this];cases n<;>rfl
   split
   .rename_i hp;have he:=ya h3 hp;unfold adG;rw[ep (by omega)];show jL1 s rd m (out++[_]) (out.length+1) _=_;have e:out.length+1=(out++[(jU s c (s.length-(r.length+1))).1]).length:=by simp
    rw[e,ih m _ _ (by simp only[bQ];omega) (by omega) (by rw[bQ];congr 1;omega) (by simp;omega)];unfold Tl;simp only[bM,List.singleton_append]
   rename_i hp;unfold Tl;rw[aa hp]
noncomputable def Rb (t:List Piece×Int×Int):lF:=if t.2.1=0 then (if t.1=[] then ET 0 0 else WH t.1 t.1.length) else ET t.2.1 t.2.2
theorem aga (s:List UInt8)(hs:s.length<=1000)(rd:Nat):∀(n m:Nat) (left:List UInt8),left.length<=n->n<m->s.drop (s.length-left.length)=left->n<=1000 ->
 jL0 s rd m left=Rb (ql s n left):=by
 intro n;induction n with
 |zero =>
  intro m left h1 h2 _ _;obtain⟨m,rfl⟩:∃m',m=m'+1:=⟨m-1,by omega⟩;have:left=[]:=aQ.1 (by omega);subst this;rw[O7];rfl
 |succ n ih =>
  intro m left h1 h2 h3 h4;obtain⟨m,rfl⟩:∃m',m=m'+1:=⟨m-1,by omega⟩
  match left,h1,h3 with
  |[],_,_ =>
   rw[O7];rfl
  |c::r,h1,h3 =>
   rw[aJ]at h1 h3;have hle:r.length+1<=s.length:=by
    have:=cr List.length h3;simp only[bQ,aJ]at this;omega
   have hr:s.drop (s.length-r.length)=r:=by
    have:s.length-r.length=s.length-(r.length+1)+1:=by omega
    rw[this,<-eJ,h3];rfl
   rw[O7,Ra hs h3,ql];split
   .exact ih m r (by omega) (by omega) hr (by omega)
   split
   .have:=ih m [] (by simp) (by omega) (by simp) (by omega);rw[this];cases n<;>rfl
   split
   .rename_i hp;have he:=ya h3 hp;have:=af9 s hs rd n m [(jU s c (s.length-(r.length+1))).1] (s.drop (jU s c (s.length-(r.length+1))).2.1.toNat) (by simp only[bQ];omega) (by omega) (by rw[bQ];congr 1;omega) (by simp;omega);refine this.trans ?_;unfold Tl Rb;simp only[List.singleton_append];split
    .rw[aa (by simp)]
    rfl
   rename_i hp;unfold Rb;rw[aa hp]
def jZ (s:List UInt8):List Piece×Int×Int :=
 if 1000<s.length then ([],3,1000) else if (ql s s.length s).2.1=0 then ((ql s s.length s).1,0,0) else ([],(ql s s.length s).2)
noncomputable def agb (args:List AV):Option (Bool×List fA) :=
 match args with
 |[.str s]=>some (true,[.list 81 dL (jZ s).1,.val (.agg [.int .i64 (jZ s).2.1,.int .i64 (jZ s).2.2])])
 |_=>none
theorem WI (s:List UInt8):aT (Xg BX) (d5 (AV×Option Row)) Td (s.length+1) 18 [.str s] aG.empty vC =
 if (jZ s).1=[] then ET (jZ s).2.1 (jZ s).2.2 else some (.fH [.own 1 (jZ s).1.length,.agg [.int .i64 (jZ s).2.1,.int .i64 (jZ s).2.2]],some (.list 81 dL (jZ s).1 0 false false)):=by
 rw[af7];unfold jZ;by_cases hl:1000<s.length
 .rw[pZ (by omega),ag hl,ag rfl]
 rw[fL (by omega),aa hl];show jL0 s (s.length+1) (s.length+1) s=_;rw[aga s (by omega) _ s.length _ s (aC _) (by omega) (by simp) (by omega)];unfold Rb;by_cases hf:(ql s s.length s).2.1=0
 .rw[ag hf,ag hf];rfl
 rw[aa hf,aa hf,ag rfl]
theorem alq:dc (Xg BX) (dR (Xg BX) kn) 18 agb :=
 aaJ (λargs=>bS rfl args) alm λargs rs hg=>by
  unfold agb at hg;split at hg
  .rename_i s;simp only[aq,ay]at hg;obtain⟨_,rfl⟩:=hg;by_cases h:(jZ s).1=[]
   .refine ⟨[.dG,.agg [.int .i64 (jZ s).2.1,.int .i64 (jZ s).2.2]],Td,s.length+1,none,?_,λH _=>⟨rfl,.inr ⟨rfl,h,rfl,rfl,trivial⟩⟩⟩;rw[WI,ag h];rfl
   refine⟨[.own 1 (jZ s).1.length,.agg [.int .i64 (jZ s).2.1,.int .i64 (jZ s).2.2]],Td,s.length+1,some (.list 81 dL (jZ s).1 0 false false),?_,λH hH=>⟨rfl,.inl ⟨1,0,false,rfl,?_,by simp,rfl,rfl,trivial⟩⟩⟩
   .rw[WI,aa h];rfl
   exact(jN (bL hH)).2
  cases hg
end Go.Proofs.YtbeckacfibledaaGreatDoor.lt
namespace Go.Proofs.YtbeckacfibledaaGreatDoor.lt
open Go.Tv Go.Ev
set_option maxRecDepth 100000
noncomputable section
def pN1:List Bool:=[true,true,false,true,false]
def aaM:ei:=⟨gD [0,19,20] pN1,.none,[]⟩
theorem WL {s:List UInt8}(hs:s.length<2000000){p:UInt8->Bool}{j:Nat->Int->Option AV}{A B:Option AV} (step:∀m i,j (m+1) i=ah (bC i ↑s.length) (Option.rec (motive:=λ_=>Option AV) none (λc=>ah (!p c) A (j m (IntKind.wrap .i64 (i+1)))) (dQ s i)) B) :
 ∀(rest pre:List UInt8) (m:Nat),s=pre++rest->rest.length<m->j m pre.length=if rest.all p=true then B else A:=by
 intro rest;induction rest with
 |nil =>
  intro pre m he hm;obtain⟨m,rfl⟩:∃m',m=m'+1:=⟨m-1,by simp at hm;omega⟩;have hl:s.length=pre.length:=by rw[he];simp
  rw[step,fL (by omega)];rfl
 |cons c rest ih =>
  intro pre m he hm;obtain⟨m,rfl⟩:∃m',m=m'+1:=⟨m-1,by simp at hm;omega⟩;have hl:s.length=pre.length+(rest.length+1):=by rw[he];simp
  have hg:dQ s (pre.length:Int)=some c:=by rw[he];exact kK pre rest c
  have hin:=ih (pre++[c]) m (by rw[he];simp) (by simp at hm;omega);rw[aA]at hin;have hin:j m ((pre.length:Int)+1)=if rest.all p=true then B else A:=hin;rw[step,pZ (by omega),hg,i64_in (n:=(pre.length:Int)+1) (by omega) (by omega)];show ah (!p c) A (j m ((pre.length:Int)+1))=_;rw[hin];cases hp:p c
  .simp[hp]
  simp[hp]
def CH (c:UInt8):Bool:=uA (cY c)
def bZ (s:List UInt8):Bool:=match s with
 |[]=>false
 |c::r=>decide (r.length<60)&&l6 (cY c)&&(c::r).all CH
noncomputable def jN1 (gv:Nat->List AV)(s:List UInt8)(r m:Nat)(i:Int):Option AV:=iF (Xg gv) (d2 gv AV) aaM r 155 pN1 (λv _=>some v) m (kr 29 [(0,.str s),(19,.int .i64 s.length),(20,.int .i64 i)]) aG.empty
theorem agd (gv:Nat->List AV)(s:List UInt8)(r m:Nat)(i:Int):jN1 gv s r (m+1) i=ah (bC i ↑s.length) (Option.rec (motive:=λ_=>Option AV) none (λc=>ah (!CH c) (some (.bool false)) (jN1 gv s r m (IntKind.wrap .i64 (i+1)))) (dQ s i)) (some (.bool true)):=by kernel_rfl
theorem aaN (gv:Nat->List AV)(s:List UInt8)(r:Nat):aT (Xg gv) (d2 gv AV) aaM r 155 [.str s] aG.empty (λv _=>some v) =
 ah (bI ↑s.length 0) (some (.bool false)) (ah (bC 60 ↑s.length) (some (.bool false)) (Option.rec (motive:=λ_=>Option AV) none (λc=>ah (!l6 (cY c)) (some (.bool false)) (jN1 gv s r r 0)) (dQ s 0))):=by kernel_rfl
theorem Pb {n:Int}(h:l6 n=true):uA n=true:=by unfold uA;rw[h];rfl
theorem alv (gv:Nat->List AV)(s:List UInt8):aT (Xg gv) (d2 gv AV) aaM 100 155 [.str s] aG.empty (λv _=>some v)=some (.bool (bZ s)):=by
 rw[aaN];cases s with
 |nil=>rfl
 |cons c r =>
  show _=some (AV.bool (decide (r.length<60)&&l6 (cY c)&&(c::r).all CH));rw[x9 (by simp;omega)];by_cases h:r.length<60
  .rw[fL (by simp;omega),aX h];have hl:=WL (s:=c::r) (by simp;omega) (agd gv (c::r) 100) (c::r) [] 100 rfl (by simp;omega);have hl:jN1 gv (c::r) 100 100 0=_:=hl;rw[hl];show ah (!l6 (cY c)) _ _=_;cases l6 (cY c)
   .rfl
   cases (c::r).all CH<;>rfl
  rw[pZ (by simp;omega),aU h];rfl
def gNm (args:List AV):Option (Bool×List fA) :=
 match args with
 |[.str s]=>some (true,[.val (.bool (bZ s))])
 |_=>none
theorem alx (gv:Nat->List AV):dc (Xg gv) (dR (Xg gv) kn) 155 gNm :=
 cS (λargs=>bS rfl args) (WB gv) λargs rs hg=>by
  unfold gNm at hg;split at hg
  .rename_i s;simp only[aq,ay]at hg;obtain⟨_,rfl⟩:=hg;exact⟨[.bool (bZ s)],aaM,100,alv gv s,rfl,rfl⟩
  cases hg
end
end Go.Proofs.YtbeckacfibledaaGreatDoor.lt
namespace Go.Proofs.YtbeckacfibledaaGreatDoor.lt
open Go.Tv Go.Ev
set_option maxRecDepth 100000
end Go.Proofs.YtbeckacfibledaaGreatDoor.lt
