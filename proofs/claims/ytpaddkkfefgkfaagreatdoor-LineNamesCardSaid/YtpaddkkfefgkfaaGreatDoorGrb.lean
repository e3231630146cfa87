/- Tokens: bytes. Tokens: names and quoted texts. Tokens: signs. Tokens: signs. Tokens: a line. Tokens: a line, round by round. Tokens: every piece ends behind its place. Tokens: the contract of Lex. Tokens: the contract of Lex. Names: token.Name; what Lex makes of a name. What Lex makes of a line that has a name, and little more. -/
import Derived.Test.YtpaddkkfefgkfaaGreatDoorGra
set_option linter.unusedVariables false
set_option linter.unusedSimpArgs false

namespace Go.Proofs.YtpaddkkfefgkfaaGreatDoor.lt
open Go.Tv Go.Ev
set_option maxRecDepth 100000
def dZ (n:Int):Bool:=decide (97<=n/\n<=122\/65<=n/\n<=90\/n=95\/n=46)
def fJ (n:Int):Bool:=dZ n||decide (48<=n/\n<=57)
def iN (n:Int):Bool:=decide (32<=n/\n<=126)
theorem agU (gv:Nat->List AV) (n:Int):ag (Xg gv) (c0 gv AV) bW 5 48 [.int .u8 n] aa.empty (λv _=>some v)=some (.bool (dZ n)):=by
 have h:ag (Xg gv) (c0 gv AV) bW 5 48 [.int .u8 n] aa.empty (λv _=>some v)=tI n 97 122 (some (.bool true)) (tI n 65 90 (some (.bool true)) (pick2 (eqI n 95) (some (.bool true)) (some (.bool (eqI n 46))))):=by kernel_rfl
 rw[h]
 simp only[Bn,av]
 unfold dZ
 split
 .
  rw[decide_eq_true (by omega)]
 split
 .
  rw[decide_eq_true (by omega)]
 split
 .
  rw[decide_eq_true (by omega)]
 refine congrArg (λx=>some (AV.bool x)) ?_
 rw[eqI_spec,Bool.eq_iff_iff,beq_iff_eq,decide_eq_true_eq];omega
theorem agV (gv:Nat->List AV) (n:Int):ag (Xg gv) (c0 gv AV) bW 5 99 [.int .u8 n] aa.empty (λv _=>some v)=some (.bool (iN n)):=by
 have h:ag (Xg gv) (c0 gv AV) bW 5 99 [.int .u8 n] aa.empty (λv _=>some v)=pick2 (!ltI n 32) (some (.bool (!ltI 126 n))) (some (.bool false)):=by kernel_rfl
 rw[h,cO]
 unfold iN
 split
 .
  refine congrArg (λx=>some (AV.bool x)) ?_
  rw[ltI_spec,Bool.eq_iff_iff,Bool.not_eq_true',decide_eq_false_iff_not,decide_eq_true_eq];omega
 rw[decide_eq_false (by omega)]
noncomputable def Xl (p:Int->Bool) (args:List AV):Option (Bool×List bC) :=
 match args with
 |[.int .u8 n]=>some (true,[.val (.bool (p n))])
 |_=>none
theorem KV {gv:Nat->List AV} {call:∀ β,bf β} (hcall:∀ β,aY (Xg gv) (br (Xg gv) kn) (call β)) {f:FuncId} (hk:inl f=true) {p:Int->Bool} (h:∀n,ag (Xg gv) (call AV) bW 5 f [.int .u8 n] aa.empty (λv _=>some v)=some (.bool (p n))):aK (Xg gv) (br (Xg gv) kn) f (Xl p) :=
 aH (λargs=>aP hk args) hcall λargs rs hg=>by
  unfold Xl at hg;split at hg
  .
   rename_i n;simp only[Option.some.injEq,Prod.mk.injEq] at hg;obtain ⟨h1,rfl⟩:=hg;exact ⟨[.bool (p n)],bW,5,h n,rfl,rfl⟩
  cases hg
theorem ZK (gv:Nat->List AV):aK (Xg gv) (br (Xg gv) kn) 48 (Xl dZ):=KV (tK gv) rfl (agU gv)
theorem agW (gv:Nat->List AV):aK (Xg gv) (br (Xg gv) kn) 99 (Xl iN):=KV (tK gv) rfl (agV gv)
noncomputable def M1:List mQ:=[(48,[none],Xl dZ),(99,[none],Xl iN)]
theorem ZL (gv:Nat->List AV):bS (Xg gv) (br (Xg gv) kn) M1:=.cons (ZK gv) (.cons (agW gv) .nil)
noncomputable def d1 (gv:Nat->List AV) (β:Type):bf β:=lY (Xg gv) (O5 M1) inl 200 β 20
theorem agX (gv:Nat->List AV) (β:Type):aY (Xg gv) (br (Xg gv) kn) (d1 gv β):=eG (ZL gv) (λf h args=>aP h args) 200 20 β
theorem agY (gv:Nat->List AV) (n:Int):ag (Xg gv) (d1 gv AV) bW 5 49 [.int .u8 n] aa.empty (λv _=>some v)=some (.bool (fJ n)):=by
 have h:ag (Xg gv) (d1 gv AV) bW 5 49 [.int .u8 n] aa.empty (λv _=>some v)=pick2 (dZ n) (some (.bool true)) (pick2 (!ltI n 48) (some (.bool (!ltI 57 n))) (some (.bool false))):=by kernel_rfl
 rw[h,pick2_eq,cO]
 unfold fJ
 split
 .
  rename_i hf;rw[hf];rfl
 rename_i hf
 have hf:dZ n=false:=by simpa using hf
 rw[hf,Bool.false_or]
 split
 .
  refine congrArg (λx=>some (AV.bool x)) ?_
  rw[ltI_spec,Bool.eq_iff_iff,Bool.not_eq_true',decide_eq_false_iff_not,decide_eq_true_eq];omega
 rw[decide_eq_false (by omega)]
theorem agZ (gv:Nat->List AV):aK (Xg gv) (br (Xg gv) kn) 49 (Xl fJ):=KV (agX gv) rfl (agY gv)
noncomputable def M2:List mQ:=(49,[none],Xl fJ)::M1
theorem ZM (gv:Nat->List AV):bS (Xg gv) (br (Xg gv) kn) M2:=.cons (agZ gv) (ZL gv)
noncomputable def d2 (gv:Nat->List AV) (β:Type):bf β:=lY (Xg gv) (O5 M2) inl 200 β 20
theorem SK (gv:Nat->List AV) (β:Type):aY (Xg gv) (br (Xg gv) kn) (d2 gv β):=eG (ZM gv) (λf h args=>aP h args) 200 20 β
end Go.Proofs.YtpaddkkfefgkfaaGreatDoor.lt

namespace Go.Proofs.YtpaddkkfefgkfaaGreatDoor.lt
open Go.Tv Go.Ev
set_option maxRecDepth 100000
abbrev Cut:=List UInt8×Int×Int×Int
noncomputable def fF (r:Cut):Option AV:=some (.cG [.str r.1,.int .i64 r.2.1,.agg [.int .i64 r.2.2.1,.int .i64 r.2.2.2]])
def pNm:List Bool:=[true,true,false,false]
def pTx:List Bool:=[true,false,true,false]
noncomputable def abP:bI:=⟨dP [0,1,6,7] pNm,.none,[]⟩
noncomputable def abQ:bI:=⟨dP [0,1,6,7] pTx,.none,[]⟩
noncomputable def stC (k:Nat) (s:List UInt8) (a e:Int):cB:=iB k [(0,.str s),(1,.int .i64 a),(6,.ptr 0 0),(7,.int .i64 e)]
noncomputable def jNm (gv:Nat->List AV) (s:List UInt8) (a:Int) (r m:Nat) (e:Int):Option AV:=dQ (Xg gv) (d2 gv AV) abP r 55 pNm (λv _=>some v) m (stC 33 s a e) mT
noncomputable def jTx (gv:Nat->List AV) (s:List UInt8) (a:Int) (r m:Nat) (e:Int):Option AV:=dQ (Xg gv) (d2 gv AV) abQ r 57 pTx (λv _=>some v) m (stC 40 s a e) mT
noncomputable def MY (s:List UInt8) (a e:Int):Option AV:=pick2 (!ltI a 0 && !ltI e a && !ltI ↑s.length e) (fF (aR s a e,e,0,0)) none
noncomputable def KW (s:List UInt8) (a e:Int) (go:Int->Option AV):Option AV :=
 pick2 (ltI e ↑s.length)
  (Option.rec (motive:=λ_=>Option AV) none (λc=>pick2 (fJ (aD c)) (pick2 (eqI (IntKind.wrap .i64 (e-a)) 60) (fF ([],0,3,e)) (go (IntKind.wrap .i64 (e+1)))) (MY s a e)) (aO s e))
  (MY s a e)
noncomputable def KX (s:List UInt8) (a e:Int) (go:Int->Option AV):Option AV :=
 pick2 (ltI e ↑s.length)
  (Option.rec (motive:=λ_=>Option AV) none (λc=>pick2 (eqI (aD c) 34)
   (pick2 (!ltI (IntKind.wrap .i64 (a+1)) 0 && !ltI e (IntKind.wrap .i64 (a+1)) && !ltI ↑s.length e) (fF (aR s (IntKind.wrap .i64 (a+1)) e,IntKind.wrap .i64 (e+1),0,0)) none)
   (Option.rec (motive:=λ_=>Option AV) none (λc=>pick2 (!iN (aD c)) (fF ([],0,4,e)) (go (IntKind.wrap .i64 (e+1)))) (aO s e))) (aO s e))
  (fF ([],0,4,↑s.length))
theorem SL (gv:Nat->List AV) (s:List UInt8) (a:Int) (r m:Nat) (e:Int):jNm gv s a r (m+1) e=KW s a e (jNm gv s a r m):=by kernel_rfl
theorem SM (gv:Nat->List AV) (s:List UInt8) (a:Int) (r m:Nat) (e:Int):jTx gv s a r (m+1) e=KX s a e (jTx gv s a r m):=by kernel_rfl
theorem Xm (gv:Nat->List AV) (s:List UInt8) (a:Int) (m:Nat):ag (Xg gv) (d2 gv AV) abP m 55 [.str s,.int .i64 a] aa.empty (λv _=>some v)=jNm gv s a m m a:=by kernel_rfl
theorem Xn (gv:Nat->List AV) (s:List UInt8) (a:Int) (m:Nat):ag (Xg gv) (d2 gv AV) abQ m 57 [.str s,.int .i64 a] aa.empty (λv _=>some v)=jTx gv s a m m (IntKind.wrap .i64 (a+1)):=by kernel_rfl
def eB (s:List UInt8) (a:Nat):List UInt8->Nat->Cut
 |[],e=>(aR s a e,e,0,0)
 |c::r,e=>if fJ (aD c) then (if e=a+60 then ([],0,3,e) else eB s a r (e+1)) else (aR s a e,e,0,0)
def cy (s:List UInt8) (a:Nat):List UInt8->Nat->Cut
 |[],_=>([],0,4,s.length)
 |c::r,e=>if aD c=34 then (aR s (a+1) e,e+1,0,0) else if iN (aD c) then cy s a r (e+1) else ([],0,4,e)
theorem Im (s:List UInt8) (a e:Nat) (h:a<=e) (h2:e<=s.length):MY s a e=fF (aR s a e,e,0,0):=by
 unfold MY
 rw[cn (by omega),cn (by omega),cn (by omega)];rfl
theorem abR (gv:Nat->List AV) (s:List UInt8) (hs:s.length<1000000) (a r:Nat):∀(rest pre:List UInt8) (m:Nat),s=pre++rest->rest.length<m->a<=pre.length ->
 jNm gv s a r m pre.length=fF (eB s a rest pre.length):=by
 intro rest
 induction rest with
 |
  nil =>
  intro pre m he hm hp;obtain ⟨m,rfl⟩:∃m',m=m'+1:=⟨m-1,by simp at hm;omega⟩
  have hl:s.length=pre.length:=by rw[he];simp
  rw[SL];unfold KW;rw[cn (by omega),Im s a _ hp (by omega)]
  rfl
 |
  cons c rest ih =>
  intro pre m he hm hp;obtain ⟨m,rfl⟩:∃m',m=m'+1:=⟨m-1,by simp at hm;omega⟩
  have hl:s.length=pre.length+(rest.length+1):=by rw[he];simp
  have hg:aO s (pre.length:Int)=some c:=by rw[he];exact dR pre rest c
  have hnext:IntKind.wrap .i64 ((pre.length:Int)+1)=((pre++[c]).length:Int):=by rw[i64_in (by omega) (by omega)];simp
  rw[SL];unfold KW;rw[jo (by omega),hg,Im s a _ hp (by omega),hnext,i64_in (n:=(pre.length:Int)-a) (by omega) (by omega)]
  show pick2 (fJ (aD c)) (pick2 (eqI ((pre.length:Int)-a) 60) _ (jNm gv s a r m ((pre++[c]).length:Int))) _=_;rw[eB,pick2_eq];split
  .
   by_cases ZN:pre.length=a+60
   .
    rw[Bm (by omega),if_pos ZN]
   rw[yN (by omega),if_neg ZN]
   show jNm gv s a r m ((pre++[c]).length:Int)=_;rw[ih (pre++[c]) m (by rw[he];simp) (by simp at hm;omega) (by simp;omega),List.length_append,List.length_singleton]
  rfl
theorem abS (gv:Nat->List AV) (s:List UInt8) (hs:s.length<1000000) (a r:Nat):∀(rest pre:List UInt8) (m:Nat),s=pre++rest->rest.length<m->a+1<=pre.length ->
 jTx gv s a r m pre.length=fF (cy s a rest pre.length):=by
 intro rest
 induction rest with
 |
  nil =>
  intro pre m he hm hp;obtain ⟨m,rfl⟩:∃m',m=m'+1:=⟨m-1,by simp at hm;omega⟩
  have hl:s.length=pre.length:=by rw[he];simp
  rw[SM];unfold KX;rw[cn (by omega)]
  rfl
 |
  cons c rest ih =>
  intro pre m he hm hp;obtain ⟨m,rfl⟩:∃m',m=m'+1:=⟨m-1,by simp at hm;omega⟩
  have hl:s.length=pre.length+(rest.length+1):=by rw[he];simp
  have hg:aO s (pre.length:Int)=some c:=by rw[he];exact dR pre rest c
  have hnext:IntKind.wrap .i64 ((pre.length:Int)+1)=((pre++[c]).length:Int):=by rw[i64_in (by omega) (by omega)];simp
  rw[SM];unfold KX;rw[jo (by omega),hg,hnext,i64_in (n:=(a:Int)+1) (by omega) (by omega),cn (a:=(a:Int)+1) (by omega),cn (a:=(pre.length:Int)) (b:=(a:Int)+1) (by omega),cn (a:=(s.length:Int)) (by omega)]
  show pick2 (eqI (aD c) 34) (fF (aR s ((a:Int)+1) (pre.length:Int),((pre++[c]).length:Int),0,0)) (pick2 (!iN (aD c)) _ (jTx gv s a r m ((pre++[c]).length:Int)))=_;rw[cy];by_cases hc:aD c=34
  .
   rw[Bm hc,if_pos hc,List.length_append,List.length_singleton];rfl
  rw[yN hc,if_neg hc];show pick2 (!iN (aD c)) _ _=_;cases hpl:iN (aD c)
  .
   rfl
  show jTx gv s a r m ((pre++[c]).length:Int)=_;rw[if_pos rfl,ih (pre++[c]) m (by rw[he];simp) (by simp at hm;omega) (by simp;omega),List.length_append,List.length_singleton]
def o4 (s:List UInt8) (a:Nat):Cut:=eB s a (s.drop a) a
def mq (s:List UInt8) (a:Nat):Cut:=cy s a (s.drop (a+1)) (a+1)
theorem ag0 (gv:Nat->List AV) (s:List UInt8) (hs:s.length<1000000) (a:Nat) (ha:a<s.length) :
 ag (Xg gv) (d2 gv AV) abP (s.length+1) 55 [.str s,.int .i64 a] aa.empty (λv _=>some v)=fF (o4 s a):=by
 rw[Xm]
 have hl:(s.take a).length=a:=by simp;omega
 have:=abR gv s hs a (s.length+1) (s.drop a) (s.take a) (s.length+1) (by simp) (by simp;omega) (by omega)
 rw[hl] at this
 exact this
theorem ag1 (gv:Nat->List AV) (s:List UInt8) (hs:s.length<1000000) (a:Nat) (ha:a<s.length) :
 ag (Xg gv) (d2 gv AV) abQ (s.length+1) 57 [.str s,.int .i64 a] aa.empty (λv _=>some v)=fF (mq s a):=by
 rw[Xn,i64_in (by omega) (by omega)]
 have hl:(s.take (a+1)).length=a+1:=by simp;omega
 have:=abS gv s hs a (s.length+1) (s.drop (a+1)) (s.take (a+1)) (s.length+1) (by simp) (by simp;omega) (by omega)
 rw[hl] at this
 exact this
noncomputable def FL (f:List UInt8->Nat->Cut) (args:List AV):Option (Bool×List bC) :=
 match args with
 |[.str s,.int .i64 a]=>some (!ltI a 0&&ltI a ↑s.length&&Nat.ble s.length 999999,[.val (.str (f s a.toNat).1),.val (.int .i64 (f s a.toNat).2.1),.val (.agg [.int .i64 (f s a.toNat).2.2.1,.int .i64 (f s a.toNat).2.2.2])])
 |_=>none
theorem MZ {gv:Nat->List AV} {id:FuncId} (hk:inl id=true) {an:bI} {f:List UInt8->Nat->Cut} (h:∀(s:List UInt8),s.length<1000000->∀a:Nat,a<s.length->ag (Xg gv) (d2 gv AV) an (s.length+1) id [.str s,.int .i64 a] aa.empty (λv _=>some v)=fF (f s a)):aK (Xg gv) (br (Xg gv) kn) id (FL f) :=
 aH (λargs=>aP hk args) (SK gv) λargs rs hg=>by
  unfold FL at hg;split at hg
  .
   rename_i s a;simp only[Option.some.injEq,Prod.mk.injEq,Bool.and_eq_true,ltI_spec,Bool.not_eq_true',decide_eq_false_iff_not,decide_eq_true_eq,Nat.ble_eq] at hg;obtain ⟨⟨⟨h1,h2⟩,h3⟩,rfl⟩:=hg;obtain ⟨n,rfl⟩:∃n:Nat,a=n:=⟨a.toNat,by omega⟩
   rw[Int.toNat_natCast];exact ⟨[.str (f s n).1,.int .i64 (f s n).2.1,.agg [.int .i64 (f s n).2.2.1,.int .i64 (f s n).2.2.2]],an,s.length+1,h s (by omega) n (by omega),rfl,rfl⟩
  cases hg
theorem ag2 (gv:Nat->List AV):aK (Xg gv) (br (Xg gv) kn) 55 (FL o4):=MZ rfl (ag0 gv)
theorem ag3 (gv:Nat->List AV):aK (Xg gv) (br (Xg gv) kn) 57 (FL mq):=MZ rfl (ag1 gv)
end Go.Proofs.YtpaddkkfefgkfaaGreatDoor.lt

namespace Go.Proofs.YtpaddkkfefgkfaaGreatDoor.lt
open Go.Tv Go.Ev
set_option maxRecDepth 100000
def preB (s p:List UInt8):Bool:=decide (s.take p.length=p)
theorem ag4 (gv:Nat->List AV) (s p:List UInt8):ag (Xg gv) (d2 gv AV) bW 5 100 [.str s,.str p] aa.empty (λv _=>some v)=some (.bool (preB s p)):=by
 have h:ag (Xg gv) (d2 gv AV) bW 5 100 [.str s,.str p] aa.empty (λv _=>some v)=pick2 (!ltI ↑s.length ↑p.length) (pick2 (!ltI ↑p.length 0 && !ltI ↑s.length ↑p.length) (some (.bool (decide (aR s 0 ↑p.length=p)))) none) (some (.bool false)):=by kernel_rfl
 rw[h,cO]
 unfold preB
 split
 .
  rw[cn (by omega),cn (by omega)]
  show some (AV.bool (decide (aR s 0 ↑p.length=p)))=_;have e:aR s 0 (p.length:Int)=s.take p.length:=by unfold aR;simp
  rw[e]
 rw[decide_eq_false]
 intro h2
 have:=congrArg List.length h2
 simp only[List.length_take] at this
 omega
noncomputable def abT (args:List AV):Option (Bool×List bC) :=
 match args with
 |[.str s,.str p]=>some (true,[.val (.bool (preB s p))])
 |_=>none
theorem ag5 (gv:Nat->List AV):aK (Xg gv) (br (Xg gv) kn) 100 abT :=
 aH (λargs=>aP rfl args) (SK gv) λargs rs hg=>by
  unfold abT at hg;split at hg
  .
   rename_i s p;simp only[Option.some.injEq,Prod.mk.injEq] at hg;obtain ⟨h1,rfl⟩:=hg;exact ⟨[.bool (preB s p)],bW,5,ag4 gv s p,rfl,rfl⟩
  cases hg
noncomputable def M3:List mQ:=(100,[none,none],abT)::M2
theorem Io (gv:Nat->List AV):bS (Xg gv) (br (Xg gv) kn) M3:=.cons (ag5 gv) (ZM gv)
noncomputable def d3 (gv:Nat->List AV) (β:Type):bf β:=lY (Xg gv) (O5 M3) inl 200 β 20
theorem ag6 (gv:Nat->List AV) (β:Type):aY (Xg gv) (br (Xg gv) kn) (d3 gv β):=eG (Io gv) (λf h args=>aP h args) 200 20 β
end Go.Proofs.YtpaddkkfefgkfaaGreatDoor.lt

namespace Go.Proofs.YtpaddkkfefgkfaaGreatDoor.lt
open Go.Tv Go.Ev
set_option maxRecDepth 100000
def j7:List (List UInt8):=[[36,36],[60,60],[62,62],[43],[45],[42],[47],[37],[38],[124],[94],[126],[40],[41],[91],[93],[44],[58],[36]]
noncomputable def Na (s:List UInt8) (a:Int):List (List UInt8)->Option AV
 |[]=>fF ([],0,4,a)
 |g::r=>pick2 (!ltI a 0 && !ltI ↑s.length a) (pick2 (preB (aR s a ↑s.length) g) (fF (g,IntKind.wrap .i64 (a + ↑g.length),0,0)) (Na s a r)) none
def gC (s:List UInt8) (a:Nat):List (List UInt8)->Cut
 |[]=>([],0,4,a)
 |g::r=>if preB (s.drop a) g then (g,a+g.length,0,0) else gC s a r
def j8 (s:List UInt8) (a:Nat):Cut:=gC s a j7
theorem SN (s:List UInt8) (a:Int):ag (Xg gW) (d3 gW AV) bW 20 58 [.str s,.int .i64 a] aa.empty (λv _=>some v)=Na s a j7:=by kernel_rfl
theorem Ip (s:List UInt8) (a:Nat):aR s (a:Int) (s.length:Int)=s.drop a:=by
 unfold aR
 simp only[Int.toNat_natCast]
 exact List.take_of_length_le (by simp)
theorem SP (s:List UInt8) (hs:s.length<1000000) (a:Nat) (ha:a<s.length):∀l:List (List UInt8),(∀g∈l,g.length<3)->Na s a l=fF (gC s a l):=by
 intro l
 induction l with
 |nil=>intro _;rfl
 |
  cons g r ih =>
  intro hl;have hg:=hl g (List.mem_cons_self ..);rw[Na,gC,cn (by omega),cn (by omega),Ip,i64_in (by omega) (by omega)]
  show pick2 (preB (s.drop a) g) _ _=_;rw[pick2_eq,ih λg h=>hl g (List.mem_cons_of_mem _ h)]
  split<;>rfl
theorem Xo (s:List UInt8) (hs:s.length<1000000) (a:Nat) (ha:a<s.length):ag (Xg gW) (d3 gW AV) bW 20 58 [.str s,.int .i64 a] aa.empty (λv _=>some v)=fF (j8 s a):=by
 rw[SN];exact SP s hs a ha j7 (by decide)
theorem ag7:aK (Xg gW) (br (Xg gW) kn) 58 (FL j8) :=
 aH (λargs=>aP rfl args) (ag6 gW) λargs rs hg=>by
  unfold FL at hg;split at hg
  .
   rename_i s a;simp only[Option.some.injEq,Prod.mk.injEq,Bool.and_eq_true,ltI_spec,Bool.not_eq_true',decide_eq_false_iff_not,decide_eq_true_eq,Nat.ble_eq] at hg;obtain ⟨⟨⟨h1,h2⟩,h3⟩,rfl⟩:=hg;obtain ⟨n,rfl⟩:∃n:Nat,a=n:=⟨a.toNat,by omega⟩
   rw[Int.toNat_natCast];exact ⟨[.str (j8 s n).1,.int .i64 (j8 s n).2.1,.agg [.int .i64 (j8 s n).2.2.1,.int .i64 (j8 s n).2.2.2]],bW,20,Xo s (by omega) n (by omega),rfl,rfl⟩
  cases hg
end Go.Proofs.YtpaddkkfefgkfaaGreatDoor.lt

namespace Go.Proofs.YtpaddkkfefgkfaaGreatDoor.lt
open Go.Tv Go.Ev
set_option maxRecDepth 100000
noncomputable def M5:List mQ:=[(48,[none],Xl dZ),(55,[none,none],FL o4),(57,[none,none],FL mq),(58,[none,none],FL j8),(56,[none,none],SJ)]
theorem D3:bS (Xg gW) (br (Xg gW) kn) M5:=.cons (ZK gW) (.cons (ag2 gW) (.cons (ag3 gW) (.cons ag7 (.cons (agT gW) .nil))))
noncomputable def d5 (β:Type):bf β:=lY (Xg gW) (O5 M5) inl 200 β 20
theorem ag8 (β:Type):aY (Xg gW) (br (Xg gW) kn) (d5 β):=eG D3 (λf h args=>aP h args) 200 20 β
def pLx:List Bool:=[true,true,true,false,true,false]
noncomputable def Pc:bI:=⟨dP [0,3,4,5] pLx,.none,[]⟩
end Go.Proofs.YtpaddkkfefgkfaaGreatDoor.lt

namespace Go.Proofs.YtpaddkkfefgkfaaGreatDoor.lt
open Go.Tv Go.Ev
set_option maxRecDepth 100000
noncomputable def rH (v:AV) (H:aa):Option (AV×Option Row) :=
 match v with
 |.cG (.own i _::_)=>some (v,H.get i)
 |_=>some (v,none)
theorem Xp {X:dF} {kn:Ev.bQ} {f:FuncId} (hk:∀args,kn f args=none) {g:List AV->Option (Bool×List bC)} {call:∀ β,bf β} (hcall:∀ β,aY X (br X kn) (call β))
 (h:∀args rs,g args=some (true,rs)->∃vs an rounds o,ag X (call (AV×Option Row)) an rounds f args aa.empty rH=some (kP vs,o)/\∀H:aa,rH (kP vs) H=some (kP vs,o)->od H [] vs rs):aK X (br X kn) f g:=by
 intro args rs hg
 obtain ⟨vs,an,rounds,o,h1,h2⟩:=h args rs hg
 obtain ⟨v',H1,k1,k2⟩:=fy (nf:=false) (hcall _) (λh=>by cases h) h1
 have k3:v'=kP vs:=by
  unfold rH at k1;split at k1<;>exact (Prod.mk.inj (Option.some.inj k1)).1
 subst k3
 refine ⟨vs,H1,λS E aC hr hgl hl=>?_,h2 H1 k1⟩
 obtain ⟨S',vE,E',a1,a2,a3,a4,_⟩:=k2 S E aC hr hgl hl
 exact ⟨S',vE,E',cI hk a1,sG a2,a3,a4⟩
abbrev aQ:Ty:=.pair (.int .i64) (.pair (.int .i64) (.pair .str (.int .i64)))
abbrev Piece:=Int×Int×List UInt8×Int
abbrev dD:=Option (AV×Option Row)
noncomputable def ag9 (s:List UInt8) (out:AV) (left:List UInt8):cB:=iB 107 [(0,.str s),(3,.ptr 0 0),(4,out),(5,.str left)]
noncomputable def jL0 (s:List UInt8) (r m:Nat) (left:List UInt8):dD:=dQ (Xg gW) (d5 (AV×Option Row)) Pc r 27 pLx rH m (ag9 s .bE left) mT
noncomputable def jL1 (s:List UInt8) (r m:Nat) (out:List Piece) (k:Nat) (left:List UInt8):dD:=dQ (Xg gW) (d5 (AV×Option Row)) Pc r 27 pLx rH m (ag9 s (.own 1 k) left) (jF [.cells 56 [.int .i64 0,.int .i64 0],.list 106 aQ out 0 false false])
noncomputable def Bz (f a:Int):dD:=some (.cG [.bE,.agg [.int .i64 f,.int .i64 a]],none)
noncomputable def SQ (out:List Piece) (k:Nat):dD:=some (.cG [.own 1 k,.agg [.int .i64 0,.int .i64 0]],some (.list 106 aQ out 0 false false))
noncomputable def kV (s left:List UInt8):Int:=IntKind.wrap .i64 (↑s.length - ↑left.length)
noncomputable def lJ (s:List UInt8) (e f a:Int) (p:Piece) (room:dD->dD) (go:Piece->List UInt8->dD):dD :=
 pick2 (!eqI f 0) (Bz f a) (room (pick2 (!ltI e 0 && !ltI ↑s.length e) (go p (aR s e ↑s.length)) none))
noncomputable def Pd (s left:List UInt8) (kind:Int) (r:Cut) (room:dD->dD) (go:Piece->List UInt8->dD):dD :=
 pick2 (!ltI (kV s left) 0&&ltI (kV s left) ↑s.length&&Nat.ble s.length 999999) (lJ s r.2.1 r.2.2.1 r.2.2.2 (kind,0,r.1,kV s left) room go) none
noncomputable def Pe (s left:List UInt8) (room:dD->dD) (go:Piece->List UInt8->dD):dD :=
 pick2 (Nat.ble s.length 999999) (lJ s (dA s (kV s left)).2.1 (dA s (kV s left)).2.2.1 (dA s (kV s left)).2.2.2 (2,(dA s (kV s left)).1,[],kV s left) room go) none
noncomputable def yP (s left:List UInt8) (c:UInt8) (room:dD->dD) (go:Piece->List UInt8->dD):dD :=
 pick2 (eqI (aD c) 39) (Pe s left room go) (pick2 (eqI (aD c) 34) (Pd s left 3 (mq s (kV s left).toNat) room go) (Pd s left 4 (j8 s (kV s left).toNat) room go))
noncomputable def FM (left:List UInt8) (skip:List UInt8->dD):dD:=pick2 (!ltI 1 0 && !ltI ↑left.length 1) (skip (aR left 1 ↑left.length)) none
noncomputable def Nb (s left:List UInt8) (done:dD) (skip:List UInt8->dD) (room:dD->dD) (go:Piece->List UInt8->dD):dD :=
 pick2 (!decide (left=[])) (Option.rec (motive:=λ_=>dD) none (λc =>
  pick2 (eqI (aD c) 32) (FM left skip) (pick2 (eqI (aD c) 9) (FM left skip) (pick2 (eqI (aD c) 59) (skip [])
   (pick2 (dZ (aD c)) (Pd s left 1 (o4 s (kV s left).toNat) room go) (pick2 (!ltI (aD c) 48) (pick2 (!ltI 57 (aD c)) (Pe s left room go) (yP s left c room go)) (yP s left c room go)))))) (aO left 0)) done
noncomputable def ZO (out:List Piece) (x:dD):dD:=pick2 (Nat.ble (out.length+1) 1000000) x none
theorem KY (s:List UInt8) (r m:Nat) (left:List UInt8):jL0 s r (m+1) left=Nb s left (Bz 0 0) (jL0 s r m) (λx=>x) (λp=>jL1 s r m [p] 1):=by kernel_rfl
theorem KZ (s:List UInt8) (r m:Nat) (out:List Piece) (k:Nat) (left:List UInt8):jL1 s r (m+1) out k left=Nb s left (SQ out k) (jL1 s r m out k) (ZO out) (λp=>jL1 s r m (out++[p]) (out.length+1)):=by kernel_rfl
theorem abU (s:List UInt8) (m:Nat):ag (Xg gW) (d5 (AV×Option Row)) Pc m 27 [.str s] aa.empty rH=pick2 (ltI 1000 ↑s.length) (Bz 3 1000) (jL0 s m m s):=by kernel_rfl
end Go.Proofs.YtpaddkkfefgkfaaGreatDoor.lt

namespace Go.Proofs.YtpaddkkfefgkfaaGreatDoor.lt
open Go.Tv Go.Ev
set_option maxRecDepth 100000
theorem Pf (s:List UInt8) (a:Nat):∀(rest:List UInt8) (e:Nat),(eB s a rest e).2.2.1=0->(e:Int)<=(eB s a rest e).2.1/\(eB s a rest e).2.1<=(e:Int)+rest.length:=by
 intro rest
 induction rest with
 |nil=>intro e _;simp only[eB];exact ⟨Int.le_refl _,by simp⟩
 |
  cons c r ih =>
  intro e h;rw[eB] at h ⊢;split at h
  .
   rename_i hm;rw[if_pos hm];split at h
   .
    exact absurd h (by simp)
   rename_i ZN;rw[if_neg ZN];have:=ih (e+1) h;simp only[List.length_cons];omega
  rename_i hm;rw[if_neg hm];simp only[List.length_cons];omega
theorem K4 (s:List UInt8) (a:Nat):∀(rest:List UInt8) (e:Nat),(cy s a rest e).2.2.1=0->(e:Int)<(cy s a rest e).2.1/\(cy s a rest e).2.1<=(e:Int)+rest.length:=by
 intro rest
 induction rest with
 |nil=>intro e h;exact absurd h (by simp[cy])
 |
  cons c r ih =>
  intro e h;rw[cy] at h ⊢;split at h
  .
   rename_i hm;rw[if_pos hm];simp only[List.length_cons];omega
  rename_i hm;rw[if_neg hm];split at h
  .
   rename_i hp;rw[if_pos hp];have:=ih (e+1) h;simp only[List.length_cons];omega
  exact absurd h (by simp)
theorem Pg (len:Nat):∀(rest:List UInt8) (k N i:Nat),(jG len rest k N i).2.2.1=0->(i:Int)<(jG len rest k N i).2.1/\(jG len rest k N i).2.1<=(i:Int)+rest.length:=by
 intro rest
 induction rest with
 |nil=>intro k N i h;exact absurd h (by simp[jG])
 |
  cons c r ih =>
  intro k N i h;rw[jG] at h ⊢;split at h
  .
   rename_i hm;rw[if_pos hm];split at h
   .
    exact absurd h (by simp)
   rename_i hk;rw[if_neg hk];simp only[List.length_cons];omega
  rename_i hm;rw[if_neg hm];split at h
  .
   exact absurd h (by simp)
  rename_i hk;rw[if_neg hk];split at h
  .
   exact absurd h (by simp)
  rename_i hk8;rw[if_neg hk8];have:=ih _ _ (i+1) h;simp only[List.length_cons];omega
theorem Ph (s:List UInt8) (a:Nat):∀l:List (List UInt8),(∀g∈l,0<g.length)->(gC s a l).2.2.1=0->(a:Int)<(gC s a l).2.1/\(gC s a l).2.1<=(s.length:Int):=by
 intro l
 induction l with
 |nil=>intro _ h;exact absurd h (by simp[gC])
 |
  cons g r ih =>
  intro hl h;have hg:=hl g (List.mem_cons_self ..);rw[gC] at h ⊢;split at h
  .
   rename_i hp;rw[if_pos hp];unfold preB at hp;have:=congrArg List.length (of_decide_eq_true hp);simp only[List.length_take,List.length_drop] at this;show (a:Int)<(a:Int)+g.length/\(a:Int)+g.length<=s.length;omega
  rename_i hp;rw[if_neg hp];exact ih (λg h=>hl g (List.mem_cons_of_mem _ h)) h
theorem Pj (w:List UInt8) (a:Nat) (h:(iG w a).2.2.1=0):(iG w a).2.1=(a:Int)+w.length:=by
 unfold iG at h ⊢
 split at h
 .
  exact absurd h (by simp)
 rename_i h1
 rw[if_neg h1]
 split at h
 .
  exact absurd h (by simp)
 rename_i h2
 rw[if_neg h2]
def bw (s:List UInt8) (c:UInt8) (a:Nat):Piece×Int×Int×Int :=
 if dZ (aD c) then ((1,0,(o4 s a).1,a),(o4 s a).2)
 else if 48<=aD c/\aD c<=57\/aD c=39 then ((2,(dA s a).1,[],a),(dA s a).2)
 else if aD c=34 then ((3,0,(mq s a).1,a),(mq s a).2)
 else ((4,0,(j8 s a).1,a),(j8 s a).2)
theorem mZ {s:List UInt8} {a:Nat} {c:UInt8} {r:List UInt8} (hd:s.drop a=c::r) (h:(bw s c a).2.2.1=0):(a:Int)<(bw s c a).2.1/\(bw s c a).2.1<=s.length:=by
 have hl:s.length-a=r.length+1:=by have:=congrArg List.length hd;simpa using this
 have hd1:s.drop (a+1)=r:=by rw[<-List.drop_drop,hd];rfl
 have hgd:s.getD a 0=c:=by
  have h0:(s.drop a).getD 0 0=c:=by rw[hd];rfl
  rw[<-h0];simp[List.getD]
 unfold bw at h ⊢
 split at h
 .
  rename_i hf;rw[if_pos hf];unfold o4 at h ⊢;rw[hd,eB] at h ⊢;have hm:fJ (aD c)=true:=by unfold fJ;rw[hf];rfl
  rw[if_pos hm,if_neg (by omega)] at h ⊢
  have:=Pf s a r (a+1) h;show (a:Int)<(eB s a r (a+1)).2.1/\(eB s a r (a+1)).2.1<=_;omega
 rename_i hf
 rw[if_neg hf]
 split at h
 .
  rename_i hn;rw[if_pos hn];unfold dA at h ⊢;rw[if_neg (by omega),if_neg (by omega),Int.toNat_natCast,hgd] at h ⊢
  split at h
  .
   rename_i hq;rw[if_pos hq];unfold jH at h ⊢;rw[hd1] at h ⊢;have:=Pg s.length r 0 0 (a+1) h;show (a:Int)<(jG s.length r 0 0 (a+1)).2.1/\(jG s.length r 0 0 (a+1)).2.1<=_;omega
  rename_i hq;rw[if_neg hq];have hn':48<=aD c/\aD c<=57:=by omega
  rw[if_pos hn'] at h ⊢;have:=Pj _ a h;rw[this];have hw:cY (aD c)=true:=by unfold cY;simp;omega
  have e:((s.drop a).takeWhile λc=>cY (aD c))=c::(r.takeWhile λc=>cY (aD c)):=by rw[hd,List.takeWhile_cons,if_pos hw]
  have h3:=(List.takeWhile_sublist (λc=>cY (aD c)) (l:=r)).length_le
  rw[e,List.length_cons];omega
 rename_i hn
 rw[if_neg hn]
 split at h
 .
  rename_i hq;rw[if_pos hq];unfold mq at h ⊢;rw[hd1] at h ⊢;have:=K4 s a r (a+1) h;show (a:Int)<(cy s a r (a+1)).2.1/\(cy s a r (a+1)).2.1<=_;omega
 rename_i hq
 rw[if_neg hq]
 exact Ph s a j7 (by decide) h
end Go.Proofs.YtpaddkkfefgkfaaGreatDoor.lt

namespace Go.Proofs.YtpaddkkfefgkfaaGreatDoor.lt
open Go.Tv Go.Ev
set_option maxRecDepth 100000
theorem Pk (c:UInt8) (r:List UInt8):aR (c::r) 1 ↑(c::r).length=r:=by
 unfold aR
 simp
theorem Iq {s:List UInt8} {e f a:Int} {p:Piece} {room:dD->dD} {go:Piece->List UInt8->dD} (h:f=0->0<=e/\e<=s.length) :
 lJ s e f a p room go=if f=0 then room (go p (s.drop e.toNat)) else Bz f a:=by
 unfold lJ
 by_cases hf:f=0
 .
  rw[Bm hf,if_pos hf];obtain ⟨h1,h2⟩:=h hf;rw[cn (by omega),cn (by omega)]
  obtain ⟨n,rfl⟩:∃n:Nat,e=n:=⟨e.toNat,by omega⟩
  show room (go p (aR s n s.length))=_;rw[Ip,Int.toNat_natCast]
 rw[yN hf,if_neg hf];rfl
theorem Nc {s:List UInt8} (hs:s.length<=1000) {a:Nat} {c:UInt8} {r:List UInt8} (hd:s.drop a=c::r) (done:dD) (skip:List UInt8->dD) (room:dD->dD) (go:Piece->List UInt8->dD) :
 Nb s (c::r) done skip room go=if aD c=32\/aD c=9 then skip r else if aD c=59 then skip [] else if (bw s c a).2.2.1=0 then room (go (bw s c a).1 (s.drop (bw s c a).2.1.toNat)) else Bz (bw s c a).2.2.1 (bw s c a).2.2.2:=by
 have hl:s.length-a=r.length+1:=by have:=congrArg List.length hd;simpa using this
 have hpl:kV s (c::r)=(a:Int):=by
  unfold kV;rw[List.length_cons,i64_in (by omega) (by omega)];omega
 have hend:=mZ hd
 have hb:FM (c::r) skip=skip r:=by
  unfold FM;rw[cn (by omega),cn (by rw[List.length_cons];omega),Pk];rfl
 have hg:(!ltI (a:Int) 0&&ltI (a:Int) ↑s.length&&Nat.ble s.length 999999)=true:=by
  rw[cn (by omega),jo (by omega),Nat.ble_eq_true_of_le (by omega)];rfl
 have hg2:Nat.ble s.length 999999=true:=Nat.ble_eq_true_of_le (by omega)
 unfold Nb
 rw[decide_eq_false (by simp),show aO (c::r) 0=some c from dR [] r c]
 show pick2 (eqI (aD c) 32) _ (pick2 (eqI (aD c) 9) _ (pick2 (eqI (aD c) 59) _ _))=_
 rw[hb]
 by_cases h32:aD c=32
 .
  rw[Bm h32,if_pos (.inl h32)]
 rw[yN h32]
 show pick2 (eqI (aD c) 9) _ _=_
 by_cases h9:aD c=9
 .
  rw[Bm h9,if_pos (.inr h9)]
 rw[yN h9,if_neg (by omega)]
 show pick2 (eqI (aD c) 59) _ _=_
 by_cases h59:aD c=59
 .
  rw[Bm h59,if_pos h59]
 rw[yN h59,if_neg h59]
 show pick2 (dZ (aD c)) _ _=_
 have Il:∀(kind:Int) (q:Cut),(q.2.2.1=0->(a:Int)<q.2.1/\q.2.1<=s.length)->Pd s (c::r) kind q room go=if q.2.2.1=0 then room (go (kind,0,q.1,(a:Int)) (s.drop q.2.1.toNat)) else Bz q.2.2.1 q.2.2.2:=by
  intro kind q hq;unfold Pd;rw[hpl,hg];show lJ _ _ _ _ _ _ _=_;exact Iq λh=>by have:=hq h;omega
 unfold bw at hend ⊢
 by_cases hf:dZ (aD c)=true
 .
  rw[if_pos hf] at hend;rw[hf,if_pos rfl];show Pd _ _ _ _ _ _=_;rw[hpl,Int.toNat_natCast];exact Il 1 _ hend
 rw[if_neg hf] at hend
 rw[if_neg hf,Bool.eq_false_iff.2 hf]
 show pick2 (!ltI (aD c) 48) (pick2 (!ltI 57 (aD c)) (Pe s (c::r) room go) (yP s (c::r) c room go)) (yP s (c::r) c room go)=_
 have ahc:(48<=aD c/\aD c<=57\/aD c=39)->Pe s (c::r) room go=if (dA s (a:Int)).2.2.1=0 then room (go (2,(dA s (a:Int)).1,[],(a:Int)) (s.drop (dA s (a:Int)).2.1.toNat)) else Bz (dA s (a:Int)).2.2.1 (dA s (a:Int)).2.2.2:=by
  intro hn;rw[if_pos hn] at hend;unfold Pe;rw[hpl,hg2];show lJ _ _ _ _ _ _ _=_;exact Iq λh=>by have:=hend h;dsimp only at this;omega
 by_cases hn:48<=aD c/\aD c<=57
 .
  have hd3:48<=aD c/\aD c<=57\/aD c=39:=.inl hn;rw[cn (by omega),cn (by omega),if_pos hd3]
  exact ahc hd3
 have hr:pick2 (!ltI (aD c) 48) (pick2 (!ltI 57 (aD c)) (Pe s (c::r) room go) (yP s (c::r) c room go)) (yP s (c::r) c room go)=yP s (c::r) c room go:=by
  rw[cO,cO];split
  .
   rw[if_neg (by omega)]
  rfl
 rw[hr]
 unfold yP
 by_cases h39:aD c=39
 .
  have hd3:48<=aD c/\aD c<=57\/aD c=39:=.inr h39;rw[Bm h39,if_pos hd3];exact ahc hd3
 have hd3:¬(48<=aD c/\aD c<=57\/aD c=39):=by omega
 rw[if_neg hd3] at hend
 rw[yN h39,if_neg hd3]
 show pick2 (eqI (aD c) 34) _ _=_
 rw[hpl,Int.toNat_natCast]
 by_cases Nf:aD c=34
 .
  rw[if_pos Nf] at hend;rw[Bm Nf,if_pos Nf];exact Il 3 _ hend
 rw[if_neg Nf] at hend
 rw[yN Nf,if_neg Nf]
 exact Il 4 _ hend
def bh (s:List UInt8):Nat->List UInt8->List Piece×Int×Int
 |0,_=>([],0,0)
 |_+1,[]=>([],0,0)
 |
  n+1,c::r =>
  if aD c=32\/aD c=9 then bh s n r else if aD c=59 then ([],0,0)
  else if (bw s c (s.length-(r.length+1))).2.2.1=0 then
   ((bw s c (s.length-(r.length+1))).1::(bh s n (s.drop (bw s c (s.length-(r.length+1))).2.1.toNat)).1,(bh s n (s.drop (bw s c (s.length-(r.length+1))).2.1.toNat)).2)
  else ([],(bw s c (s.length-(r.length+1))).2.2)
noncomputable def Pm (out:List Piece) (t:List Piece×Int×Int):dD:=if t.2.1=0 then SQ (out++t.1) (out++t.1).length else Bz t.2.1 t.2.2
theorem abW (s:List UInt8) (hs:s.length<=1000) (rd:Nat):∀(n m:Nat) (out:List Piece) (left:List UInt8),left.length<=n->n<m->s.drop (s.length-left.length)=left->out.length+n<=1000 ->
 jL1 s rd m out out.length left=Pm out (bh s n left):=by
 intro n
 induction n with
 |
  zero =>
  intro m out left h1 h2 _ _;obtain ⟨m,rfl⟩:∃m',m=m'+1:=⟨m-1,by omega⟩
  have:left=[]:=List.length_eq_zero_iff.1 (by omega)
  subst this;rw[KZ];show SQ out out.length=_;unfold Pm bh;simp
 |
  succ n ih =>
  intro m out left h1 h2 h3 h4;obtain ⟨m,rfl⟩:∃m',m=m'+1:=⟨m-1,by omega⟩
  match left,h1,h3 with
  |
   [],_,_ =>
   rw[KZ];show SQ out out.length=_;unfold Pm bh;simp
  |
   c::r,h1,h3 =>
   rw[List.length_cons] at h1 h3
   have hle:r.length+1<=s.length:=by
    have:=congrArg List.length h3;simp only[List.length_drop,List.length_cons] at this;omega
   have hr:s.drop (s.length-r.length)=r:=by
    have:s.length-r.length=s.length-(r.length+1)+1:=by omega
    rw[this,<-List.drop_drop,h3];rfl
   rw[KZ,Nc hs h3,bh];split
   .
    exact ih m out r (by omega) (by omega) hr (by omega)
   split
   .
    have:=ih m out [] (by simp) (by omega) (by simp) (by omega)
    rw[this];cases n<;>rfl
   split
   .
    rename_i hp;have he:=mZ h3 hp;unfold ZO;rw[Nat.ble_eq_true_of_le (by omega)]
    show jL1 s rd m (out++[_]) (out.length+1) _=_;have e:out.length+1=(out++[(bw s c (s.length-(r.length+1))).1]).length:=by simp
    rw[e,ih m _ _ (by simp only[List.length_drop];omega) (by omega) (by rw[List.length_drop];congr 1;omega) (by simp;omega)]
    unfold Pm;simp only[List.append_assoc,List.singleton_append]
   rename_i hp;unfold Pm;rw[if_neg hp]
end Go.Proofs.YtpaddkkfefgkfaaGreatDoor.lt

namespace Go.Proofs.YtpaddkkfefgkfaaGreatDoor.lt
open Go.Tv Go.Ev
set_option maxRecDepth 100000
noncomputable def Ng (t:List Piece×Int×Int):dD:=if t.2.1=0 then (if t.1=[] then Bz 0 0 else SQ t.1 t.1.length) else Bz t.2.1 t.2.2
theorem abX (s:List UInt8) (hs:s.length<=1000) (rd:Nat):∀(n m:Nat) (left:List UInt8),left.length<=n->n<m->s.drop (s.length-left.length)=left->n<=1000 ->
 jL0 s rd m left=Ng (bh s n left):=by
 intro n
 induction n with
 |
  zero =>
  intro m left h1 h2 _ _;obtain ⟨m,rfl⟩:∃m',m=m'+1:=⟨m-1,by omega⟩
  have:left=[]:=List.length_eq_zero_iff.1 (by omega)
  subst this;rw[KY];rfl
 |
  succ n ih =>
  intro m left h1 h2 h3 h4;obtain ⟨m,rfl⟩:∃m',m=m'+1:=⟨m-1,by omega⟩
  match left,h1,h3 with
  |
   [],_,_ =>
   rw[KY];rfl
  |
   c::r,h1,h3 =>
   rw[List.length_cons] at h1 h3
   have hle:r.length+1<=s.length:=by
    have:=congrArg List.length h3;simp only[List.length_drop,List.length_cons] at this;omega
   have hr:s.drop (s.length-r.length)=r:=by
    have:s.length-r.length=s.length-(r.length+1)+1:=by omega
    rw[this,<-List.drop_drop,h3];rfl
   rw[KY,Nc hs h3,bh];split
   .
    exact ih m r (by omega) (by omega) hr (by omega)
   split
   .
    have:=ih m [] (by simp) (by omega) (by simp) (by omega)
    rw[this];cases n<;>rfl
   split
   .
    rename_i hp;have he:=mZ h3 hp;have:=abW s hs rd n m [(bw s c (s.length-(r.length+1))).1] (s.drop (bw s c (s.length-(r.length+1))).2.1.toNat) (by simp only[List.length_drop];omega) (by omega) (by rw[List.length_drop];congr 1;omega) (by simp;omega)
    refine this.trans ?_;unfold Pm Ng;simp only[List.singleton_append];split
    .
     rw[if_neg (by simp)]
    rfl
   rename_i hp;unfold Ng;rw[if_neg hp]
def aG (s:List UInt8):List Piece×Int×Int :=
 if 1000<s.length then ([],3,1000) else if (bh s s.length s).2.1=0 then ((bh s s.length s).1,0,0) else ([],(bh s s.length s).2)
noncomputable def abY (args:List AV):Option (Bool×List bC) :=
 match args with
 |[.str s]=>some (true,[.list 106 aQ (aG s).1,.val (.agg [.int .i64 (aG s).2.1,.int .i64 (aG s).2.2])])
 |_=>none
theorem SS (s:List UInt8):ag (Xg gW) (d5 (AV×Option Row)) Pc (s.length+1) 27 [.str s] aa.empty rH =
 if (aG s).1=[] then Bz (aG s).2.1 (aG s).2.2 else some (.cG [.own 1 (aG s).1.length,.agg [.int .i64 (aG s).2.1,.int .i64 (aG s).2.2]],some (.list 106 aQ (aG s).1 0 false false)):=by
 rw[abU]
 unfold aG
 by_cases hl:1000<s.length
 .
  rw[jo (by omega),if_pos hl,if_pos rfl]
 rw[cn (by omega),if_neg hl]
 show jL0 s (s.length+1) (s.length+1) s=_
 rw[abX s (by omega) _ s.length _ s (Nat.le_refl _) (by omega) (by simp) (by omega)]
 unfold Ng
 by_cases hf:(bh s s.length s).2.1=0
 .
  rw[if_pos hf,if_pos hf];rfl
 rw[if_neg hf,if_neg hf,if_pos rfl]
theorem ahd:aK (Xg gW) (br (Xg gW) kn) 27 abY :=
 Xp (λargs=>aP rfl args) ag8 λargs rs hg=>by
  unfold abY at hg;split at hg
  .
   rename_i s;simp only[Option.some.injEq,Prod.mk.injEq] at hg;obtain ⟨_,rfl⟩:=hg;by_cases h:(aG s).1=[]
   .
    refine ⟨[.bE,.agg [.int .i64 (aG s).2.1,.int .i64 (aG s).2.2]],Pc,s.length+1,none,?_,λH _=>⟨rfl,.inr ⟨rfl,h,rfl,rfl,trivial⟩⟩⟩
    rw[SS,if_pos h];rfl
   refine ⟨[.own 1 (aG s).1.length,.agg [.int .i64 (aG s).2.1,.int .i64 (aG s).2.2]],Pc,s.length+1,some (.list 106 aQ (aG s).1 0 false false),?_,λH hH=>⟨rfl,.inl ⟨1,0,false,rfl,?_,by simp,rfl,rfl,trivial⟩⟩⟩
   .
    rw[SS,if_neg h];rfl
   exact (Prod.mk.inj (Option.some.inj hH)).2
  cases hg
end Go.Proofs.YtpaddkkfefgkfaaGreatDoor.lt

namespace Go.Proofs.YtpaddkkfefgkfaaGreatDoor.lt
open Go.Tv Go.Ev
set_option maxRecDepth 100000
noncomputable section
def pN1:List Bool:=[true,true,false,true,false]
def Xr:bI:=⟨dP [0,19,20] pN1,.none,[]⟩
theorem Iu {s:List UInt8} (hs:s.length<1000000) {p:UInt8->Bool} {j:Nat->Int->Option AV} {A B:Option AV} (step:∀m i,j (m+1) i=pick2 (ltI i ↑s.length) (Option.rec (motive:=λ_=>Option AV) none (λc=>pick2 (!p c) A (j m (IntKind.wrap .i64 (i+1)))) (aO s i)) B) :
 ∀(rest pre:List UInt8) (m:Nat),s=pre++rest->rest.length<m->j m pre.length=if rest.all p=true then B else A:=by
 intro rest
 induction rest with
 |
  nil =>
  intro pre m he hm;obtain ⟨m,rfl⟩:∃m',m=m'+1:=⟨m-1,by simp at hm;omega⟩
  have hl:s.length=pre.length:=by rw[he];simp
  rw[step,cn (by omega)];rfl
 |
  cons c rest ih =>
  intro pre m he hm;obtain ⟨m,rfl⟩:∃m',m=m'+1:=⟨m-1,by simp at hm;omega⟩
  have hl:s.length=pre.length+(rest.length+1):=by rw[he];simp
  have hg:aO s (pre.length:Int)=some c:=by rw[he];exact dR pre rest c
  have hin:=ih (pre++[c]) m (by rw[he];simp) (by simp at hm;omega)
  rw[List.length_append] at hin;have hin:j m ((pre.length:Int)+1)=if rest.all p=true then B else A:=hin;rw[step,jo (by omega),hg,i64_in (n:=(pre.length:Int)+1) (by omega) (by omega)]
  show pick2 (!p c) A (j m ((pre.length:Int)+1))=_;rw[hin];cases hp:p c
  .
   simp[hp]
  simp[hp]
def o5 (c:UInt8):Bool:=fJ (aD c)
def ax (s:List UInt8):Bool:=match s with
 |[]=>false
 |c::r=>decide (r.length<60)&&dZ (aD c)&&(c::r).all o5
noncomputable def SW (gv:Nat->List AV) (s:List UInt8) (r m:Nat) (i:Int):Option AV:=dQ (Xg gv) (d2 gv AV) Xr r 15 pN1 (λv _=>some v) m (iB 29 [(0,.str s),(19,.int .i64 s.length),(20,.int .i64 i)]) aa.empty
theorem FO (gv:Nat->List AV) (s:List UInt8) (r m:Nat) (i:Int):SW gv s r (m+1) i=pick2 (ltI i ↑s.length) (Option.rec (motive:=λ_=>Option AV) none (λc=>pick2 (!o5 c) (some (.bool false)) (SW gv s r m (IntKind.wrap .i64 (i+1)))) (aO s i)) (some (.bool true)):=by kernel_rfl
theorem Xs (gv:Nat->List AV) (s:List UInt8) (r:Nat):ag (Xg gv) (d2 gv AV) Xr r 15 [.str s] aa.empty (λv _=>some v) =
 pick2 (eqI ↑s.length 0) (some (.bool false)) (pick2 (ltI 60 ↑s.length) (some (.bool false)) (Option.rec (motive:=λ_=>Option AV) none (λc=>pick2 (!dZ (aD c)) (some (.bool false)) (SW gv s r r 0)) (aO s 0))):=by kernel_rfl
theorem K6 {n:Int} (h:dZ n=true):fJ n=true:=by unfold fJ;rw[h];rfl
theorem ahi (gv:Nat->List AV) (s:List UInt8):ag (Xg gv) (d2 gv AV) Xr 100 15 [.str s] aa.empty (λv _=>some v)=some (.bool (ax s)):=by
 rw[Xs]
 cases s with
 |nil=>rfl
 |
  cons c r =>
  show _=some (AV.bool (decide (r.length<60)&&dZ (aD c)&&(c::r).all o5));rw[yN (by simp;omega)]
  by_cases h:r.length<60
  .
   rw[cn (by simp;omega),decide_eq_true h]
   have hl:=Iu (s:=c::r) (by simp;omega) (FO gv (c::r) 100) (c::r) [] 100 rfl (by simp;omega)
   have hl:SW gv (c::r) 100 100 0=_:=hl;rw[hl];show pick2 (!dZ (aD c)) _ _=_;cases dZ (aD c)
   .
    rfl
   cases (c::r).all o5<;>rfl
  rw[jo (by simp;omega),decide_eq_false h];rfl
def gNm (args:List AV):Option (Bool×List bC) :=
 match args with
 |[.str s]=>some (true,[.val (.bool (ax s))])
 |_=>none
theorem ZQ (gv:Nat->List AV):aK (Xg gv) (br (Xg gv) kn) 15 gNm :=
 aH (λargs=>aP rfl args) (SK gv) λargs rs hg=>by
  unfold gNm at hg;split at hg
  .
   rename_i s;simp only[Option.some.injEq,Prod.mk.injEq] at hg;obtain ⟨_,rfl⟩:=hg;exact ⟨[.bool (ax s)],Xr,100,ahi gv s,rfl,rfl⟩
  cases hg
end
end Go.Proofs.YtpaddkkfefgkfaaGreatDoor.lt

namespace Go.Proofs.YtpaddkkfefgkfaaGreatDoor.lt
open Go.Tv Go.Ev
set_option maxRecDepth 100000
def Stop:List UInt8->Prop
 |[]=>True
 |c::_=>fJ (aD c)=false
theorem zV (p S e:List UInt8):aR (p++S++e) (p.length:Int) ((p.length+S.length:Nat):Int)=S:=by
 unfold aR
 rw[List.append_assoc,Int.toNat_natCast,Int.toNat_natCast,List.drop_left,Nat.add_sub_cancel_left,List.take_left]
theorem Cd (T:List UInt8) (a:Nat) {e:List UInt8} (he:Stop e):∀(S2:List UInt8) (k:Nat),S2.all o5=true->k+S2.length<=60->eB T a (S2++e) (a+k)=(aR T a ((a+(k+S2.length):Nat):Int),((a+(k+S2.length):Nat):Int),0,0)
 |
  [],k,_,_=>by
  cases e with
  |nil=>rfl
  |
   cons c q =>
   have he:fJ (aD c)=false:=he;rw[List.nil_append,eB,if_neg (by rw[he];exact Bool.false_ne_true)];rfl
 |
  c::S2,k,h,hl=>by
  simp only[List.all_cons,Bool.and_eq_true,List.length_cons] at h hl;have hm:fJ (aD c)=true:=h.1;rw[List.cons_append,eB,if_pos hm,if_neg (by omega)]
  have:=Cd T a he S2 (k+1) h.2 (by omega)
  rw[show k+1+S2.length=k+(c::S2).length by simp;omega] at this
  exact this
theorem qd {t:List UInt8} (h:ax t=true):∃d r,t=d::r/\r.length<60/\dZ (aD d)=true/\(d::r).all o5=true:=by
 cases t with
 |nil=>cases h
 |
  cons d r =>
  have h:(decide (r.length<60)&&dZ (aD d)&&(d::r).all o5)=true:=h;simp only[Bool.and_eq_true,decide_eq_true_eq] at h;exact ⟨d,r,rfl,h.1.1,h.1.2,h.2⟩
theorem kr {p t e:List UInt8} (hn:ax t=true) (he:Stop e) (n:Nat):bh (p++t++e) (n+1) (t++e) =
 ((1,0,t,(p.length:Int))::(bh (p++t++e) n e).1,(bh (p++t++e) n e).2):=by
 obtain ⟨d,r,rfl,h4,h5,h6⟩:=qd hn
 have hD:(p++(d::r)++e).drop p.length=d::r++e:=by rw[List.append_assoc,List.drop_left]
 have ha:(p++(d::r)++e).length-((r++e).length+1)=p.length:=by simp
 have hb:¬(aD d=32\/aD d=9)/\aD d≠59:=by
  unfold dZ at h5;simp only[decide_eq_true_eq] at h5;omega
 have hpc:bw (p++(d::r)++e) d p.length=((1,0,d::r,(p.length:Int)),(p.length:Int)+(r.length+1:Nat),0,0):=by
  unfold bw o4;rw[if_pos h5,hD];have:=Cd (p++d::r++e) p.length he (d::r) 0 h6 (by simp;omega)
  rw[Nat.add_zero,Nat.zero_add,zV] at this;rw[this];simp
 show bh _ (n+1) (d::(r++e))=_
 rw[bh,if_neg hb.1,if_neg hb.2,ha,hpc,if_pos rfl]
 have hd2:(p++(d::r)++e).drop ((p.length:Int)+((r.length+1:Nat):Int)).toNat=e:=by
  have e1:((p.length:Int)+((r.length+1:Nat):Int)).toNat=(p++(d::r)).length:=by simp;omega
  rw[e1,List.drop_left]
 simp only[hd2]
theorem lg (s r:List UInt8) (n:Nat):bh s (n+1) (32::r)=bh s n r:=by
 rw[bh,if_pos (.inl (by decide))]
theorem lex_nil (s:List UInt8) (n:Nat):bh s n []=([],0,0):=by cases n<;>rfl
theorem PS (p:List UInt8) (n:Nat):bh (p++[58]) (n+1) [58]=([(4,0,[58],(p.length:Int))],0,0):=by
 have ha:(p++[58]).length-(([]:List UInt8).length+1)=p.length:=by simp
 have hs:∀l:List (List UInt8),gC (p++[58]) p.length l=gC (p++[58]) p.length l:=λ_=>rfl
 have hD:(p++[58]).drop p.length=[58]:=by rw[List.drop_left]
 have Lq:j8 (p++[58]) p.length=([58],(p.length:Int)+1,0,0):=by
  unfold j8 j7;simp only[gC,hD];rfl
 have hpc:bw (p++[58]) 58 p.length=((4,0,[58],(p.length:Int)),(p.length:Int)+1,0,0):=by
  unfold bw;rw[if_neg (by decide),if_neg (by decide),if_neg (by decide),Lq]
 rw[bh,if_neg (by decide),if_neg (by decide),ha,hpc,if_pos rfl]
 have hd2:(p++[58]).drop ((p.length:Int)+1).toNat=[]:=by
  have e1:((p.length:Int)+1).toNat=(p++[58]).length:=by simp
  rw[e1,List.drop_length]
 simp only[hd2,lex_nil]
theorem LJ {t:List UInt8} (h:ax t=true):t.length<=60:=by
 obtain ⟨d,r,rfl,h4,_⟩:=qd h
 simp;omega
def Gf:List UInt8:=[101,113,117]
def nP:List UInt8:=[115,116,114,117,99]
theorem LK {t:List UInt8} (h:ax t=true):aG (t++[58])=([(1,0,t,0),(4,0,[58],(t.length:Int))],0,0):=by
 have hl:=LJ h
 have h1:=kr (p:=[]) (e:=[58]) h (show fJ (aD 58)=false by decide) t.length
 obtain ⟨q,hq⟩:∃q,t.length=q+1:=by
  obtain ⟨d,r,rfl,_⟩:=qd h;exact ⟨r.length,rfl⟩
 have h2:=PS t q
 rw[<-hq] at h2
 rw[List.nil_append,h2] at h1
 unfold aG
 rw[if_neg (by simp;omega)]
 have e1:(t++[58]).length=t.length+1:=by simp
 rw[e1,h1];rfl
theorem LL {t:List UInt8} (h:ax t=true):aG (nP++32::t)=([(1,0,nP,0),(1,0,t,6)],0,0):=by
 have hl:=LJ h
 have h1:=kr (p:=[]) (t:=nP) (e:=32::t) (by decide) (show fJ (aD 32)=false by decide) (t.length+5)
 rw[List.nil_append,lg] at h1
 have h2:=kr (p:=nP++[32]) (t:=t) (e:=[]) h trivial (t.length+3)
 have e2:nP++[32]++t++[]=nP++32::t:=by simp[nP]
 rw[e2,List.append_nil,lex_nil] at h2
 rw[h2] at h1
 unfold aG
 have e1:(nP++32::t).length=t.length+6:=by simp[nP]
 rw[e1,if_neg (by omega),h1];rfl
theorem ni {s:List UInt8} {a:Nat} {d:UInt8} {r:List UInt8} (hd:s.drop a=d::r) :
 dA s (a:Int)=if aD d=39 then jH s a else if 48<=aD d/\aD d<=57 then iG ((s.drop a).takeWhile λc=>cY (aD c)) a else (0,0,6,(a:Int)):=by
 have hl:s.length-a=r.length+1:=by have:=congrArg List.length hd;simpa using this
 have hgd:s.getD a 0=d:=by
  have h0:(s.drop a).getD 0 0=d:=by rw[hd];rfl
  rw[<-h0];simp[List.getD]
 unfold dA
 rw[if_neg (by omega),if_neg (by omega),Int.toNat_natCast,hgd]
theorem PT (a:Nat):iG [53] a=(5,(a:Int)+1,0,0):=by
 have h1:aJ [53]=(0,0,10):=by decide
 unfold iG
 rw[h1]
 have h2:jq 10 (([53]:List UInt8).take (([53]:List UInt8).length-0) |>.drop 0)=jq 10 [53]:=rfl
 simp only[h2]
 have h3:jq 10 [53]=(5,-1,false):=by decide
 rw[h3];rfl
theorem Ux (p:List UInt8) (n:Nat):bh (p++[53]) (n+1) [53]=([(2,5,[],(p.length:Int))],0,0):=by
 have ha:(p++[53]).length-(([]:List UInt8).length+1)=p.length:=by simp
 have hD:(p++[53]).drop p.length=[53]:=by rw[List.drop_left]
 have hsc:dA (p++[53]) (p.length:Int)=(5,(p.length:Int)+1,0,0):=by
  rw[ni hD,if_neg (by decide),if_pos (by decide),hD]
  exact PT p.length
 have hpc:bw (p++[53]) 53 p.length=((2,5,[],(p.length:Int)),(p.length:Int)+1,0,0):=by
  unfold bw;rw[if_neg (by decide),if_pos (by decide),hsc]
 rw[bh,if_neg (by decide),if_neg (by decide),ha,hpc,if_pos rfl]
 have hd2:(p++[53]).drop ((p.length:Int)+1).toNat=[]:=by
  have e1:((p.length:Int)+1).toNat=(p++[53]).length:=by simp
  rw[e1,List.drop_length]
 simp only[hd2,lex_nil]
def uQ:List UInt8:=[32,101,113,117,32,53]
theorem Uy {t:List UInt8} (h:ax t=true):aG (t++uQ)=([(1,0,t,0),(1,0,Gf,(t.length:Int)+1),(2,5,[],(t.length:Int)+5)],0,0):=by
 have hl:=LJ h
 have h1:=kr (p:=[]) (e:=uQ) h (show fJ (aD 32)=false by decide) (t.length+5)
 have h2:=kr (p:=t++[32]) (t:=Gf) (e:=[32,53]) (by decide) (show fJ (aD 32)=false by decide) (t.length+3)
 have h3:=Ux (t++[32]++Gf++[32]) (t.length+1)
 have e2:t++[32]++Gf++[32,53]=t++uQ:=by simp[Gf,uQ]
 have e3:t++[32]++Gf++[32]++[53]=t++uQ:=by simp[Gf,uQ]
 rw[e3] at h3
 have h4:bh (t++uQ) (t.length+3) [32,53]=bh (t++uQ) (t.length+2) [53]:=lg _ _ _
 rw[e2,h4,h3] at h2
 have h5:bh (t++uQ) (t.length+5) uQ=bh (t++uQ) (t.length+4) (Gf++[32,53]):=lg _ _ _
 rw[List.nil_append,h5,h2] at h1
 unfold aG
 have e1:(t++uQ).length=t.length+6:=by simp[uQ]
 rw[e1,if_neg (by omega),h1,if_pos rfl]
 simp[Gf]
end Go.Proofs.YtpaddkkfefgkfaaGreatDoor.lt
