/- Tokens: bytes. Tokens: names and quoted texts. Tokens: signs. Tokens: signs. Tokens: a line. Tokens: a line, round by round. Tokens: every piece ends behind its place. Tokens: the contract of Lex. Tokens: the contract of Lex. Names: token.Name; what Lex makes of a name. What Lex makes of a line that has a name, and little more. -/
import Derived.Test.YtpaddkkfefgkfaaGreatDoorGra

namespace Go.Proofs.YtpaddkkfefgkfaaGreatDoor.lt
open Go.Tv Go.Ev
set_option maxRecDepth 100000
def dB (n:Int):Bool:=decide (97<=n/\n<=122\/65<=n/\n<=90\/n=95\/n=46)
def gh (n:Int):Bool:=dB n||decide (48<=n/\n<=57)
def iu (n:Int):Bool:=decide (32<=n/\n<=126)
theorem acL (gv:Nat->List AV) (n:Int):ag (Xg gv) (c0 gv AV) dc 5 48 [.int .u8 n] aa.empty (λv _=>some v)=some (.bool (dB n)):=by
 have h:ag (Xg gv) (c0 gv AV) dc 5 48 [.int .u8 n] aa.empty (λv _=>some v)=sq n 97 122 (some (.bool true)) (sq n 65 90 (some (.bool true)) (pick2 (eqI n 95) (some (.bool true)) (some (.bool (eqI n 46))))):=by kernel_rfl
 rw[h]
 simp only[zV,aH]
 unfold dB
 split
 .
  rw[decide_eq_true (by omega)]
 split
 .
  rw[decide_eq_true (by omega)]
 split
 .
  rw[decide_eq_true (by omega)]
 refine congrArg (λx=>some (AV.bool x)) ?_
 rw[eqI_spec,Bool.eq_iff_iff,beq_iff_eq,decide_eq_true_eq];omega
theorem acM (gv:Nat->List AV) (n:Int):ag (Xg gv) (c0 gv AV) dc 5 99 [.int .u8 n] aa.empty (λv _=>some v)=some (.bool (iu n)):=by
 have h:ag (Xg gv) (c0 gv AV) dc 5 99 [.int .u8 n] aa.empty (λv _=>some v)=pick2 (!ltI n 32) (some (.bool (!ltI 126 n))) (some (.bool false)):=by kernel_rfl
 rw[h,gG]
 unfold iu
 split
 .
  refine congrArg (λx=>some (AV.bool x)) ?_
  rw[ltI_spec,Bool.eq_iff_iff,Bool.not_eq_true',decide_eq_false_iff_not,decide_eq_true_eq];omega
 rw[decide_eq_false (by omega)]
noncomputable def Uk (p:Int->Bool) (args:List AV):Option (Bool×List bL) :=
 match args with
 |[.int .u8 n]=>some (true,[.val (.bool (p n))])
 |_=>none
theorem Je {gv:Nat->List AV} {call:∀ β,aY β} (hcall:∀ β,aQ (Xg gv) (bg (Xg gv) kn) (call β)) {f:FuncId} (hk:inl f=true) {p:Int->Bool} (h:∀n,ag (Xg gv) (call AV) dc 5 f [.int .u8 n] aa.empty (λv _=>some v)=some (.bool (p n))):aT (Xg gv) (bg (Xg gv) kn) f (Uk p) :=
 aU (λargs=>aX hk args) hcall λargs rs hg=>by
  unfold Uk at hg;split at hg
  .
   rename_i n;simp only[Option.some.injEq,Prod.mk.injEq] at hg;obtain ⟨h1,rfl⟩:=hg;exact ⟨[.bool (p n)],dc,5,h n,rfl,rfl⟩
  cases hg
theorem V9 (gv:Nat->List AV):aT (Xg gv) (bg (Xg gv) kn) 48 (Uk dB):=Je (su gv) rfl (acL gv)
theorem acN (gv:Nat->List AV):aT (Xg gv) (bg (Xg gv) kn) 99 (Uk iu):=Je (su gv) rfl (acM gv)
noncomputable def M1:List qB:=[(48,[none],Uk dB),(99,[none],Uk iu)]
theorem Wa (gv:Nat->List AV):cU (Xg gv) (bg (Xg gv) kn) M1:=.cons (V9 gv) (.cons (acN gv) .nil)
noncomputable def d1 (gv:Nat->List AV) (β:Type):aY β:=kV (Xg gv) (My M1) inl 200 β 20
theorem acO (gv:Nat->List AV) (β:Type):aQ (Xg gv) (bg (Xg gv) kn) (d1 gv β):=dZ (Wa gv) (λf h args=>aX h args) 200 20 β
theorem acP (gv:Nat->List AV) (n:Int):ag (Xg gv) (d1 gv AV) dc 5 49 [.int .u8 n] aa.empty (λv _=>some v)=some (.bool (gh n)):=by
 have h:ag (Xg gv) (d1 gv AV) dc 5 49 [.int .u8 n] aa.empty (λv _=>some v)=pick2 (dB n) (some (.bool true)) (pick2 (!ltI n 48) (some (.bool (!ltI 57 n))) (some (.bool false))):=by kernel_rfl
 rw[h,pick2_eq,gG]
 unfold gh
 split
 .
  rename_i hf;rw[hf];rfl
 rename_i hf
 have hf:dB n=false:=by simpa using hf
 rw[hf,Bool.false_or]
 split
 .
  refine congrArg (λx=>some (AV.bool x)) ?_
  rw[ltI_spec,Bool.eq_iff_iff,Bool.not_eq_true',decide_eq_false_iff_not,decide_eq_true_eq];omega
 rw[decide_eq_false (by omega)]
theorem acQ (gv:Nat->List AV):aT (Xg gv) (bg (Xg gv) kn) 49 (Uk gh):=Je (acO gv) rfl (acP gv)
noncomputable def M2:List qB:=(49,[none],Uk gh)::M1
theorem Wb (gv:Nat->List AV):cU (Xg gv) (bg (Xg gv) kn) M2:=.cons (acQ gv) (Wa gv)
noncomputable def d2 (gv:Nat->List AV) (β:Type):aY β:=kV (Xg gv) (My M2) inl 200 β 20
theorem Qn (gv:Nat->List AV) (β:Type):aQ (Xg gv) (bg (Xg gv) kn) (d2 gv β):=dZ (Wb gv) (λf h args=>aX h args) 200 20 β
end Go.Proofs.YtpaddkkfefgkfaaGreatDoor.lt

namespace Go.Proofs.YtpaddkkfefgkfaaGreatDoor.lt
open Go.Tv Go.Ev
set_option maxRecDepth 100000
abbrev Cut:=List UInt8×Int×Int×Int
noncomputable def eY (r:Cut):Option AV:=some (.cO [.str r.1,.int .i64 r.2.1,.agg [.int .i64 r.2.2.1,.int .i64 r.2.2.2]])
def pNm:List Bool:=[true,true,false,false]
def pTx:List Bool:=[true,false,true,false]
noncomputable def Yl:bO:=⟨eX [0,1,6,7] pNm,.none,[]⟩
noncomputable def Ym:bO:=⟨eX [0,1,6,7] pTx,.none,[]⟩
noncomputable def stC (k:Nat) (s:List UInt8) (a e:Int):cj:=j8 k [(0,.str s),(1,.int .i64 a),(6,.ptr 0 0),(7,.int .i64 e)]
noncomputable def jNm (gv:Nat->List AV) (s:List UInt8) (a:Int) (r m:Nat) (e:Int):Option AV:=fJ (Xg gv) (d2 gv AV) Yl r 55 pNm (λv _=>some v) m (stC 33 s a e) mT
noncomputable def jTx (gv:Nat->List AV) (s:List UInt8) (a:Int) (r m:Nat) (e:Int):Option AV:=fJ (Xg gv) (d2 gv AV) Ym r 57 pTx (λv _=>some v) m (stC 40 s a e) mT
noncomputable def KP (s:List UInt8) (a e:Int):Option AV:=pick2 (!ltI a 0 && !ltI e a && !ltI ↑s.length e) (eY (aI s a e,e,0,0)) none
noncomputable def Jf (s:List UInt8) (a e:Int) (go:Int->Option AV):Option AV :=
 pick2 (ltI e ↑s.length)
  (Option.rec (motive:=λ_=>Option AV) none (λc=>pick2 (gh (aA c)) (pick2 (eqI (IntKind.wrap .i64 (e-a)) 60) (eY ([],0,3,e)) (go (IntKind.wrap .i64 (e+1)))) (KP s a e)) (aS s e))
  (KP s a e)
noncomputable def Jg (s:List UInt8) (a e:Int) (go:Int->Option AV):Option AV :=
 pick2 (ltI e ↑s.length)
  (Option.rec (motive:=λ_=>Option AV) none (λc=>pick2 (eqI (aA c) 34)
   (pick2 (!ltI (IntKind.wrap .i64 (a+1)) 0 && !ltI e (IntKind.wrap .i64 (a+1)) && !ltI ↑s.length e) (eY (aI s (IntKind.wrap .i64 (a+1)) e,IntKind.wrap .i64 (e+1),0,0)) none)
   (Option.rec (motive:=λ_=>Option AV) none (λc=>pick2 (!iu (aA c)) (eY ([],0,4,e)) (go (IntKind.wrap .i64 (e+1)))) (aS s e))) (aS s e))
  (eY ([],0,4,↑s.length))
theorem Qo (gv:Nat->List AV) (s:List UInt8) (a:Int) (r m:Nat) (e:Int):jNm gv s a r (m+1) e=Jf s a e (jNm gv s a r m):=by kernel_rfl
theorem Qp (gv:Nat->List AV) (s:List UInt8) (a:Int) (r m:Nat) (e:Int):jTx gv s a r (m+1) e=Jg s a e (jTx gv s a r m):=by kernel_rfl
theorem Ul (gv:Nat->List AV) (s:List UInt8) (a:Int) (m:Nat):ag (Xg gv) (d2 gv AV) Yl m 55 [.str s,.int .i64 a] aa.empty (λv _=>some v)=jNm gv s a m m a:=by kernel_rfl
theorem Um (gv:Nat->List AV) (s:List UInt8) (a:Int) (m:Nat):ag (Xg gv) (d2 gv AV) Ym m 57 [.str s,.int .i64 a] aa.empty (λv _=>some v)=jTx gv s a m m (IntKind.wrap .i64 (a+1)):=by kernel_rfl
def dU (s:List UInt8) (a:Nat):List UInt8->Nat->Cut
 |[],e=>(aI s a e,e,0,0)
 |c::r,e=>if gh (aA c) then (if e=a+60 then ([],0,3,e) else dU s a r (e+1)) else (aI s a e,e,0,0)
def bW (s:List UInt8) (a:Nat):List UInt8->Nat->Cut
 |[],_=>([],0,4,s.length)
 |c::r,e=>if aA c=34 then (aI s (a+1) e,e+1,0,0) else if iu (aA c) then bW s a r (e+1) else ([],0,4,e)
theorem Gq (s:List UInt8) (a e:Nat) (h:a<=e) (h2:e<=s.length):KP s a e=eY (aI s a e,e,0,0):=by
 unfold KP
 rw[cz (by omega),cz (by omega),cz (by omega)];rfl
theorem Yn (gv:Nat->List AV) (s:List UInt8) (hs:s.length<1000000) (a r:Nat):∀(rest pre:List UInt8) (m:Nat),s=pre++rest->rest.length<m->a<=pre.length ->
 jNm gv s a r m pre.length=eY (dU s a rest pre.length):=by
 intro rest
 induction rest with
 |
  nil =>
  intro pre m he hm hp;obtain ⟨m,rfl⟩:∃m',m=m'+1:=⟨m-1,by simp at hm;omega⟩
  have hl:s.length=pre.length:=by rw[he];simp
  rw[Qo];unfold Jf;rw[cz (by omega),Gq s a _ hp (by omega)]
  rfl
 |
  cons c rest ih =>
  intro pre m he hm hp;obtain ⟨m,rfl⟩:∃m',m=m'+1:=⟨m-1,by simp at hm;omega⟩
  have hl:s.length=pre.length+(rest.length+1):=by rw[he];simp
  have hg:aS s (pre.length:Int)=some c:=by rw[he];exact gb pre rest c
  have hnext:IntKind.wrap .i64 ((pre.length:Int)+1)=((pre++[c]).length:Int):=by rw[i64_in (by omega) (by omega)];simp
  rw[Qo];unfold Jf;rw[lQ (by omega),hg,Gq s a _ hp (by omega),hnext,i64_in (n:=(pre.length:Int)-a) (by omega) (by omega)]
  show pick2 (gh (aA c)) (pick2 (eqI ((pre.length:Int)-a) 60) _ (jNm gv s a r m ((pre++[c]).length:Int))) _=_;rw[dU,pick2_eq];split
  .
   by_cases Wc:pre.length=a+60
   .
    rw[zU (by omega),if_pos Wc]
   rw[xy (by omega),if_neg Wc]
   show jNm gv s a r m ((pre++[c]).length:Int)=_;rw[ih (pre++[c]) m (by rw[he];simp) (by simp at hm;omega) (by simp;omega),List.length_append,List.length_singleton]
  rfl
theorem Yo (gv:Nat->List AV) (s:List UInt8) (hs:s.length<1000000) (a r:Nat):∀(rest pre:List UInt8) (m:Nat),s=pre++rest->rest.length<m->a+1<=pre.length ->
 jTx gv s a r m pre.length=eY (bW s a rest pre.length):=by
 intro rest
 induction rest with
 |
  nil =>
  intro pre m he hm hp;obtain ⟨m,rfl⟩:∃m',m=m'+1:=⟨m-1,by simp at hm;omega⟩
  have hl:s.length=pre.length:=by rw[he];simp
  rw[Qp];unfold Jg;rw[cz (by omega)]
  rfl
 |
  cons c rest ih =>
  intro pre m he hm hp;obtain ⟨m,rfl⟩:∃m',m=m'+1:=⟨m-1,by simp at hm;omega⟩
  have hl:s.length=pre.length+(rest.length+1):=by rw[he];simp
  have hg:aS s (pre.length:Int)=some c:=by rw[he];exact gb pre rest c
  have hnext:IntKind.wrap .i64 ((pre.length:Int)+1)=((pre++[c]).length:Int):=by rw[i64_in (by omega) (by omega)];simp
  rw[Qp];unfold Jg;rw[lQ (by omega),hg,hnext,i64_in (n:=(a:Int)+1) (by omega) (by omega),cz (a:=(a:Int)+1) (by omega),cz (a:=(pre.length:Int)) (b:=(a:Int)+1) (by omega),cz (a:=(s.length:Int)) (by omega)]
  show pick2 (eqI (aA c) 34) (eY (aI s ((a:Int)+1) (pre.length:Int),((pre++[c]).length:Int),0,0)) (pick2 (!iu (aA c)) _ (jTx gv s a r m ((pre++[c]).length:Int)))=_;rw[bW];by_cases hc:aA c=34
  .
   rw[zU hc,if_pos hc,List.length_append,List.length_singleton];rfl
  rw[xy hc,if_neg hc];show pick2 (!iu (aA c)) _ _=_;cases hpl:iu (aA c)
  .
   rfl
  show jTx gv s a r m ((pre++[c]).length:Int)=_;rw[if_pos rfl,ih (pre++[c]) m (by rw[he];simp) (by simp at hm;omega) (by simp;omega),List.length_append,List.length_singleton]
def ow (s:List UInt8) (a:Nat):Cut:=dU s a (s.drop a) a
def lp (s:List UInt8) (a:Nat):Cut:=bW s a (s.drop (a+1)) (a+1)
theorem acR (gv:Nat->List AV) (s:List UInt8) (hs:s.length<1000000) (a:Nat) (ha:a<s.length) :
 ag (Xg gv) (d2 gv AV) Yl (s.length+1) 55 [.str s,.int .i64 a] aa.empty (λv _=>some v)=eY (ow s a):=by
 rw[Ul]
 have hl:(s.take a).length=a:=by simp;omega
 have:=Yn gv s hs a (s.length+1) (s.drop a) (s.take a) (s.length+1) (by simp) (by simp;omega) (by omega)
 rw[hl] at this
 exact this
theorem acS (gv:Nat->List AV) (s:List UInt8) (hs:s.length<1000000) (a:Nat) (ha:a<s.length) :
 ag (Xg gv) (d2 gv AV) Ym (s.length+1) 57 [.str s,.int .i64 a] aa.empty (λv _=>some v)=eY (lp s a):=by
 rw[Um,i64_in (by omega) (by omega)]
 have hl:(s.take (a+1)).length=a+1:=by simp;omega
 have:=Yo gv s hs a (s.length+1) (s.drop (a+1)) (s.take (a+1)) (s.length+1) (by simp) (by simp;omega) (by omega)
 rw[hl] at this
 exact this
noncomputable def Ea (f:List UInt8->Nat->Cut) (args:List AV):Option (Bool×List bL) :=
 match args with
 |[.str s,.int .i64 a]=>some (!ltI a 0&&ltI a ↑s.length&&Nat.ble s.length 999999,[.val (.str (f s a.toNat).1),.val (.int .i64 (f s a.toNat).2.1),.val (.agg [.int .i64 (f s a.toNat).2.2.1,.int .i64 (f s a.toNat).2.2.2])])
 |_=>none
theorem KQ {gv:Nat->List AV} {id:FuncId} (hk:inl id=true) {an:bO} {f:List UInt8->Nat->Cut} (h:∀(s:List UInt8),s.length<1000000->∀a:Nat,a<s.length->ag (Xg gv) (d2 gv AV) an (s.length+1) id [.str s,.int .i64 a] aa.empty (λv _=>some v)=eY (f s a)):aT (Xg gv) (bg (Xg gv) kn) id (Ea f) :=
 aU (λargs=>aX hk args) (Qn gv) λargs rs hg=>by
  unfold Ea at hg;split at hg
  .
   rename_i s a;simp only[Option.some.injEq,Prod.mk.injEq,Bool.and_eq_true,ltI_spec,Bool.not_eq_true',decide_eq_false_iff_not,decide_eq_true_eq,Nat.ble_eq] at hg;obtain ⟨⟨⟨h1,h2⟩,h3⟩,rfl⟩:=hg;obtain ⟨n,rfl⟩:∃n:Nat,a=n:=⟨a.toNat,by omega⟩
   rw[Int.toNat_natCast];exact ⟨[.str (f s n).1,.int .i64 (f s n).2.1,.agg [.int .i64 (f s n).2.2.1,.int .i64 (f s n).2.2.2]],an,s.length+1,h s (by omega) n (by omega),rfl,rfl⟩
  cases hg
theorem acT (gv:Nat->List AV):aT (Xg gv) (bg (Xg gv) kn) 55 (Ea ow):=KQ rfl (acR gv)
theorem acU (gv:Nat->List AV):aT (Xg gv) (bg (Xg gv) kn) 57 (Ea lp):=KQ rfl (acS gv)
end Go.Proofs.YtpaddkkfefgkfaaGreatDoor.lt

namespace Go.Proofs.YtpaddkkfefgkfaaGreatDoor.lt
open Go.Tv Go.Ev
set_option maxRecDepth 100000
def preB (s p:List UInt8):Bool:=decide (s.take p.length=p)
theorem acV (gv:Nat->List AV) (s p:List UInt8):ag (Xg gv) (d2 gv AV) dc 5 100 [.str s,.str p] aa.empty (λv _=>some v)=some (.bool (preB s p)):=by
 have h:ag (Xg gv) (d2 gv AV) dc 5 100 [.str s,.str p] aa.empty (λv _=>some v)=pick2 (!ltI ↑s.length ↑p.length) (pick2 (!ltI ↑p.length 0 && !ltI ↑s.length ↑p.length) (some (.bool (decide (aI s 0 ↑p.length=p)))) none) (some (.bool false)):=by kernel_rfl
 rw[h,gG]
 unfold preB
 split
 .
  rw[cz (by omega),cz (by omega)]
  show some (AV.bool (decide (aI s 0 ↑p.length=p)))=_;have e:aI s 0 (p.length:Int)=s.take p.length:=by unfold aI;simp
  rw[e]
 rw[decide_eq_false]
 intro h2
 have:=congrArg List.length h2
 simp only[List.length_take] at this
 omega
noncomputable def Yp (args:List AV):Option (Bool×List bL) :=
 match args with
 |[.str s,.str p]=>some (true,[.val (.bool (preB s p))])
 |_=>none
theorem acW (gv:Nat->List AV):aT (Xg gv) (bg (Xg gv) kn) 100 Yp :=
 aU (λargs=>aX rfl args) (Qn gv) λargs rs hg=>by
  unfold Yp at hg;split at hg
  .
   rename_i s p;simp only[Option.some.injEq,Prod.mk.injEq] at hg;obtain ⟨h1,rfl⟩:=hg;exact ⟨[.bool (preB s p)],dc,5,acV gv s p,rfl,rfl⟩
  cases hg
noncomputable def M3:List qB:=(100,[none,none],Yp)::M2
theorem Gr (gv:Nat->List AV):cU (Xg gv) (bg (Xg gv) kn) M3:=.cons (acW gv) (Wb gv)
noncomputable def d3 (gv:Nat->List AV) (β:Type):aY β:=kV (Xg gv) (My M3) inl 200 β 20
theorem acX (gv:Nat->List AV) (β:Type):aQ (Xg gv) (bg (Xg gv) kn) (d3 gv β):=dZ (Gr gv) (λf h args=>aX h args) 200 20 β
end Go.Proofs.YtpaddkkfefgkfaaGreatDoor.lt

namespace Go.Proofs.YtpaddkkfefgkfaaGreatDoor.lt
open Go.Tv Go.Ev
set_option maxRecDepth 100000
def ke:List (List UInt8):=[[36,36],[60,60],[62,62],[43],[45],[42],[47],[37],[38],[124],[94],[126],[40],[41],[91],[93],[44],[58],[36]]
noncomputable def KR (s:List UInt8) (a:Int):List (List UInt8)->Option AV
 |[]=>eY ([],0,4,a)
 |g::r=>pick2 (!ltI a 0 && !ltI ↑s.length a) (pick2 (preB (aI s a ↑s.length) g) (eY (g,IntKind.wrap .i64 (a + ↑g.length),0,0)) (KR s a r)) none
def gi (s:List UInt8) (a:Nat):List (List UInt8)->Cut
 |[]=>([],0,4,a)
 |g::r=>if preB (s.drop a) g then (g,a+g.length,0,0) else gi s a r
def jQ (s:List UInt8) (a:Nat):Cut:=gi s a ke
theorem Qq (s:List UInt8) (a:Int):ag (Xg gJ) (d3 gJ AV) dc 20 58 [.str s,.int .i64 a] aa.empty (λv _=>some v)=KR s a ke:=by kernel_rfl
theorem Gs (s:List UInt8) (a:Nat):aI s (a:Int) (s.length:Int)=s.drop a:=by
 unfold aI
 simp only[Int.toNat_natCast]
 exact List.take_of_length_le (by simp)
theorem Qr (s:List UInt8) (hs:s.length<1000000) (a:Nat) (ha:a<s.length):∀l:List (List UInt8),(∀g∈l,g.length<3)->KR s a l=eY (gi s a l):=by
 intro l
 induction l with
 |nil=>intro _;rfl
 |
  cons g r ih =>
  intro hl;have hg:=hl g (List.mem_cons_self ..);rw[KR,gi,cz (by omega),cz (by omega),Gs,i64_in (by omega) (by omega)]
  show pick2 (preB (s.drop a) g) _ _=_;rw[pick2_eq,ih λg h=>hl g (List.mem_cons_of_mem _ h)]
  split<;>rfl
theorem Un (s:List UInt8) (hs:s.length<1000000) (a:Nat) (ha:a<s.length):ag (Xg gJ) (d3 gJ AV) dc 20 58 [.str s,.int .i64 a] aa.empty (λv _=>some v)=eY (jQ s a):=by
 rw[Qq];exact Qr s hs a ha ke (by decide)
theorem acY:aT (Xg gJ) (bg (Xg gJ) kn) 58 (Ea jQ) :=
 aU (λargs=>aX rfl args) (acX gJ) λargs rs hg=>by
  unfold Ea at hg;split at hg
  .
   rename_i s a;simp only[Option.some.injEq,Prod.mk.injEq,Bool.and_eq_true,ltI_spec,Bool.not_eq_true',decide_eq_false_iff_not,decide_eq_true_eq,Nat.ble_eq] at hg;obtain ⟨⟨⟨h1,h2⟩,h3⟩,rfl⟩:=hg;obtain ⟨n,rfl⟩:∃n:Nat,a=n:=⟨a.toNat,by omega⟩
   rw[Int.toNat_natCast];exact ⟨[.str (jQ s n).1,.int .i64 (jQ s n).2.1,.agg [.int .i64 (jQ s n).2.2.1,.int .i64 (jQ s n).2.2.2]],dc,20,Un s (by omega) n (by omega),rfl,rfl⟩
  cases hg
end Go.Proofs.YtpaddkkfefgkfaaGreatDoor.lt

namespace Go.Proofs.YtpaddkkfefgkfaaGreatDoor.lt
open Go.Tv Go.Ev
set_option maxRecDepth 100000
noncomputable def M5:List qB:=[(48,[none],Uk dB),(55,[none,none],Ea ow),(57,[none,none],Ea lp),(58,[none,none],Ea jQ),(56,[none,none],Qm)]
theorem CC:cU (Xg gJ) (bg (Xg gJ) kn) M5:=.cons (V9 gJ) (.cons (acT gJ) (.cons (acU gJ) (.cons acY (.cons (acK gJ) .nil))))
noncomputable def d5 (β:Type):aY β:=kV (Xg gJ) (My M5) inl 200 β 20
theorem acZ (β:Type):aQ (Xg gJ) (bg (Xg gJ) kn) (d5 β):=dZ CC (λf h args=>aX h args) 200 20 β
def pLx:List Bool:=[true,true,true,false,true,false]
noncomputable def MG:bO:=⟨eX [0,3,4,5] pLx,.none,[]⟩
end Go.Proofs.YtpaddkkfefgkfaaGreatDoor.lt

namespace Go.Proofs.YtpaddkkfefgkfaaGreatDoor.lt
open Go.Tv Go.Ev
set_option maxRecDepth 100000
noncomputable def uI (v:AV) (H:aa):Option (AV×Option Row) :=
 match v with
 |.cO (.own i _::_)=>some (v,H.get i)
 |_=>some (v,none)
theorem Uo {X:cR} {kn:Ev.bK} {f:FuncId} (hk:∀args,kn f args=none) {g:List AV->Option (Bool×List bL)} {call:∀ β,aY β} (hcall:∀ β,aQ X (bg X kn) (call β))
 (h:∀args rs,g args=some (true,rs)->∃vs an rounds o,ag X (call (AV×Option Row)) an rounds f args aa.empty uI=some (iF vs,o)/\∀H:aa,uI (iF vs) H=some (iF vs,o)->oo H [] vs rs):aT X (bg X kn) f g:=by
 intro args rs hg
 obtain ⟨vs,an,rounds,o,h1,h2⟩:=h args rs hg
 obtain ⟨v',H1,k1,k2⟩:=eS (nf:=false) (hcall _) (λh=>by cases h) h1
 have k3:v'=iF vs:=by
  unfold uI at k1;split at k1<;>exact (Prod.mk.inj (Option.some.inj k1)).1
 subst k3
 refine ⟨vs,H1,λS E az hr hgl hl=>?_,h2 H1 k1⟩
 obtain ⟨S',vE,E',a1,a2,a3,a4,_⟩:=k2 S E az hr hgl hl
 exact ⟨S',vE,E',cn hk a1,rH a2,a3,a4⟩
abbrev aL:Ty:=.pair (.int .i64) (.pair (.int .i64) (.pair .str (.int .i64)))
abbrev Piece:=Int×Int×List UInt8×Int
abbrev eZ:=Option (AV×Option Row)
noncomputable def ac0 (s:List UInt8) (out:AV) (left:List UInt8):cj:=j8 107 [(0,.str s),(3,.ptr 0 0),(4,out),(5,.str left)]
noncomputable def jL0 (s:List UInt8) (r m:Nat) (left:List UInt8):eZ:=fJ (Xg gJ) (d5 (AV×Option Row)) MG r 27 pLx uI m (ac0 s .bR left) mT
noncomputable def jL1 (s:List UInt8) (r m:Nat) (out:List Piece) (k:Nat) (left:List UInt8):eZ:=fJ (Xg gJ) (d5 (AV×Option Row)) MG r 27 pLx uI m (ac0 s (.own 1 k) left) (ot [.cells 56 [.int .i64 0,.int .i64 0],.list 106 aL out 0 false false])
noncomputable def z8 (f a:Int):eZ:=some (.cO [.bR,.agg [.int .i64 f,.int .i64 a]],none)
noncomputable def Qs (out:List Piece) (k:Nat):eZ:=some (.cO [.own 1 k,.agg [.int .i64 0,.int .i64 0]],some (.list 106 aL out 0 false false))
noncomputable def kf (s left:List UInt8):Int:=IntKind.wrap .i64 (↑s.length - ↑left.length)
noncomputable def kH (s:List UInt8) (e f a:Int) (p:Piece) (room:eZ->eZ) (go:Piece->List UInt8->eZ):eZ :=
 pick2 (!eqI f 0) (z8 f a) (room (pick2 (!ltI e 0 && !ltI ↑s.length e) (go p (aI s e ↑s.length)) none))
noncomputable def MH (s left:List UInt8) (kind:Int) (r:Cut) (room:eZ->eZ) (go:Piece->List UInt8->eZ):eZ :=
 pick2 (!ltI (kf s left) 0&&ltI (kf s left) ↑s.length&&Nat.ble s.length 999999) (kH s r.2.1 r.2.2.1 r.2.2.2 (kind,0,r.1,kf s left) room go) none
noncomputable def MI (s left:List UInt8) (room:eZ->eZ) (go:Piece->List UInt8->eZ):eZ :=
 pick2 (Nat.ble s.length 999999) (kH s (cV s (kf s left)).2.1 (cV s (kf s left)).2.2.1 (cV s (kf s left)).2.2.2 (2,(cV s (kf s left)).1,[],kf s left) room go) none
noncomputable def xA (s left:List UInt8) (c:UInt8) (room:eZ->eZ) (go:Piece->List UInt8->eZ):eZ :=
 pick2 (eqI (aA c) 39) (MI s left room go) (pick2 (eqI (aA c) 34) (MH s left 3 (lp s (kf s left).toNat) room go) (MH s left 4 (jQ s (kf s left).toNat) room go))
noncomputable def Eb (left:List UInt8) (skip:List UInt8->eZ):eZ:=pick2 (!ltI 1 0 && !ltI ↑left.length 1) (skip (aI left 1 ↑left.length)) none
noncomputable def KS (s left:List UInt8) (done:eZ) (skip:List UInt8->eZ) (room:eZ->eZ) (go:Piece->List UInt8->eZ):eZ :=
 pick2 (!decide (left=[])) (Option.rec (motive:=λ_=>eZ) none (λc =>
  pick2 (eqI (aA c) 32) (Eb left skip) (pick2 (eqI (aA c) 9) (Eb left skip) (pick2 (eqI (aA c) 59) (skip [])
   (pick2 (dB (aA c)) (MH s left 1 (ow s (kf s left).toNat) room go) (pick2 (!ltI (aA c) 48) (pick2 (!ltI 57 (aA c)) (MI s left room go) (xA s left c room go)) (xA s left c room go)))))) (aS left 0)) done
noncomputable def Wd (out:List Piece) (x:eZ):eZ:=pick2 (Nat.ble (out.length+1) 1000000) x none
theorem Jh (s:List UInt8) (r m:Nat) (left:List UInt8):jL0 s r (m+1) left=KS s left (z8 0 0) (jL0 s r m) (λx=>x) (λp=>jL1 s r m [p] 1):=by kernel_rfl
theorem Ji (s:List UInt8) (r m:Nat) (out:List Piece) (k:Nat) (left:List UInt8):jL1 s r (m+1) out k left=KS s left (Qs out k) (jL1 s r m out k) (Wd out) (λp=>jL1 s r m (out++[p]) (out.length+1)):=by kernel_rfl
theorem Yq (s:List UInt8) (m:Nat):ag (Xg gJ) (d5 (AV×Option Row)) MG m 27 [.str s] aa.empty uI=pick2 (ltI 1000 ↑s.length) (z8 3 1000) (jL0 s m m s):=by kernel_rfl
end Go.Proofs.YtpaddkkfefgkfaaGreatDoor.lt

namespace Go.Proofs.YtpaddkkfefgkfaaGreatDoor.lt
open Go.Tv Go.Ev
set_option maxRecDepth 100000
theorem MJ (s:List UInt8) (a:Nat):∀(rest:List UInt8) (e:Nat),(dU s a rest e).2.2.1=0->(e:Int)<=(dU s a rest e).2.1/\(dU s a rest e).2.1<=(e:Int)+rest.length:=by
 intro rest
 induction rest with
 |nil=>intro e _;simp only[dU];exact ⟨Int.le_refl _,by simp⟩
 |
  cons c r ih =>
  intro e h;rw[dU] at h ⊢;split at h
  .
   rename_i hm;rw[if_pos hm];split at h
   .
    exact absurd h (by simp)
   rename_i Wc;rw[if_neg Wc];have:=ih (e+1) h;simp only[List.length_cons];omega
  rename_i hm;rw[if_neg hm];simp only[List.length_cons];omega
theorem Jj (s:List UInt8) (a:Nat):∀(rest:List UInt8) (e:Nat),(bW s a rest e).2.2.1=0->(e:Int)<(bW s a rest e).2.1/\(bW s a rest e).2.1<=(e:Int)+rest.length:=by
 intro rest
 induction rest with
 |nil=>intro e h;exact absurd h (by simp[bW])
 |
  cons c r ih =>
  intro e h;rw[bW] at h ⊢;split at h
  .
   rename_i hm;rw[if_pos hm];simp only[List.length_cons];omega
  rename_i hm;rw[if_neg hm];split at h
  .
   rename_i hp;rw[if_pos hp];have:=ih (e+1) h;simp only[List.length_cons];omega
  exact absurd h (by simp)
theorem MK (len:Nat):∀(rest:List UInt8) (k N i:Nat),(jn len rest k N i).2.2.1=0->(i:Int)<(jn len rest k N i).2.1/\(jn len rest k N i).2.1<=(i:Int)+rest.length:=by
 intro rest
 induction rest with
 |nil=>intro k N i h;exact absurd h (by simp[jn])
 |
  cons c r ih =>
  intro k N i h;rw[jn] at h ⊢;split at h
  .
   rename_i hm;rw[if_pos hm];split at h
   .
    exact absurd h (by simp)
   rename_i hk;rw[if_neg hk];simp only[List.length_cons];omega
  rename_i hm;rw[if_neg hm];split at h
  .
   exact absurd h (by simp)
  rename_i hk;rw[if_neg hk];split at h
  .
   exact absurd h (by simp)
  rename_i hk8;rw[if_neg hk8];have:=ih _ _ (i+1) h;simp only[List.length_cons];omega
theorem ML (s:List UInt8) (a:Nat):∀l:List (List UInt8),(∀g∈l,0<g.length)->(gi s a l).2.2.1=0->(a:Int)<(gi s a l).2.1/\(gi s a l).2.1<=(s.length:Int):=by
 intro l
 induction l with
 |nil=>intro _ h;exact absurd h (by simp[gi])
 |
  cons g r ih =>
  intro hl h;have hg:=hl g (List.mem_cons_self ..);rw[gi] at h ⊢;split at h
  .
   rename_i hp;rw[if_pos hp];unfold preB at hp;have:=congrArg List.length (of_decide_eq_true hp);simp only[List.length_take,List.length_drop] at this;show (a:Int)<(a:Int)+g.length/\(a:Int)+g.length<=s.length;omega
  rename_i hp;rw[if_neg hp];exact ih (λg h=>hl g (List.mem_cons_of_mem _ h)) h
theorem MM (w:List UInt8) (a:Nat) (h:(iH w a).2.2.1=0):(iH w a).2.1=(a:Int)+w.length:=by
 unfold iH at h ⊢
 split at h
 .
  exact absurd h (by simp)
 rename_i h1
 rw[if_neg h1]
 split at h
 .
  exact absurd h (by simp)
 rename_i h2
 rw[if_neg h2]
def bw (s:List UInt8) (c:UInt8) (a:Nat):Piece×Int×Int×Int :=
 if dB (aA c) then ((1,0,(ow s a).1,a),(ow s a).2)
 else if 48<=aA c/\aA c<=57\/aA c=39 then ((2,(cV s a).1,[],a),(cV s a).2)
 else if aA c=34 then ((3,0,(lp s a).1,a),(lp s a).2)
 else ((4,0,(jQ s a).1,a),(jQ s a).2)
theorem lZ {s:List UInt8} {a:Nat} {c:UInt8} {r:List UInt8} (hd:s.drop a=c::r) (h:(bw s c a).2.2.1=0):(a:Int)<(bw s c a).2.1/\(bw s c a).2.1<=s.length:=by
 have hl:s.length-a=r.length+1:=by have:=congrArg List.length hd;simpa using this
 have Yr:s.drop (a+1)=r:=by rw[<-List.drop_drop,hd];rfl
 have hgd:s.getD a 0=c:=by
  have h0:(s.drop a).getD 0 0=c:=by rw[hd];rfl
  rw[<-h0];simp[List.getD]
 unfold bw at h ⊢
 split at h
 .
  rename_i hf;rw[if_pos hf];unfold ow at h ⊢;rw[hd,dU] at h ⊢;have hm:gh (aA c)=true:=by unfold gh;rw[hf];rfl
  rw[if_pos hm,if_neg (by omega)] at h ⊢
  have:=MJ s a r (a+1) h;show (a:Int)<(dU s a r (a+1)).2.1/\(dU s a r (a+1)).2.1<=_;omega
 rename_i hf
 rw[if_neg hf]
 split at h
 .
  rename_i hn;rw[if_pos hn];unfold cV at h ⊢;rw[if_neg (by omega),if_neg (by omega),Int.toNat_natCast,hgd] at h ⊢
  split at h
  .
   rename_i hq;rw[if_pos hq];unfold jo at h ⊢;rw[Yr] at h ⊢;have:=MK s.length r 0 0 (a+1) h;show (a:Int)<(jn s.length r 0 0 (a+1)).2.1/\(jn s.length r 0 0 (a+1)).2.1<=_;omega
  rename_i hq;rw[if_neg hq];have hn':48<=aA c/\aA c<=57:=by omega
  rw[if_pos hn'] at h ⊢;have:=MM _ a h;rw[this];have hw:cK (aA c)=true:=by unfold cK;simp;omega
  have e:((s.drop a).takeWhile λc=>cK (aA c))=c::(r.takeWhile λc=>cK (aA c)):=by rw[hd,List.takeWhile_cons,if_pos hw]
  have h3:=(List.takeWhile_sublist (λc=>cK (aA c)) (l:=r)).length_le
  rw[e,List.length_cons];omega
 rename_i hn
 rw[if_neg hn]
 split at h
 .
  rename_i hq;rw[if_pos hq];unfold lp at h ⊢;rw[Yr] at h ⊢;have:=Jj s a r (a+1) h;show (a:Int)<(bW s a r (a+1)).2.1/\(bW s a r (a+1)).2.1<=_;omega
 rename_i hq
 rw[if_neg hq]
 exact ML s a ke (by decide) h
end Go.Proofs.YtpaddkkfefgkfaaGreatDoor.lt

namespace Go.Proofs.YtpaddkkfefgkfaaGreatDoor.lt
open Go.Tv Go.Ev
set_option maxRecDepth 100000
theorem MN (c:UInt8) (r:List UInt8):aI (c::r) 1 ↑(c::r).length=r:=by
 unfold aI
 simp
theorem Gt {s:List UInt8} {e f a:Int} {p:Piece} {room:eZ->eZ} {go:Piece->List UInt8->eZ} (h:f=0->0<=e/\e<=s.length) :
 kH s e f a p room go=if f=0 then room (go p (s.drop e.toNat)) else z8 f a:=by
 unfold kH
 by_cases hf:f=0
 .
  rw[zU hf,if_pos hf];obtain ⟨h1,h2⟩:=h hf;rw[cz (by omega),cz (by omega)]
  obtain ⟨n,rfl⟩:∃n:Nat,e=n:=⟨e.toNat,by omega⟩
  show room (go p (aI s n s.length))=_;rw[Gs,Int.toNat_natCast]
 rw[xy hf,if_neg hf];rfl
theorem KU {s:List UInt8} (hs:s.length<=1000) {a:Nat} {c:UInt8} {r:List UInt8} (hd:s.drop a=c::r) (done:eZ) (skip:List UInt8->eZ) (room:eZ->eZ) (go:Piece->List UInt8->eZ) :
 KS s (c::r) done skip room go=if aA c=32\/aA c=9 then skip r else if aA c=59 then skip [] else if (bw s c a).2.2.1=0 then room (go (bw s c a).1 (s.drop (bw s c a).2.1.toNat)) else z8 (bw s c a).2.2.1 (bw s c a).2.2.2:=by
 have hl:s.length-a=r.length+1:=by have:=congrArg List.length hd;simpa using this
 have hpl:kf s (c::r)=(a:Int):=by
  unfold kf;rw[List.length_cons,i64_in (by omega) (by omega)];omega
 have hend:=lZ hd
 have hb:Eb (c::r) skip=skip r:=by
  unfold Eb;rw[cz (by omega),cz (by rw[List.length_cons];omega),MN];rfl
 have hg:(!ltI (a:Int) 0&&ltI (a:Int) ↑s.length&&Nat.ble s.length 999999)=true:=by
  rw[cz (by omega),lQ (by omega),Nat.ble_eq_true_of_le (by omega)];rfl
 have hg2:Nat.ble s.length 999999=true:=Nat.ble_eq_true_of_le (by omega)
 unfold KS
 rw[decide_eq_false (by simp),show aS (c::r) 0=some c from gb [] r c]
 show pick2 (eqI (aA c) 32) _ (pick2 (eqI (aA c) 9) _ (pick2 (eqI (aA c) 59) _ _))=_
 rw[hb]
 by_cases h32:aA c=32
 .
  rw[zU h32,if_pos (.inl h32)]
 rw[xy h32]
 show pick2 (eqI (aA c) 9) _ _=_
 by_cases h9:aA c=9
 .
  rw[zU h9,if_pos (.inr h9)]
 rw[xy h9,if_neg (by omega)]
 show pick2 (eqI (aA c) 59) _ _=_
 by_cases h59:aA c=59
 .
  rw[zU h59,if_pos h59]
 rw[xy h59,if_neg h59]
 show pick2 (dB (aA c)) _ _=_
 have Gp:∀(kind:Int) (q:Cut),(q.2.2.1=0->(a:Int)<q.2.1/\q.2.1<=s.length)->MH s (c::r) kind q room go=if q.2.2.1=0 then room (go (kind,0,q.1,(a:Int)) (s.drop q.2.1.toNat)) else z8 q.2.2.1 q.2.2.2:=by
  intro kind q hq;unfold MH;rw[hpl,hg];show kH _ _ _ _ _ _ _=_;exact Gt λh=>by have:=hq h;omega
 unfold bw at hend ⊢
 by_cases hf:dB (aA c)=true
 .
  rw[if_pos hf] at hend;rw[hf,if_pos rfl];show MH _ _ _ _ _ _=_;rw[hpl,Int.toNat_natCast];exact Gp 1 _ hend
 rw[if_neg hf] at hend
 rw[if_neg hf,Bool.eq_false_iff.2 hf]
 show pick2 (!ltI (aA c) 48) (pick2 (!ltI 57 (aA c)) (MI s (c::r) room go) (xA s (c::r) c room go)) (xA s (c::r) c room go)=_
 have ac3:(48<=aA c/\aA c<=57\/aA c=39)->MI s (c::r) room go=if (cV s (a:Int)).2.2.1=0 then room (go (2,(cV s (a:Int)).1,[],(a:Int)) (s.drop (cV s (a:Int)).2.1.toNat)) else z8 (cV s (a:Int)).2.2.1 (cV s (a:Int)).2.2.2:=by
  intro hn;rw[if_pos hn] at hend;unfold MI;rw[hpl,hg2];show kH _ _ _ _ _ _ _=_;exact Gt λh=>by have:=hend h;dsimp only at this;omega
 by_cases hn:48<=aA c/\aA c<=57
 .
  have hd3:48<=aA c/\aA c<=57\/aA c=39:=.inl hn;rw[cz (by omega),cz (by omega),if_pos hd3]
  exact ac3 hd3
 have hr:pick2 (!ltI (aA c) 48) (pick2 (!ltI 57 (aA c)) (MI s (c::r) room go) (xA s (c::r) c room go)) (xA s (c::r) c room go)=xA s (c::r) c room go:=by
  rw[gG,gG];split
  .
   rw[if_neg (by omega)]
  rfl
 rw[hr]
 unfold xA
 by_cases h39:aA c=39
 .
  have hd3:48<=aA c/\aA c<=57\/aA c=39:=.inr h39;rw[zU h39,if_pos hd3];exact ac3 hd3
 have hd3:¬(48<=aA c/\aA c<=57\/aA c=39):=by omega
 rw[if_neg hd3] at hend
 rw[xy h39,if_neg hd3]
 show pick2 (eqI (aA c) 34) _ _=_
 rw[hpl,Int.toNat_natCast]
 by_cases KV:aA c=34
 .
  rw[if_pos KV] at hend;rw[zU KV,if_pos KV];exact Gp 3 _ hend
 rw[if_neg KV] at hend
 rw[xy KV,if_neg KV]
 exact Gp 4 _ hend
def bp (s:List UInt8):Nat->List UInt8->List Piece×Int×Int
 |0,_=>([],0,0)
 |_+1,[]=>([],0,0)
 |
  n+1,c::r =>
  if aA c=32\/aA c=9 then bp s n r else if aA c=59 then ([],0,0)
  else if (bw s c (s.length-(r.length+1))).2.2.1=0 then
   ((bw s c (s.length-(r.length+1))).1::(bp s n (s.drop (bw s c (s.length-(r.length+1))).2.1.toNat)).1,(bp s n (s.drop (bw s c (s.length-(r.length+1))).2.1.toNat)).2)
  else ([],(bw s c (s.length-(r.length+1))).2.2)
noncomputable def MO (out:List Piece) (t:List Piece×Int×Int):eZ:=if t.2.1=0 then Qs (out++t.1) (out++t.1).length else z8 t.2.1 t.2.2
theorem Ys (s:List UInt8) (hs:s.length<=1000) (rd:Nat):∀(n m:Nat) (out:List Piece) (left:List UInt8),left.length<=n->n<m->s.drop (s.length-left.length)=left->out.length+n<=1000 ->
 jL1 s rd m out out.length left=MO out (bp s n left):=by
 intro n
 induction n with
 |
  zero =>
  intro m out left h1 h2 _ _;obtain ⟨m,rfl⟩:∃m',m=m'+1:=⟨m-1,by omega⟩
  have:left=[]:=List.length_eq_zero_iff.1 (by omega)
  subst this;rw[Ji];show Qs out out.length=_;unfold MO bp;simp
 |
  succ n ih =>
  intro m out left h1 h2 h3 h4;obtain ⟨m,rfl⟩:∃m',m=m'+1:=⟨m-1,by omega⟩
  match left,h1,h3 with
  |
   [],_,_ =>
   rw[Ji];show Qs out out.length=_;unfold MO bp;simp
  |
   c::r,h1,h3 =>
   rw[List.length_cons] at h1 h3
   have hle:r.length+1<=s.length:=by
    have:=congrArg List.length h3;simp only[List.length_drop,List.length_cons] at this;omega
   have hr:s.drop (s.length-r.length)=r:=by
    have:s.length-r.length=s.length-(r.length+1)+1:=by omega
    rw[this,<-List.drop_drop,h3];rfl
   rw[Ji,KU hs h3,bp];split
   .
    exact ih m out r (by omega) (by omega) hr (by omega)
   split
   .
    have:=ih m out [] (by simp) (by omega) (by simp) (by omega)
    rw[this];cases n<;>rfl
   split
   .
    rename_i hp;have he:=lZ h3 hp;unfold Wd;rw[Nat.ble_eq_true_of_le (by omega)]
    show jL1 s rd m (out++[_]) (out.length+1) _=_;have e:out.length+1=(out++[(bw s c (s.length-(r.length+1))).1]).length:=by simp
    rw[e,ih m _ _ (by simp only[List.length_drop];omega) (by omega) (by rw[List.length_drop];congr 1;omega) (by simp;omega)]
    unfold MO;simp only[List.append_assoc,List.singleton_append]
   rename_i hp;unfold MO;rw[if_neg hp]
end Go.Proofs.YtpaddkkfefgkfaaGreatDoor.lt

namespace Go.Proofs.YtpaddkkfefgkfaaGreatDoor.lt
open Go.Tv Go.Ev
set_option maxRecDepth 100000
noncomputable def KW (t:List Piece×Int×Int):eZ:=if t.2.1=0 then (if t.1=[] then z8 0 0 else Qs t.1 t.1.length) else z8 t.2.1 t.2.2
theorem Yt (s:List UInt8) (hs:s.length<=1000) (rd:Nat):∀(n m:Nat) (left:List UInt8),left.length<=n->n<m->s.drop (s.length-left.length)=left->n<=1000 ->
 jL0 s rd m left=KW (bp s n left):=by
 intro n
 induction n with
 |
  zero =>
  intro m left h1 h2 _ _;obtain ⟨m,rfl⟩:∃m',m=m'+1:=⟨m-1,by omega⟩
  have:left=[]:=List.length_eq_zero_iff.1 (by omega)
  subst this;rw[Jh];rfl
 |
  succ n ih =>
  intro m left h1 h2 h3 h4;obtain ⟨m,rfl⟩:∃m',m=m'+1:=⟨m-1,by omega⟩
  match left,h1,h3 with
  |
   [],_,_ =>
   rw[Jh];rfl
  |
   c::r,h1,h3 =>
   rw[List.length_cons] at h1 h3
   have hle:r.length+1<=s.length:=by
    have:=congrArg List.length h3;simp only[List.length_drop,List.length_cons] at this;omega
   have hr:s.drop (s.length-r.length)=r:=by
    have:s.length-r.length=s.length-(r.length+1)+1:=by omega
    rw[this,<-List.drop_drop,h3];rfl
   rw[Jh,KU hs h3,bp];split
   .
    exact ih m r (by omega) (by omega) hr (by omega)
   split
   .
    have:=ih m [] (by simp) (by omega) (by simp) (by omega)
    rw[this];cases n<;>rfl
   split
   .
    rename_i hp;have he:=lZ h3 hp;have:=Ys s hs rd n m [(bw s c (s.length-(r.length+1))).1] (s.drop (bw s c (s.length-(r.length+1))).2.1.toNat) (by simp only[List.length_drop];omega) (by omega) (by rw[List.length_drop];congr 1;omega) (by simp;omega)
    refine this.trans ?_;unfold MO KW;simp only[List.singleton_append];split
    .
     rw[if_neg (by simp)]
    rfl
   rename_i hp;unfold KW;rw[if_neg hp]
def aG (s:List UInt8):List Piece×Int×Int :=
 if 1000<s.length then ([],3,1000) else if (bp s s.length s).2.1=0 then ((bp s s.length s).1,0,0) else ([],(bp s s.length s).2)
noncomputable def Yu (args:List AV):Option (Bool×List bL) :=
 match args with
 |[.str s]=>some (true,[.list 106 aL (aG s).1,.val (.agg [.int .i64 (aG s).2.1,.int .i64 (aG s).2.2])])
 |_=>none
theorem Qt (s:List UInt8):ag (Xg gJ) (d5 (AV×Option Row)) MG (s.length+1) 27 [.str s] aa.empty uI =
 if (aG s).1=[] then z8 (aG s).2.1 (aG s).2.2 else some (.cO [.own 1 (aG s).1.length,.agg [.int .i64 (aG s).2.1,.int .i64 (aG s).2.2]],some (.list 106 aL (aG s).1 0 false false)):=by
 rw[Yq]
 unfold aG
 by_cases hl:1000<s.length
 .
  rw[lQ (by omega),if_pos hl,if_pos rfl]
 rw[cz (by omega),if_neg hl]
 show jL0 s (s.length+1) (s.length+1) s=_
 rw[Yt s (by omega) _ s.length _ s (Nat.le_refl _) (by omega) (by simp) (by omega)]
 unfold KW
 by_cases hf:(bp s s.length s).2.1=0
 .
  rw[if_pos hf,if_pos hf];rfl
 rw[if_neg hf,if_neg hf,if_pos rfl]
theorem ac4:aT (Xg gJ) (bg (Xg gJ) kn) 27 Yu :=
 Uo (λargs=>aX rfl args) acZ λargs rs hg=>by
  unfold Yu at hg;split at hg
  .
   rename_i s;simp only[Option.some.injEq,Prod.mk.injEq] at hg;obtain ⟨_,rfl⟩:=hg;by_cases h:(aG s).1=[]
   .
    refine ⟨[.bR,.agg [.int .i64 (aG s).2.1,.int .i64 (aG s).2.2]],MG,s.length+1,none,?_,λH _=>⟨rfl,.inr ⟨rfl,h,rfl,rfl,trivial⟩⟩⟩
    rw[Qt,if_pos h];rfl
   refine ⟨[.own 1 (aG s).1.length,.agg [.int .i64 (aG s).2.1,.int .i64 (aG s).2.2]],MG,s.length+1,some (.list 106 aL (aG s).1 0 false false),?_,λH hH=>⟨rfl,.inl ⟨1,0,false,rfl,?_,by simp,rfl,rfl,trivial⟩⟩⟩
   .
    rw[Qt,if_neg h];rfl
   exact (Prod.mk.inj (Option.some.inj hH)).2
  cases hg
end Go.Proofs.YtpaddkkfefgkfaaGreatDoor.lt

namespace Go.Proofs.YtpaddkkfefgkfaaGreatDoor.lt
open Go.Tv Go.Ev
set_option maxRecDepth 100000
noncomputable section
def pN1:List Bool:=[true,true,false,true,false]
def Uq:bO:=⟨eX [0,19,20] pN1,.none,[]⟩
theorem Gv {s:List UInt8} (hs:s.length<1000000) {p:UInt8->Bool} {j:Nat->Int->Option AV} {A B:Option AV} (step:∀m i,j (m+1) i=pick2 (ltI i ↑s.length) (Option.rec (motive:=λ_=>Option AV) none (λc=>pick2 (!p c) A (j m (IntKind.wrap .i64 (i+1)))) (aS s i)) B) :
 ∀(rest pre:List UInt8) (m:Nat),s=pre++rest->rest.length<m->j m pre.length=if rest.all p=true then B else A:=by
 intro rest
 induction rest with
 |
  nil =>
  intro pre m he hm;obtain ⟨m,rfl⟩:∃m',m=m'+1:=⟨m-1,by simp at hm;omega⟩
  have hl:s.length=pre.length:=by rw[he];simp
  rw[step,cz (by omega)];rfl
 |
  cons c rest ih =>
  intro pre m he hm;obtain ⟨m,rfl⟩:∃m',m=m'+1:=⟨m-1,by simp at hm;omega⟩
  have hl:s.length=pre.length+(rest.length+1):=by rw[he];simp
  have hg:aS s (pre.length:Int)=some c:=by rw[he];exact gb pre rest c
  have hin:=ih (pre++[c]) m (by rw[he];simp) (by simp at hm;omega)
  rw[List.length_append] at hin;have hin:j m ((pre.length:Int)+1)=if rest.all p=true then B else A:=hin;rw[step,lQ (by omega),hg,i64_in (n:=(pre.length:Int)+1) (by omega) (by omega)]
  show pick2 (!p c) A (j m ((pre.length:Int)+1))=_;rw[hin];cases hp:p c
  .
   simp[hp]
  simp[hp]
def ox (c:UInt8):Bool:=gh (aA c)
def bf (s:List UInt8):Bool:=match s with
 |[]=>false
 |c::r=>decide (r.length<60)&&dB (aA c)&&(c::r).all ox
noncomputable def Qw (gv:Nat->List AV) (s:List UInt8) (r m:Nat) (i:Int):Option AV:=fJ (Xg gv) (d2 gv AV) Uq r 15 pN1 (λv _=>some v) m (j8 29 [(0,.str s),(19,.int .i64 s.length),(20,.int .i64 i)]) aa.empty
theorem Ed (gv:Nat->List AV) (s:List UInt8) (r m:Nat) (i:Int):Qw gv s r (m+1) i=pick2 (ltI i ↑s.length) (Option.rec (motive:=λ_=>Option AV) none (λc=>pick2 (!ox c) (some (.bool false)) (Qw gv s r m (IntKind.wrap .i64 (i+1)))) (aS s i)) (some (.bool true)):=by kernel_rfl
theorem Ur (gv:Nat->List AV) (s:List UInt8) (r:Nat):ag (Xg gv) (d2 gv AV) Uq r 15 [.str s] aa.empty (λv _=>some v) =
 pick2 (eqI ↑s.length 0) (some (.bool false)) (pick2 (ltI 60 ↑s.length) (some (.bool false)) (Option.rec (motive:=λ_=>Option AV) none (λc=>pick2 (!dB (aA c)) (some (.bool false)) (Qw gv s r r 0)) (aS s 0))):=by kernel_rfl
theorem Jl {n:Int} (h:dB n=true):gh n=true:=by unfold gh;rw[h];rfl
theorem ac9 (gv:Nat->List AV) (s:List UInt8):ag (Xg gv) (d2 gv AV) Uq 100 15 [.str s] aa.empty (λv _=>some v)=some (.bool (bf s)):=by
 rw[Ur]
 cases s with
 |nil=>rfl
 |
  cons c r =>
  show _=some (AV.bool (decide (r.length<60)&&dB (aA c)&&(c::r).all ox));rw[xy (by simp;omega)]
  by_cases h:r.length<60
  .
   rw[cz (by simp;omega),decide_eq_true h]
   have hl:=Gv (s:=c::r) (by simp;omega) (Ed gv (c::r) 100) (c::r) [] 100 rfl (by simp;omega)
   have hl:Qw gv (c::r) 100 100 0=_:=hl;rw[hl];show pick2 (!dB (aA c)) _ _=_;cases dB (aA c)
   .
    rfl
   cases (c::r).all ox<;>rfl
  rw[lQ (by simp;omega),decide_eq_false h];rfl
def gNm (args:List AV):Option (Bool×List bL) :=
 match args with
 |[.str s]=>some (true,[.val (.bool (bf s))])
 |_=>none
theorem Wf (gv:Nat->List AV):aT (Xg gv) (bg (Xg gv) kn) 15 gNm :=
 aU (λargs=>aX rfl args) (Qn gv) λargs rs hg=>by
  unfold gNm at hg;split at hg
  .
   rename_i s;simp only[Option.some.injEq,Prod.mk.injEq] at hg;obtain ⟨_,rfl⟩:=hg;exact ⟨[.bool (bf s)],Uq,100,ac9 gv s,rfl,rfl⟩
  cases hg
end
end Go.Proofs.YtpaddkkfefgkfaaGreatDoor.lt

namespace Go.Proofs.YtpaddkkfefgkfaaGreatDoor.lt
open Go.Tv Go.Ev
set_option maxRecDepth 100000
def Stop:List UInt8->Prop
 |[]=>True
 |c::_=>gh (aA c)=false
theorem yA (p S e:List UInt8):aI (p++S++e) (p.length:Int) ((p.length+S.length:Nat):Int)=S:=by
 unfold aI
 rw[List.append_assoc,Int.toNat_natCast,Int.toNat_natCast,List.drop_left,Nat.add_sub_cancel_left,List.take_left]
theorem AK (T:List UInt8) (a:Nat) {e:List UInt8} (he:Stop e):∀(S2:List UInt8) (k:Nat),S2.all ox=true->k+S2.length<=60->dU T a (S2++e) (a+k)=(aI T a ((a+(k+S2.length):Nat):Int),((a+(k+S2.length):Nat):Int),0,0)
 |
  [],k,_,_=>by
  cases e with
  |nil=>rfl
  |
   cons c q =>
   have he:gh (aA c)=false:=he;rw[List.nil_append,dU,if_neg (by rw[he];exact Bool.false_ne_true)];rfl
 |
  c::S2,k,h,hl=>by
  simp only[List.all_cons,Bool.and_eq_true,List.length_cons] at h hl;have hm:gh (aA c)=true:=h.1;rw[List.cons_append,dU,if_pos hm,if_neg (by omega)]
  have:=AK T a he S2 (k+1) h.2 (by omega)
  rw[show k+1+S2.length=k+(c::S2).length by simp;omega] at this
  exact this
theorem tJ {t:List UInt8} (h:bf t=true):∃d r,t=d::r/\r.length<60/\dB (aA d)=true/\(d::r).all ox=true:=by
 cases t with
 |nil=>cases h
 |
  cons d r =>
  have h:(decide (r.length<60)&&dB (aA d)&&(d::r).all ox)=true:=h;simp only[Bool.and_eq_true,decide_eq_true_eq] at h;exact ⟨d,r,rfl,h.1.1,h.1.2,h.2⟩
theorem kY {p t e:List UInt8} (hn:bf t=true) (he:Stop e) (n:Nat):bp (p++t++e) (n+1) (t++e) =
 ((1,0,t,(p.length:Int))::(bp (p++t++e) n e).1,(bp (p++t++e) n e).2):=by
 obtain ⟨d,r,rfl,h4,h5,h6⟩:=tJ hn
 have hD:(p++(d::r)++e).drop p.length=d::r++e:=by rw[List.append_assoc,List.drop_left]
 have ha:(p++(d::r)++e).length-((r++e).length+1)=p.length:=by simp
 have hb:¬(aA d=32\/aA d=9)/\aA d≠59:=by
  unfold dB at h5;simp only[decide_eq_true_eq] at h5;omega
 have XK:bw (p++(d::r)++e) d p.length=((1,0,d::r,(p.length:Int)),(p.length:Int)+(r.length+1:Nat),0,0):=by
  unfold bw ow;rw[if_pos h5,hD];have:=AK (p++d::r++e) p.length he (d::r) 0 h6 (by simp;omega)
  rw[Nat.add_zero,Nat.zero_add,yA] at this;rw[this];simp
 show bp _ (n+1) (d::(r++e))=_
 rw[bp,if_neg hb.1,if_neg hb.2,ha,XK,if_pos rfl]
 have hd2:(p++(d::r)++e).drop ((p.length:Int)+((r.length+1:Nat):Int)).toNat=e:=by
  have e1:((p.length:Int)+((r.length+1:Nat):Int)).toNat=(p++(d::r)).length:=by simp;omega
  rw[e1,List.drop_left]
 simp only[hd2]
theorem mh (s r:List UInt8) (n:Nat):bp s (n+1) (32::r)=bp s n r:=by
 rw[bp,if_pos (.inl (by decide))]
theorem lex_nil (s:List UInt8) (n:Nat):bp s n []=([],0,0):=by cases n<;>rfl
theorem Nn (p:List UInt8) (n:Nat):bp (p++[58]) (n+1) [58]=([(4,0,[58],(p.length:Int))],0,0):=by
 have ha:(p++[58]).length-(([]:List UInt8).length+1)=p.length:=by simp
 have hs:∀l:List (List UInt8),gi (p++[58]) p.length l=gi (p++[58]) p.length l:=λ_=>rfl
 have hD:(p++[58]).drop p.length=[58]:=by rw[List.drop_left]
 have Ro:jQ (p++[58]) p.length=([58],(p.length:Int)+1,0,0):=by
  unfold jQ ke;simp only[gi,hD];rfl
 have XK:bw (p++[58]) 58 p.length=((4,0,[58],(p.length:Int)),(p.length:Int)+1,0,0):=by
  unfold bw;rw[if_neg (by decide),if_neg (by decide),if_neg (by decide),Ro]
 rw[bp,if_neg (by decide),if_neg (by decide),ha,XK,if_pos rfl]
 have hd2:(p++[58]).drop ((p.length:Int)+1).toNat=[]:=by
  have e1:((p.length:Int)+1).toNat=(p++[58]).length:=by simp
  rw[e1,List.drop_length]
 simp only[hd2,lex_nil]
theorem JU {t:List UInt8} (h:bf t=true):t.length<=60:=by
 obtain ⟨d,r,rfl,h4,_⟩:=tJ h
 simp;omega
def EA:List UInt8:=[101,113,117]
def mU:List UInt8:=[115,116,114,117,99]
theorem JV {t:List UInt8} (h:bf t=true):aG (t++[58])=([(1,0,t,0),(4,0,[58],(t.length:Int))],0,0):=by
 have hl:=JU h
 have h1:=kY (p:=[]) (e:=[58]) h (show gh (aA 58)=false by decide) t.length
 obtain ⟨q,hq⟩:∃q,t.length=q+1:=by
  obtain ⟨d,r,rfl,_⟩:=tJ h;exact ⟨r.length,rfl⟩
 have h2:=Nn t q
 rw[<-hq] at h2
 rw[List.nil_append,h2] at h1
 unfold aG
 rw[if_neg (by simp;omega)]
 have e1:(t++[58]).length=t.length+1:=by simp
 rw[e1,h1];rfl
theorem JW {t:List UInt8} (h:bf t=true):aG (mU++32::t)=([(1,0,mU,0),(1,0,t,6)],0,0):=by
 have hl:=JU h
 have h1:=kY (p:=[]) (t:=mU) (e:=32::t) (by decide) (show gh (aA 32)=false by decide) (t.length+5)
 rw[List.nil_append,mh] at h1
 have h2:=kY (p:=mU++[32]) (t:=t) (e:=[]) h trivial (t.length+3)
 have e2:mU++[32]++t++[]=mU++32::t:=by simp[mU]
 rw[e2,List.append_nil,lex_nil] at h2
 rw[h2] at h1
 unfold aG
 have e1:(mU++32::t).length=t.length+6:=by simp[mU]
 rw[e1,if_neg (by omega),h1];rfl
theorem oH {s:List UInt8} {a:Nat} {d:UInt8} {r:List UInt8} (hd:s.drop a=d::r) :
 cV s (a:Int)=if aA d=39 then jo s a else if 48<=aA d/\aA d<=57 then iH ((s.drop a).takeWhile λc=>cK (aA c)) a else (0,0,6,(a:Int)):=by
 have hl:s.length-a=r.length+1:=by have:=congrArg List.length hd;simpa using this
 have hgd:s.getD a 0=d:=by
  have h0:(s.drop a).getD 0 0=d:=by rw[hd];rfl
  rw[<-h0];simp[List.getD]
 unfold cV
 rw[if_neg (by omega),if_neg (by omega),Int.toNat_natCast,hgd]
theorem Np (a:Nat):iH [53] a=(5,(a:Int)+1,0,0):=by
 have h1:aC [53]=(0,0,10):=by decide
 unfold iH
 rw[h1]
 have h2:iZ 10 (([53]:List UInt8).take (([53]:List UInt8).length-0) |>.drop 0)=iZ 10 [53]:=rfl
 simp only[h2]
 have h3:iZ 10 [53]=(5,-1,false):=by decide
 rw[h3];rfl
theorem Sb (p:List UInt8) (n:Nat):bp (p++[53]) (n+1) [53]=([(2,5,[],(p.length:Int))],0,0):=by
 have ha:(p++[53]).length-(([]:List UInt8).length+1)=p.length:=by simp
 have hD:(p++[53]).drop p.length=[53]:=by rw[List.drop_left]
 have hsc:cV (p++[53]) (p.length:Int)=(5,(p.length:Int)+1,0,0):=by
  rw[oH hD,if_neg (by decide),if_pos (by decide),hD]
  exact Np p.length
 have XK:bw (p++[53]) 53 p.length=((2,5,[],(p.length:Int)),(p.length:Int)+1,0,0):=by
  unfold bw;rw[if_neg (by decide),if_pos (by decide),hsc]
 rw[bp,if_neg (by decide),if_neg (by decide),ha,XK,if_pos rfl]
 have hd2:(p++[53]).drop ((p.length:Int)+1).toNat=[]:=by
  have e1:((p.length:Int)+1).toNat=(p++[53]).length:=by simp
  rw[e1,List.drop_length]
 simp only[hd2,lex_nil]
def tK:List UInt8:=[32,101,113,117,32,53]
theorem Sc {t:List UInt8} (h:bf t=true):aG (t++tK)=([(1,0,t,0),(1,0,EA,(t.length:Int)+1),(2,5,[],(t.length:Int)+5)],0,0):=by
 have hl:=JU h
 have h1:=kY (p:=[]) (e:=tK) h (show gh (aA 32)=false by decide) (t.length+5)
 have h2:=kY (p:=t++[32]) (t:=EA) (e:=[32,53]) (by decide) (show gh (aA 32)=false by decide) (t.length+3)
 have h3:=Sb (t++[32]++EA++[32]) (t.length+1)
 have e2:t++[32]++EA++[32,53]=t++tK:=by simp[EA,tK]
 have e3:t++[32]++EA++[32]++[53]=t++tK:=by simp[EA,tK]
 rw[e3] at h3
 have h4:bp (t++tK) (t.length+3) [32,53]=bp (t++tK) (t.length+2) [53]:=mh _ _ _
 rw[e2,h4,h3] at h2
 have h5:bp (t++tK) (t.length+5) tK=bp (t++tK) (t.length+4) (EA++[32,53]):=mh _ _ _
 rw[List.nil_append,h5,h2] at h1
 unfold aG
 have e1:(t++tK).length=t.length+6:=by simp[tK]
 rw[e1,if_neg (by omega),h1,if_pos rfl]
 simp[EA]
end Go.Proofs.YtpaddkkfefgkfaaGreatDoor.lt
