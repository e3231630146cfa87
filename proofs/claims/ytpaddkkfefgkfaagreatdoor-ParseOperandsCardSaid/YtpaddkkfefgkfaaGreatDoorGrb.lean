/- Tokens: bytes. Tokens: names and quoted texts. Tokens: signs. Tokens: signs. Tokens: a line. Tokens: a line, round by round. Tokens: every piece ends behind its place. Tokens: the contract of Lex. Tokens: the contract of Lex. Names: token.Name; what Lex makes of a name. What Lex makes of a line that has a name, and little more. -/
import Derived.Test.YtpaddkkfefgkfaaGreatDoorGra
set_option linter.unusedVariables false
set_option linter.unusedSimpArgs false

namespace Go.Proofs.YtpaddkkfefgkfaaGreatDoor.lt
open Go.Tv Go.Ev
set_option maxRecDepth 100000
def dV (n:Int):Bool:=decide (97<=n/\n<=122\/65<=n/\n<=90\/n=95\/n=46)
def iX (n:Int):Bool:=dV n||decide (48<=n/\n<=57)
def mE (n:Int):Bool:=decide (32<=n/\n<=126)
theorem aa1 (gv:Nat->List AV) (n:Int):ag (Xg gv) (c0 gv AV) bK 5 48 [.int .u8 n] aa.empty (λv _=>some v)=some (.bool (dV n)):=by
 have h:ag (Xg gv) (c0 gv AV) bK 5 48 [.int .u8 n] aa.empty (λv _=>some v)=qY n 97 122 (some (.bool true)) (qY n 65 90 (some (.bool true)) (pick2 (eqI n 95) (some (.bool true)) (some (.bool (eqI n 46))))):=by kernel_rfl
 rw[h]
 simp only[yJ,az]
 unfold dV
 split
 .
  rw[decide_eq_true (by omega)]
 split
 .
  rw[decide_eq_true (by omega)]
 split
 .
  rw[decide_eq_true (by omega)]
 refine congrArg (λx=>some (AV.bool x)) ?_
 rw[eqI_spec,Bool.eq_iff_iff,beq_iff_eq,decide_eq_true_eq];omega
theorem aa2 (gv:Nat->List AV) (n:Int):ag (Xg gv) (c0 gv AV) bK 5 99 [.int .u8 n] aa.empty (λv _=>some v)=some (.bool (mE n)):=by
 have h:ag (Xg gv) (c0 gv AV) bK 5 99 [.int .u8 n] aa.empty (λv _=>some v)=pick2 (!ltI n 32) (some (.bool (!ltI 126 n))) (some (.bool false)):=by kernel_rfl
 rw[h,cj]
 unfold mE
 split
 .
  refine congrArg (λx=>some (AV.bool x)) ?_
  rw[ltI_spec,Bool.eq_iff_iff,Bool.not_eq_true',decide_eq_false_iff_not,decide_eq_true_eq];omega
 rw[decide_eq_false (by omega)]
noncomputable def R7 (p:Int->Bool) (args:List AV):Option (Bool×List aZ) :=
 match args with
 |[.int .u8 n]=>some (true,[.val (.bool (p n))])
 |_=>none
theorem Hs {gv:Nat->List AV} {call:∀ β,aU β} (hcall:∀ β,aV (Xg gv) (bu (Xg gv) kn) (call β)) {f:FuncId} (hk:inl f=true) {p:Int->Bool} (h:∀n,ag (Xg gv) (call AV) bK 5 f [.int .u8 n] aa.empty (λv _=>some v)=some (.bool (p n))):aI (Xg gv) (bu (Xg gv) kn) f (R7 p) :=
 aG (λargs=>aQ hk args) hcall λargs rs hg=>by
  unfold R7 at hg;split at hg
  .
   rename_i n;simp only[Option.some.injEq,Prod.mk.injEq] at hg;obtain ⟨h1,rfl⟩:=hg;exact ⟨[.bool (p n)],bK,5,h n,rfl,rfl⟩
  cases hg
theorem UA (gv:Nat->List AV):aI (Xg gv) (bu (Xg gv) kn) 48 (R7 dV):=Hs (tM gv) rfl (aa1 gv)
theorem aa3 (gv:Nat->List AV):aI (Xg gv) (bu (Xg gv) kn) 99 (R7 mE):=Hs (tM gv) rfl (aa2 gv)
noncomputable def M1:List kH:=[(48,[none],R7 dV),(99,[none],R7 mE)]
theorem UB (gv:Nat->List AV):cg (Xg gv) (bu (Xg gv) kn) M1:=.cons (UA gv) (.cons (aa3 gv) .nil)
noncomputable def d1 (gv:Nat->List AV) (β:Type):aU β:=jU (Xg gv) (KQ M1) inl 200 β 20
theorem aa4 (gv:Nat->List AV) (β:Type):aV (Xg gv) (bu (Xg gv) kn) (d1 gv β):=fy (UB gv) (λf h args=>aQ h args) 200 20 β
theorem aa5 (gv:Nat->List AV) (n:Int):ag (Xg gv) (d1 gv AV) bK 5 49 [.int .u8 n] aa.empty (λv _=>some v)=some (.bool (iX n)):=by
 have h:ag (Xg gv) (d1 gv AV) bK 5 49 [.int .u8 n] aa.empty (λv _=>some v)=pick2 (dV n) (some (.bool true)) (pick2 (!ltI n 48) (some (.bool (!ltI 57 n))) (some (.bool false))):=by kernel_rfl
 rw[h,pick2_eq,cj]
 unfold iX
 split
 .
  rename_i hf;rw[hf];rfl
 rename_i hf
 have hf:dV n=false:=by simpa using hf
 rw[hf,Bool.false_or]
 split
 .
  refine congrArg (λx=>some (AV.bool x)) ?_
  rw[ltI_spec,Bool.eq_iff_iff,Bool.not_eq_true',decide_eq_false_iff_not,decide_eq_true_eq];omega
 rw[decide_eq_false (by omega)]
theorem aa6 (gv:Nat->List AV):aI (Xg gv) (bu (Xg gv) kn) 49 (R7 iX):=Hs (aa4 gv) rfl (aa5 gv)
noncomputable def M2:List kH:=(49,[none],R7 iX)::M1
theorem UC (gv:Nat->List AV):cg (Xg gv) (bu (Xg gv) kn) M2:=.cons (aa6 gv) (UB gv)
noncomputable def d2 (gv:Nat->List AV) (β:Type):aU β:=jU (Xg gv) (KQ M2) inl 200 β 20
theorem Oe (gv:Nat->List AV) (β:Type):aV (Xg gv) (bu (Xg gv) kn) (d2 gv β):=fy (UC gv) (λf h args=>aQ h args) 200 20 β
end Go.Proofs.YtpaddkkfefgkfaaGreatDoor.lt

namespace Go.Proofs.YtpaddkkfefgkfaaGreatDoor.lt
open Go.Tv Go.Ev
set_option maxRecDepth 100000
abbrev Cut:=List UInt8×Int×Int×Int
noncomputable def eG (r:Cut):Option AV:=some (.bZ [.str r.1,.int .i64 r.2.1,.agg [.int .i64 r.2.2.1,.int .i64 r.2.2.2]])
def pNm:List Bool:=[true,true,false,false]
def pTx:List Bool:=[true,false,true,false]
noncomputable def WM:bG:=⟨cG [0,1,6,7] pNm,.none,[]⟩
noncomputable def WN:bG:=⟨cG [0,1,6,7] pTx,.none,[]⟩
noncomputable def stC (k:Nat) (s:List UInt8) (a e:Int):ck:=fY k [(0,.str s),(1,.int .i64 a),(6,.ptr 0 0),(7,.int .i64 e)]
noncomputable def Ze (gv:Nat->List AV) (s:List UInt8) (a:Int) (r m:Nat) (e:Int):Option AV:=cK (Xg gv) (d2 gv AV) WM r 55 pNm (λv _=>some v) m (stC 33 s a e) mT
noncomputable def Zf (gv:Nat->List AV) (s:List UInt8) (a:Int) (r m:Nat) (e:Int):Option AV:=cK (Xg gv) (d2 gv AV) WN r 57 pTx (λv _=>some v) m (stC 40 s a e) mT
noncomputable def Jk (s:List UInt8) (a e:Int):Option AV:=pick2 (!ltI a 0 && !ltI e a && !ltI ↑s.length e) (eG (bJ s a e,e,0,0)) none
noncomputable def Ht (s:List UInt8) (a e:Int) (go:Int->Option AV):Option AV :=
 pick2 (ltI e ↑s.length)
  (Option.rec (motive:=λ_=>Option AV) none (λc=>pick2 (iX (aD c)) (pick2 (eqI (IntKind.wrap .i64 (e-a)) 60) (eG ([],0,3,e)) (go (IntKind.wrap .i64 (e+1)))) (Jk s a e)) (aS s e))
  (Jk s a e)
noncomputable def Hu (s:List UInt8) (a e:Int) (go:Int->Option AV):Option AV :=
 pick2 (ltI e ↑s.length)
  (Option.rec (motive:=λ_=>Option AV) none (λc=>pick2 (eqI (aD c) 34)
   (pick2 (!ltI (IntKind.wrap .i64 (a+1)) 0 && !ltI e (IntKind.wrap .i64 (a+1)) && !ltI ↑s.length e) (eG (bJ s (IntKind.wrap .i64 (a+1)) e,IntKind.wrap .i64 (e+1),0,0)) none)
   (Option.rec (motive:=λ_=>Option AV) none (λc=>pick2 (!mE (aD c)) (eG ([],0,4,e)) (go (IntKind.wrap .i64 (e+1)))) (aS s e))) (aS s e))
  (eG ([],0,4,↑s.length))
theorem Og (gv:Nat->List AV) (s:List UInt8) (a:Int) (r m:Nat) (e:Int):Ze gv s a r (m+1) e=Ht s a e (Ze gv s a r m):=by kernel_rfl
theorem Oh (gv:Nat->List AV) (s:List UInt8) (a:Int) (r m:Nat) (e:Int):Zf gv s a r (m+1) e=Hu s a e (Zf gv s a r m):=by kernel_rfl
theorem R8 (gv:Nat->List AV) (s:List UInt8) (a:Int) (m:Nat):ag (Xg gv) (d2 gv AV) WM m 55 [.str s,.int .i64 a] aa.empty (λv _=>some v)=Ze gv s a m m a:=by kernel_rfl
theorem R9 (gv:Nat->List AV) (s:List UInt8) (a:Int) (m:Nat):ag (Xg gv) (d2 gv AV) WN m 57 [.str s,.int .i64 a] aa.empty (λv _=>some v)=Zf gv s a m m (IntKind.wrap .i64 (a+1)):=by kernel_rfl
def lp (s:List UInt8) (a:Nat):List UInt8->Nat->Cut
 |[],e=>(bJ s a e,e,0,0)
 |c::r,e=>if iX (aD c) then (if e=a+60 then ([],0,3,e) else lp s a r (e+1)) else (bJ s a e,e,0,0)
def lq (s:List UInt8) (a:Nat):List UInt8->Nat->Cut
 |[],_=>([],0,4,s.length)
 |c::r,e=>if aD c=34 then (bJ s (a+1) e,e+1,0,0) else if mE (aD c) then lq s a r (e+1) else ([],0,4,e)
theorem Fg (s:List UInt8) (a e:Nat) (h:a<=e) (h2:e<=s.length):Jk s a e=eG (bJ s a e,e,0,0):=by
 unfold Jk
 rw[cA (by omega),cA (by omega),cA (by omega)];rfl
theorem WO (gv:Nat->List AV) (s:List UInt8) (hs:s.length<1000000) (a r:Nat):∀(rest pre:List UInt8) (m:Nat),s=pre++rest->rest.length<m->a<=pre.length ->
 Ze gv s a r m pre.length=eG (lp s a rest pre.length):=by
 intro rest
 induction rest with
 |
  nil =>
  intro pre m he hm hp;obtain ⟨m,rfl⟩:∃m',m=m'+1:=⟨m-1,by simp at hm;omega⟩
  have hl:s.length=pre.length:=by rw[he];simp
  rw[Og];unfold Ht;rw[cA (by omega),Fg s a _ hp (by omega)]
  rfl
 |
  cons c rest ih =>
  intro pre m he hm hp;obtain ⟨m,rfl⟩:∃m',m=m'+1:=⟨m-1,by simp at hm;omega⟩
  have hl:s.length=pre.length+(rest.length+1):=by rw[he];simp
  have hg:aS s (pre.length:Int)=some c:=by rw[he];exact eo pre rest c
  have hnext:IntKind.wrap .i64 ((pre.length:Int)+1)=((pre++[c]).length:Int):=by rw[i64_in (by omega) (by omega)];simp
  rw[Og];unfold Ht;rw[kG (by omega),hg,Fg s a _ hp (by omega),hnext,i64_in (n:=(pre.length:Int)-a) (by omega) (by omega)]
  show pick2 (iX (aD c)) (pick2 (eqI ((pre.length:Int)-a) 60) _ (Ze gv s a r m ((pre++[c]).length:Int))) _=_;rw[lp,pick2_eq];split
  .
   by_cases h60:pre.length=a+60
   .
    rw[Ah (by omega),if_pos h60]
   rw[wM (by omega),if_neg h60]
   show Ze gv s a r m ((pre++[c]).length:Int)=_;rw[ih (pre++[c]) m (by rw[he];simp) (by simp at hm;omega) (by simp;omega),List.length_append,List.length_singleton]
  rfl
theorem WQ (gv:Nat->List AV) (s:List UInt8) (hs:s.length<1000000) (a r:Nat):∀(rest pre:List UInt8) (m:Nat),s=pre++rest->rest.length<m->a+1<=pre.length ->
 Zf gv s a r m pre.length=eG (lq s a rest pre.length):=by
 intro rest
 induction rest with
 |
  nil =>
  intro pre m he hm hp;obtain ⟨m,rfl⟩:∃m',m=m'+1:=⟨m-1,by simp at hm;omega⟩
  have hl:s.length=pre.length:=by rw[he];simp
  rw[Oh];unfold Hu;rw[cA (by omega)]
  rfl
 |
  cons c rest ih =>
  intro pre m he hm hp;obtain ⟨m,rfl⟩:∃m',m=m'+1:=⟨m-1,by simp at hm;omega⟩
  have hl:s.length=pre.length+(rest.length+1):=by rw[he];simp
  have hg:aS s (pre.length:Int)=some c:=by rw[he];exact eo pre rest c
  have hnext:IntKind.wrap .i64 ((pre.length:Int)+1)=((pre++[c]).length:Int):=by rw[i64_in (by omega) (by omega)];simp
  rw[Oh];unfold Hu;rw[kG (by omega),hg,hnext,i64_in (n:=(a:Int)+1) (by omega) (by omega),cA (a:=(a:Int)+1) (by omega),cA (a:=(pre.length:Int)) (b:=(a:Int)+1) (by omega),cA (a:=(s.length:Int)) (by omega)]
  show pick2 (eqI (aD c) 34) (eG (bJ s ((a:Int)+1) (pre.length:Int),((pre++[c]).length:Int),0,0)) (pick2 (!mE (aD c)) _ (Zf gv s a r m ((pre++[c]).length:Int)))=_;rw[lq];by_cases hc:aD c=34
  .
   rw[Ah hc,if_pos hc,List.length_append,List.length_singleton];rfl
  rw[wM hc,if_neg hc];show pick2 (!mE (aD c)) _ _=_;cases hpl:mE (aD c)
  .
   rfl
  show Zf gv s a r m ((pre++[c]).length:Int)=_;rw[if_pos rfl,ih (pre++[c]) m (by rw[he];simp) (by simp at hm;omega) (by simp;omega),List.length_append,List.length_singleton]
def wz (s:List UInt8) (a:Nat):Cut:=lp s a (s.drop a) a
def sk (s:List UInt8) (a:Nat):Cut:=lq s a (s.drop (a+1)) (a+1)
theorem aa7 (gv:Nat->List AV) (s:List UInt8) (hs:s.length<1000000) (a:Nat) (ha:a<s.length) :
 ag (Xg gv) (d2 gv AV) WM (s.length+1) 55 [.str s,.int .i64 a] aa.empty (λv _=>some v)=eG (wz s a):=by
 rw[R8]
 have hl:(s.take a).length=a:=by simp;omega
 have:=WO gv s hs a (s.length+1) (s.drop a) (s.take a) (s.length+1) (by simp) (by simp;omega) (by omega)
 rw[hl] at this
 exact this
theorem aa8 (gv:Nat->List AV) (s:List UInt8) (hs:s.length<1000000) (a:Nat) (ha:a<s.length) :
 ag (Xg gv) (d2 gv AV) WN (s.length+1) 57 [.str s,.int .i64 a] aa.empty (λv _=>some v)=eG (sk s a):=by
 rw[R9,i64_in (by omega) (by omega)]
 have hl:(s.take (a+1)).length=a+1:=by simp;omega
 have:=WQ gv s hs a (s.length+1) (s.drop (a+1)) (s.take (a+1)) (s.length+1) (by simp) (by simp;omega) (by omega)
 rw[hl] at this
 exact this
noncomputable def Dc (f:List UInt8->Nat->Cut) (args:List AV):Option (Bool×List aZ) :=
 match args with
 |[.str s,.int .i64 a]=>some (!ltI a 0&&ltI a ↑s.length&&Nat.ble s.length 999999,[.val (.str (f s a.toNat).1),.val (.int .i64 (f s a.toNat).2.1),.val (.agg [.int .i64 (f s a.toNat).2.2.1,.int .i64 (f s a.toNat).2.2.2])])
 |_=>none
theorem Jl {gv:Nat->List AV} {id:FuncId} (hk:inl id=true) {an:bG} {f:List UInt8->Nat->Cut} (h:∀(s:List UInt8),s.length<1000000->∀a:Nat,a<s.length->ag (Xg gv) (d2 gv AV) an (s.length+1) id [.str s,.int .i64 a] aa.empty (λv _=>some v)=eG (f s a)):aI (Xg gv) (bu (Xg gv) kn) id (Dc f) :=
 aG (λargs=>aQ hk args) (Oe gv) λargs rs hg=>by
  unfold Dc at hg;split at hg
  .
   rename_i s a;simp only[Option.some.injEq,Prod.mk.injEq,Bool.and_eq_true,ltI_spec,Bool.not_eq_true',decide_eq_false_iff_not,decide_eq_true_eq,Nat.ble_eq] at hg;obtain ⟨⟨⟨h1,h2⟩,h3⟩,rfl⟩:=hg;obtain ⟨n,rfl⟩:∃n:Nat,a=n:=⟨a.toNat,by omega⟩
   rw[Int.toNat_natCast];exact ⟨[.str (f s n).1,.int .i64 (f s n).2.1,.agg [.int .i64 (f s n).2.2.1,.int .i64 (f s n).2.2.2]],an,s.length+1,h s (by omega) n (by omega),rfl,rfl⟩
  cases hg
theorem aa9 (gv:Nat->List AV):aI (Xg gv) (bu (Xg gv) kn) 55 (Dc wz):=Jl rfl (aa7 gv)
theorem aba (gv:Nat->List AV):aI (Xg gv) (bu (Xg gv) kn) 57 (Dc sk):=Jl rfl (aa8 gv)
end Go.Proofs.YtpaddkkfefgkfaaGreatDoor.lt

namespace Go.Proofs.YtpaddkkfefgkfaaGreatDoor.lt
open Go.Tv Go.Ev
set_option maxRecDepth 100000
def preB (s p:List UInt8):Bool:=decide (s.take p.length=p)
theorem abb (gv:Nat->List AV) (s p:List UInt8):ag (Xg gv) (d2 gv AV) bK 5 100 [.str s,.str p] aa.empty (λv _=>some v)=some (.bool (preB s p)):=by
 have h:ag (Xg gv) (d2 gv AV) bK 5 100 [.str s,.str p] aa.empty (λv _=>some v)=pick2 (!ltI ↑s.length ↑p.length) (pick2 (!ltI ↑p.length 0 && !ltI ↑s.length ↑p.length) (some (.bool (decide (bJ s 0 ↑p.length=p)))) none) (some (.bool false)):=by kernel_rfl
 rw[h,cj]
 unfold preB
 split
 .
  rw[cA (by omega),cA (by omega)]
  show some (AV.bool (decide (bJ s 0 ↑p.length=p)))=_;have e:bJ s 0 (p.length:Int)=s.take p.length:=by unfold bJ;simp
  rw[e]
 rw[decide_eq_false]
 intro h2
 have:=congrArg List.length h2
 simp only[List.length_take] at this
 omega
noncomputable def WR (args:List AV):Option (Bool×List aZ) :=
 match args with
 |[.str s,.str p]=>some (true,[.val (.bool (preB s p))])
 |_=>none
theorem abc (gv:Nat->List AV):aI (Xg gv) (bu (Xg gv) kn) 100 WR :=
 aG (λargs=>aQ rfl args) (Oe gv) λargs rs hg=>by
  unfold WR at hg;split at hg
  .
   rename_i s p;simp only[Option.some.injEq,Prod.mk.injEq] at hg;obtain ⟨h1,rfl⟩:=hg;exact ⟨[.bool (preB s p)],bK,5,abb gv s p,rfl,rfl⟩
  cases hg
noncomputable def M3:List kH:=(100,[none,none],WR)::M2
theorem Jm (gv:Nat->List AV):cg (Xg gv) (bu (Xg gv) kn) M3:=.cons (abc gv) (UC gv)
noncomputable def d3 (gv:Nat->List AV) (β:Type):aU β:=jU (Xg gv) (KQ M3) inl 200 β 20
theorem abd (gv:Nat->List AV) (β:Type):aV (Xg gv) (bu (Xg gv) kn) (d3 gv β):=fy (Jm gv) (λf h args=>aQ h args) 200 20 β
end Go.Proofs.YtpaddkkfefgkfaaGreatDoor.lt

namespace Go.Proofs.YtpaddkkfefgkfaaGreatDoor.lt
open Go.Tv Go.Ev
set_option maxRecDepth 100000
def vr:List (List UInt8):=[[36,36],[60,60],[62,62],[43],[45],[42],[47],[37],[38],[124],[94],[126],[40],[41],[91],[93],[44],[58],[36]]
noncomputable def Jn (s:List UInt8) (a:Int):List (List UInt8)->Option AV
 |[]=>eG ([],0,4,a)
 |g::r=>pick2 (!ltI a 0 && !ltI ↑s.length a) (pick2 (preB (bJ s a ↑s.length) g) (eG (g,IntKind.wrap .i64 (a + ↑g.length),0,0)) (Jn s a r)) none
def pO (s:List UInt8) (a:Nat):List (List UInt8)->Cut
 |[]=>([],0,4,a)
 |g::r=>if preB (s.drop a) g then (g,a+g.length,0,0) else pO s a r
def pP (s:List UInt8) (a:Nat):Cut:=pO s a vr
theorem Oi (s:List UInt8) (a:Int):ag (Xg oH) (d3 oH AV) bK 20 58 [.str s,.int .i64 a] aa.empty (λv _=>some v)=Jn s a vr:=by kernel_rfl
theorem Fh (s:List UInt8) (a:Nat):bJ s (a:Int) (s.length:Int)=s.drop a:=by
 unfold bJ
 simp only[Int.toNat_natCast]
 exact List.take_of_length_le (by simp)
theorem Oj (s:List UInt8) (hs:s.length<1000000) (a:Nat) (ha:a<s.length):∀l:List (List UInt8),(∀g∈l,g.length<3)->Jn s a l=eG (pO s a l):=by
 intro l
 induction l with
 |nil=>intro _;rfl
 |
  cons g r ih =>
  intro hl;have hg:=hl g (List.mem_cons_self ..);rw[Jn,pO,cA (by omega),cA (by omega),Fh,i64_in (by omega) (by omega)]
  show pick2 (preB (s.drop a) g) _ _=_;rw[pick2_eq,ih λg h=>hl g (List.mem_cons_of_mem _ h)]
  split<;>rfl
theorem Sa (s:List UInt8) (hs:s.length<1000000) (a:Nat) (ha:a<s.length):ag (Xg oH) (d3 oH AV) bK 20 58 [.str s,.int .i64 a] aa.empty (λv _=>some v)=eG (pP s a):=by
 rw[Oi];exact Oj s hs a ha vr (by decide)
theorem abe:aI (Xg oH) (bu (Xg oH) kn) 58 (Dc pP) :=
 aG (λargs=>aQ rfl args) (abd oH) λargs rs hg=>by
  unfold Dc at hg;split at hg
  .
   rename_i s a;simp only[Option.some.injEq,Prod.mk.injEq,Bool.and_eq_true,ltI_spec,Bool.not_eq_true',decide_eq_false_iff_not,decide_eq_true_eq,Nat.ble_eq] at hg;obtain ⟨⟨⟨h1,h2⟩,h3⟩,rfl⟩:=hg;obtain ⟨n,rfl⟩:∃n:Nat,a=n:=⟨a.toNat,by omega⟩
   rw[Int.toNat_natCast];exact ⟨[.str (pP s n).1,.int .i64 (pP s n).2.1,.agg [.int .i64 (pP s n).2.2.1,.int .i64 (pP s n).2.2.2]],bK,20,Sa s (by omega) n (by omega),rfl,rfl⟩
  cases hg
end Go.Proofs.YtpaddkkfefgkfaaGreatDoor.lt

namespace Go.Proofs.YtpaddkkfefgkfaaGreatDoor.lt
open Go.Tv Go.Ev
set_option maxRecDepth 100000
noncomputable def M5:List kH:=[(48,[none],R7 dV),(55,[none,none],Dc wz),(57,[none,none],Dc sk),(58,[none,none],Dc pP),(56,[none,none],Od)]
theorem BC:cg (Xg oH) (bu (Xg oH) kn) M5:=.cons (UA oH) (.cons (aa9 oH) (.cons (aba oH) (.cons abe (.cons (aa0 oH) .nil))))
noncomputable def d5 (β:Type):aU β:=jU (Xg oH) (KQ M5) inl 200 β 20
theorem abf (β:Type):aV (Xg oH) (bu (Xg oH) kn) (d5 β):=fy BC (λf h args=>aQ h args) 200 20 β
def pLx:List Bool:=[true,true,true,false,true,false]
noncomputable def KY:bG:=⟨cG [0,3,4,5] pLx,.none,[]⟩
end Go.Proofs.YtpaddkkfefgkfaaGreatDoor.lt

namespace Go.Proofs.YtpaddkkfefgkfaaGreatDoor.lt
open Go.Tv Go.Ev
set_option maxRecDepth 100000
noncomputable def pQ (v:AV) (H:aa):Option (AV×Option Row) :=
 match v with
 |.bZ (.own i _::_)=>some (v,H.get i)
 |_=>some (v,none)
theorem Sb {X:cY} {kn:Ev.bO} {f:FuncId} (hk:∀args,kn f args=none) {g:List AV->Option (Bool×List aZ)} {call:∀ β,aU β} (hcall:∀ β,aV X (bu X kn) (call β))
 (h:∀args rs,g args=some (true,rs)->∃vs an rounds o,ag X (call (AV×Option Row)) an rounds f args aa.empty pQ=some (jO vs,o)/\∀H:aa,pQ (jO vs) H=some (jO vs,o)->lY H [] vs rs):aI X (bu X kn) f g:=by
 intro args rs hg
 obtain ⟨vs,an,rounds,o,h1,h2⟩:=h args rs hg
 obtain ⟨v',H1,k1,k2⟩:=fT (nf:=false) (hcall _) (λh=>by cases h) h1
 have k3:v'=jO vs:=by
  unfold pQ at k1;split at k1<;>exact (Prod.mk.inj (Option.some.inj k1)).1
 subst k3
 refine ⟨vs,H1,λS E aB hr hgl hl=>?_,h2 H1 k1⟩
 obtain ⟨S',vE,E',a1,a2,a3,a4,_⟩:=k2 S E aB hr hgl hl
 exact ⟨S',vE,E',dD hk a1,tF a2,a3,a4⟩
abbrev aH:Ty:=.pair (.int .i64) (.pair (.int .i64) (.pair .str (.int .i64)))
abbrev Piece:=Int×Int×List UInt8×Int
abbrev cD:=Option (AV×Option Row)
noncomputable def abg (s:List UInt8) (out:AV) (left:List UInt8):ck:=fY 107 [(0,.str s),(3,.ptr 0 0),(4,out),(5,.str left)]
noncomputable def jL0 (s:List UInt8) (r m:Nat) (left:List UInt8):cD:=cK (Xg oH) (d5 (AV×Option Row)) KY r 27 pLx pQ m (abg s .br left) mT
noncomputable def Zg (s:List UInt8) (r m:Nat) (out:List Piece) (k:Nat) (left:List UInt8):cD:=cK (Xg oH) (d5 (AV×Option Row)) KY r 27 pLx pQ m (abg s (.own 1 k) left) (iC [.cells 56 [.int .i64 0,.int .i64 0],.list 106 aH out 0 false false])
noncomputable def yP (f a:Int):cD:=some (.bZ [.br,.agg [.int .i64 f,.int .i64 a]],none)
noncomputable def Ol (out:List Piece) (k:Nat):cD:=some (.bZ [.own 1 k,.agg [.int .i64 0,.int .i64 0]],some (.list 106 aH out 0 false false))
noncomputable def jn (s left:List UInt8):Int:=IntKind.wrap .i64 (↑s.length - ↑left.length)
noncomputable def jH (s:List UInt8) (e f a:Int) (p:Piece) (room:cD->cD) (go:Piece->List UInt8->cD):cD :=
 pick2 (!eqI f 0) (yP f a) (room (pick2 (!ltI e 0 && !ltI ↑s.length e) (go p (bJ s e ↑s.length)) none))
noncomputable def KZ (s left:List UInt8) (kind:Int) (r:Cut) (room:cD->cD) (go:Piece->List UInt8->cD):cD :=
 pick2 (!ltI (jn s left) 0&&ltI (jn s left) ↑s.length&&Nat.ble s.length 999999) (jH s r.2.1 r.2.2.1 r.2.2.2 (kind,0,r.1,jn s left) room go) none
noncomputable def K4 (s left:List UInt8) (room:cD->cD) (go:Piece->List UInt8->cD):cD :=
 pick2 (Nat.ble s.length 999999) (jH s (dN s (jn s left)).2.1 (dN s (jn s left)).2.2.1 (dN s (jn s left)).2.2.2 (2,(dN s (jn s left)).1,[],jn s left) room go) none
noncomputable def wA (s left:List UInt8) (c:UInt8) (room:cD->cD) (go:Piece->List UInt8->cD):cD :=
 pick2 (eqI (aD c) 39) (K4 s left room go) (pick2 (eqI (aD c) 34) (KZ s left 3 (sk s (jn s left).toNat) room go) (KZ s left 4 (pP s (jn s left).toNat) room go))
noncomputable def Dd (left:List UInt8) (skip:List UInt8->cD):cD:=pick2 (!ltI 1 0 && !ltI ↑left.length 1) (skip (bJ left 1 ↑left.length)) none
noncomputable def Jo (s left:List UInt8) (done:cD) (skip:List UInt8->cD) (room:cD->cD) (go:Piece->List UInt8->cD):cD :=
 pick2 (!decide (left=[])) (Option.rec (motive:=λ_=>cD) none (λc =>
  pick2 (eqI (aD c) 32) (Dd left skip) (pick2 (eqI (aD c) 9) (Dd left skip) (pick2 (eqI (aD c) 59) (skip [])
   (pick2 (dV (aD c)) (KZ s left 1 (wz s (jn s left).toNat) room go) (pick2 (!ltI (aD c) 48) (pick2 (!ltI 57 (aD c)) (K4 s left room go) (wA s left c room go)) (wA s left c room go)))))) (aS left 0)) done
noncomputable def UD (out:List Piece) (x:cD):cD:=pick2 (Nat.ble (out.length+1) 1000000) x none
theorem Hv (s:List UInt8) (r m:Nat) (left:List UInt8):jL0 s r (m+1) left=Jo s left (yP 0 0) (jL0 s r m) (λx=>x) (λp=>Zg s r m [p] 1):=by kernel_rfl
theorem Hw (s:List UInt8) (r m:Nat) (out:List Piece) (k:Nat) (left:List UInt8):Zg s r (m+1) out k left=Jo s left (Ol out k) (Zg s r m out k) (UD out) (λp=>Zg s r m (out++[p]) (out.length+1)):=by kernel_rfl
theorem WS (s:List UInt8) (m:Nat):ag (Xg oH) (d5 (AV×Option Row)) KY m 27 [.str s] aa.empty pQ=pick2 (ltI 1000 ↑s.length) (yP 3 1000) (jL0 s m m s):=by kernel_rfl
end Go.Proofs.YtpaddkkfefgkfaaGreatDoor.lt

namespace Go.Proofs.YtpaddkkfefgkfaaGreatDoor.lt
open Go.Tv Go.Ev
set_option maxRecDepth 100000
theorem K5 (s:List UInt8) (a:Nat):∀(rest:List UInt8) (e:Nat),(lp s a rest e).2.2.1=0->(e:Int)<=(lp s a rest e).2.1/\(lp s a rest e).2.1<=(e:Int)+rest.length:=by
 intro rest
 induction rest with
 |nil=>intro e _;simp only[lp];exact ⟨Int.le_refl _,by simp⟩
 |
  cons c r ih =>
  intro e h;rw[lp] at h ⊢;split at h
  .
   rename_i hm;rw[if_pos hm];split at h
   .
    exact absurd h (by simp)
   rename_i h60;rw[if_neg h60];have:=ih (e+1) h;simp only[List.length_cons];omega
  rename_i hm;rw[if_neg hm];simp only[List.length_cons];omega
theorem Hx (s:List UInt8) (a:Nat):∀(rest:List UInt8) (e:Nat),(lq s a rest e).2.2.1=0->(e:Int)<(lq s a rest e).2.1/\(lq s a rest e).2.1<=(e:Int)+rest.length:=by
 intro rest
 induction rest with
 |nil=>intro e h;exact absurd h (by simp[lq])
 |
  cons c r ih =>
  intro e h;rw[lq] at h ⊢;split at h
  .
   rename_i hm;rw[if_pos hm];simp only[List.length_cons];omega
  rename_i hm;rw[if_neg hm];split at h
  .
   rename_i hp;rw[if_pos hp];have:=ih (e+1) h;simp only[List.length_cons];omega
  exact absurd h (by simp)
theorem K6 (len:Nat):∀(rest:List UInt8) (k N i:Nat),(j7 len rest k N i).2.2.1=0->(i:Int)<(j7 len rest k N i).2.1/\(j7 len rest k N i).2.1<=(i:Int)+rest.length:=by
 intro rest
 induction rest with
 |nil=>intro k N i h;exact absurd h (by simp[j7])
 |
  cons c r ih =>
  intro k N i h;rw[j7] at h ⊢;split at h
  .
   rename_i hm;rw[if_pos hm];split at h
   .
    exact absurd h (by simp)
   rename_i hk;rw[if_neg hk];simp only[List.length_cons];omega
  rename_i hm;rw[if_neg hm];split at h
  .
   exact absurd h (by simp)
  rename_i hk;rw[if_neg hk];split at h
  .
   exact absurd h (by simp)
  rename_i hk8;rw[if_neg hk8];have:=ih _ _ (i+1) h;simp only[List.length_cons];omega
theorem K7 (s:List UInt8) (a:Nat):∀l:List (List UInt8),(∀g∈l,0<g.length)->(pO s a l).2.2.1=0->(a:Int)<(pO s a l).2.1/\(pO s a l).2.1<=(s.length:Int):=by
 intro l
 induction l with
 |nil=>intro _ h;exact absurd h (by simp[pO])
 |
  cons g r ih =>
  intro hl h;have hg:=hl g (List.mem_cons_self ..);rw[pO] at h ⊢;split at h
  .
   rename_i hp;rw[if_pos hp];unfold preB at hp;have:=congrArg List.length (of_decide_eq_true hp);simp only[List.length_take,List.length_drop] at this;show (a:Int)<(a:Int)+g.length/\(a:Int)+g.length<=s.length;omega
  rename_i hp;rw[if_neg hp];exact ih (λg h=>hl g (List.mem_cons_of_mem _ h)) h
theorem K8 (w:List UInt8) (a:Nat) (h:(l7 w a).2.2.1=0):(l7 w a).2.1=(a:Int)+w.length:=by
 unfold l7 at h ⊢
 split at h
 .
  exact absurd h (by simp)
 rename_i h1
 rw[if_neg h1]
 split at h
 .
  exact absurd h (by simp)
 rename_i h2
 rw[if_neg h2]
def cV (s:List UInt8) (c:UInt8) (a:Nat):Piece×Int×Int×Int :=
 if dV (aD c) then ((1,0,(wz s a).1,a),(wz s a).2)
 else if 48<=aD c/\aD c<=57\/aD c=39 then ((2,(dN s a).1,[],a),(dN s a).2)
 else if aD c=34 then ((3,0,(sk s a).1,a),(sk s a).2)
 else ((4,0,(pP s a).1,a),(pP s a).2)
theorem vt {s:List UInt8} {a:Nat} {c:UInt8} {r:List UInt8} (hd:s.drop a=c::r) (h:(cV s c a).2.2.1=0):(a:Int)<(cV s c a).2.1/\(cV s c a).2.1<=s.length:=by
 have hl:s.length-a=r.length+1:=by have:=congrArg List.length hd;simpa using this
 have WT:s.drop (a+1)=r:=by rw[<-List.drop_drop,hd];rfl
 have hgd:s.getD a 0=c:=by
  have h0:(s.drop a).getD 0 0=c:=by rw[hd];rfl
  rw[<-h0];simp[List.getD]
 unfold cV at h ⊢
 split at h
 .
  rename_i hf;rw[if_pos hf];unfold wz at h ⊢;rw[hd,lp] at h ⊢;have hm:iX (aD c)=true:=by unfold iX;rw[hf];rfl
  rw[if_pos hm,if_neg (by omega)] at h ⊢
  have:=K5 s a r (a+1) h;show (a:Int)<(lp s a r (a+1)).2.1/\(lp s a r (a+1)).2.1<=_;omega
 rename_i hf
 rw[if_neg hf]
 split at h
 .
  rename_i hn;rw[if_pos hn];unfold dN at h ⊢;rw[if_neg (by omega),if_neg (by omega),Int.toNat_natCast,hgd] at h ⊢
  split at h
  .
   rename_i hq;rw[if_pos hq];unfold iN at h ⊢;rw[WT] at h ⊢;have:=K6 s.length r 0 0 (a+1) h;show (a:Int)<(j7 s.length r 0 0 (a+1)).2.1/\(j7 s.length r 0 0 (a+1)).2.1<=_;omega
  rename_i hq;rw[if_neg hq];have hn':48<=aD c/\aD c<=57:=by omega
  rw[if_pos hn'] at h ⊢;have:=K8 _ a h;rw[this];have hw:dM (aD c)=true:=by unfold dM;simp;omega
  have e:((s.drop a).takeWhile λc=>dM (aD c))=c::(r.takeWhile λc=>dM (aD c)):=by rw[hd,List.takeWhile_cons,if_pos hw]
  have h3:=(List.takeWhile_sublist (λc=>dM (aD c)) (l:=r)).length_le
  rw[e,List.length_cons];omega
 rename_i hn
 rw[if_neg hn]
 split at h
 .
  rename_i hq;rw[if_pos hq];unfold sk at h ⊢;rw[WT] at h ⊢;have:=Hx s a r (a+1) h;show (a:Int)<(lq s a r (a+1)).2.1/\(lq s a r (a+1)).2.1<=_;omega
 rename_i hq
 rw[if_neg hq]
 exact K7 s a vr (by decide) h
end Go.Proofs.YtpaddkkfefgkfaaGreatDoor.lt

namespace Go.Proofs.YtpaddkkfefgkfaaGreatDoor.lt
open Go.Tv Go.Ev
set_option maxRecDepth 100000
theorem K9 (c:UInt8) (r:List UInt8):bJ (c::r) 1 ↑(c::r).length=r:=by
 unfold bJ
 simp
theorem Fi {s:List UInt8} {e f a:Int} {p:Piece} {room:cD->cD} {go:Piece->List UInt8->cD} (h:f=0->0<=e/\e<=s.length) :
 jH s e f a p room go=if f=0 then room (go p (s.drop e.toNat)) else yP f a:=by
 unfold jH
 by_cases hf:f=0
 .
  rw[Ah hf,if_pos hf];obtain ⟨h1,h2⟩:=h hf;rw[cA (by omega),cA (by omega)]
  obtain ⟨n,rfl⟩:∃n:Nat,e=n:=⟨e.toNat,by omega⟩
  show room (go p (bJ s n s.length))=_;rw[Fh,Int.toNat_natCast]
 rw[wM hf,if_neg hf];rfl
theorem Jp {s:List UInt8} (hs:s.length<=1000) {a:Nat} {c:UInt8} {r:List UInt8} (hd:s.drop a=c::r) (done:cD) (skip:List UInt8->cD) (room:cD->cD) (go:Piece->List UInt8->cD) :
 Jo s (c::r) done skip room go=if aD c=32\/aD c=9 then skip r else if aD c=59 then skip [] else if (cV s c a).2.2.1=0 then room (go (cV s c a).1 (s.drop (cV s c a).2.1.toNat)) else yP (cV s c a).2.2.1 (cV s c a).2.2.2:=by
 have hl:s.length-a=r.length+1:=by have:=congrArg List.length hd;simpa using this
 have hpl:jn s (c::r)=(a:Int):=by
  unfold jn;rw[List.length_cons,i64_in (by omega) (by omega)];omega
 have hend:=vt hd
 have hb:Dd (c::r) skip=skip r:=by
  unfold Dd;rw[cA (by omega),cA (by rw[List.length_cons];omega),K9];rfl
 have hg:(!ltI (a:Int) 0&&ltI (a:Int) ↑s.length&&Nat.ble s.length 999999)=true:=by
  rw[cA (by omega),kG (by omega),Nat.ble_eq_true_of_le (by omega)];rfl
 have hg2:Nat.ble s.length 999999=true:=Nat.ble_eq_true_of_le (by omega)
 unfold Jo
 rw[decide_eq_false (by simp),show aS (c::r) 0=some c from eo [] r c]
 show pick2 (eqI (aD c) 32) _ (pick2 (eqI (aD c) 9) _ (pick2 (eqI (aD c) 59) _ _))=_
 rw[hb]
 by_cases Zc:aD c=32
 .
  rw[Ah Zc,if_pos (.inl Zc)]
 rw[wM Zc]
 show pick2 (eqI (aD c) 9) _ _=_
 by_cases h9:aD c=9
 .
  rw[Ah h9,if_pos (.inr h9)]
 rw[wM h9,if_neg (by omega)]
 show pick2 (eqI (aD c) 59) _ _=_
 by_cases h59:aD c=59
 .
  rw[Ah h59,if_pos h59]
 rw[wM h59,if_neg h59]
 show pick2 (dV (aD c)) _ _=_
 have Ff:∀(kind:Int) (q:Cut),(q.2.2.1=0->(a:Int)<q.2.1/\q.2.1<=s.length)->KZ s (c::r) kind q room go=if q.2.2.1=0 then room (go (kind,0,q.1,(a:Int)) (s.drop q.2.1.toNat)) else yP q.2.2.1 q.2.2.2:=by
  intro kind q hq;unfold KZ;rw[hpl,hg];show jH _ _ _ _ _ _ _=_;exact Fi λh=>by have:=hq h;omega
 unfold cV at hend ⊢
 by_cases hf:dV (aD c)=true
 .
  rw[if_pos hf] at hend;rw[hf,if_pos rfl];show KZ _ _ _ _ _ _=_;rw[hpl,Int.toNat_natCast];exact Ff 1 _ hend
 rw[if_neg hf] at hend
 rw[if_neg hf,Bool.eq_false_iff.2 hf]
 show pick2 (!ltI (aD c) 48) (pick2 (!ltI 57 (aD c)) (K4 s (c::r) room go) (wA s (c::r) c room go)) (wA s (c::r) c room go)=_
 have abj:(48<=aD c/\aD c<=57\/aD c=39)->K4 s (c::r) room go=if (dN s (a:Int)).2.2.1=0 then room (go (2,(dN s (a:Int)).1,[],(a:Int)) (s.drop (dN s (a:Int)).2.1.toNat)) else yP (dN s (a:Int)).2.2.1 (dN s (a:Int)).2.2.2:=by
  intro hn;rw[if_pos hn] at hend;unfold K4;rw[hpl,hg2];show jH _ _ _ _ _ _ _=_;exact Fi λh=>by have:=hend h;dsimp only at this;omega
 by_cases hn:48<=aD c/\aD c<=57
 .
  have hd3:48<=aD c/\aD c<=57\/aD c=39:=.inl hn;rw[cA (by omega),cA (by omega),if_pos hd3]
  exact abj hd3
 have hr:pick2 (!ltI (aD c) 48) (pick2 (!ltI 57 (aD c)) (K4 s (c::r) room go) (wA s (c::r) c room go)) (wA s (c::r) c room go)=wA s (c::r) c room go:=by
  rw[cj,cj];split
  .
   rw[if_neg (by omega)]
  rfl
 rw[hr]
 unfold wA
 by_cases Zd:aD c=39
 .
  have hd3:48<=aD c/\aD c<=57\/aD c=39:=.inr Zd;rw[Ah Zd,if_pos hd3];exact abj hd3
 have hd3:¬(48<=aD c/\aD c<=57\/aD c=39):=by omega
 rw[if_neg hd3] at hend
 rw[wM Zd,if_neg hd3]
 show pick2 (eqI (aD c) 34) _ _=_
 rw[hpl,Int.toNat_natCast]
 by_cases Zh:aD c=34
 .
  rw[if_pos Zh] at hend;rw[Ah Zh,if_pos Zh];exact Ff 3 _ hend
 rw[if_neg Zh] at hend
 rw[wM Zh,if_neg Zh]
 exact Ff 4 _ hend
def dH (s:List UInt8):Nat->List UInt8->List Piece×Int×Int
 |0,_=>([],0,0)
 |_+1,[]=>([],0,0)
 |
  n+1,c::r =>
  if aD c=32\/aD c=9 then dH s n r else if aD c=59 then ([],0,0)
  else if (cV s c (s.length-(r.length+1))).2.2.1=0 then
   ((cV s c (s.length-(r.length+1))).1::(dH s n (s.drop (cV s c (s.length-(r.length+1))).2.1.toNat)).1,(dH s n (s.drop (cV s c (s.length-(r.length+1))).2.1.toNat)).2)
  else ([],(cV s c (s.length-(r.length+1))).2.2)
noncomputable def La (out:List Piece) (t:List Piece×Int×Int):cD:=if t.2.1=0 then Ol (out++t.1) (out++t.1).length else yP t.2.1 t.2.2
theorem WU (s:List UInt8) (hs:s.length<=1000) (rd:Nat):∀(n m:Nat) (out:List Piece) (left:List UInt8),left.length<=n->n<m->s.drop (s.length-left.length)=left->out.length+n<=1000 ->
 Zg s rd m out out.length left=La out (dH s n left):=by
 intro n
 induction n with
 |
  zero =>
  intro m out left h1 h2 _ _;obtain ⟨m,rfl⟩:∃m',m=m'+1:=⟨m-1,by omega⟩
  have:left=[]:=List.length_eq_zero_iff.1 (by omega)
  subst this;rw[Hw];show Ol out out.length=_;unfold La dH;simp
 |
  succ n ih =>
  intro m out left h1 h2 h3 h4;obtain ⟨m,rfl⟩:∃m',m=m'+1:=⟨m-1,by omega⟩
  match left,h1,h3 with
  |
   [],_,_ =>
   rw[Hw];show Ol out out.length=_;unfold La dH;simp
  |
   c::r,h1,h3 =>
   rw[List.length_cons] at h1 h3
   have hle:r.length+1<=s.length:=by
    have:=congrArg List.length h3;simp only[List.length_drop,List.length_cons] at this;omega
   have hr:s.drop (s.length-r.length)=r:=by
    have:s.length-r.length=s.length-(r.length+1)+1:=by omega
    rw[this,<-List.drop_drop,h3];rfl
   rw[Hw,Jp hs h3,dH];split
   .
    exact ih m out r (by omega) (by omega) hr (by omega)
   split
   .
    have:=ih m out [] (by simp) (by omega) (by simp) (by omega)
    rw[this];cases n<;>rfl
   split
   .
    rename_i hp;have he:=vt h3 hp;unfold UD;rw[Nat.ble_eq_true_of_le (by omega)]
    show Zg s rd m (out++[_]) (out.length+1) _=_;have e:out.length+1=(out++[(cV s c (s.length-(r.length+1))).1]).length:=by simp
    rw[e,ih m _ _ (by simp only[List.length_drop];omega) (by omega) (by rw[List.length_drop];congr 1;omega) (by simp;omega)]
    unfold La;simp only[List.append_assoc,List.singleton_append]
   rename_i hp;unfold La;rw[if_neg hp]
end Go.Proofs.YtpaddkkfefgkfaaGreatDoor.lt

namespace Go.Proofs.YtpaddkkfefgkfaaGreatDoor.lt
open Go.Tv Go.Ev
set_option maxRecDepth 100000
noncomputable def Jq (t:List Piece×Int×Int):cD:=if t.2.1=0 then (if t.1=[] then yP 0 0 else Ol t.1 t.1.length) else yP t.2.1 t.2.2
theorem WV (s:List UInt8) (hs:s.length<=1000) (rd:Nat):∀(n m:Nat) (left:List UInt8),left.length<=n->n<m->s.drop (s.length-left.length)=left->n<=1000 ->
 jL0 s rd m left=Jq (dH s n left):=by
 intro n
 induction n with
 |
  zero =>
  intro m left h1 h2 _ _;obtain ⟨m,rfl⟩:∃m',m=m'+1:=⟨m-1,by omega⟩
  have:left=[]:=List.length_eq_zero_iff.1 (by omega)
  subst this;rw[Hv];rfl
 |
  succ n ih =>
  intro m left h1 h2 h3 h4;obtain ⟨m,rfl⟩:∃m',m=m'+1:=⟨m-1,by omega⟩
  match left,h1,h3 with
  |
   [],_,_ =>
   rw[Hv];rfl
  |
   c::r,h1,h3 =>
   rw[List.length_cons] at h1 h3
   have hle:r.length+1<=s.length:=by
    have:=congrArg List.length h3;simp only[List.length_drop,List.length_cons] at this;omega
   have hr:s.drop (s.length-r.length)=r:=by
    have:s.length-r.length=s.length-(r.length+1)+1:=by omega
    rw[this,<-List.drop_drop,h3];rfl
   rw[Hv,Jp hs h3,dH];split
   .
    exact ih m r (by omega) (by omega) hr (by omega)
   split
   .
    have:=ih m [] (by simp) (by omega) (by simp) (by omega)
    rw[this];cases n<;>rfl
   split
   .
    rename_i hp;have he:=vt h3 hp;have:=WU s hs rd n m [(cV s c (s.length-(r.length+1))).1] (s.drop (cV s c (s.length-(r.length+1))).2.1.toNat) (by simp only[List.length_drop];omega) (by omega) (by rw[List.length_drop];congr 1;omega) (by simp;omega)
    refine this.trans ?_;unfold La Jq;simp only[List.singleton_append];split
    .
     rw[if_neg (by simp)]
    rfl
   rename_i hp;unfold Jq;rw[if_neg hp]
def bM (s:List UInt8):List Piece×Int×Int :=
 if 1000<s.length then ([],3,1000) else if (dH s s.length s).2.1=0 then ((dH s s.length s).1,0,0) else ([],(dH s s.length s).2)
noncomputable def WW (args:List AV):Option (Bool×List aZ) :=
 match args with
 |[.str s]=>some (true,[.list 106 aH (bM s).1,.val (.agg [.int .i64 (bM s).2.1,.int .i64 (bM s).2.2])])
 |_=>none
theorem Om (s:List UInt8):ag (Xg oH) (d5 (AV×Option Row)) KY (s.length+1) 27 [.str s] aa.empty pQ =
 if (bM s).1=[] then yP (bM s).2.1 (bM s).2.2 else some (.bZ [.own 1 (bM s).1.length,.agg [.int .i64 (bM s).2.1,.int .i64 (bM s).2.2]],some (.list 106 aH (bM s).1 0 false false)):=by
 rw[WS]
 unfold bM
 by_cases hl:1000<s.length
 .
  rw[kG (by omega),if_pos hl,if_pos rfl]
 rw[cA (by omega),if_neg hl]
 show jL0 s (s.length+1) (s.length+1) s=_
 rw[WV s (by omega) _ s.length _ s (Nat.le_refl _) (by omega) (by simp) (by omega)]
 unfold Jq
 by_cases hf:(dH s s.length s).2.1=0
 .
  rw[if_pos hf,if_pos hf];rfl
 rw[if_neg hf,if_neg hf,if_pos rfl]
theorem abk:aI (Xg oH) (bu (Xg oH) kn) 27 WW :=
 Sb (λargs=>aQ rfl args) abf λargs rs hg=>by
  unfold WW at hg;split at hg
  .
   rename_i s;simp only[Option.some.injEq,Prod.mk.injEq] at hg;obtain ⟨_,rfl⟩:=hg;by_cases h:(bM s).1=[]
   .
    refine ⟨[.br,.agg [.int .i64 (bM s).2.1,.int .i64 (bM s).2.2]],KY,s.length+1,none,?_,λH _=>⟨rfl,.inr ⟨rfl,h,rfl,rfl,trivial⟩⟩⟩
    rw[Om,if_pos h];rfl
   refine ⟨[.own 1 (bM s).1.length,.agg [.int .i64 (bM s).2.1,.int .i64 (bM s).2.2]],KY,s.length+1,some (.list 106 aH (bM s).1 0 false false),?_,λH hH=>⟨rfl,.inl ⟨1,0,false,rfl,?_,by simp,rfl,rfl,trivial⟩⟩⟩
   .
    rw[Om,if_neg h];rfl
   exact (Prod.mk.inj (Option.some.inj hH)).2
  cases hg
end Go.Proofs.YtpaddkkfefgkfaaGreatDoor.lt

namespace Go.Proofs.YtpaddkkfefgkfaaGreatDoor.lt
open Go.Tv Go.Ev
set_option maxRecDepth 100000
noncomputable section
def pN1:List Bool:=[true,true,false,true,false]
def Sd:bG:=⟨cG [0,19,20] pN1,.none,[]⟩
theorem Oq {s:List UInt8} (hs:s.length<1000000) {p:UInt8->Bool} {j:Nat->Int->Option AV} {A B:Option AV} (step:∀m i,j (m+1) i=pick2 (ltI i ↑s.length) (Option.rec (motive:=λ_=>Option AV) none (λc=>pick2 (!p c) A (j m (IntKind.wrap .i64 (i+1)))) (aS s i)) B) :
 ∀(rest pre:List UInt8) (m:Nat),s=pre++rest->rest.length<m->j m pre.length=if rest.all p=true then B else A:=by
 intro rest
 induction rest with
 |
  nil =>
  intro pre m he hm;obtain ⟨m,rfl⟩:∃m',m=m'+1:=⟨m-1,by simp at hm;omega⟩
  have hl:s.length=pre.length:=by rw[he];simp
  rw[step,cA (by omega)];rfl
 |
  cons c rest ih =>
  intro pre m he hm;obtain ⟨m,rfl⟩:∃m',m=m'+1:=⟨m-1,by simp at hm;omega⟩
  have hl:s.length=pre.length+(rest.length+1):=by rw[he];simp
  have hg:aS s (pre.length:Int)=some c:=by rw[he];exact eo pre rest c
  have hin:=ih (pre++[c]) m (by rw[he];simp) (by simp at hm;omega)
  rw[List.length_append] at hin;have hin:j m ((pre.length:Int)+1)=if rest.all p=true then B else A:=hin;rw[step,kG (by omega),hg,i64_in (n:=(pre.length:Int)+1) (by omega) (by omega)]
  show pick2 (!p c) A (j m ((pre.length:Int)+1))=_;rw[hin];cases hp:p c
  .
   simp[hp]
  simp[hp]
def yR (c:UInt8):Bool:=iX (aD c)
def ay (s:List UInt8):Bool:=match s with
 |[]=>false
 |c::r=>decide (r.length<60)&&dV (aD c)&&(c::r).all yR
noncomputable def jN1 (gv:Nat->List AV) (s:List UInt8) (r m:Nat) (i:Int):Option AV:=cK (Xg gv) (d2 gv AV) Sd r 15 pN1 (λv _=>some v) m (fY 29 [(0,.str s),(19,.int .i64 s.length),(20,.int .i64 i)]) aa.empty
theorem W0 (gv:Nat->List AV) (s:List UInt8) (r m:Nat) (i:Int):jN1 gv s r (m+1) i=pick2 (ltI i ↑s.length) (Option.rec (motive:=λ_=>Option AV) none (λc=>pick2 (!yR c) (some (.bool false)) (jN1 gv s r m (IntKind.wrap .i64 (i+1)))) (aS s i)) (some (.bool true)):=by kernel_rfl
theorem Se (gv:Nat->List AV) (s:List UInt8) (r:Nat):ag (Xg gv) (d2 gv AV) Sd r 15 [.str s] aa.empty (λv _=>some v) =
 pick2 (eqI ↑s.length 0) (some (.bool false)) (pick2 (ltI 60 ↑s.length) (some (.bool false)) (Option.rec (motive:=λ_=>Option AV) none (λc=>pick2 (!dV (aD c)) (some (.bool false)) (jN1 gv s r r 0)) (aS s 0))):=by kernel_rfl
theorem abp (gv:Nat->List AV) (s:List UInt8):ag (Xg gv) (d2 gv AV) Sd 100 15 [.str s] aa.empty (λv _=>some v)=some (.bool (ay s)):=by
 rw[Se]
 cases s with
 |nil=>rfl
 |
  cons c r =>
  show _=some (AV.bool (decide (r.length<60)&&dV (aD c)&&(c::r).all yR));rw[wM (by simp;omega)]
  by_cases h:r.length<60
  .
   rw[cA (by simp;omega),decide_eq_true h]
   have hl:=Oq (s:=c::r) (by simp;omega) (W0 gv (c::r) 100) (c::r) [] 100 rfl (by simp;omega)
   have hl:jN1 gv (c::r) 100 100 0=_:=hl;rw[hl];show pick2 (!dV (aD c)) _ _=_;cases dV (aD c)
   .
    rfl
   cases (c::r).all yR<;>rfl
  rw[kG (by simp;omega),decide_eq_false h];rfl
def gNm (args:List AV):Option (Bool×List aZ) :=
 match args with
 |[.str s]=>some (true,[.val (.bool (ay s))])
 |_=>none
theorem abq (gv:Nat->List AV):aI (Xg gv) (bu (Xg gv) kn) 15 gNm :=
 aG (λargs=>aQ rfl args) (Oe gv) λargs rs hg=>by
  unfold gNm at hg;split at hg
  .
   rename_i s;simp only[Option.some.injEq,Prod.mk.injEq] at hg;obtain ⟨_,rfl⟩:=hg;exact ⟨[.bool (ay s)],Sd,100,abp gv s,rfl,rfl⟩
  cases hg
end
end Go.Proofs.YtpaddkkfefgkfaaGreatDoor.lt

namespace Go.Proofs.YtpaddkkfefgkfaaGreatDoor.lt
open Go.Tv Go.Ev
set_option maxRecDepth 100000
def Stop:List UInt8->Prop
 |[]=>True
 |c::_=>iX (aD c)=false
theorem TG (p S e:List UInt8):bJ (p++S++e) (p.length:Int) ((p.length+S.length:Nat):Int)=S:=by
 unfold bJ
 rw[List.append_assoc,Int.toNat_natCast,Int.toNat_natCast,List.drop_left,Nat.add_sub_cancel_left,List.take_left]
theorem zD (T:List UInt8) (a:Nat) {e:List UInt8} (he:Stop e):∀(S2:List UInt8) (k:Nat),S2.all yR=true->k+S2.length<=60->lp T a (S2++e) (a+k)=(bJ T a ((a+(k+S2.length):Nat):Int),((a+(k+S2.length):Nat):Int),0,0)
 |
  [],k,_,_=>by
  cases e with
  |nil=>rfl
  |
   cons c q =>
   have he:iX (aD c)=false:=he;rw[List.nil_append,lp,if_neg (by rw[he];exact Bool.false_ne_true)];rfl
 |
  c::S2,k,h,hl=>by
  simp only[List.all_cons,Bool.and_eq_true,List.length_cons] at h hl;have hm:iX (aD c)=true:=h.1;rw[List.cons_append,lp,if_pos hm,if_neg (by omega)]
  have:=zD T a he S2 (k+1) h.2 (by omega)
  rw[show k+1+S2.length=k+(c::S2).length by simp;omega] at this
  exact this
theorem zE {t:List UInt8} (h:ay t=true):∃d r,t=d::r/\r.length<60/\dV (aD d)=true/\(d::r).all yR=true:=by
 cases t with
 |nil=>cases h
 |
  cons d r =>
  have h:(decide (r.length<60)&&dV (aD d)&&(d::r).all yR)=true:=h;simp only[Bool.and_eq_true,decide_eq_true_eq] at h;exact ⟨d,r,rfl,h.1.1,h.1.2,h.2⟩
theorem Qf {p t e:List UInt8} (hn:ay t=true) (he:Stop e) (n:Nat):dH (p++t++e) (n+1) (t++e) =
 ((1,0,t,(p.length:Int))::(dH (p++t++e) n e).1,(dH (p++t++e) n e).2):=by
 obtain ⟨d,r,rfl,h4,h5,h6⟩:=zE hn
 have hD:(p++(d::r)++e).drop p.length=d::r++e:=by rw[List.append_assoc,List.drop_left]
 have ha:(p++(d::r)++e).length-((r++e).length+1)=p.length:=by simp
 have hb:¬(aD d=32\/aD d=9)/\aD d≠59:=by
  unfold dV at h5;simp only[decide_eq_true_eq] at h5;omega
 have hpc:cV (p++(d::r)++e) d p.length=((1,0,d::r,(p.length:Int)),(p.length:Int)+(r.length+1:Nat),0,0):=by
  unfold cV wz;rw[if_pos h5,hD];have:=zD (p++d::r++e) p.length he (d::r) 0 h6 (by simp;omega)
  rw[Nat.add_zero,Nat.zero_add,TG] at this;rw[this];simp
 show dH _ (n+1) (d::(r++e))=_
 rw[dH,if_neg hb.1,if_neg hb.2,ha,hpc,if_pos rfl]
 have hd2:(p++(d::r)++e).drop ((p.length:Int)+((r.length+1:Nat):Int)).toNat=e:=by
  have e1:((p.length:Int)+((r.length+1:Nat):Int)).toNat=(p++(d::r)).length:=by simp;omega
  rw[e1,List.drop_left]
 simp only[hd2]
theorem Lt (s r:List UInt8) (n:Nat):dH s (n+1) (32::r)=dH s n r:=by
 rw[dH,if_pos (.inl (by decide))]
theorem lex_nil (s:List UInt8) (n:Nat):dH s n []=([],0,0):=by cases n<;>rfl
def aj9:List UInt8:=[101,113,117]
def ago:List UInt8:=[115,116,114,117,99]
theorem B5 {s:List UInt8} {a:Nat} {d:UInt8} {r:List UInt8} (hd:s.drop a=d::r) :
 dN s (a:Int)=if aD d=39 then iN s a else if 48<=aD d/\aD d<=57 then l7 ((s.drop a).takeWhile λc=>dM (aD c)) a else (0,0,6,(a:Int)):=by
 have hl:s.length-a=r.length+1:=by have:=congrArg List.length hd;simpa using this
 have hgd:s.getD a 0=d:=by
  have h0:(s.drop a).getD 0 0=d:=by rw[hd];rfl
  rw[<-h0];simp[List.getD]
 unfold dN
 rw[if_neg (by omega),if_neg (by omega),Int.toNat_natCast,hgd]
def aka:List UInt8:=[32,101,113,117,32,53]
end Go.Proofs.YtpaddkkfefgkfaaGreatDoor.lt
