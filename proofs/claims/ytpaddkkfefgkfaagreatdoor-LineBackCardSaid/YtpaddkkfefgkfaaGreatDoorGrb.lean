/- Tokens: bytes. Tokens: names and quoted texts. Tokens: signs. Tokens: signs. Tokens: a line. Tokens: a line, round by round. Tokens: every piece ends behind its place. Tokens: the contract of Lex. Tokens: the contract of Lex. Names: token.Name; what Lex makes of a name. What Lex makes of a line that has a name, and little more. -/
import Derived.Test.YtpaddkkfefgkfaaGreatDoorGra
set_option linter.unusedVariables false
set_option linter.unusedSimpArgs false

namespace Go.Proofs.YtpaddkkfefgkfaaGreatDoor.lt
open Go.Tv Go.Ev
set_option maxRecDepth 100000
def fc (n:Int):Bool:=decide (97<=n/\n<=122\/65<=n/\n<=90\/n=95\/n=46)
def mZ (n:Int):Bool:=fc n||decide (48<=n/\n<=57)
def jN (n:Int):Bool:=decide (32<=n/\n<=126)
theorem adm (gv:Nat->List AV) (n:Int):ag (Xg gv) (c0 gv AV) bV 5 48 [.int .u8 n] aa.empty (λv _=>some v)=some (.bool (fc n)):=by
 have h:ag (Xg gv) (c0 gv AV) bV 5 48 [.int .u8 n] aa.empty (λv _=>some v)=rR n 97 122 (some (.bool true)) (rR n 65 90 (some (.bool true)) (pick2 (eqI n 95) (some (.bool true)) (some (.bool (eqI n 46))))):=by kernel_rfl
 rw[h]
 simp only[zw,aB]
 unfold fc
 split
 .
  rw[decide_eq_true (by omega)]
 split
 .
  rw[decide_eq_true (by omega)]
 split
 .
  rw[decide_eq_true (by omega)]
 refine congrArg (λx=>some (AV.bool x)) ?_
 rw[eqI_spec,Bool.eq_iff_iff,beq_iff_eq,decide_eq_true_eq];omega
theorem adn (gv:Nat->List AV) (n:Int):ag (Xg gv) (c0 gv AV) bV 5 99 [.int .u8 n] aa.empty (λv _=>some v)=some (.bool (jN n)):=by
 have h:ag (Xg gv) (c0 gv AV) bV 5 99 [.int .u8 n] aa.empty (λv _=>some v)=pick2 (!ltI n 32) (some (.bool (!ltI 126 n))) (some (.bool false)):=by kernel_rfl
 rw[h,cR]
 unfold jN
 split
 .
  refine congrArg (λx=>some (AV.bool x)) ?_
  rw[ltI_spec,Bool.eq_iff_iff,Bool.not_eq_true',decide_eq_false_iff_not,decide_eq_true_eq];omega
 rw[decide_eq_false (by omega)]
noncomputable def TW (p:Int->Bool) (args:List AV):Option (Bool×List bA) :=
 match args with
 |[.int .u8 n]=>some (true,[.val (.bool (p n))])
 |_=>none
theorem ID {gv:Nat->List AV} {call:∀ β,aT β} (hcall:∀ β,aV (Xg gv) (aY (Xg gv) kn) (call β)) {f:FuncId} (hk:inl f=true) {p:Int->Bool} (h:∀n,ag (Xg gv) (call AV) bV 5 f [.int .u8 n] aa.empty (λv _=>some v)=some (.bool (p n))):aO (Xg gv) (aY (Xg gv) kn) f (TW p) :=
 aJ (λargs=>aL hk args) hcall λargs rs hg=>by
  unfold TW at hg;split at hg
  .
   rename_i n;simp only[Option.some.injEq,Prod.mk.injEq] at hg;obtain ⟨h1,rfl⟩:=hg;exact ⟨[.bool (p n)],bV,5,h n,rfl,rfl⟩
  cases hg
theorem V8 (gv:Nat->List AV):aO (Xg gv) (aY (Xg gv) kn) 48 (TW fc):=ID (rS gv) rfl (adm gv)
theorem ado (gv:Nat->List AV):aO (Xg gv) (aY (Xg gv) kn) 99 (TW jN):=ID (rS gv) rfl (adn gv)
noncomputable def M1:List nY:=[(48,[none],TW fc),(99,[none],TW jN)]
theorem V9 (gv:Nat->List AV):cr (Xg gv) (aY (Xg gv) kn) M1:=.cons (V8 gv) (.cons (ado gv) .nil)
noncomputable def d1 (gv:Nat->List AV) (β:Type):aT β:=kB (Xg gv) (Me M1) inl 200 β 20
theorem adp (gv:Nat->List AV) (β:Type):aV (Xg gv) (aY (Xg gv) kn) (d1 gv β):=dF (V9 gv) (λf h args=>aL h args) 200 20 β
theorem adq (gv:Nat->List AV) (n:Int):ag (Xg gv) (d1 gv AV) bV 5 49 [.int .u8 n] aa.empty (λv _=>some v)=some (.bool (mZ n)):=by
 have h:ag (Xg gv) (d1 gv AV) bV 5 49 [.int .u8 n] aa.empty (λv _=>some v)=pick2 (fc n) (some (.bool true)) (pick2 (!ltI n 48) (some (.bool (!ltI 57 n))) (some (.bool false))):=by kernel_rfl
 rw[h,pick2_eq,cR]
 unfold mZ
 split
 .
  rename_i hf;rw[hf];rfl
 rename_i hf
 have hf:fc n=false:=by simpa using hf
 rw[hf,Bool.false_or]
 split
 .
  refine congrArg (λx=>some (AV.bool x)) ?_
  rw[ltI_spec,Bool.eq_iff_iff,Bool.not_eq_true',decide_eq_false_iff_not,decide_eq_true_eq];omega
 rw[decide_eq_false (by omega)]
theorem adr (gv:Nat->List AV):aO (Xg gv) (aY (Xg gv) kn) 49 (TW mZ):=ID (adp gv) rfl (adq gv)
noncomputable def M2:List nY:=(49,[none],TW mZ)::M1
theorem Wa (gv:Nat->List AV):cr (Xg gv) (aY (Xg gv) kn) M2:=.cons (adr gv) (V9 gv)
noncomputable def d2 (gv:Nat->List AV) (β:Type):aT β:=kB (Xg gv) (Me M2) inl 200 β 20
theorem PT (gv:Nat->List AV) (β:Type):aV (Xg gv) (aY (Xg gv) kn) (d2 gv β):=dF (Wa gv) (λf h args=>aL h args) 200 20 β
end Go.Proofs.YtpaddkkfefgkfaaGreatDoor.lt

namespace Go.Proofs.YtpaddkkfefgkfaaGreatDoor.lt
open Go.Tv Go.Ev
set_option maxRecDepth 100000
abbrev Cut:=List UInt8×Int×Int×Int
noncomputable def eI (r:Cut):Option AV:=some (.cB [.str r.1,.int .i64 r.2.1,.agg [.int .i64 r.2.2.1,.int .i64 r.2.2.2]])
def pNm:List Bool:=[true,true,false,false]
def pTx:List Bool:=[true,false,true,false]
noncomputable def Yq:bG:=⟨dG [0,1,6,7] pNm,.none,[]⟩
noncomputable def Yr:bG:=⟨dG [0,1,6,7] pTx,.none,[]⟩
noncomputable def stC (k:Nat) (s:List UInt8) (a e:Int):cj:=hU k [(0,.str s),(1,.int .i64 a),(6,.ptr 0 0),(7,.int .i64 e)]
noncomputable def jNm (gv:Nat->List AV) (s:List UInt8) (a:Int) (r m:Nat) (e:Int):Option AV:=dH (Xg gv) (d2 gv AV) Yq r 55 pNm (λv _=>some v) m (stC 33 s a e) mT
noncomputable def jTx (gv:Nat->List AV) (s:List UInt8) (a:Int) (r m:Nat) (e:Int):Option AV:=dH (Xg gv) (d2 gv AV) Yr r 57 pTx (λv _=>some v) m (stC 40 s a e) mT
noncomputable def Kx (s:List UInt8) (a e:Int):Option AV:=pick2 (!ltI a 0 && !ltI e a && !ltI ↑s.length e) (eI (bz s a e,e,0,0)) none
noncomputable def IE (s:List UInt8) (a e:Int) (go:Int->Option AV):Option AV :=
 pick2 (ltI e ↑s.length)
  (Option.rec (motive:=λ_=>Option AV) none (λc=>pick2 (mZ (aF c)) (pick2 (eqI (IntKind.wrap .i64 (e-a)) 60) (eI ([],0,3,e)) (go (IntKind.wrap .i64 (e+1)))) (Kx s a e)) (aI s e))
  (Kx s a e)
noncomputable def IG (s:List UInt8) (a e:Int) (go:Int->Option AV):Option AV :=
 pick2 (ltI e ↑s.length)
  (Option.rec (motive:=λ_=>Option AV) none (λc=>pick2 (eqI (aF c) 34)
   (pick2 (!ltI (IntKind.wrap .i64 (a+1)) 0 && !ltI e (IntKind.wrap .i64 (a+1)) && !ltI ↑s.length e) (eI (bz s (IntKind.wrap .i64 (a+1)) e,IntKind.wrap .i64 (e+1),0,0)) none)
   (Option.rec (motive:=λ_=>Option AV) none (λc=>pick2 (!jN (aF c)) (eI ([],0,4,e)) (go (IntKind.wrap .i64 (e+1)))) (aI s e))) (aI s e))
  (eI ([],0,4,↑s.length))
theorem PU (gv:Nat->List AV) (s:List UInt8) (a:Int) (r m:Nat) (e:Int):jNm gv s a r (m+1) e=IE s a e (jNm gv s a r m):=by kernel_rfl
theorem PV (gv:Nat->List AV) (s:List UInt8) (a:Int) (r m:Nat) (e:Int):jTx gv s a r (m+1) e=IG s a e (jTx gv s a r m):=by kernel_rfl
theorem TX (gv:Nat->List AV) (s:List UInt8) (a:Int) (m:Nat):ag (Xg gv) (d2 gv AV) Yq m 55 [.str s,.int .i64 a] aa.empty (λv _=>some v)=jNm gv s a m m a:=by kernel_rfl
theorem TY (gv:Nat->List AV) (s:List UInt8) (a:Int) (m:Nat):ag (Xg gv) (d2 gv AV) Yr m 57 [.str s,.int .i64 a] aa.empty (λv _=>some v)=jTx gv s a m m (IntKind.wrap .i64 (a+1)):=by kernel_rfl
def fO (s:List UInt8) (a:Nat):List UInt8->Nat->Cut
 |[],e=>(bz s a e,e,0,0)
 |c::r,e=>if mZ (aF c) then (if e=a+60 then ([],0,3,e) else fO s a r (e+1)) else (bz s a e,e,0,0)
def cZ (s:List UInt8) (a:Nat):List UInt8->Nat->Cut
 |[],_=>([],0,4,s.length)
 |c::r,e=>if aF c=34 then (bz s (a+1) e,e+1,0,0) else if jN (aF c) then cZ s a r (e+1) else ([],0,4,e)
theorem Gg (s:List UInt8) (a e:Nat) (h:a<=e) (h2:e<=s.length):Kx s a e=eI (bz s a e,e,0,0):=by
 unfold Kx
 rw[cF (by omega),cF (by omega),cF (by omega)];rfl
theorem Ys (gv:Nat->List AV) (s:List UInt8) (hs:s.length<1000000) (a r:Nat):∀(rest pre:List UInt8) (m:Nat),s=pre++rest->rest.length<m->a<=pre.length ->
 jNm gv s a r m pre.length=eI (fO s a rest pre.length):=by
 intro rest
 induction rest with
 |
  nil =>
  intro pre m he hm hp;obtain ⟨m,rfl⟩:∃m',m=m'+1:=⟨m-1,by simp at hm;omega⟩
  have hl:s.length=pre.length:=by rw[he];simp
  rw[PU];unfold IE;rw[cF (by omega),Gg s a _ hp (by omega)]
  rfl
 |
  cons c rest ih =>
  intro pre m he hm hp;obtain ⟨m,rfl⟩:∃m',m=m'+1:=⟨m-1,by simp at hm;omega⟩
  have hl:s.length=pre.length+(rest.length+1):=by rw[he];simp
  have hg:aI s (pre.length:Int)=some c:=by rw[he];exact ei pre rest c
  have hnext:IntKind.wrap .i64 ((pre.length:Int)+1)=((pre++[c]).length:Int):=by rw[i64_in (by omega) (by omega)];simp
  rw[PU];unfold IE;rw[kW (by omega),hg,Gg s a _ hp (by omega),hnext,i64_in (n:=(pre.length:Int)-a) (by omega) (by omega)]
  show pick2 (mZ (aF c)) (pick2 (eqI ((pre.length:Int)-a) 60) _ (jNm gv s a r m ((pre++[c]).length:Int))) _=_;rw[fO,pick2_eq];split
  .
   by_cases Wb:pre.length=a+60
   .
    rw[wW (by omega),if_pos Wb]
   rw[wX (by omega),if_neg Wb]
   show jNm gv s a r m ((pre++[c]).length:Int)=_;rw[ih (pre++[c]) m (by rw[he];simp) (by simp at hm;omega) (by simp;omega),List.length_append,List.length_singleton]
  rfl
theorem Yt (gv:Nat->List AV) (s:List UInt8) (hs:s.length<1000000) (a r:Nat):∀(rest pre:List UInt8) (m:Nat),s=pre++rest->rest.length<m->a+1<=pre.length ->
 jTx gv s a r m pre.length=eI (cZ s a rest pre.length):=by
 intro rest
 induction rest with
 |
  nil =>
  intro pre m he hm hp;obtain ⟨m,rfl⟩:∃m',m=m'+1:=⟨m-1,by simp at hm;omega⟩
  have hl:s.length=pre.length:=by rw[he];simp
  rw[PV];unfold IG;rw[cF (by omega)]
  rfl
 |
  cons c rest ih =>
  intro pre m he hm hp;obtain ⟨m,rfl⟩:∃m',m=m'+1:=⟨m-1,by simp at hm;omega⟩
  have hl:s.length=pre.length+(rest.length+1):=by rw[he];simp
  have hg:aI s (pre.length:Int)=some c:=by rw[he];exact ei pre rest c
  have hnext:IntKind.wrap .i64 ((pre.length:Int)+1)=((pre++[c]).length:Int):=by rw[i64_in (by omega) (by omega)];simp
  rw[PV];unfold IG;rw[kW (by omega),hg,hnext,i64_in (n:=(a:Int)+1) (by omega) (by omega),cF (a:=(a:Int)+1) (by omega),cF (a:=(pre.length:Int)) (b:=(a:Int)+1) (by omega),cF (a:=(s.length:Int)) (by omega)]
  show pick2 (eqI (aF c) 34) (eI (bz s ((a:Int)+1) (pre.length:Int),((pre++[c]).length:Int),0,0)) (pick2 (!jN (aF c)) _ (jTx gv s a r m ((pre++[c]).length:Int)))=_;rw[cZ];by_cases hc:aF c=34
  .
   rw[wW hc,if_pos hc,List.length_append,List.length_singleton];rfl
  rw[wX hc,if_neg hc];show pick2 (!jN (aF c)) _ _=_;cases hpl:jN (aF c)
  .
   rfl
  show jTx gv s a r m ((pre++[c]).length:Int)=_;rw[if_pos rfl,ih (pre++[c]) m (by rw[he];simp) (by simp at hm;omega) (by simp;omega),List.length_append,List.length_singleton]
def uj (s:List UInt8) (a:Nat):Cut:=fO s a (s.drop a) a
def oQ (s:List UInt8) (a:Nat):Cut:=cZ s a (s.drop (a+1)) (a+1)
theorem ads (gv:Nat->List AV) (s:List UInt8) (hs:s.length<1000000) (a:Nat) (ha:a<s.length) :
 ag (Xg gv) (d2 gv AV) Yq (s.length+1) 55 [.str s,.int .i64 a] aa.empty (λv _=>some v)=eI (uj s a):=by
 rw[TX]
 have hl:(s.take a).length=a:=by simp;omega
 have:=Ys gv s hs a (s.length+1) (s.drop a) (s.take a) (s.length+1) (by simp) (by simp;omega) (by omega)
 rw[hl] at this
 exact this
theorem adt (gv:Nat->List AV) (s:List UInt8) (hs:s.length<1000000) (a:Nat) (ha:a<s.length) :
 ag (Xg gv) (d2 gv AV) Yr (s.length+1) 57 [.str s,.int .i64 a] aa.empty (λv _=>some v)=eI (oQ s a):=by
 rw[TY,i64_in (by omega) (by omega)]
 have hl:(s.take (a+1)).length=a+1:=by simp;omega
 have:=Yt gv s hs a (s.length+1) (s.drop (a+1)) (s.take (a+1)) (s.length+1) (by simp) (by simp;omega) (by omega)
 rw[hl] at this
 exact this
noncomputable def DR (f:List UInt8->Nat->Cut) (args:List AV):Option (Bool×List bA) :=
 match args with
 |[.str s,.int .i64 a]=>some (!ltI a 0&&ltI a ↑s.length&&Nat.ble s.length 999999,[.val (.str (f s a.toNat).1),.val (.int .i64 (f s a.toNat).2.1),.val (.agg [.int .i64 (f s a.toNat).2.2.1,.int .i64 (f s a.toNat).2.2.2])])
 |_=>none
theorem Ky {gv:Nat->List AV} {id:FuncId} (hk:inl id=true) {an:bG} {f:List UInt8->Nat->Cut} (h:∀(s:List UInt8),s.length<1000000->∀a:Nat,a<s.length->ag (Xg gv) (d2 gv AV) an (s.length+1) id [.str s,.int .i64 a] aa.empty (λv _=>some v)=eI (f s a)):aO (Xg gv) (aY (Xg gv) kn) id (DR f) :=
 aJ (λargs=>aL hk args) (PT gv) λargs rs hg=>by
  unfold DR at hg;split at hg
  .
   rename_i s a;simp only[Option.some.injEq,Prod.mk.injEq,Bool.and_eq_true,ltI_spec,Bool.not_eq_true',decide_eq_false_iff_not,decide_eq_true_eq,Nat.ble_eq] at hg;obtain ⟨⟨⟨h1,h2⟩,h3⟩,rfl⟩:=hg;obtain ⟨n,rfl⟩:∃n:Nat,a=n:=⟨a.toNat,by omega⟩
   rw[Int.toNat_natCast];exact ⟨[.str (f s n).1,.int .i64 (f s n).2.1,.agg [.int .i64 (f s n).2.2.1,.int .i64 (f s n).2.2.2]],an,s.length+1,h s (by omega) n (by omega),rfl,rfl⟩
  cases hg
theorem adu (gv:Nat->List AV):aO (Xg gv) (aY (Xg gv) kn) 55 (DR uj):=Ky rfl (ads gv)
theorem adv (gv:Nat->List AV):aO (Xg gv) (aY (Xg gv) kn) 57 (DR oQ):=Ky rfl (adt gv)
end Go.Proofs.YtpaddkkfefgkfaaGreatDoor.lt

namespace Go.Proofs.YtpaddkkfefgkfaaGreatDoor.lt
open Go.Tv Go.Ev
set_option maxRecDepth 100000
def preB (s p:List UInt8):Bool:=decide (s.take p.length=p)
theorem adw (gv:Nat->List AV) (s p:List UInt8):ag (Xg gv) (d2 gv AV) bV 5 100 [.str s,.str p] aa.empty (λv _=>some v)=some (.bool (preB s p)):=by
 have h:ag (Xg gv) (d2 gv AV) bV 5 100 [.str s,.str p] aa.empty (λv _=>some v)=pick2 (!ltI ↑s.length ↑p.length) (pick2 (!ltI ↑p.length 0 && !ltI ↑s.length ↑p.length) (some (.bool (decide (bz s 0 ↑p.length=p)))) none) (some (.bool false)):=by kernel_rfl
 rw[h,cR]
 unfold preB
 split
 .
  rw[cF (by omega),cF (by omega)]
  show some (AV.bool (decide (bz s 0 ↑p.length=p)))=_;have e:bz s 0 (p.length:Int)=s.take p.length:=by unfold bz;simp
  rw[e]
 rw[decide_eq_false]
 intro h2
 have:=congrArg List.length h2
 simp only[List.length_take] at this
 omega
noncomputable def Yu (args:List AV):Option (Bool×List bA) :=
 match args with
 |[.str s,.str p]=>some (true,[.val (.bool (preB s p))])
 |_=>none
theorem adx (gv:Nat->List AV):aO (Xg gv) (aY (Xg gv) kn) 100 Yu :=
 aJ (λargs=>aL rfl args) (PT gv) λargs rs hg=>by
  unfold Yu at hg;split at hg
  .
   rename_i s p;simp only[Option.some.injEq,Prod.mk.injEq] at hg;obtain ⟨h1,rfl⟩:=hg;exact ⟨[.bool (preB s p)],bV,5,adw gv s p,rfl,rfl⟩
  cases hg
noncomputable def M3:List nY:=(100,[none,none],Yu)::M2
theorem Gh (gv:Nat->List AV):cr (Xg gv) (aY (Xg gv) kn) M3:=.cons (adx gv) (Wa gv)
noncomputable def d3 (gv:Nat->List AV) (β:Type):aT β:=kB (Xg gv) (Me M3) inl 200 β 20
theorem ady (gv:Nat->List AV) (β:Type):aV (Xg gv) (aY (Xg gv) kn) (d3 gv β):=dF (Gh gv) (λf h args=>aL h args) 200 20 β
end Go.Proofs.YtpaddkkfefgkfaaGreatDoor.lt

namespace Go.Proofs.YtpaddkkfefgkfaaGreatDoor.lt
open Go.Tv Go.Ev
set_option maxRecDepth 100000
def sR:List (List UInt8):=[[36,36],[60,60],[62,62],[43],[45],[42],[47],[37],[38],[124],[94],[126],[40],[41],[91],[93],[44],[58],[36]]
noncomputable def Kz (s:List UInt8) (a:Int):List (List UInt8)->Option AV
 |[]=>eI ([],0,4,a)
 |g::r=>pick2 (!ltI a 0 && !ltI ↑s.length a) (pick2 (preB (bz s a ↑s.length) g) (eI (g,IntKind.wrap .i64 (a + ↑g.length),0,0)) (Kz s a r)) none
def kG (s:List UInt8) (a:Nat):List (List UInt8)->Cut
 |[]=>([],0,4,a)
 |g::r=>if preB (s.drop a) g then (g,a+g.length,0,0) else kG s a r
def o7 (s:List UInt8) (a:Nat):Cut:=kG s a sR
theorem PW (s:List UInt8) (a:Int):ag (Xg iE) (d3 iE AV) bV 20 58 [.str s,.int .i64 a] aa.empty (λv _=>some v)=Kz s a sR:=by kernel_rfl
theorem Gi (s:List UInt8) (a:Nat):bz s (a:Int) (s.length:Int)=s.drop a:=by
 unfold bz
 simp only[Int.toNat_natCast]
 exact List.take_of_length_le (by simp)
theorem PY (s:List UInt8) (hs:s.length<1000000) (a:Nat) (ha:a<s.length):∀l:List (List UInt8),(∀g∈l,g.length<3)->Kz s a l=eI (kG s a l):=by
 intro l
 induction l with
 |nil=>intro _;rfl
 |
  cons g r ih =>
  intro hl;have hg:=hl g (List.mem_cons_self ..);rw[Kz,kG,cF (by omega),cF (by omega),Gi,i64_in (by omega) (by omega)]
  show pick2 (preB (s.drop a) g) _ _=_;rw[pick2_eq,ih λg h=>hl g (List.mem_cons_of_mem _ h)]
  split<;>rfl
theorem TZ (s:List UInt8) (hs:s.length<1000000) (a:Nat) (ha:a<s.length):ag (Xg iE) (d3 iE AV) bV 20 58 [.str s,.int .i64 a] aa.empty (λv _=>some v)=eI (o7 s a):=by
 rw[PW];exact PY s hs a ha sR (by decide)
theorem adz:aO (Xg iE) (aY (Xg iE) kn) 58 (DR o7) :=
 aJ (λargs=>aL rfl args) (ady iE) λargs rs hg=>by
  unfold DR at hg;split at hg
  .
   rename_i s a;simp only[Option.some.injEq,Prod.mk.injEq,Bool.and_eq_true,ltI_spec,Bool.not_eq_true',decide_eq_false_iff_not,decide_eq_true_eq,Nat.ble_eq] at hg;obtain ⟨⟨⟨h1,h2⟩,h3⟩,rfl⟩:=hg;obtain ⟨n,rfl⟩:∃n:Nat,a=n:=⟨a.toNat,by omega⟩
   rw[Int.toNat_natCast];exact ⟨[.str (o7 s n).1,.int .i64 (o7 s n).2.1,.agg [.int .i64 (o7 s n).2.2.1,.int .i64 (o7 s n).2.2.2]],bV,20,TZ s (by omega) n (by omega),rfl,rfl⟩
  cases hg
end Go.Proofs.YtpaddkkfefgkfaaGreatDoor.lt

namespace Go.Proofs.YtpaddkkfefgkfaaGreatDoor.lt
open Go.Tv Go.Ev
set_option maxRecDepth 100000
noncomputable def M5:List nY:=[(48,[none],TW fc),(55,[none,none],DR uj),(57,[none,none],DR oQ),(58,[none,none],DR o7),(56,[none,none],PS)]
theorem Ch:cr (Xg iE) (aY (Xg iE) kn) M5:=.cons (V8 iE) (.cons (adu iE) (.cons (adv iE) (.cons adz (.cons (adl iE) .nil))))
noncomputable def d5 (β:Type):aT β:=kB (Xg iE) (Me M5) inl 200 β 20
theorem adA (β:Type):aV (Xg iE) (aY (Xg iE) kn) (d5 β):=dF Ch (λf h args=>aL h args) 200 20 β
def pLx:List Bool:=[true,true,true,false,true,false]
noncomputable def Mn:bG:=⟨dG [0,3,4,5] pLx,.none,[]⟩
end Go.Proofs.YtpaddkkfefgkfaaGreatDoor.lt

namespace Go.Proofs.YtpaddkkfefgkfaaGreatDoor.lt
open Go.Tv Go.Ev
set_option maxRecDepth 100000
noncomputable def qp (v:AV) (H:aa):Option (AV×Option Row) :=
 match v with
 |.cB (.own i _::_)=>some (v,H.get i)
 |_=>some (v,none)
theorem T1 {X:cI} {kn:Ev.bP} {f:FuncId} (hk:∀args,kn f args=none) {g:List AV->Option (Bool×List bA)} {call:∀ β,aT β} (hcall:∀ β,aV X (aY X kn) (call β))
 (h:∀args rs,g args=some (true,rs)->∃vs an rounds o,ag X (call (AV×Option Row)) an rounds f args aa.empty qp=some (mh vs,o)/\∀H:aa,qp (mh vs) H=some (mh vs,o)->mV H [] vs rs):aO X (aY X kn) f g:=by
 intro args rs hg
 obtain ⟨vs,an,rounds,o,h1,h2⟩:=h args rs hg
 obtain ⟨v',H1,k1,k2⟩:=iy (nf:=false) (hcall _) (λh=>by cases h) h1
 have k3:v'=mh vs:=by
  unfold qp at k1;split at k1<;>exact (Prod.mk.inj (Option.some.inj k1)).1
 subst k3
 refine ⟨vs,H1,λS E ax hr hgl hl=>?_,h2 H1 k1⟩
 obtain ⟨S',vE,E',a1,a2,a3,a4,_⟩:=k2 S E ax hr hgl hl
 exact ⟨S',vE,E',dX hk a1,xZ a2,a3,a4⟩
abbrev aC:Ty:=.pair (.int .i64) (.pair (.int .i64) (.pair .str (.int .i64)))
abbrev Piece:=Int×Int×List UInt8×Int
abbrev eJ:=Option (AV×Option Row)
noncomputable def adB (s:List UInt8) (out:AV) (left:List UInt8):cj:=hU 107 [(0,.str s),(3,.ptr 0 0),(4,out),(5,.str left)]
noncomputable def jL0 (s:List UInt8) (r m:Nat) (left:List UInt8):eJ:=dH (Xg iE) (d5 (AV×Option Row)) Mn r 27 pLx qp m (adB s .bK left) mT
noncomputable def jL1 (s:List UInt8) (r m:Nat) (out:List Piece) (k:Nat) (left:List UInt8):eJ:=dH (Xg iE) (d5 (AV×Option Row)) Mn r 27 pLx qp m (adB s (.own 1 k) left) (kC [.cells 56 [.int .i64 0,.int .i64 0],.list 106 aC out 0 false false])
noncomputable def zG (f a:Int):eJ:=some (.cB [.bK,.agg [.int .i64 f,.int .i64 a]],none)
noncomputable def PZ (out:List Piece) (k:Nat):eJ:=some (.cB [.own 1 k,.agg [.int .i64 0,.int .i64 0]],some (.list 106 aC out 0 false false))
noncomputable def jO (s left:List UInt8):Int:=IntKind.wrap .i64 (↑s.length - ↑left.length)
noncomputable def kf (s:List UInt8) (e f a:Int) (p:Piece) (room:eJ->eJ) (go:Piece->List UInt8->eJ):eJ :=
 pick2 (!eqI f 0) (zG f a) (room (pick2 (!ltI e 0 && !ltI ↑s.length e) (go p (bz s e ↑s.length)) none))
noncomputable def Mo (s left:List UInt8) (kind:Int) (r:Cut) (room:eJ->eJ) (go:Piece->List UInt8->eJ):eJ :=
 pick2 (!ltI (jO s left) 0&&ltI (jO s left) ↑s.length&&Nat.ble s.length 999999) (kf s r.2.1 r.2.2.1 r.2.2.2 (kind,0,r.1,jO s left) room go) none
noncomputable def Mp (s left:List UInt8) (room:eJ->eJ) (go:Piece->List UInt8->eJ):eJ :=
 pick2 (Nat.ble s.length 999999) (kf s (dN s (jO s left)).2.1 (dN s (jO s left)).2.2.1 (dN s (jO s left)).2.2.2 (2,(dN s (jO s left)).1,[],jO s left) room go) none
noncomputable def xd (s left:List UInt8) (c:UInt8) (room:eJ->eJ) (go:Piece->List UInt8->eJ):eJ :=
 pick2 (eqI (aF c) 39) (Mp s left room go) (pick2 (eqI (aF c) 34) (Mo s left 3 (oQ s (jO s left).toNat) room go) (Mo s left 4 (o7 s (jO s left).toNat) room go))
noncomputable def DS (left:List UInt8) (skip:List UInt8->eJ):eJ:=pick2 (!ltI 1 0 && !ltI ↑left.length 1) (skip (bz left 1 ↑left.length)) none
noncomputable def KA (s left:List UInt8) (done:eJ) (skip:List UInt8->eJ) (room:eJ->eJ) (go:Piece->List UInt8->eJ):eJ :=
 pick2 (!decide (left=[])) (Option.rec (motive:=λ_=>eJ) none (λc =>
  pick2 (eqI (aF c) 32) (DS left skip) (pick2 (eqI (aF c) 9) (DS left skip) (pick2 (eqI (aF c) 59) (skip [])
   (pick2 (fc (aF c)) (Mo s left 1 (uj s (jO s left).toNat) room go) (pick2 (!ltI (aF c) 48) (pick2 (!ltI 57 (aF c)) (Mp s left room go) (xd s left c room go)) (xd s left c room go)))))) (aI left 0)) done
noncomputable def Wc (out:List Piece) (x:eJ):eJ:=pick2 (Nat.ble (out.length+1) 1000000) x none
theorem II (s:List UInt8) (r m:Nat) (left:List UInt8):jL0 s r (m+1) left=KA s left (zG 0 0) (jL0 s r m) (λx=>x) (λp=>jL1 s r m [p] 1):=by kernel_rfl
theorem IJ (s:List UInt8) (r m:Nat) (out:List Piece) (k:Nat) (left:List UInt8):jL1 s r (m+1) out k left=KA s left (PZ out k) (jL1 s r m out k) (Wc out) (λp=>jL1 s r m (out++[p]) (out.length+1)):=by kernel_rfl
theorem Yv (s:List UInt8) (m:Nat):ag (Xg iE) (d5 (AV×Option Row)) Mn m 27 [.str s] aa.empty qp=pick2 (ltI 1000 ↑s.length) (zG 3 1000) (jL0 s m m s):=by kernel_rfl
end Go.Proofs.YtpaddkkfefgkfaaGreatDoor.lt

namespace Go.Proofs.YtpaddkkfefgkfaaGreatDoor.lt
open Go.Tv Go.Ev
set_option maxRecDepth 100000
theorem Mq (s:List UInt8) (a:Nat):∀(rest:List UInt8) (e:Nat),(fO s a rest e).2.2.1=0->(e:Int)<=(fO s a rest e).2.1/\(fO s a rest e).2.1<=(e:Int)+rest.length:=by
 intro rest
 induction rest with
 |nil=>intro e _;simp only[fO];exact ⟨Int.le_refl _,by simp⟩
 |
  cons c r ih =>
  intro e h;rw[fO] at h ⊢;split at h
  .
   rename_i hm;rw[if_pos hm];split at h
   .
    exact absurd h (by simp)
   rename_i Wb;rw[if_neg Wb];have:=ih (e+1) h;simp only[List.length_cons];omega
  rename_i hm;rw[if_neg hm];simp only[List.length_cons];omega
theorem IK (s:List UInt8) (a:Nat):∀(rest:List UInt8) (e:Nat),(cZ s a rest e).2.2.1=0->(e:Int)<(cZ s a rest e).2.1/\(cZ s a rest e).2.1<=(e:Int)+rest.length:=by
 intro rest
 induction rest with
 |nil=>intro e h;exact absurd h (by simp[cZ])
 |
  cons c r ih =>
  intro e h;rw[cZ] at h ⊢;split at h
  .
   rename_i hm;rw[if_pos hm];simp only[List.length_cons];omega
  rename_i hm;rw[if_neg hm];split at h
  .
   rename_i hp;rw[if_pos hp];have:=ih (e+1) h;simp only[List.length_cons];omega
  exact absurd h (by simp)
theorem Mr (len:Nat):∀(rest:List UInt8) (k N i:Nat),(jb len rest k N i).2.2.1=0->(i:Int)<(jb len rest k N i).2.1/\(jb len rest k N i).2.1<=(i:Int)+rest.length:=by
 intro rest
 induction rest with
 |nil=>intro k N i h;exact absurd h (by simp[jb])
 |
  cons c r ih =>
  intro k N i h;rw[jb] at h ⊢;split at h
  .
   rename_i hm;rw[if_pos hm];split at h
   .
    exact absurd h (by simp)
   rename_i hk;rw[if_neg hk];simp only[List.length_cons];omega
  rename_i hm;rw[if_neg hm];split at h
  .
   exact absurd h (by simp)
  rename_i hk;rw[if_neg hk];split at h
  .
   exact absurd h (by simp)
  rename_i hk8;rw[if_neg hk8];have:=ih _ _ (i+1) h;simp only[List.length_cons];omega
theorem Ms (s:List UInt8) (a:Nat):∀l:List (List UInt8),(∀g∈l,0<g.length)->(kG s a l).2.2.1=0->(a:Int)<(kG s a l).2.1/\(kG s a l).2.1<=(s.length:Int):=by
 intro l
 induction l with
 |nil=>intro _ h;exact absurd h (by simp[kG])
 |
  cons g r ih =>
  intro hl h;have hg:=hl g (List.mem_cons_self ..);rw[kG] at h ⊢;split at h
  .
   rename_i hp;rw[if_pos hp];unfold preB at hp;have:=congrArg List.length (of_decide_eq_true hp);simp only[List.length_take,List.length_drop] at this;show (a:Int)<(a:Int)+g.length/\(a:Int)+g.length<=s.length;omega
  rename_i hp;rw[if_neg hp];exact ih (λg h=>hl g (List.mem_cons_of_mem _ h)) h
theorem Mt (w:List UInt8) (a:Nat) (h:(mY w a).2.2.1=0):(mY w a).2.1=(a:Int)+w.length:=by
 unfold mY at h ⊢
 split at h
 .
  exact absurd h (by simp)
 rename_i h1
 rw[if_neg h1]
 split at h
 .
  exact absurd h (by simp)
 rename_i h2
 rw[if_neg h2]
def cG (s:List UInt8) (c:UInt8) (a:Nat):Piece×Int×Int×Int :=
 if fc (aF c) then ((1,0,(uj s a).1,a),(uj s a).2)
 else if 48<=aF c/\aF c<=57\/aF c=39 then ((2,(dN s a).1,[],a),(dN s a).2)
 else if aF c=34 then ((3,0,(oQ s a).1,a),(oQ s a).2)
 else ((4,0,(o7 s a).1,a),(o7 s a).2)
theorem n9 {s:List UInt8} {a:Nat} {c:UInt8} {r:List UInt8} (hd:s.drop a=c::r) (h:(cG s c a).2.2.1=0):(a:Int)<(cG s c a).2.1/\(cG s c a).2.1<=s.length:=by
 have hl:s.length-a=r.length+1:=by have:=congrArg List.length hd;simpa using this
 have Yw:s.drop (a+1)=r:=by rw[<-List.drop_drop,hd];rfl
 have hgd:s.getD a 0=c:=by
  have h0:(s.drop a).getD 0 0=c:=by rw[hd];rfl
  rw[<-h0];simp[List.getD]
 unfold cG at h ⊢
 split at h
 .
  rename_i hf;rw[if_pos hf];unfold uj at h ⊢;rw[hd,fO] at h ⊢;have hm:mZ (aF c)=true:=by unfold mZ;rw[hf];rfl
  rw[if_pos hm,if_neg (by omega)] at h ⊢
  have:=Mq s a r (a+1) h;show (a:Int)<(fO s a r (a+1)).2.1/\(fO s a r (a+1)).2.1<=_;omega
 rename_i hf
 rw[if_neg hf]
 split at h
 .
  rename_i hn;rw[if_pos hn];unfold dN at h ⊢;rw[if_neg (by omega),if_neg (by omega),Int.toNat_natCast,hgd] at h ⊢
  split at h
  .
   rename_i hq;rw[if_pos hq];unfold jn at h ⊢;rw[Yw] at h ⊢;have:=Mr s.length r 0 0 (a+1) h;show (a:Int)<(jb s.length r 0 0 (a+1)).2.1/\(jb s.length r 0 0 (a+1)).2.1<=_;omega
  rename_i hq;rw[if_neg hq];have hn':48<=aF c/\aF c<=57:=by omega
  rw[if_pos hn'] at h ⊢;have:=Mt _ a h;rw[this];have hw:fB (aF c)=true:=by unfold fB;simp;omega
  have e:((s.drop a).takeWhile λc=>fB (aF c))=c::(r.takeWhile λc=>fB (aF c)):=by rw[hd,List.takeWhile_cons,if_pos hw]
  have h3:=(List.takeWhile_sublist (λc=>fB (aF c)) (l:=r)).length_le
  rw[e,List.length_cons];omega
 rename_i hn
 rw[if_neg hn]
 split at h
 .
  rename_i hq;rw[if_pos hq];unfold oQ at h ⊢;rw[Yw] at h ⊢;have:=IK s a r (a+1) h;show (a:Int)<(cZ s a r (a+1)).2.1/\(cZ s a r (a+1)).2.1<=_;omega
 rename_i hq
 rw[if_neg hq]
 exact Ms s a sR (by decide) h
end Go.Proofs.YtpaddkkfefgkfaaGreatDoor.lt

namespace Go.Proofs.YtpaddkkfefgkfaaGreatDoor.lt
open Go.Tv Go.Ev
set_option maxRecDepth 100000
theorem Mu (c:UInt8) (r:List UInt8):bz (c::r) 1 ↑(c::r).length=r:=by
 unfold bz
 simp
theorem Gj {s:List UInt8} {e f a:Int} {p:Piece} {room:eJ->eJ} {go:Piece->List UInt8->eJ} (h:f=0->0<=e/\e<=s.length) :
 kf s e f a p room go=if f=0 then room (go p (s.drop e.toNat)) else zG f a:=by
 unfold kf
 by_cases hf:f=0
 .
  rw[wW hf,if_pos hf];obtain ⟨h1,h2⟩:=h hf;rw[cF (by omega),cF (by omega)]
  obtain ⟨n,rfl⟩:∃n:Nat,e=n:=⟨e.toNat,by omega⟩
  show room (go p (bz s n s.length))=_;rw[Gi,Int.toNat_natCast]
 rw[wX hf,if_neg hf];rfl
theorem KB {s:List UInt8} (hs:s.length<=1000) {a:Nat} {c:UInt8} {r:List UInt8} (hd:s.drop a=c::r) (done:eJ) (skip:List UInt8->eJ) (room:eJ->eJ) (go:Piece->List UInt8->eJ) :
 KA s (c::r) done skip room go=if aF c=32\/aF c=9 then skip r else if aF c=59 then skip [] else if (cG s c a).2.2.1=0 then room (go (cG s c a).1 (s.drop (cG s c a).2.1.toNat)) else zG (cG s c a).2.2.1 (cG s c a).2.2.2:=by
 have hl:s.length-a=r.length+1:=by have:=congrArg List.length hd;simpa using this
 have hpl:jO s (c::r)=(a:Int):=by
  unfold jO;rw[List.length_cons,i64_in (by omega) (by omega)];omega
 have hend:=n9 hd
 have hb:DS (c::r) skip=skip r:=by
  unfold DS;rw[cF (by omega),cF (by rw[List.length_cons];omega),Mu];rfl
 have hg:(!ltI (a:Int) 0&&ltI (a:Int) ↑s.length&&Nat.ble s.length 999999)=true:=by
  rw[cF (by omega),kW (by omega),Nat.ble_eq_true_of_le (by omega)];rfl
 have hg2:Nat.ble s.length 999999=true:=Nat.ble_eq_true_of_le (by omega)
 unfold KA
 rw[decide_eq_false (by simp),show aI (c::r) 0=some c from ei [] r c]
 show pick2 (eqI (aF c) 32) _ (pick2 (eqI (aF c) 9) _ (pick2 (eqI (aF c) 59) _ _))=_
 rw[hb]
 by_cases h32:aF c=32
 .
  rw[wW h32,if_pos (.inl h32)]
 rw[wX h32]
 show pick2 (eqI (aF c) 9) _ _=_
 by_cases h9:aF c=9
 .
  rw[wW h9,if_pos (.inr h9)]
 rw[wX h9,if_neg (by omega)]
 show pick2 (eqI (aF c) 59) _ _=_
 by_cases h59:aF c=59
 .
  rw[wW h59,if_pos h59]
 rw[wX h59,if_neg h59]
 show pick2 (fc (aF c)) _ _=_
 have Ml:∀(kind:Int) (q:Cut),(q.2.2.1=0->(a:Int)<q.2.1/\q.2.1<=s.length)->Mo s (c::r) kind q room go=if q.2.2.1=0 then room (go (kind,0,q.1,(a:Int)) (s.drop q.2.1.toNat)) else zG q.2.2.1 q.2.2.2:=by
  intro kind q hq;unfold Mo;rw[hpl,hg];show kf _ _ _ _ _ _ _=_;exact Gj λh=>by have:=hq h;omega
 unfold cG at hend ⊢
 by_cases hf:fc (aF c)=true
 .
  rw[if_pos hf] at hend;rw[hf,if_pos rfl];show Mo _ _ _ _ _ _=_;rw[hpl,Int.toNat_natCast];exact Ml 1 _ hend
 rw[if_neg hf] at hend
 rw[if_neg hf,Bool.eq_false_iff.2 hf]
 show pick2 (!ltI (aF c) 48) (pick2 (!ltI 57 (aF c)) (Mp s (c::r) room go) (xd s (c::r) c room go)) (xd s (c::r) c room go)=_
 have adE:(48<=aF c/\aF c<=57\/aF c=39)->Mp s (c::r) room go=if (dN s (a:Int)).2.2.1=0 then room (go (2,(dN s (a:Int)).1,[],(a:Int)) (s.drop (dN s (a:Int)).2.1.toNat)) else zG (dN s (a:Int)).2.2.1 (dN s (a:Int)).2.2.2:=by
  intro hn;rw[if_pos hn] at hend;unfold Mp;rw[hpl,hg2];show kf _ _ _ _ _ _ _=_;exact Gj λh=>by have:=hend h;dsimp only at this;omega
 by_cases hn:48<=aF c/\aF c<=57
 .
  have hd3:48<=aF c/\aF c<=57\/aF c=39:=.inl hn;rw[cF (by omega),cF (by omega),if_pos hd3]
  exact adE hd3
 have hr:pick2 (!ltI (aF c) 48) (pick2 (!ltI 57 (aF c)) (Mp s (c::r) room go) (xd s (c::r) c room go)) (xd s (c::r) c room go)=xd s (c::r) c room go:=by
  rw[cR,cR];split
  .
   rw[if_neg (by omega)]
  rfl
 rw[hr]
 unfold xd
 by_cases h39:aF c=39
 .
  have hd3:48<=aF c/\aF c<=57\/aF c=39:=.inr h39;rw[wW h39,if_pos hd3];exact adE hd3
 have hd3:¬(48<=aF c/\aF c<=57\/aF c=39):=by omega
 rw[if_neg hd3] at hend
 rw[wX h39,if_neg hd3]
 show pick2 (eqI (aF c) 34) _ _=_
 rw[hpl,Int.toNat_natCast]
 by_cases SG:aF c=34
 .
  rw[if_pos SG] at hend;rw[wW SG,if_pos SG];exact Ml 3 _ hend
 rw[if_neg SG] at hend
 rw[wX SG,if_neg SG]
 exact Ml 4 _ hend
def jP (s:List UInt8):Nat->List UInt8->List Piece×Int×Int
 |0,_=>([],0,0)
 |_+1,[]=>([],0,0)
 |
  n+1,c::r =>
  if aF c=32\/aF c=9 then jP s n r else if aF c=59 then ([],0,0)
  else if (cG s c (s.length-(r.length+1))).2.2.1=0 then
   ((cG s c (s.length-(r.length+1))).1::(jP s n (s.drop (cG s c (s.length-(r.length+1))).2.1.toNat)).1,(jP s n (s.drop (cG s c (s.length-(r.length+1))).2.1.toNat)).2)
  else ([],(cG s c (s.length-(r.length+1))).2.2)
noncomputable def Mv (out:List Piece) (t:List Piece×Int×Int):eJ:=if t.2.1=0 then PZ (out++t.1) (out++t.1).length else zG t.2.1 t.2.2
theorem Yx (s:List UInt8) (hs:s.length<=1000) (rd:Nat):∀(n m:Nat) (out:List Piece) (left:List UInt8),left.length<=n->n<m->s.drop (s.length-left.length)=left->out.length+n<=1000 ->
 jL1 s rd m out out.length left=Mv out (jP s n left):=by
 intro n
 induction n with
 |
  zero =>
  intro m out left h1 h2 _ _;obtain ⟨m,rfl⟩:∃m',m=m'+1:=⟨m-1,by omega⟩
  have:left=[]:=List.length_eq_zero_iff.1 (by omega)
  subst this;rw[IJ];show PZ out out.length=_;unfold Mv jP;simp
 |
  succ n ih =>
  intro m out left h1 h2 h3 h4;obtain ⟨m,rfl⟩:∃m',m=m'+1:=⟨m-1,by omega⟩
  match left,h1,h3 with
  |
   [],_,_ =>
   rw[IJ];show PZ out out.length=_;unfold Mv jP;simp
  |
   c::r,h1,h3 =>
   rw[List.length_cons] at h1 h3
   have hle:r.length+1<=s.length:=by
    have:=congrArg List.length h3;simp only[List.length_drop,List.length_cons] at this;omega
   have hr:s.drop (s.length-r.length)=r:=by
    have:s.length-r.length=s.length-(r.length+1)+1:=by omega
    rw[this,<-List.drop_drop,h3];rfl
   rw[IJ,KB hs h3,jP];split
   .
    exact ih m out r (by omega) (by omega) hr (by omega)
   split
   .
    have:=ih m out [] (by simp) (by omega) (by simp) (by omega)
    rw[this];cases n<;>rfl
   split
   .
    rename_i hp;have he:=n9 h3 hp;unfold Wc;rw[Nat.ble_eq_true_of_le (by omega)]
    show jL1 s rd m (out++[_]) (out.length+1) _=_;have e:out.length+1=(out++[(cG s c (s.length-(r.length+1))).1]).length:=by simp
    rw[e,ih m _ _ (by simp only[List.length_drop];omega) (by omega) (by rw[List.length_drop];congr 1;omega) (by simp;omega)]
    unfold Mv;simp only[List.append_assoc,List.singleton_append]
   rename_i hp;unfold Mv;rw[if_neg hp]
end Go.Proofs.YtpaddkkfefgkfaaGreatDoor.lt

namespace Go.Proofs.YtpaddkkfefgkfaaGreatDoor.lt
open Go.Tv Go.Ev
set_option maxRecDepth 100000
noncomputable def KC (t:List Piece×Int×Int):eJ:=if t.2.1=0 then (if t.1=[] then zG 0 0 else PZ t.1 t.1.length) else zG t.2.1 t.2.2
theorem Yy (s:List UInt8) (hs:s.length<=1000) (rd:Nat):∀(n m:Nat) (left:List UInt8),left.length<=n->n<m->s.drop (s.length-left.length)=left->n<=1000 ->
 jL0 s rd m left=KC (jP s n left):=by
 intro n
 induction n with
 |
  zero =>
  intro m left h1 h2 _ _;obtain ⟨m,rfl⟩:∃m',m=m'+1:=⟨m-1,by omega⟩
  have:left=[]:=List.length_eq_zero_iff.1 (by omega)
  subst this;rw[II];rfl
 |
  succ n ih =>
  intro m left h1 h2 h3 h4;obtain ⟨m,rfl⟩:∃m',m=m'+1:=⟨m-1,by omega⟩
  match left,h1,h3 with
  |
   [],_,_ =>
   rw[II];rfl
  |
   c::r,h1,h3 =>
   rw[List.length_cons] at h1 h3
   have hle:r.length+1<=s.length:=by
    have:=congrArg List.length h3;simp only[List.length_drop,List.length_cons] at this;omega
   have hr:s.drop (s.length-r.length)=r:=by
    have:s.length-r.length=s.length-(r.length+1)+1:=by omega
    rw[this,<-List.drop_drop,h3];rfl
   rw[II,KB hs h3,jP];split
   .
    exact ih m r (by omega) (by omega) hr (by omega)
   split
   .
    have:=ih m [] (by simp) (by omega) (by simp) (by omega)
    rw[this];cases n<;>rfl
   split
   .
    rename_i hp;have he:=n9 h3 hp;have:=Yx s hs rd n m [(cG s c (s.length-(r.length+1))).1] (s.drop (cG s c (s.length-(r.length+1))).2.1.toNat) (by simp only[List.length_drop];omega) (by omega) (by rw[List.length_drop];congr 1;omega) (by simp;omega)
    refine this.trans ?_;unfold Mv KC;simp only[List.singleton_append];split
    .
     rw[if_neg (by simp)]
    rfl
   rename_i hp;unfold KC;rw[if_neg hp]
def di (s:List UInt8):List Piece×Int×Int :=
 if 1000<s.length then ([],3,1000) else if (jP s s.length s).2.1=0 then ((jP s s.length s).1,0,0) else ([],(jP s s.length s).2)
noncomputable def Yz (args:List AV):Option (Bool×List bA) :=
 match args with
 |[.str s]=>some (true,[.list 106 aC (di s).1,.val (.agg [.int .i64 (di s).2.1,.int .i64 (di s).2.2])])
 |_=>none
theorem P0 (s:List UInt8):ag (Xg iE) (d5 (AV×Option Row)) Mn (s.length+1) 27 [.str s] aa.empty qp =
 if (di s).1=[] then zG (di s).2.1 (di s).2.2 else some (.cB [.own 1 (di s).1.length,.agg [.int .i64 (di s).2.1,.int .i64 (di s).2.2]],some (.list 106 aC (di s).1 0 false false)):=by
 rw[Yv]
 unfold di
 by_cases hl:1000<s.length
 .
  rw[kW (by omega),if_pos hl,if_pos rfl]
 rw[cF (by omega),if_neg hl]
 show jL0 s (s.length+1) (s.length+1) s=_
 rw[Yy s (by omega) _ s.length _ s (Nat.le_refl _) (by omega) (by simp) (by omega)]
 unfold KC
 by_cases hf:(jP s s.length s).2.1=0
 .
  rw[if_pos hf,if_pos hf];rfl
 rw[if_neg hf,if_neg hf,if_pos rfl]
theorem adF:aO (Xg iE) (aY (Xg iE) kn) 27 Yz :=
 T1 (λargs=>aL rfl args) adA λargs rs hg=>by
  unfold Yz at hg;split at hg
  .
   rename_i s;simp only[Option.some.injEq,Prod.mk.injEq] at hg;obtain ⟨_,rfl⟩:=hg;by_cases h:(di s).1=[]
   .
    refine ⟨[.bK,.agg [.int .i64 (di s).2.1,.int .i64 (di s).2.2]],Mn,s.length+1,none,?_,λH _=>⟨rfl,.inr ⟨rfl,h,rfl,rfl,trivial⟩⟩⟩
    rw[P0,if_pos h];rfl
   refine ⟨[.own 1 (di s).1.length,.agg [.int .i64 (di s).2.1,.int .i64 (di s).2.2]],Mn,s.length+1,some (.list 106 aC (di s).1 0 false false),?_,λH hH=>⟨rfl,.inl ⟨1,0,false,rfl,?_,by simp,rfl,rfl,trivial⟩⟩⟩
   .
    rw[P0,if_neg h];rfl
   exact (Prod.mk.inj (Option.some.inj hH)).2
  cases hg
end Go.Proofs.YtpaddkkfefgkfaaGreatDoor.lt

namespace Go.Proofs.YtpaddkkfefgkfaaGreatDoor.lt
open Go.Tv Go.Ev
set_option maxRecDepth 100000
noncomputable section
def pN1:List Bool:=[true,true,false,true,false]
def T3:bG:=⟨dG [0,19,20] pN1,.none,[]⟩
theorem Gm {s:List UInt8} (hs:s.length<1000000) {p:UInt8->Bool} {j:Nat->Int->Option AV} {A B:Option AV} (step:∀m i,j (m+1) i=pick2 (ltI i ↑s.length) (Option.rec (motive:=λ_=>Option AV) none (λc=>pick2 (!p c) A (j m (IntKind.wrap .i64 (i+1)))) (aI s i)) B) :
 ∀(rest pre:List UInt8) (m:Nat),s=pre++rest->rest.length<m->j m pre.length=if rest.all p=true then B else A:=by
 intro rest
 induction rest with
 |
  nil =>
  intro pre m he hm;obtain ⟨m,rfl⟩:∃m',m=m'+1:=⟨m-1,by simp at hm;omega⟩
  have hl:s.length=pre.length:=by rw[he];simp
  rw[step,cF (by omega)];rfl
 |
  cons c rest ih =>
  intro pre m he hm;obtain ⟨m,rfl⟩:∃m',m=m'+1:=⟨m-1,by simp at hm;omega⟩
  have hl:s.length=pre.length+(rest.length+1):=by rw[he];simp
  have hg:aI s (pre.length:Int)=some c:=by rw[he];exact ei pre rest c
  have hin:=ih (pre++[c]) m (by rw[he];simp) (by simp at hm;omega)
  rw[List.length_append] at hin;have hin:j m ((pre.length:Int)+1)=if rest.all p=true then B else A:=hin;rw[step,kW (by omega),hg,i64_in (n:=(pre.length:Int)+1) (by omega) (by omega)]
  show pick2 (!p c) A (j m ((pre.length:Int)+1))=_;rw[hin];cases hp:p c
  .
   simp[hp]
  simp[hp]
def xe (c:UInt8):Bool:=mZ (aF c)
def ay (s:List UInt8):Bool:=match s with
 |[]=>false
 |c::r=>decide (r.length<60)&&fc (aF c)&&(c::r).all xe
noncomputable def jN1 (gv:Nat->List AV) (s:List UInt8) (r m:Nat) (i:Int):Option AV:=dH (Xg gv) (d2 gv AV) T3 r 15 pN1 (λv _=>some v) m (hU 29 [(0,.str s),(19,.int .i64 s.length),(20,.int .i64 i)]) aa.empty
theorem YD (gv:Nat->List AV) (s:List UInt8) (r m:Nat) (i:Int):jN1 gv s r (m+1) i=pick2 (ltI i ↑s.length) (Option.rec (motive:=λ_=>Option AV) none (λc=>pick2 (!xe c) (some (.bool false)) (jN1 gv s r m (IntKind.wrap .i64 (i+1)))) (aI s i)) (some (.bool true)):=by kernel_rfl
theorem T4 (gv:Nat->List AV) (s:List UInt8) (r:Nat):ag (Xg gv) (d2 gv AV) T3 r 15 [.str s] aa.empty (λv _=>some v) =
 pick2 (eqI ↑s.length 0) (some (.bool false)) (pick2 (ltI 60 ↑s.length) (some (.bool false)) (Option.rec (motive:=λ_=>Option AV) none (λc=>pick2 (!fc (aF c)) (some (.bool false)) (jN1 gv s r r 0)) (aI s 0))):=by kernel_rfl
theorem IM {n:Int} (h:fc n=true):mZ n=true:=by unfold mZ;rw[h];rfl
theorem adK (gv:Nat->List AV) (s:List UInt8):ag (Xg gv) (d2 gv AV) T3 100 15 [.str s] aa.empty (λv _=>some v)=some (.bool (ay s)):=by
 rw[T4]
 cases s with
 |nil=>rfl
 |
  cons c r =>
  show _=some (AV.bool (decide (r.length<60)&&fc (aF c)&&(c::r).all xe));rw[wX (by simp;omega)]
  by_cases h:r.length<60
  .
   rw[cF (by simp;omega),decide_eq_true h]
   have hl:=Gm (s:=c::r) (by simp;omega) (YD gv (c::r) 100) (c::r) [] 100 rfl (by simp;omega)
   have hl:jN1 gv (c::r) 100 100 0=_:=hl;rw[hl];show pick2 (!fc (aF c)) _ _=_;cases fc (aF c)
   .
    rfl
   cases (c::r).all xe<;>rfl
  rw[kW (by simp;omega),decide_eq_false h];rfl
def gNm (args:List AV):Option (Bool×List bA) :=
 match args with
 |[.str s]=>some (true,[.val (.bool (ay s))])
 |_=>none
theorem We (gv:Nat->List AV):aO (Xg gv) (aY (Xg gv) kn) 15 gNm :=
 aJ (λargs=>aL rfl args) (PT gv) λargs rs hg=>by
  unfold gNm at hg;split at hg
  .
   rename_i s;simp only[Option.some.injEq,Prod.mk.injEq] at hg;obtain ⟨_,rfl⟩:=hg;exact ⟨[.bool (ay s)],T3,100,adK gv s,rfl,rfl⟩
  cases hg
end
end Go.Proofs.YtpaddkkfefgkfaaGreatDoor.lt

namespace Go.Proofs.YtpaddkkfefgkfaaGreatDoor.lt
open Go.Tv Go.Ev
set_option maxRecDepth 100000
def Stop:List UInt8->Prop
 |[]=>True
 |c::_=>mZ (aF c)=false
def ald:List UInt8:=[101,113,117]
def air:List UInt8:=[115,116,114,117,99]
theorem Nc {s:List UInt8} {a:Nat} {d:UInt8} {r:List UInt8} (hd:s.drop a=d::r) :
 dN s (a:Int)=if aF d=39 then jn s a else if 48<=aF d/\aF d<=57 then mY ((s.drop a).takeWhile λc=>fB (aF c)) a else (0,0,6,(a:Int)):=by
 have hl:s.length-a=r.length+1:=by have:=congrArg List.length hd;simpa using this
 have hgd:s.getD a 0=d:=by
  have h0:(s.drop a).getD 0 0=d:=by rw[hd];rfl
  rw[<-h0];simp[List.getD]
 unfold dN
 rw[if_neg (by omega),if_neg (by omega),Int.toNat_natCast,hgd]
def ale:List UInt8:=[32,101,113,117,32,53]
end Go.Proofs.YtpaddkkfefgkfaaGreatDoor.lt
