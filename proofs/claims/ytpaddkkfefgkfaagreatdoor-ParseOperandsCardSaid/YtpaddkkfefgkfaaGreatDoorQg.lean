/- Expressions: the tokens of one. -/
import Derived.Test.YtpaddkkfefgkfaaGreatDoorQf
set_option linter.unusedVariables false
set_option linter.unusedSimpArgs false
namespace Go.Proofs.YtpaddkkfefgkfaaGreatDoor.ex
open Go.Tv Go.Ev Go.Px
set_option maxRecDepth 100000
noncomputable section
theorem Su (op:Int):ag X0 (cN M8 [] AV) bK 5 202 [.int .i64 op] aa.empty (λv _=>some v) =
 pick2 (eqI op 3) (some (.str [36])) (pick2 (eqI op 4) (some (.str [36,36])) ((λrest=>pick2 (eqI op 5) (pick2 (eqI op 5) (some (.str [45])) rest) (pick2 (eqI op 11) (some (.str [45])) rest))
  (pick2 (eqI op 6) (some (.str [126])) (pick2 (eqI op 7) (some (.str [42])) (pick2 (eqI op 8) (some (.str [47])) (pick2 (eqI op 9) (some (.str [37])) (pick2 (eqI op 10) (some (.str [43])) (pick2 (eqI op 12) (some (.str [60,60])) (pick2 (eqI op 13) (some (.str [62,62])) (pick2 (eqI op 14) (some (.str [38])) (pick2 (eqI op 15) (some (.str [94])) (some (.str [124]))))))))))))):=by kernel_rfl
theorem abG (op:Int):ag X0 (cN M8 [] AV) bK 5 202 [.int .i64 op] aa.empty (λv _=>some v)=some (.str (Px.jq op)):=by
 rw[Su]
 simp only[az]
 unfold Px.jq
 by_cases h3:op=3
 .
  simp only[if_pos h3]
 simp only[if_neg h3]
 by_cases h4:op=4
 .
  simp only[if_pos h4]
 simp only[if_neg h4]
 by_cases h5:op=5
 .
  simp only[if_pos h5,if_pos (show op=5\/op=11 from .inl h5)]
 simp only[if_neg h5]
 by_cases h11:op=11
 .
  simp only[if_pos h11,if_pos (show op=5\/op=11 from .inr h11)]
 simp only[if_neg h11,if_neg (show ¬(op=5\/op=11) from λh=>h.elim h5 h11)]
 repeat' split
 all_goals first|rfl|(exfalso;omega)
def gSo (args:List AV):Option (Bool×List aZ) :=
 match args with
 |[.int .i64 op]=>some (true,[.val (.str (Px.jq op))])
 |_=>none
theorem Xh:aI X0 cI 202 gSo :=
 aG (λargs=>lt.aQ rfl args) (bR UO n0) λargs rs hg=>by
  unfold gSo at hg;split at hg
  .
   rename_i op;simp only[Option.some.injEq,Prod.mk.injEq] at hg;obtain ⟨h1,rfl⟩:=hg;exact ⟨[.str (Px.jq op)],bK,5,abG op,rfl,rfl⟩
  cases hg
def M9:List kH:=(202,[none],gSo)::M8
theorem O3:cg X0 cI M9:=.cons Xh UO
abbrev UQ:=List Nd->Int->Bool->Option (List Tok)
def gXt (rec:UQ) (ins:List bI):Option (Bool×List bI×List bI) :=
 match ins with
 |
  [.list t0 t l,.val X,.val (.int .i64 a),.val (.bool w)] =>
  match fk t aH l,Al bW X with
  |some l,some x=>some (Nat.beq t0 106&&((rec x a w).isSome&&Nat.ble (l.length+((rec x a w).getD []).length) 1000000),[],[.list 106 aH (l++(rec x a w).getD [])])
  |_,_=>none
 |_=>none
def cXt (rec:UQ):yU:=⟨none,[some (106,aH),none,none,none],gXt rec⟩
def N2 (rec:UQ):List jo:=[(186,cXt rec)]
abbrev Jz:=Nat×Option Row
abbrev wN:=Option Jz
def kT (v:AV) (H:aa):wN :=
 match v with
 |.own i n=>some (n,H.get i)
 |_=>none
def Sv (l:List Tok) (x:List Nd) (a:Int) (w:Bool):List bI:=[.list 106 aH l,.val (.bA bW x),.val (.int .i64 a),.val (.bool w)]
def outT (l:List Tok) (n:Nat):wN:=some (n,some (.list 106 aH l 0 false false))
def zb (l:List Tok) (t:Tok) (k:List Tok->Nat->wN):wN:=pick2 (Nat.ble (l.length+1) 1000000) (k (l++[t]) (l.length+1)) none
def O4 (rec:UQ) (x:List Nd) (a:Int) (l:List Tok) (k:List Tok->Nat->wN):wN :=
 pick2 (true&&((rec x a false).isSome&&Nat.ble (l.length+((rec x a false).getD []).length) 1000000)) (k (l++(rec x a false).getD []) (l++(rec x a false).getD []).length) none
def biT (rec:UQ) (x:List Nd) (nd:Nd) (w:Bool) (l:List Tok):wN :=
 O4 rec x nd.2.2.2.1 l λl _=>zb l (oF (Px.jq nd.1)) λl _=>O4 rec x nd.2.2.2.2 l λl n=>pick2 (!w) (zb l (oF [41]) outT) (outT l n)
def HH (rec:UQ) (x:List Nd) (w:Bool) (l:List Tok) (nd:Nd):wN :=
 pick2 (eqI nd.1 1) (zb l (2,nd.2.1,[],0) outT) (pick2 (eqI nd.1 2) (zb l (1,0,nd.2.2.1,0) outT) (pick2 (!ltI 4 nd.1) (zb l (oF (Px.jq nd.1)) outT)
  (pick2 (!ltI 6 nd.1) (zb l (oF (Px.jq nd.1)) λl _=>O4 rec x nd.2.2.2.1 l outT)
   (pick2 (!w) (zb l (oF [40]) λl _=>biT rec x nd w l) (biT rec x nd w l)))))
set_option maxRecDepth 100000 in
theorem Sw (rec:UQ) (l:List Tok) (x:List Nd) (a:Int) (w:Bool) (r:Nat):ag X0 (cN M9 (N2 rec) Jz) bK r 186 (Tv.cellsIn 0 (Sv l x a w)) (aJ aa.empty (Sv l x a w)) kT =
 Option.rec (motive:=λ_=>wN) none (λnd=>HH rec x w l nd) (aS x a):=by kernel_rfl
def toT (l:List Tok):Option (List Tok)->wN
 |some r=>outT (l++r) (l++r).length
 |none=>none
theorem l8 {l:List Tok} {t:Tok} {k:List Tok->Nat->wN} (h:l.length+1<=1000000):zb l t k=k (l++[t]) (l++[t]).length:=by
 unfold zb
 rw[fG h];simp
theorem tX {rec:UQ} {x:List Nd} {a:Int} {l r:List Tok} {k:List Tok->Nat->wN} (hr:rec x a false=some r) (h:l.length+r.length<=1000000):O4 rec x a l k=k (l++r) (l++r).length:=by
 unfold O4
 rw[hr]
 show pick2 (true&&(true&&Nat.ble (l.length+r.length) 1000000)) _ _=_
 rw[fG h];rfl
theorem abJ (k:Nat) (l:List Tok) (x:List Nd) (a:Int) (w:Bool) (u:List Tok) (hu:eK x (k+1) a w=some u) (hl:l.length+u.length<=1000000) (r:Nat) :
 ag X0 (cN M9 (N2 λx=>eK x k) Jz) bK r 186 (Tv.cellsIn 0 (Sv l x a w)) (aJ aa.empty (Sv l x a w)) kT=outT (l++u) (l++u).length:=by
 rw[Sw,getI_at?]
 unfold eK at hu
 cases dJ:at? x a with
 |none=>rw[dJ] at hu;cases hu
 |
  some nd =>
  rw[dJ] at hu;simp only at hu;show HH _ _ _ _ nd=_;unfold HH;simp only[az,cj];by_cases h1:nd.1=1
  .
   rw[if_pos h1] at hu ⊢;cases hu;exact l8 (by simpa using hl)
  rw[if_neg h1] at hu ⊢;by_cases h2:nd.1=2
  .
   rw[if_pos h2] at hu ⊢;cases hu;exact l8 (by simpa using hl)
  rw[if_neg h2] at hu ⊢;by_cases h4:nd.1<=4
  .
   rw[if_pos h4] at hu ⊢;cases hu;exact l8 (by simpa using hl)
  rw[if_neg h4] at hu ⊢;by_cases h6:nd.1<=6
  .
   rw[if_pos h6] at hu ⊢;split at hu
   .
    rename_i v hv;cases hu;simp only[List.length_cons] at hl;rw[l8 (by omega),tX (rec:=λx=>eK x k) hv (by simp;omega)]
    simp
   cases hu
  rw[if_neg h6] at hu ⊢;split at hu
  .
   rename_i v1 v2 hv1 hv2;cases hu;cases w with
   |
    true =>
    simp only[if_true,List.nil_append,List.append_nil,List.length_append,List.length_cons] at hl;show biT _ _ _ _ _=_;unfold biT;rw[tX (rec:=λx=>eK x k) hv1 (by omega),l8 (by simp;omega),tX (rec:=λx=>eK x k) hv2 (by simp;omega)]
    show outT _ _=_;simp
   |
    false =>
    simp only[Bool.false_eq_true,if_false,List.length_append,List.length_cons,List.length_nil] at hl;show zb _ _ _=_;rw[l8 (by omega)]
    unfold biT;rw[tX (rec:=λx=>eK x k) hv1 (by simp;omega),l8 (by simp;omega),tX (rec:=λx=>eK x k) hv2 (by simp;omega)]
    show zb _ _ _=_;rw[l8 (by simp;omega)]
    simp
  cases hu
theorem O5:∀k:Nat,dX X0 cI 186 (cXt λx=>eK x k)
 |
  0=>by
  intro ins outs rs hg;exfalso;have hg:gXt (λx=>eK x 0) ins=some (true,outs,rs):=hg
  unfold gXt at hg;split at hg
  .
   split at hg
   .
    simp[eK] at hg
   cases hg
  cases hg
 |
  k+1=>by
  intro ins outs rs hg;have hg:gXt (λx=>eK x (k+1)) ins=some (true,outs,rs):=hg
  show ins.length=_->_;unfold gXt at hg;split at hg
  case h_2=>cases hg
  rename_i t0 t l X a w _;split at hg
  case h_2=>cases hg
  rename_i l' x hl hx;obtain ⟨rfl,sR⟩:=bh hl;have sR:l=l':=sR;subst sR;simp only[Option.some.injEq,Prod.mk.injEq,Bool.and_eq_true] at hg;obtain ⟨⟨g0,g1,g2⟩,rfl,rfl⟩:=hg;obtain rfl:=Nat.eq_of_beq_eq_true g0;obtain ⟨u,hu⟩:=Option.isSome_iff_exists.1 g1;rw[hu] at g2 ⊢;have g2:=Nat.le_of_ble_eq_true g2;rcases jr hx with rfl|⟨rfl,rfl⟩
  .
   have hrun:=abJ k l x a w u hu g2 5;unfold outT at hrun;obtain ⟨v,M1,h1,h2⟩:=lu (λargs=>lt.aQ rfl args) (bR O3 (.cons (O5 k) .nil) Jz) hrun
   intro _;unfold kT at h1;split at h1
   .
    rename_i id n;simp only[Option.some.injEq,Prod.mk.injEq] at h1;obtain ⟨rfl,hrow⟩:=h1;exact ⟨[.own id (l++u).length],M1,h2 [.own id (l++u).length] rfl,.inl ⟨id,0,false,rfl,hrow,by simp,trivial⟩⟩
   cases h1
  have:at? ([]:List Nd) a=none:=by cases a<;>rfl
  unfold eK at hu;rw[this] at hu;cases hu
theorem tY:∀(t:T) (w:Bool),(t.toks w).length<=3*t.size
 |.leaf _,_=>by simp[T.toks,T.size]
 |.un _ a,_=>by have:=tY a false;simp only[T.toks,T.size,List.length_cons];omega
 |
  .bi _ u v,w=>by
  have h1:=tY u false;have h2:=tY v false;cases w<;>simp[T.toks,T.size]<;>omega
def wC (x:List Nd):List Tok:=(eK x 201 (x.length-1) true).getD []
theorem HI {x:List Nd} (h:gI ay x=0):∃t:T,t.ok ay/\x=t.post 0/\eK x 201 (x.length-1) true=some (t.toks true)/\wC x=t.toks true/\(t.toks true).length<=600/\0<x.length/\x.length<=200:=by
 obtain ⟨t,h1,h2,h3⟩:=OT h
 have hs:t.size=x.length:=by rw[h2,T.eJ]
 have ht:=qB t h1 x [] [] 201 true (by rw[h2];simp) (by omega)
 simp only[List.length_nil,Nat.zero_add] at ht
 rw[hs] at ht
 have:=tY t true
 have:=t.size_pos
 exact ⟨t,h1,h2,ht,by unfold wC;rw[ht];rfl,by omega,by omega,h3⟩
def yN (args:List AV):Option (Bool×List aZ) :=
 match args with
 |
  [L]=>match Al bW L with
  |some x=>some (true,[.list 106 aH (if gI ay x=0 then wC x else []),.val (.int .i64 (gI ay x))])
  |none=>none
 |_=>none
abbrev cT:(β:Type)->aU β:=cN M9 (N2 λx=>eK x 201)
set_option maxRecDepth 100000 in
theorem BM (x:List Nd) (r:Nat):ag X0 (cT _) bK r 159 [.bA bW x] aa.empty pQ =
 pick2 (!eqI (gI ay x) 0) (some (.bZ [.br,.int .i64 (gI ay x)],none))
  (pick2 (true&&((eK x 201 (IntKind.wrap .i64 (x.length-1)) true).isSome&&Nat.ble (([]:List Tok).length+((eK x 201 (IntKind.wrap .i64 (x.length-1)) true).getD []).length) 1000000))
   (some (.bZ [.own 0 ([]++(eK x 201 (IntKind.wrap .i64 (x.length-1)) true).getD []).length,.int .i64 0],some (.list 106 aH ([]++(eK x 201 (IntKind.wrap .i64 (x.length-1)) true).getD []) 0 false false))) none):=by kernel_rfl
set_option maxRecDepth 100000 in
theorem HJ (r:Nat):ag X0 (cT _) bK r 159 [.br] aa.empty pQ=some (.bZ [.br,.int .i64 2],none):=by kernel_rfl
theorem O6:aI X0 cI 159 yN:=by
 intro args rs hg
 unfold yN at hg
 split at hg
 case h_2=>cases hg
 rename_i L
 split at hg
 case h_2=>cases hg
 rename_i x hx
 simp only[Option.some.injEq,Prod.mk.injEq] at hg
 obtain ⟨_,rfl⟩:=hg
 have fin:∀(o:Option Row) (v0:AV),ag X0 (cT _) bK 5 159 [L] aa.empty pQ=some (.bZ [v0,.int .i64 (gI ay x)],o)->((v0 = .br/\gI ay x≠0)\/∃id,v0 = .own id (wC x).length/\o=some (.list 106 aH (wC x) 0 false false)/\gI ay x=0) ->
  ∃vs H1,CZ X0 cI 159 [L] vs H1/\lY H1 [] vs [.list 106 aH (if gI ay x=0 then wC x else []),.val (.int .i64 (gI ay x))]:=λo v0 h hv=>by
  obtain ⟨v,M1,h1,h2⟩:=lu (λargs=>lt.aQ rfl args) (bR O3 (.cons (O5 201) .nil) (AV×Option Row)) h
  have e:=y8 h1;subst e;refine ⟨_,M1,h2 [v0,.int .i64 (gI ay x)] rfl,rfl,?_⟩;rcases hv with ⟨rfl,hne⟩|⟨id,rfl,rfl,h0⟩
  .
   exact .inr ⟨rfl,by rw[if_neg hne],rfl,rfl,trivial⟩
  rw[if_pos h0];exact .inl ⟨id,0,false,rfl,(Prod.mk.inj (Option.some.inj h1)).2,by simp,rfl,rfl,trivial⟩
 rcases jr hx with rfl|⟨rfl,rfl⟩
 .
  by_cases h0:gI ay x=0
  .
   obtain ⟨t,k1,k2,k3,k4,k5,k6,k7⟩:=HI h0;refine fin (some (.list 106 aH (wC x) 0 false false)) (.own 0 (wC x).length) ?_ (.inr ⟨0,rfl,rfl,h0⟩);rw[BM,aT,if_pos h0,i64_in (n:=(x.length:Int)-1) (by omega) (by omega),k3,k4,h0]
   show pick2 (true&&(true&&Nat.ble (([]:List Tok).length+(t.toks true).length) 1000000)) _ _=_;rw[fG (by simp;omega)]
   rfl
  refine fin none .br ?_ (.inl ⟨rfl,h0⟩);rw[BM,aT,if_neg h0]
 exact fin none .br (HJ 5) (.inl ⟨rfl,by decide⟩)
def M10:List kH:=(159,[some bW],yN)::M9
theorem Xi:cg X0 cI M10:=.cons O6 O3
end
end Go.Proofs.YtpaddkkfefgkfaaGreatDoor.ex
