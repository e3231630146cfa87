/- Expressions: the tokens of one. -/
import Derived.Test.YtpaddkkfefgkfaaGreatDoorQf
set_option linter.unusedVariables false
set_option linter.unusedSimpArgs false
namespace Go.Proofs.YtpaddkkfefgkfaaGreatDoor.ex
open Go.Tv Go.Ev Go.Px
set_option maxRecDepth 100000
noncomputable section
theorem Ug (op:Int):ag X0 (cN M8 [] AV) bV 5 202 [.int .i64 op] aa.empty (λv _=>some v) =
 pick2 (eqI op 3) (some (.str [36])) (pick2 (eqI op 4) (some (.str [36,36])) ((λrest=>pick2 (eqI op 5) (pick2 (eqI op 5) (some (.str [45])) rest) (pick2 (eqI op 11) (some (.str [45])) rest))
  (pick2 (eqI op 6) (some (.str [126])) (pick2 (eqI op 7) (some (.str [42])) (pick2 (eqI op 8) (some (.str [47])) (pick2 (eqI op 9) (some (.str [37])) (pick2 (eqI op 10) (some (.str [43])) (pick2 (eqI op 12) (some (.str [60,60])) (pick2 (eqI op 13) (some (.str [62,62])) (pick2 (eqI op 14) (some (.str [38])) (pick2 (eqI op 15) (some (.str [94])) (some (.str [124]))))))))))))):=by kernel_rfl
theorem adZ (op:Int):ag X0 (cN M8 [] AV) bV 5 202 [.int .i64 op] aa.empty (λv _=>some v)=some (.str (Px.gm op)):=by
 rw[Ug]
 simp only[aB]
 unfold Px.gm
 by_cases h3:op=3
 .
  simp only[if_pos h3]
 simp only[if_neg h3]
 by_cases h4:op=4
 .
  simp only[if_pos h4]
 simp only[if_neg h4]
 by_cases h5:op=5
 .
  simp only[if_pos h5,if_pos (show op=5\/op=11 from .inl h5)]
 simp only[if_neg h5]
 by_cases h11:op=11
 .
  simp only[if_pos h11,if_pos (show op=5\/op=11 from .inr h11)]
 simp only[if_neg h11,if_neg (show ¬(op=5\/op=11) from λh=>h.elim h5 h11)]
 repeat' split
 all_goals first|rfl|(exfalso;omega)
def gSo (args:List AV):Option (Bool×List bA) :=
 match args with
 |[.int .i64 op]=>some (true,[.val (.str (Px.gm op))])
 |_=>none
theorem YQ:aO X0 cg 202 gSo :=
 aJ (λargs=>lt.aL rfl args) (cV Wp n0) λargs rs hg=>by
  unfold gSo at hg;split at hg
  .
   rename_i op;simp only[Option.some.injEq,Prod.mk.injEq] at hg;obtain ⟨h1,rfl⟩:=hg;exact ⟨[.str (Px.gm op)],bV,5,adZ op,rfl,rfl⟩
  cases hg
def M9:List nY:=(202,[none],gSo)::M8
theorem Wq:cr X0 cg M9:=.cons YQ Wp
abbrev Wr:=List Nd->Int->Bool->Option (List Tok)
def gXt (rec:Wr) (ins:List bu):Option (Bool×List bu×List bu) :=
 match ins with
 |
  [.list t0 t l,.val X,.val (.int .i64 a),.val (.bool w)] =>
  match eP t aC l,IW bB X with
  |some l,some x=>some (Nat.beq t0 106&&((rec x a w).isSome&&Nat.ble (l.length+((rec x a w).getD []).length) 1000000),[],[.list 106 aC (l++(rec x a w).getD [])])
  |_,_=>none
 |_=>none
def cXt (rec:Wr):xE:=⟨none,[some (106,aC),none,none,none],gXt rec⟩
def N2 (rec:Wr):List gJ:=[(186,cXt rec)]
abbrev KK:=Nat×Option Row
abbrev xF:=Option KK
def kT (v:AV) (H:aa):xF :=
 match v with
 |.own i n=>some (n,H.get i)
 |_=>none
def Uh (l:List Tok) (x:List Nd) (a:Int) (w:Bool):List bu:=[.list 106 aC l,.val (.bF bB x),.val (.int .i64 a),.val (.bool w)]
def outT (l:List Tok) (n:Nat):xF:=some (n,some (.list 106 aC l 0 false false))
def zY (l:List Tok) (t:Tok) (k:List Tok->Nat->xF):xF:=pick2 (Nat.ble (l.length+1) 1000000) (k (l++[t]) (l.length+1)) none
def QC (rec:Wr) (x:List Nd) (a:Int) (l:List Tok) (k:List Tok->Nat->xF):xF :=
 pick2 (true&&((rec x a false).isSome&&Nat.ble (l.length+((rec x a false).getD []).length) 1000000)) (k (l++(rec x a false).getD []) (l++(rec x a false).getD []).length) none
def biT (rec:Wr) (x:List Nd) (nd:Nd) (w:Bool) (l:List Tok):xF :=
 QC rec x nd.2.2.2.1 l λl _=>zY l (oa (Px.gm nd.1)) λl _=>QC rec x nd.2.2.2.2 l λl n=>pick2 (!w) (zY l (oa [41]) outT) (outT l n)
def I2 (rec:Wr) (x:List Nd) (w:Bool) (l:List Tok) (nd:Nd):xF :=
 pick2 (eqI nd.1 1) (zY l (2,nd.2.1,[],0) outT) (pick2 (eqI nd.1 2) (zY l (1,0,nd.2.2.1,0) outT) (pick2 (!ltI 4 nd.1) (zY l (oa (Px.gm nd.1)) outT)
  (pick2 (!ltI 6 nd.1) (zY l (oa (Px.gm nd.1)) λl _=>QC rec x nd.2.2.2.1 l outT)
   (pick2 (!w) (zY l (oa [40]) λl _=>biT rec x nd w l) (biT rec x nd w l)))))
set_option maxRecDepth 100000 in
theorem Ui (rec:Wr) (l:List Tok) (x:List Nd) (a:Int) (w:Bool) (r:Nat):ag X0 (cN M9 (N2 rec) KK) bV r 186 (Tv.cellsIn 0 (Uh l x a w)) (aK aa.empty (Uh l x a w)) kT =
 Option.rec (motive:=λ_=>xF) none (λnd=>I2 rec x w l nd) (aI x a):=by kernel_rfl
def toT (l:List Tok):Option (List Tok)->xF
 |some r=>outT (l++r) (l++r).length
 |none=>none
theorem m9 {l:List Tok} {t:Tok} {k:List Tok->Nat->xF} (h:l.length+1<=1000000):zY l t k=k (l++[t]) (l++[t]).length:=by
 unfold zY
 rw[bO h];simp
theorem ux {rec:Wr} {x:List Nd} {a:Int} {l r:List Tok} {k:List Tok->Nat->xF} (hr:rec x a false=some r) (h:l.length+r.length<=1000000):QC rec x a l k=k (l++r) (l++r).length:=by
 unfold QC
 rw[hr]
 show pick2 (true&&(true&&Nat.ble (l.length+r.length) 1000000)) _ _=_
 rw[bO h];rfl
theorem ad2 (k:Nat) (l:List Tok) (x:List Nd) (a:Int) (w:Bool) (u:List Tok) (hu:eL x (k+1) a w=some u) (hl:l.length+u.length<=1000000) (r:Nat) :
 ag X0 (cN M9 (N2 λx=>eL x k) KK) bV r 186 (Tv.cellsIn 0 (Uh l x a w)) (aK aa.empty (Uh l x a w)) kT=outT (l++u) (l++u).length:=by
 rw[Ui,getI_at?]
 unfold eL at hu
 cases cH:at? x a with
 |none=>rw[cH] at hu;cases hu
 |
  some nd =>
  rw[cH] at hu;simp only at hu;show I2 _ _ _ _ nd=_;unfold I2;simp only[aB,cR];by_cases h1:nd.1=1
  .
   rw[if_pos h1] at hu ⊢;cases hu;exact m9 (by simpa using hl)
  rw[if_neg h1] at hu ⊢;by_cases h2:nd.1=2
  .
   rw[if_pos h2] at hu ⊢;cases hu;exact m9 (by simpa using hl)
  rw[if_neg h2] at hu ⊢;by_cases h4:nd.1<=4
  .
   rw[if_pos h4] at hu ⊢;cases hu;exact m9 (by simpa using hl)
  rw[if_neg h4] at hu ⊢;by_cases h6:nd.1<=6
  .
   rw[if_pos h6] at hu ⊢;split at hu
   .
    rename_i v hv;cases hu;simp only[List.length_cons] at hl;rw[m9 (by omega),ux (rec:=λx=>eL x k) hv (by simp;omega)]
    simp
   cases hu
  rw[if_neg h6] at hu ⊢;split at hu
  .
   rename_i v1 v2 hv1 hv2;cases hu;cases w with
   |
    true =>
    simp only[if_true,List.nil_append,List.append_nil,List.length_append,List.length_cons] at hl;show biT _ _ _ _ _=_;unfold biT;rw[ux (rec:=λx=>eL x k) hv1 (by omega),m9 (by simp;omega),ux (rec:=λx=>eL x k) hv2 (by simp;omega)]
    show outT _ _=_;simp
   |
    false =>
    simp only[Bool.false_eq_true,if_false,List.length_append,List.length_cons,List.length_nil] at hl;show zY _ _ _=_;rw[m9 (by omega)]
    unfold biT;rw[ux (rec:=λx=>eL x k) hv1 (by simp;omega),m9 (by simp;omega),ux (rec:=λx=>eL x k) hv2 (by simp;omega)]
    show zY _ _ _=_;rw[m9 (by simp;omega)]
    simp
  cases hu
theorem QD:∀k:Nat,bh X0 cg 186 (cXt λx=>eL x k)
 |
  0=>by
  intro ins outs rs hg;exfalso;have hg:gXt (λx=>eL x 0) ins=some (true,outs,rs):=hg
  unfold gXt at hg;split at hg
  .
   split at hg
   .
    simp[eL] at hg
   cases hg
  cases hg
 |
  k+1=>by
  intro ins outs rs hg;have hg:gXt (λx=>eL x (k+1)) ins=some (true,outs,rs):=hg
  show ins.length=_->_;unfold gXt at hg;split at hg
  case h_2=>cases hg
  rename_i t0 t l X a w _;split at hg
  case h_2=>cases hg
  rename_i l' x hl hx;obtain ⟨rfl,AF⟩:=aS hl;have AF:l=l':=AF;subst AF;simp only[Option.some.injEq,Prod.mk.injEq,Bool.and_eq_true] at hg;obtain ⟨⟨g0,g1,g2⟩,rfl,rfl⟩:=hg;obtain rfl:=Nat.eq_of_beq_eq_true g0;obtain ⟨u,hu⟩:=Option.isSome_iff_exists.1 g1;rw[hu] at g2 ⊢;have g2:=Nat.le_of_ble_eq_true g2;rcases qY hx with rfl|⟨rfl,rfl⟩
  .
   have hrun:=ad2 k l x a w u hu g2 5;unfold outT at hrun;obtain ⟨v,M1,h1,h2⟩:=kH (λargs=>lt.aL rfl args) (cV Wq (.cons (QD k) .nil) KK) hrun
   intro _;unfold kT at h1;split at h1
   .
    rename_i id n;simp only[Option.some.injEq,Prod.mk.injEq] at h1;obtain ⟨rfl,hrow⟩:=h1;exact ⟨[.own id (l++u).length],M1,h2 [.own id (l++u).length] rfl,.inl ⟨id,0,false,rfl,hrow,by simp,trivial⟩⟩
   cases h1
  have:at? ([]:List Nd) a=none:=by cases a<;>rfl
  unfold eL at hu;rw[this] at hu;cases hu
theorem uy:∀(t:T) (w:Bool),(t.toks w).length<=3*t.size
 |.leaf _,_=>by simp[T.toks,T.size]
 |.un _ a,_=>by have:=uy a false;simp only[T.toks,T.size,List.length_cons];omega
 |
  .bi _ u v,w=>by
  have h1:=uy u false;have h2:=uy v false;cases w<;>simp[T.toks,T.size]<;>omega
def kI (x:List Nd):List Tok:=(eL x 201 (x.length-1) true).getD []
theorem sX {x:List Nd} (h:jo ay x=0):∃t:T,t.ok ay/\x=t.post 0/\eL x 201 (x.length-1) true=some (t.toks true)/\kI x=t.toks true/\(t.toks true).length<=600/\0<x.length/\x.length<=200:=by
 obtain ⟨t,h1,h2,h3⟩:=Qs h
 have hs:t.size=x.length:=by rw[h2,T.eK]
 have ht:=qX t h1 x [] [] 201 true (by rw[h2];simp) (by omega)
 simp only[List.length_nil,Nat.zero_add] at ht
 rw[hs] at ht
 have:=uy t true
 have:=t.size_pos
 exact ⟨t,h1,h2,ht,by unfold kI;rw[ht];rfl,by omega,by omega,h3⟩
def w9 (args:List AV):Option (Bool×List bA) :=
 match args with
 |
  [L]=>match IW bB L with
  |some x=>some (true,[.list 106 aC (if jo ay x=0 then kI x else []),.val (.int .i64 (jo ay x))])
  |none=>none
 |_=>none
abbrev cT:(β:Type)->aT β:=cN M9 (N2 λx=>eL x 201)
set_option maxRecDepth 100000 in
theorem Cp (x:List Nd) (r:Nat):ag X0 (cT _) bV r 159 [.bF bB x] aa.empty qp =
 pick2 (!eqI (jo ay x) 0) (some (.cB [.bK,.int .i64 (jo ay x)],none))
  (pick2 (true&&((eL x 201 (IntKind.wrap .i64 (x.length-1)) true).isSome&&Nat.ble (([]:List Tok).length+((eL x 201 (IntKind.wrap .i64 (x.length-1)) true).getD []).length) 1000000))
   (some (.cB [.own 0 ([]++(eL x 201 (IntKind.wrap .i64 (x.length-1)) true).getD []).length,.int .i64 0],some (.list 106 aC ([]++(eL x 201 (IntKind.wrap .i64 (x.length-1)) true).getD []) 0 false false))) none):=by kernel_rfl
set_option maxRecDepth 100000 in
theorem I3 (r:Nat):ag X0 (cT _) bV r 159 [.bK] aa.empty qp=some (.cB [.bK,.int .i64 2],none):=by kernel_rfl
theorem QE:aO X0 cg 159 w9:=by
 intro args rs hg
 unfold w9 at hg
 split at hg
 case h_2=>cases hg
 rename_i L
 split at hg
 case h_2=>cases hg
 rename_i x hx
 simp only[Option.some.injEq,Prod.mk.injEq] at hg
 obtain ⟨_,rfl⟩:=hg
 have fin:∀(o:Option Row) (v0:AV),ag X0 (cT _) bV 5 159 [L] aa.empty qp=some (.cB [v0,.int .i64 (jo ay x)],o)->((v0 = .bK/\jo ay x≠0)\/∃id,v0 = .own id (kI x).length/\o=some (.list 106 aC (kI x) 0 false false)/\jo ay x=0) ->
  ∃vs H1,DH X0 cg 159 [L] vs H1/\mV H1 [] vs [.list 106 aC (if jo ay x=0 then kI x else []),.val (.int .i64 (jo ay x))]:=λo v0 h hv=>by
  obtain ⟨v,M1,h1,h2⟩:=kH (λargs=>lt.aL rfl args) (cV Wq (.cons (QD 201) .nil) (AV×Option Row)) h
  have e:=zV h1;subst e;refine ⟨_,M1,h2 [v0,.int .i64 (jo ay x)] rfl,rfl,?_⟩;rcases hv with ⟨rfl,hne⟩|⟨id,rfl,rfl,h0⟩
  .
   exact .inr ⟨rfl,by rw[if_neg hne],rfl,rfl,trivial⟩
  rw[if_pos h0];exact .inl ⟨id,0,false,rfl,(Prod.mk.inj (Option.some.inj h1)).2,by simp,rfl,rfl,trivial⟩
 rcases qY hx with rfl|⟨rfl,rfl⟩
 .
  by_cases h0:jo ay x=0
  .
   obtain ⟨t,k1,k2,k3,k4,k5,k6,k7⟩:=sX h0;refine fin (some (.list 106 aC (kI x) 0 false false)) (.own 0 (kI x).length) ?_ (.inr ⟨0,rfl,rfl,h0⟩);rw[Cp,aG,if_pos h0,i64_in (n:=(x.length:Int)-1) (by omega) (by omega),k3,k4,h0]
   show pick2 (true&&(true&&Nat.ble (([]:List Tok).length+(t.toks true).length) 1000000)) _ _=_;rw[bO (by simp;omega)]
   rfl
  refine fin none .bK ?_ (.inl ⟨rfl,h0⟩);rw[Cp,aG,if_neg h0]
 exact fin none .bK (I3 5) (.inl ⟨rfl,by decide⟩)
def M10:List nY:=(159,[some bB],w9)::M9
end
end Go.Proofs.YtpaddkkfefgkfaaGreatDoor.ex
