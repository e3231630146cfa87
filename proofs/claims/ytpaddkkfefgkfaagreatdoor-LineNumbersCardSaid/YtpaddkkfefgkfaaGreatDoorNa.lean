/- Numbers in a row: the tokens of their text. -/
import Derived.Test.YtpaddkkfefgkfaaGreatDoorTa
set_option linter.unusedVariables false
set_option linter.unusedSimpArgs false
namespace Go.Proofs.YtpaddkkfefgkfaaGreatDoor.ps
open Go.Tv Go.Ev Go.Px Go.Pp Go.Proofs.YtpaddkkfefgkfaaGreatDoor.ex
set_option maxRecDepth 100000
noncomputable section
theorem wK {p w e r:List UInt8} {d:UInt8} {y:Tok} (hw:w=d::r) (hb:¬(aD d=32\/aD d=9)) (hs:aD d≠59) (hp:lt.bw (p++w++e) d p.length=(y,(p.length:Int)+(w.length:Nat),0,0)) (n:Nat) :
 lt.bh (p++w++e) (n+1) (w++e)=(y::(lt.bh (p++w++e) n e).1,(lt.bh (p++w++e) n e).2):=by
 have ha:(p++w++e).length-((r++e).length+1)=p.length:=by rw[hw];simp
 have h0:lt.bh (p++w++e) (n+1) (w++e)=lt.bh (p++w++e) (n+1) (d::(r++e)):=by
  congr 1
  rw[hw];rfl
 rw[h0,lt.bh,if_neg hb,if_neg hs,ha,hp,if_pos rfl]
 have hd2:(p++w++e).drop ((p.length:Int)+((w.length:Nat):Int)).toNat=e:=by
  have e1:((p.length:Int)+((w.length:Nat):Int)).toNat=(p++w).length:=by simp;omega
  rw[e1,List.drop_left]
 simp only[hd2]
def y4:List UInt8->Prop
 |[]=>True
 |c::_=>lt.cY (aD c)=false
theorem Cp {w e:List UInt8} (hw:∀c∈w,lt.cY (aD c)=true) (he:y4 e):(w++e).takeWhile (λc=>lt.cY (aD c))=w:=by
 induction w with
 |
  nil =>
  cases e with
  |nil=>rfl
  |
   cons c q =>
   have he:lt.cY (aD c)=false:=he;rw[List.nil_append,List.takeWhile_cons,if_neg (by rw[he];exact Bool.false_ne_true)]
 |cons c w ih=>rw[List.cons_append,List.takeWhile_cons,if_pos (hw c (by simp)),ih λx hx=>hw x (by simp[hx])]
def gj (u:Nat):List UInt8:=[48,120]++lt.eY 16 64 u []
theorem Gi {p e:List UInt8} {u:Nat} (hu:u<18446744073709551616) (he:y4 e) (n:Nat) :
 lt.bh (p++gj u++e) (n+1) (gj u++e)=((2,IntKind.wrap .i64 (u:Int),[],(p.length:Int))::(lt.bh (p++gj u++e) n e).1,(lt.bh (p++gj u++e) n e).2):=by
 refine wK (w:=gj u) (d:=48) (r:=120::lt.eY 16 64 u []) rfl (by decide) (by decide) ?_ n
 have hD:(p++gj u++e).drop p.length=gj u++e:=by rw[List.append_assoc,List.drop_left]
 have hsc:lt.dA (p++gj u++e) (p.length:Int)=lt.iG (gj u) p.length:=by
  rw[lt.ni (d:=48) (r:=120::lt.eY 16 64 u []++e) (by rw[hD];rfl),if_neg (by decide),if_pos (by decide),hD,Cp (w:=gj u) (lt.Ey hu) he]
 unfold lt.bw
 rw[if_neg (by decide),if_pos (by decide),hsc]
 have:=lt.Jd hu p.length
 unfold gj
 rw[this]
theorem Cq {p e:List UInt8} {d:UInt8} (hd:d=44\/d=45\/d=58) (n:Nat) :
 lt.bh (p++[d]++e) (n+1) ([d]++e)=((4,0,[d],(p.length:Int))::(lt.bh (p++[d]++e) n e).1,(lt.bh (p++[d]++e) n e).2):=by
 have hD:(p++[d]++e).drop p.length=[d]++e:=by rw[List.append_assoc,List.drop_left]
 have hs:lt.sg2 ([d]++e) p.length lt.j7=([d],(p.length:Int)+(1:Nat),0,0):=by
  rcases hd with rfl|rfl|rfl<;>cases e<;>rfl
 refine wK (w:=[d]) (d:=d) (r:=[]) rfl ?_ ?_ ?_ n
 .
  rcases hd with rfl|rfl|rfl<;>decide
 .
  rcases hd with rfl|rfl|rfl<;>decide
 unfold lt.bw lt.j8
 rw[lt.wE,hD,hs,if_neg (by rcases hd with rfl|rfl|rfl<;>decide),if_neg (by rcases hd with rfl|rfl|rfl<;>decide),if_neg (by rcases hd with rfl|rfl|rfl<;>decide)]
 rfl
def fR (n:Int):List UInt8:=lt.lp 16 [48,120] n
def js (n:Int):List Tok:=if n<0 then [(4,0,[45],0),(2,IntKind.wrap .i64 (n.natAbs:Int),[],0)] else [(2,n,[],0)]
def eX:List Int->List UInt8
 |[]=>[]
 |n::L=>44::32::(fR n++eX L)
def kG:List Int->List Tok
 |[]=>[]
 |n::L=>(4,0,[44],0)::(js n++kG L)
theorem EB (L:List Int):y4 (eX L):=by
 cases L with
 |nil=>trivial
 |cons n L=>show lt.cY (aD 44)=false;decide
abbrev jt (n:Int):Prop := -9223372036854775808<=n/\n<9223372036854775808
theorem NZ {T p e:List UInt8} {n:Int} (hn:jt n) (hT:T=p++fR n++e) (he:y4 e) (m:Nat) :
 ∃m',m<=m'/\∀k,lt.bh T (m+2) (fR n++e)=k->(lt.bh T m' e).2=(0,0)->k.2=(0,0)/\zl k.1=js n++zl (lt.bh T m' e).1:=by
 unfold fR lt.lp at hT ⊢
 unfold js
 by_cases h:n<0
 .
  rw[if_pos h] at hT ⊢;rw[if_pos h];have hu:n.natAbs<18446744073709551616:=by omega
  refine ⟨m,by omega,?_⟩
  intro k hk h0;have e1:[45]++[48,120]++lt.eY 16 64 n.natAbs []++e=[45]++(gj n.natAbs++e):=by unfold gj;simp
  have s1:=Cq (p:=p) (e:=gj n.natAbs++e) (d:=45) (.inr (.inl rfl)) (m+1);have s2:=Gi (p:=p++[45]) (e:=e) hu he m;have t1:p++[45]++(gj n.natAbs++e)=T:=by rw[hT];unfold gj;simp
  have t2:p++[45]++gj n.natAbs++e=T:=by rw[hT];unfold gj;simp
  rw[t1] at s1;rw[t2] at s2;rw[e1,s1,s2] at hk;subst hk;exact ⟨h0,rfl⟩
 rw[if_neg h] at hT ⊢
 rw[if_neg h]
 have hu:n.natAbs<18446744073709551616:=by omega
 refine ⟨m+1,by omega,?_⟩
 intro k hk h0
 have s2:=Gi (p:=p) (e:=e) hu he (m+1)
 have t2:p++gj n.natAbs++e=T:=by rw[hT];unfold gj;simp
 have e1:[]++[48,120]++lt.eY 16 64 n.natAbs []++e=gj n.natAbs++e:=by unfold gj;simp
 rw[t2] at s2
 rw[e1,s2] at hk
 subst hk
 have hv:IntKind.wrap .i64 ((n.natAbs:Nat):Int)=n:=by rw[i64_in (by omega) (by omega)];omega
 refine ⟨h0,?_⟩
 rw[hv]
 rfl
theorem Gj (n:Int):2<=(fR n).length/\(fR n).length<=70:=by
 unfold fR lt.lp
 have:=lt.yh (b:=16) 64 n.natAbs []
 simp only[List.length_append,List.length_nil] at this ⊢
 split<;>simp<;>omega
theorem Js (T:List UInt8):∀(L:List Int) (p:List UInt8) (m:Nat),(∀n∈L,jt n)->T=p++eX L->(eX L).length<=m->(lt.bh T m (eX L)).2=(0,0)/\zl (lt.bh T m (eX L)).1=kG L
 |
  [],p,m,_,_,_=>by
  show (lt.bh T m []).2=_/\zl (lt.bh T m []).1=[];rw[lt.lex_nil];exact ⟨rfl,rfl⟩
 |
  n::L,p,m,hL,hT,hm=>by
  have hl:=(Gj n).1;obtain ⟨m,rfl⟩:∃k,m=k+4:=⟨m-4,by simp[eX] at hm;omega⟩
  have e0:eX (n::L)=[44]++([32]++(fR n++eX L)):=rfl;have s1:=Cq (p:=p) (e:=[32]++(fR n++eX L)) (d:=44) (.inl rfl) (m+3);have t1:p++[44]++([32]++(fR n++eX L))=T:=by rw[hT,e0];simp
  rw[t1] at s1;have s2:lt.bh T (m+3) ([32]++(fR n++eX L))=lt.bh T (m+2) (fR n++eX L):=lt.lg _ _ _;have t3:T=(p++[44,32])++fR n++eX L:=by rw[hT,e0];simp
  obtain ⟨m',h1,h2⟩:=NZ (hL n (by simp)) t3 (EB L) m
  obtain ⟨g1,g2⟩:=Js T L (p++[44,32]++fR n) m' (λx hx=>hL x (by simp[hx])) t3 (by simp[eX] at hm;omega)
  obtain ⟨k1,k2⟩:=h2 _ rfl g1;rw[e0,s1,s2];refine ⟨k1,?_⟩;show zt _::zl (lt.bh T (m+2) (fR n++eX L)).1=_;rw[k2,g2];rfl
theorem N3 (T:List UInt8) {n:Int} {L:List Int} (hn:jt n) (hL:∀x∈L,jt x) (p:List UInt8) (m:Nat) (hT:T=p++32::(fR n++eX L)) (hm:(32::(fR n++eX L)).length<=m) :
 (lt.bh T m (32::(fR n++eX L))).2=(0,0)/\zl (lt.bh T m (32::(fR n++eX L))).1=js n++kG L:=by
 have hl:=(Gj n).1
 obtain ⟨m,rfl⟩:∃k,m=k+3:=⟨m-3,by simp at hm;omega⟩
 rw[lt.lg]
 have t3:T=(p++[32])++fR n++eX L:=by rw[hT];simp
 obtain ⟨m',h1,h2⟩:=NZ hn t3 (EB L) m
 obtain ⟨g1,g2⟩:=Js T L (p++[32]++fR n) m' hL t3 (by simp at hm;omega)
 obtain ⟨k1,k2⟩:=h2 _ rfl g1
 rw[g2] at k2
 exact ⟨k1,k2⟩
end
end Go.Proofs.YtpaddkkfefgkfaaGreatDoor.ps
