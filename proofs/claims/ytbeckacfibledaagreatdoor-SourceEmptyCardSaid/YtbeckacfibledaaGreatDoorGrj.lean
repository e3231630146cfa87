/- Tokens, written, joined. What is written is read as it. What is read may be; faults are in the text. A line that is read: one that defines a name has it. -/
import Derived.Test.YtbeckacfibledaaGreatDoorGrb
import Derived.Test.YtbeckacfibledaaGreatDoorLyg
import Derived.Test.YtbeckacfibledaaGreatDoorGva
set_option linter.unusedVariables false
set_option linter.unusedSimpArgs false

namespace Go.Proofs.YtbeckacfibledaaGreatDoor.lt
open Go.Tv Go.Ev
set_option maxRecDepth 100000
def aaO:List (List UInt8):=[[36,36],[60,60],[62,62],[43],[45],[42],[47],[37],[38],[124],[94],[126],[40],[41],[91],[93],[44],[58],[36]]
def B2 (c:UInt8):Bool:=ua (cY c) && !bI (cY c) 34
noncomputable def vD (y:Piece):Bool:=ah (bI y.1 1) (bI y.2.1 0&&bZ y.2.2.1) (ah (bI y.1 2) (decide (y.2.2.1=[])) (ah (bI y.1 3) (y.2.2.1.all B2&&bI y.2.1 0) (ah (bI y.1 4) (aaO.any (λp=>decide (y.2.2.1=p))&&bI y.2.1 0) false)))
noncomputable def EW (y:Piece):Bool := !bC y.2.1 (-9223372036854775808)&&bC y.2.1 9223372036854775808&&Nat.ble y.2.2.1.length 1100
theorem Az {s:List UInt8}{a e:Nat}(hae:a<=e){c:UInt8}{r:List UInt8}(hd:s.drop e=c::r):dX s (a:Int) ((e+1:Nat):Int)=dX s (a:Int) (e:Int)++[c]:=by
 unfold dX;simp only[bg];have e1:e+1-a=(e-a)+1:=by omega
 have e2:(s.drop a)[e-a]? = some c:=by
  rw[fV,show a+(e-a)=e by omega];have:s[e]? = (s.drop e)[0]? := by simp
  rw[this,hd];rfl
 rw[e1,List.take_add_one,e2];rfl
theorem Rd {s:List UInt8}(a e:Nat):(dX s (a:Int) (e:Int)).length<=e-a:=by unfold dX;simp;omega
theorem agf {s:List UInt8}(a e:Int):(dX s a e).length<=s.length:=by unfold dX;simp;omega
theorem yb {s:List UInt8}{e:Nat}{c:UInt8}{r:List UInt8}(hd:s.drop e=c::r):s.drop (e+1)=r:=by rw[<-eJ,hd];rfl
theorem EX (s:List UInt8)(a:Nat):∀(rest:List UInt8) (e:Nat),s.drop e=rest->a<=e->e<=a+60->(dX s a e).all CH=true->(nT s a rest e).2.2.1=0->(nT s a rest e).1.all CH=true/\(nT s a rest e).1.length<=60
 |[],e,_,h2,h3,h4,_=>⟨h4,by show (dX s a e).length<=60;have:=Rd (s:=s) a e;omega⟩
 |c::r,e,h1,h2,h3,h4,h5=>by
  rw[nT]at h5 ⊢;split at h5
  .rename_i hm;rw[ag hm];split at h5
   .exact absurd h5 (by simp)
   rename_i WD;rw[aa WD];have hm:CH c=true:=hm;refine EX s a r (e+1) (yb h1) (by omega) (by omega) ?_ h5;rw[Az h2 h1,jL,h4];simp[hm]
  rename_i hm;rw[aa hm];exact⟨h4,by show (dX s a e).length<=60;have:=Rd (s:=s) a e;omega⟩
theorem EY (s:List UInt8)(a:Nat){d:UInt8}:∀(rest:List UInt8) (e:Nat),s.drop e=rest->a<=e->(dX s a e).head? = some d->(nT s a rest e).2.2.1=0->(nT s a rest e).1.head? = some d
 |[],e,_,_,h4,_=>h4
 |c::r,e,h1,h2,h4,h5=>by
  rw[nT]at h5 ⊢;split at h5
  .rename_i hm;rw[ag hm];split at h5
   .exact absurd h5 (by simp)
   rename_i WD;rw[aa WD];refine EY s a r (e+1) (yb h1) (by omega) ?_ h5;rw[Az h2 h1,List.head?_append,h4];rfl
  rename_i hm;rw[aa hm];exact h4
theorem AA (s:List UInt8)(a:Nat):∀(rest:List UInt8) (e:Nat),s.drop e=rest->a+1<=e->(dX s ((a+1:Nat):Int) e).all B2=true->(jR s a rest e).2.2.1=0->(jR s a rest e).1.all B2=true
 |[],e,_,_,_,h=>by exact absurd h (by rw[jR];simp)
 |c::r,e,h1,h2,h4,h5=>by
  rw[jR]at h5 ⊢;split at h5
  .rename_i hq;rw[ag hq];exact h4
  rename_i hq;rw[aa hq];split at h5
  .rename_i hp;rw[ag hp];refine AA s a r (e+1) (yb h1) (by omega) ?_ h5;have hb:B2 c=true:=by unfold B2;rw[hp,x9 hq];rfl
   rw[Az h2 h1,jL,h4];simp[hb]
  exact absurd h5 (by simp)
theorem Hu (s:List UInt8)(a:Nat):∀l:List (List UInt8),(sN s a l).2.2.1=0->(sN s a l).1∈l
 |[],h=>by exact absurd h (by rw[sN];simp)
 |g::l,h=>by
  rw[sN]at h ⊢;split at h
  .rename_i hp;rw[ag hp];exact cF ..
  rename_i hp;rw[aa hp];exact bE _ (Hu s a l h)
theorem quoteL_cut' (s:List UInt8)(a:Nat):∀(rest:List UInt8) (e:Nat),(jR s a rest e).2.2.1=0->(jR s a rest e).1=dX s (a+1) ((jR s a rest e).2.1-1):=by
 intro rest;induction rest with
 |nil=>intro e h;exact absurd h (by simp[jR])
 |cons c r ih =>
  intro e h;rw[jR]at h ⊢;split at h
  .rename_i hm;rw[ag hm];show dX s (a+1) e=dX s (a+1) ((e:Int)+1-1);rw[show (e:Int)+1-1=e by omega]
  rename_i hm;rw[aa hm];split at h
  .rename_i hp;rw[ag hp];exact ih (e+1) h
  exact absurd h (by simp)
theorem WM (s:List UInt8):∀(n:Nat) (left:List UInt8),(ql s n left).1.length<=n:=by
 intro n;induction n with
 |zero=>intro left;exact aC _
 |succ n ih =>
  intro left
  match left with
  |[]=>exact ct _
  |c::r =>
   rw[ql];split
   .exact Nat.le_succ_of_le (ih r)
   split
   .exact ct _
   split
   .exact Nat.succ_le_succ (ih _)
   exact ct _
def inN (n:Int):Prop := -9223372036854775808<=n/\n<9223372036854775808
theorem Mf (n:Int):inN (IntKind.wrap .i64 n):=by unfold inN;rw[VZ];split<;>omega
theorem vS:inN 0:=by unfold inN;omega
theorem Mg (len:Nat):∀(rest:List UInt8) (k N i:Nat),inN (p6 len rest k N i).1
 |[],_,_,_=>vS
 |c::r,k,N,i=>by
  rw[p6];split
  .split
   .exact vS
   exact Mf _
  split
  .exact vS
  split
  .exact vS
  exact Mg len r _ _ _
theorem WN (s:List UInt8)(a:Int):inN (lD s a).1:=by
 unfold lD;split
 .exact vS
 split
 .exact vS
 split
 .exact Mg _ _ _ _ _
 split
 .unfold yM;split
  .exact vS
  split
  .exact vS
  exact Mf _
 exact vS
theorem Dw {k n a:Int}{S:List UInt8}(hn:inN n)(hS:S.length<=1100):EW (k,n,S,a)=true:=by
 unfold EW;rw[fL hn.1,pZ hn.2,dS hS];rfl
theorem Mh {s:List UInt8}(hs:s.length<=1000){a:Nat}{c:UInt8}{r:List UInt8}(hd:s.drop a=c::r)(h:(jU s c a).2.2.1=0):vD (jU s c a).1=true/\EW (jU s c a).1=true:=by
 have c0:dX s (a:Int) (a:Int)=[]:=by unfold dX;simp
 unfold jU at h ⊢;split at h
 .rename_i hf;rw[ag hf];have h:(gu s a).2.2.1=0:=h;unfold gu at h ⊢;obtain⟨m1,m2⟩:=EX s a (s.drop a) a rfl (aC _) (by omega) (by rw[c0];rfl) h;refine⟨?_,Dw vS (by omega)⟩;have hh:(nT s a (s.drop a) a).1.head? = some c:=by
   rw[hd]at h ⊢;rw[nT]at h ⊢;have hm:uA (cY c)=true:=Pb hf;rw[ag hm,aa (by omega)]at h ⊢;refine EY s a r (a+1) (yb hd) (by omega) ?_ h;rw[Az (aC _) hd,c0];rfl
  show bZ _=true;cases hS:(nT s a (s.drop a) a).1 with
  |nil=>rw[hS]at hh;cases hh
  |cons d q =>
   rw[hS]at hh m1 m2;have:d=c:=by simpa using hh
   subst this;show (decide (q.length<60)&&l6 (cY d)&&(d::q).all CH)=true;simp only[aJ]at m2;rw[aX (by omega),hf,m1];rfl
 rename_i hf;rw[aa hf];split at h
 .rename_i hq;rw[ag hq];exact⟨rfl,Dw (WN s a) (by simp)⟩
 rename_i hq;rw[aa hq];split at h
 .rename_i ZC;rw[ag ZC];have h:(vB s a).2.2.1=0:=h;unfold vB at h ⊢;have hp:=AA s a (s.drop (a+1)) (a+1) rfl (aC _) (by unfold dX;simp) h;have hl:(jR s a (s.drop (a+1)) (a+1)).1.length<=1100:=by
   rw[quoteL_cut' s a _ _ h];have:=agf (s:=s) ((a:Int)+1) ((jR s a (s.drop (a+1)) (a+1)).2.1-1);omega
  refine⟨?_,Dw vS hl⟩;show ((jR s a (s.drop (a+1)) (a+1)).1.all B2&&bI 0 0)=true;rw[hp];rfl
 rename_i ZC;rw[aa ZC];have h:(vR s a).2.2.1=0:=h;unfold vR at h ⊢;have hm:=Hu s a zq h;have hm:(sN s a zq).1∈aaO:=hm;have hl:∀S∈aaO,S.length<=1100:=by decide
 refine⟨?_,Dw vS (hl _ hm)⟩;show (aaO.any (λp=>decide ((sN s a zq).1=p))&&bI 0 0)=true;rw[ji.2 ⟨_,hm,aX rfl⟩];rfl
theorem Tm (s:List UInt8)(hs:s.length<=1000):∀(n:Nat) (left:List UInt8),left.length<=n->s.drop (s.length-left.length)=left->left.length<=s.length->∀y∈(ql s n left).1,vD y=true/\EW y=true:=by
 intro n;induction n with
 |zero=>intro left _ _ _ y hy;cases hy
 |succ n ih =>
  intro left h1 h3 h4
  match left,h1,h3,h4 with
  |[],_,_,_=>intro y hy;cases hy
  |c::r,h1,h3,h4 =>
   rw[aJ]at h1 h3 h4;have hr:s.drop (s.length-r.length)=r:=by
    have:s.length-r.length=s.length-(r.length+1)+1:=by omega
    rw[this,<-eJ,h3];rfl
   rw[ql];split
   .exact ih r (by omega) hr (by omega)
   split
   .intro y hy;cases hy
   split
   .rename_i hp;have he:=ya h3 hp;intro y hy;rcases bt.1 hy with rfl|hy
    .exact Mh hs h3 hp
    exact ih _ (by simp only[bQ];omega) (by rw[bQ];congr 1;omega) (by simp only[bQ];omega) y hy
   intro y hy;cases hy
theorem Pc (s:List UInt8):(∀y∈(jZ s).1,vD y=true/\EW y=true)/\(jZ s).1.length<=1000:=by
 unfold jZ;split
 .exact ⟨λy hy=>(by cases hy),(by simp)⟩
 rename_i hl;split
 .exact ⟨Tm s (by omega) s.length s (aC _) (by simp) (aC _),(by have:=WM s s.length s;show (ql s s.length s).1.length<=1000;omega)⟩
 exact⟨λy hy=>(by cases hy),(by simp)⟩
end Go.Proofs.YtbeckacfibledaaGreatDoor.lt
namespace Go.Proofs.YtbeckacfibledaaGreatDoor.ps.sr
open Go.Tv Go.Ev Go.Px Go.Pp Go.Proofs.YtbeckacfibledaaGreatDoor.ex
set_option maxRecDepth 100000
noncomputable section
def KP (k:Int)(w:List UInt8)(r:LR):Prop:=r.2.aF=k/\r.2.lab=w
section
variable {n:Int} {l:List Tok}
theorem Ru {s:RS}{e i:Int}:KP s.aF s.lab (iq n l s e i):=⟨rfl,rfl⟩
theorem XU {s:RS}{k:Int}{w:List UInt8}{go:List Nd->Int->LR}(h1:s.aF=k)(h2:s.lab=w)(hg:∀x e,KP k w (go x e)):KP k w (Mx n l s go):=by
 unfold Mx;split
 .exact ⟨h1,h2⟩
 exact hg _ _
theorem PN {fin:Bool}{J:RS->LR}{s:RS}{k:Int}{w:List UInt8}(h1:s.aF=k)(h2:s.lab=w) (hJ:KP k w (J { s with a:=s.a+1 })):KP k w (xA n l fin J s):=by
 unfold xA;split
 .exact ⟨h1,h2⟩
 split
 .exact hJ
 exact⟨h1,h2⟩
theorem XV:∀(m:Nat) (s:RS),KP s.aF s.lab (JU n l m s)
 |0,s=>⟨rfl,rfl⟩
 |m+1,s=>by
  unfold JU;split
  .exact Ru
  split
  .exact PN rfl rfl (XV m _)
  exact XU rfl rfl λx e=>PN rfl rfl (XV m _)
theorem ad7:∀(m:Nat) (s:RS),KP s.aF s.lab (Us n l m s)
 |0,s=>⟨rfl,rfl⟩
 |m+1,s=>by
  unfold Us;split
  .exact Ru
  exact XU rfl rfl λx e=>PN rfl rfl (ad7 m _)
theorem PS (s:RS):KP s.aF s.lab (Cc n l s):=by
 unfold Cc;split<;>exact⟨rfl,rfl⟩
theorem DA (aF:Int)(s:RS):KP aF s.lab (vU n l aF s):=XU rfl rfl λx e=>PS _
variable (hl:∀t∈l,t.1=1->t.2.2.1≠[])
include hl in
end
end
end Go.Proofs.YtbeckacfibledaaGreatDoor.ps.sr
