/- Tokens, written, joined. What is written is read as it. What is read may be; faults are in the text. A line that is read: one that defines a name has it. -/
import Derived.Test.YtbeckacfibledaaGreatDoorGrb
import Derived.Test.YtbeckacfibledaaGreatDoorLyg
import Derived.Test.YtbeckacfibledaaGreatDoorGva
set_option linter.unusedVariables false
set_option linter.unusedSimpArgs false

namespace Go.Proofs.YtbeckacfibledaaGreatDoor.lt
open Go.Tv Go.Ev
set_option maxRecDepth 100000
def aak:List (List UInt8):=[[36,36],[60,60],[62,62],[43],[45],[42],[47],[37],[38],[124],[94],[126],[40],[41],[91],[93],[44],[58],[36]]
def BL (c:UInt8):Bool:=tO (cY c) && !bI (cY c) 34
noncomputable def vq (y:Piece):Bool:=ah (bI y.1 1) (bI y.2.1 0&&bX y.2.2.1) (ah (bI y.1 2) (decide (y.2.2.1=[])) (ah (bI y.1 3) (y.2.2.1.all BL&&bI y.2.1 0) (ah (bI y.1 4) (aak.any (λp=>decide (y.2.2.1=p))&&bI y.2.1 0) false)))
noncomputable def EK (y:Piece):Bool := !bB y.2.1 (-9223372036854775808)&&bB y.2.1 9223372036854775808&&Nat.ble y.2.2.1.length 1100
theorem Aj {s:List UInt8}{a e:Nat}(hae:a<=e){c:UInt8}{r:List UInt8}(hd:s.drop e=c::r):dX s (a:Int) ((e+1:Nat):Int)=dX s (a:Int) (e:Int)++[c]:=by
 unfold dX;simp only[bg];have e1:e+1-a=(e-a)+1:=by omega
 have e2:(s.drop a)[e-a]? = some c:=by
  rw[fT,show a+(e-a)=e by omega];have:s[e]? = (s.drop e)[0]? := by simp
  rw[this,hd];rfl
 rw[e1,List.take_add_one,e2];rfl
theorem QV {s:List UInt8}(a e:Nat):(dX s (a:Int) (e:Int)).length<=e-a:=by unfold dX;simp;omega
theorem afJ {s:List UInt8}(a e:Int):(dX s a e).length<=s.length:=by unfold dX;simp;omega
theorem xV {s:List UInt8}{e:Nat}{c:UInt8}{r:List UInt8}(hd:s.drop e=c::r):s.drop (e+1)=r:=by rw[<-eJ,hd];rfl
theorem EL (s:List UInt8)(a:Nat):∀(rest:List UInt8) (e:Nat),s.drop e=rest->a<=e->e<=a+60->(dX s a e).all Ct=true->(nM s a rest e).2.2.1=0->(nM s a rest e).1.all Ct=true/\(nM s a rest e).1.length<=60
 |[],e,_,h2,h3,h4,_=>⟨h4,by show (dX s a e).length<=60;have:=QV (s:=s) a e;omega⟩
 |c::r,e,h1,h2,h3,h4,h5=>by
  rw[nM]at h5 ⊢;split at h5
  .rename_i hm;rw[ag hm];split at h5
   .exact absurd h5 (by simp)
   rename_i Wg;rw[aa Wg];have hm:Ct c=true:=hm;refine EL s a r (e+1) (xV h1) (by omega) (by omega) ?_ h5;rw[Aj h2 h1,jG,h4];simp[hm]
  rename_i hm;rw[aa hm];exact⟨h4,by show (dX s a e).length<=60;have:=QV (s:=s) a e;omega⟩
theorem EM (s:List UInt8)(a:Nat){d:UInt8}:∀(rest:List UInt8) (e:Nat),s.drop e=rest->a<=e->(dX s a e).head? = some d->(nM s a rest e).2.2.1=0->(nM s a rest e).1.head? = some d
 |[],e,_,_,h4,_=>h4
 |c::r,e,h1,h2,h4,h5=>by
  rw[nM]at h5 ⊢;split at h5
  .rename_i hm;rw[ag hm];split at h5
   .exact absurd h5 (by simp)
   rename_i Wg;rw[aa Wg];refine EM s a r (e+1) (xV h1) (by omega) ?_ h5;rw[Aj h2 h1,List.head?_append,h4];rfl
  rename_i hm;rw[aa hm];exact h4
theorem Ak (s:List UInt8)(a:Nat):∀(rest:List UInt8) (e:Nat),s.drop e=rest->a+1<=e->(dX s ((a+1:Nat):Int) e).all BL=true->(jL s a rest e).2.2.1=0->(jL s a rest e).1.all BL=true
 |[],e,_,_,_,h=>by exact absurd h (by rw[jL];simp)
 |c::r,e,h1,h2,h4,h5=>by
  rw[jL]at h5 ⊢;split at h5
  .rename_i hq;rw[ag hq];exact h4
  rename_i hq;rw[aa hq];split at h5
  .rename_i hp;rw[ag hp];refine Ak s a r (e+1) (xV h1) (by omega) ?_ h5;have hb:BL c=true:=by unfold BL;rw[hp,xT hq];rfl
   rw[Aj h2 h1,jG,h4];simp[hb]
  exact absurd h5 (by simp)
theorem G9 (s:List UInt8)(a:Nat):∀l:List (List UInt8),(sC s a l).2.2.1=0->(sC s a l).1∈l
 |[],h=>by exact absurd h (by rw[sC];simp)
 |g::l,h=>by
  rw[sC]at h ⊢;split at h
  .rename_i hp;rw[ag hp];exact cD ..
  rename_i hp;rw[aa hp];exact bD _ (G9 s a l h)
theorem quoteL_cut' (s:List UInt8)(a:Nat):∀(rest:List UInt8) (e:Nat),(jL s a rest e).2.2.1=0->(jL s a rest e).1=dX s (a+1) ((jL s a rest e).2.1-1):=by
 intro rest;induction rest with
 |nil=>intro e h;exact absurd h (by simp[jL])
 |cons c r ih =>
  intro e h;rw[jL]at h ⊢;split at h
  .rename_i hm;rw[ag hm];show dX s (a+1) e=dX s (a+1) ((e:Int)+1-1);rw[show (e:Int)+1-1=e by omega]
  rename_i hm;rw[aa hm];split at h
  .rename_i hp;rw[ag hp];exact ih (e+1) h
  exact absurd h (by simp)
theorem Wp (s:List UInt8):∀(n:Nat) (left:List UInt8),(sD s n left).1.length<=n:=by
 intro n;induction n with
 |zero=>intro left;exact aC _
 |succ n ih =>
  intro left
  match left with
  |[]=>exact ck _
  |c::r =>
   rw[sD];split
   .exact Nat.le_succ_of_le (ih r)
   split
   .exact ck _
   split
   .exact Nat.succ_le_succ (ih _)
   exact ck _
def inN (n:Int):Prop := -9223372036854775808<=n/\n<9223372036854775808
theorem LZ (n:Int):inN (IntKind.wrap .i64 n):=by unfold inN;rw[VC];split<;>omega
theorem vJ:inN 0:=by unfold inN;omega
theorem L3 (len:Nat):∀(rest:List UInt8) (k N i:Nat),inN (pU len rest k N i).1
 |[],_,_,_=>vJ
 |c::r,k,N,i=>by
  rw[pU];split
  .split
   .exact vJ
   exact LZ _
  split
  .exact vJ
  split
  .exact vJ
  exact L3 len r _ _ _
theorem Wq (s:List UInt8)(a:Int):inN (lz s a).1:=by
 unfold lz;split
 .exact vJ
 split
 .exact vJ
 split
 .exact L3 _ _ _ _ _
 split
 .unfold yC;split
  .exact vJ
  split
  .exact vJ
  exact LZ _
 exact vJ
theorem Dj {k n a:Int}{S:List UInt8}(hn:inN n)(hS:S.length<=1100):EK (k,n,S,a)=true:=by
 unfold EK;rw[fH hn.1,qG hn.2,dS hS];rfl
theorem L4 {s:List UInt8}(hs:s.length<=1000){a:Nat}{c:UInt8}{r:List UInt8}(hd:s.drop a=c::r)(h:(jM s c a).2.2.1=0):vq (jM s c a).1=true/\EK (jM s c a).1=true:=by
 have c0:dX s (a:Int) (a:Int)=[]:=by unfold dX;simp
 unfold jM at h ⊢;split at h
 .rename_i hf;rw[ag hf];have h:(gx s a).2.2.1=0:=h;unfold gx at h ⊢;obtain⟨m1,m2⟩:=EL s a (s.drop a) a rfl (aC _) (by omega) (by rw[c0];rfl) h;refine⟨?_,Dj vJ (by omega)⟩;have hh:(nM s a (s.drop a) a).1.head? = some c:=by
   rw[hd]at h ⊢;rw[nM]at h ⊢;have hm:um (cY c)=true:=OQ hf;rw[ag hm,aa (by omega)]at h ⊢;refine EM s a r (a+1) (xV hd) (by omega) ?_ h;rw[Aj (aC _) hd,c0];rfl
  show bX _=true;cases hS:(nM s a (s.drop a) a).1 with
  |nil=>rw[hS]at hh;cases hh
  |cons d q =>
   rw[hS]at hh m1 m2;have:d=c:=by simpa using hh
   subst this;show (decide (q.length<60)&&lZ (cY d)&&(d::q).all Ct)=true;simp only[aJ]at m2;rw[aX (by omega),hf,m1];rfl
 rename_i hf;rw[aa hf];split at h
 .rename_i hq;rw[ag hq];exact⟨rfl,Dj (Wq s a) (by simp)⟩
 rename_i hq;rw[aa hq];split at h
 .rename_i Y8;rw[ag Y8];have h:(vn s a).2.2.1=0:=h;unfold vn at h ⊢;have hp:=Ak s a (s.drop (a+1)) (a+1) rfl (aC _) (by unfold dX;simp) h;have hl:(jL s a (s.drop (a+1)) (a+1)).1.length<=1100:=by
   rw[quoteL_cut' s a _ _ h];have:=afJ (s:=s) ((a:Int)+1) ((jL s a (s.drop (a+1)) (a+1)).2.1-1);omega
  refine⟨?_,Dj vJ hl⟩;show ((jL s a (s.drop (a+1)) (a+1)).1.all BL&&bI 0 0)=true;rw[hp];rfl
 rename_i Y8;rw[aa Y8];have h:(vI s a).2.2.1=0:=h;unfold vI at h ⊢;have hm:=G9 s a zf h;have hm:(sC s a zf).1∈aak:=hm;have hl:∀S∈aak,S.length<=1100:=by decide
 refine⟨?_,Dj vJ (hl _ hm)⟩;show (aak.any (λp=>decide ((sC s a zf).1=p))&&bI 0 0)=true;rw[jd.2 ⟨_,hm,aX rfl⟩];rfl
theorem SY (s:List UInt8)(hs:s.length<=1000):∀(n:Nat) (left:List UInt8),left.length<=n->s.drop (s.length-left.length)=left->left.length<=s.length->∀y∈(sD s n left).1,vq y=true/\EK y=true:=by
 intro n;induction n with
 |zero=>intro left _ _ _ y hy;cases hy
 |succ n ih =>
  intro left h1 h3 h4
  match left,h1,h3,h4 with
  |[],_,_,_=>intro y hy;cases hy
  |c::r,h1,h3,h4 =>
   rw[aJ]at h1 h3 h4;have hr:s.drop (s.length-r.length)=r:=by
    have:s.length-r.length=s.length-(r.length+1)+1:=by omega
    rw[this,<-eJ,h3];rfl
   rw[sD];split
   .exact ih r (by omega) hr (by omega)
   split
   .intro y hy;cases hy
   split
   .rename_i hp;have he:=xU h3 hp;intro y hy;rcases bx.1 hy with rfl|hy
    .exact L4 hs h3 hp
    exact ih _ (by simp only[bQ];omega) (by rw[bQ];congr 1;omega) (by simp only[bQ];omega) y hy
   intro y hy;cases hy
theorem OS (s:List UInt8):(∀y∈(kf s).1,vq y=true/\EK y=true)/\(kf s).1.length<=1000:=by
 unfold kf;split
 .exact ⟨λy hy=>(by cases hy),(by simp)⟩
 rename_i hl;split
 .exact ⟨SY s (by omega) s.length s (aC _) (by simp) (aC _),(by have:=Wp s s.length s;show (sD s s.length s).1.length<=1000;omega)⟩
 exact⟨λy hy=>(by cases hy),(by simp)⟩
end Go.Proofs.YtbeckacfibledaaGreatDoor.lt
namespace Go.Proofs.YtbeckacfibledaaGreatDoor.ps.sr
open Go.Tv Go.Ev Go.Px Go.Pp Go.Proofs.YtbeckacfibledaaGreatDoor.ex
set_option maxRecDepth 100000
noncomputable section
def KP (k:Int)(w:List UInt8)(r:LR):Prop:=r.2.aF=k/\r.2.lab=w
section
variable {n:Int} {l:List Tok}
theorem Ra {s:RS}{e i:Int}:KP s.aF s.lab (hU n l s e i):=⟨rfl,rfl⟩
theorem XB {s:RS}{k:Int}{w:List UInt8}{go:List Nd->Int->LR}(h1:s.aF=k)(h2:s.lab=w)(hg:∀x e,KP k w (go x e)):KP k w (Mk n l s go):=by
 unfold Mk;split
 .exact ⟨h1,h2⟩
 exact hg _ _
theorem Pq {fin:Bool}{J:RS->LR}{s:RS}{k:Int}{w:List UInt8}(h1:s.aF=k)(h2:s.lab=w) (hJ:KP k w (J { s with a:=s.a+1 })):KP k w (xl n l fin J s):=by
 unfold xl;split
 .exact ⟨h1,h2⟩
 split
 .exact hJ
 exact⟨h1,h2⟩
theorem XC:∀(m:Nat) (s:RS),KP s.aF s.lab (JI n l m s)
 |0,s=>⟨rfl,rfl⟩
 |m+1,s=>by
  unfold JI;split
  .exact Ra
  split
  .exact Pq rfl rfl (XC m _)
  exact XB rfl rfl λx e=>Pq rfl rfl (XC m _)
theorem adB:∀(m:Nat) (s:RS),KP s.aF s.lab (T6 n l m s)
 |0,s=>⟨rfl,rfl⟩
 |m+1,s=>by
  unfold T6;split
  .exact Ra
  exact XB rfl rfl λx e=>Pq rfl rfl (adB m _)
theorem Pr (s:RS):KP s.aF s.lab (BW n l s):=by
 unfold BW;split<;>exact⟨rfl,rfl⟩
theorem Dn (aF:Int)(s:RS):KP aF s.lab (vL n l aF s):=XB rfl rfl λx e=>Pr _
variable (hl:∀t∈l,t.1=1->t.2.2.1≠[])
include hl in
end
end
end Go.Proofs.YtbeckacfibledaaGreatDoor.ps.sr
