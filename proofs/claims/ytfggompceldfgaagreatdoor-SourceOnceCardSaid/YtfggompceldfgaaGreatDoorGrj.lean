/- Tokens, written, joined. What is written is read as it. What is read may be; faults are in the text. A line that is read: one that defines a name has it. -/
import Derived.Test.YtfggompceldfgaaGreatDoorGrb
import Derived.Test.YtfggompceldfgaaGreatDoorLyg
import Derived.Test.YtfggompceldfgaaGreatDoorGva
set_option linter.unusedVariables false
set_option linter.unusedSimpArgs false

namespace Go.Proofs.YtfggompceldfgaaGreatDoor.lt
open Go.Tv Go.Ev
set_option maxRecDepth 100000
def ZQ:List (List UInt8):=[[36,36],[60,60],[62,62],[43],[45],[42],[47],[37],[38],[124],[94],[126],[40],[41],[91],[93],[44],[58],[36]]
def BF (c:UInt8):Bool:=tL (cU c) && !bI (cU c) 34
noncomputable def tM (y:Piece):Bool:=ah (bI y.1 1) (bI y.2.1 0&&bX y.2.2.1) (ah (bI y.1 2) (decide (y.2.2.1=[])) (ah (bI y.1 3) (y.2.2.1.all BF&&bI y.2.1 0) (ah (bI y.1 4) (ZQ.any (λp=>decide (y.2.2.1=p))&&bI y.2.1 0) false)))
noncomputable def EC (y:Piece):Bool := !bB y.2.1 (-9223372036854775808)&&bB y.2.1 9223372036854775808&&Nat.ble y.2.2.1.length 1100
theorem Ab {s:List UInt8}{a e:Nat}(hae:a<=e){c:UInt8}{r:List UInt8}(hd:s.drop e=c::r):eA s (a:Int) ((e+1:Nat):Int)=eA s (a:Int) (e:Int)++[c]:=by
 unfold eA;simp only[bh];have e1:e+1-a=(e-a)+1:=by omega
 have e2:(s.drop a)[e-a]? = some c:=by
  rw[fS,show a+(e-a)=e by omega];have:s[e]? = (s.drop e)[0]? := by simp
  rw[this,hd];rfl
 rw[e1,List.take_add_one,e2];rfl
theorem Qp {s:List UInt8}(a e:Nat):(eA s (a:Int) (e:Int)).length<=e-a:=by unfold eA;simp;omega
theorem aeW {s:List UInt8}(a e:Int):(eA s a e).length<=s.length:=by unfold eA;simp;omega
theorem xK {s:List UInt8}{e:Nat}{c:UInt8}{r:List UInt8}(hd:s.drop e=c::r):s.drop (e+1)=r:=by rw[<-eH,hd];rfl
theorem ED (s:List UInt8)(a:Nat):∀(rest:List UInt8) (e:Nat),s.drop e=rest->a<=e->e<=a+60->(eA s a e).all Cm=true->(nM s a rest e).2.2.1=0->(nM s a rest e).1.all Cm=true/\(nM s a rest e).1.length<=60
 |[],e,_,h2,h3,h4,_=>⟨h4,by show (eA s a e).length<=60;have:=Qp (s:=s) a e;omega⟩
 |c::r,e,h1,h2,h3,h4,h5=>by
  rw[nM]at h5 ⊢;split at h5
  .rename_i hm;rw[ag hm];split at h5
   .exact absurd h5 (by simp)
   rename_i VM;rw[aa VM];have hm:Cm c=true:=hm;refine ED s a r (e+1) (xK h1) (by omega) (by omega) ?_ h5;rw[Ab h2 h1,jF,h4];simp[hm]
  rename_i hm;rw[aa hm];exact⟨h4,by show (eA s a e).length<=60;have:=Qp (s:=s) a e;omega⟩
theorem EE (s:List UInt8)(a:Nat){d:UInt8}:∀(rest:List UInt8) (e:Nat),s.drop e=rest->a<=e->(eA s a e).head? = some d->(nM s a rest e).2.2.1=0->(nM s a rest e).1.head? = some d
 |[],e,_,_,h4,_=>h4
 |c::r,e,h1,h2,h4,h5=>by
  rw[nM]at h5 ⊢;split at h5
  .rename_i hm;rw[ag hm];split at h5
   .exact absurd h5 (by simp)
   rename_i VM;rw[aa VM];refine EE s a r (e+1) (xK h1) (by omega) ?_ h5;rw[Ab h2 h1,List.head?_append,h4];rfl
  rename_i hm;rw[aa hm];exact h4
theorem Ac (s:List UInt8)(a:Nat):∀(rest:List UInt8) (e:Nat),s.drop e=rest->a+1<=e->(eA s ((a+1:Nat):Int) e).all BF=true->(jN s a rest e).2.2.1=0->(jN s a rest e).1.all BF=true
 |[],e,_,_,_,h=>by exact absurd h (by rw[jN];simp)
 |c::r,e,h1,h2,h4,h5=>by
  rw[jN]at h5 ⊢;split at h5
  .rename_i hq;rw[ag hq];exact h4
  rename_i hq;rw[aa hq];split at h5
  .rename_i hp;rw[ag hp];refine Ac s a r (e+1) (xK h1) (by omega) ?_ h5;have hb:BF c=true:=by unfold BF;rw[hp,xI hq];rfl
   rw[Ab h2 h1,jF,h4];simp[hb]
  exact absurd h5 (by simp)
theorem GJ (s:List UInt8)(a:Nat):∀l:List (List UInt8),(sC s a l).2.2.1=0->(sC s a l).1∈l
 |[],h=>by exact absurd h (by rw[sC];simp)
 |g::l,h=>by
  rw[sC]at h ⊢;split at h
  .rename_i hp;rw[ag hp];exact cE ..
  rename_i hp;rw[aa hp];exact bE _ (GJ s a l h)
theorem quoteL_cut' (s:List UInt8)(a:Nat):∀(rest:List UInt8) (e:Nat),(jN s a rest e).2.2.1=0->(jN s a rest e).1=eA s (a+1) ((jN s a rest e).2.1-1):=by
 intro rest;induction rest with
 |nil=>intro e h;exact absurd h (by simp[jN])
 |cons c r ih =>
  intro e h;rw[jN]at h ⊢;split at h
  .rename_i hm;rw[ag hm];show eA s (a+1) e=eA s (a+1) ((e:Int)+1-1);rw[show (e:Int)+1-1=e by omega]
  rename_i hm;rw[aa hm];split at h
  .rename_i hp;rw[ag hp];exact ih (e+1) h
  exact absurd h (by simp)
theorem VV (s:List UInt8):∀(n:Nat) (left:List UInt8),(sD s n left).1.length<=n:=by
 intro n;induction n with
 |zero=>intro left;exact aG _
 |succ n ih =>
  intro left
  match left with
  |[]=>exact cq _
  |c::r =>
   rw[sD];split
   .exact Nat.le_succ_of_le (ih r)
   split
   .exact cq _
   split
   .exact Nat.succ_le_succ (ih _)
   exact cq _
def inN (n:Int):Prop := -9223372036854775808<=n/\n<9223372036854775808
theorem LD (n:Int):inN (IntKind.wrap .i64 n):=by unfold inN;rw[Va];split<;>omega
theorem vC:inN 0:=by unfold inN;omega
theorem LF (len:Nat):∀(rest:List UInt8) (k N i:Nat),inN (pN len rest k N i).1
 |[],_,_,_=>vC
 |c::r,k,N,i=>by
  rw[pN];split
  .split
   .exact vC
   exact LD _
  split
  .exact vC
  split
  .exact vC
  exact LF len r _ _ _
theorem VW (s:List UInt8)(a:Int):inN (lq s a).1:=by
 unfold lq;split
 .exact vC
 split
 .exact vC
 split
 .exact LF _ _ _ _ _
 split
 .unfold ym;split
  .exact vC
  split
  .exact vC
  exact LD _
 exact vC
theorem Db {k n a:Int}{S:List UInt8}(hn:inN n)(hS:S.length<=1100):EC (k,n,S,a)=true:=by
 unfold EC;rw[fG hn.1,pL hn.2,ee hS];rfl
theorem LG {s:List UInt8}(hs:s.length<=1000){a:Nat}{c:UInt8}{r:List UInt8}(hd:s.drop a=c::r)(h:(jO s c a).2.2.1=0):tM (jO s c a).1=true/\EC (jO s c a).1=true:=by
 have c0:eA s (a:Int) (a:Int)=[]:=by unfold eA;simp
 unfold jO at h ⊢;split at h
 .rename_i hf;rw[ag hf];have h:(fO s a).2.2.1=0:=h;unfold fO at h ⊢;obtain⟨m1,m2⟩:=ED s a (s.drop a) a rfl (aG _) (by omega) (by rw[c0];rfl) h;refine⟨?_,Db vC (by omega)⟩;have hh:(nM s a (s.drop a) a).1.head? = some c:=by
   rw[hd]at h ⊢;rw[nM]at h ⊢;have hm:uj (cU c)=true:=Oj hf;rw[ag hm,aa (by omega)]at h ⊢;refine EE s a r (a+1) (xK hd) (by omega) ?_ h;rw[Ab (aG _) hd,c0];rfl
  show bX _=true;cases hS:(nM s a (s.drop a) a).1 with
  |nil=>rw[hS]at hh;cases hh
  |cons d q =>
   rw[hS]at hh m1 m2;have:d=c:=by simpa using hh
   subst this;show (decide (q.length<60)&&lY (cU d)&&(d::q).all Cm)=true;simp only[aJ]at m2;rw[bf (by omega),hf,m1];rfl
 rename_i hf;rw[aa hf];split at h
 .rename_i hq;rw[ag hq];exact⟨rfl,Db (VW s a) (by simp)⟩
 rename_i hq;rw[aa hq];split at h
 .rename_i YH;rw[ag YH];have h:(vi s a).2.2.1=0:=h;unfold vi at h ⊢;have hp:=Ac s a (s.drop (a+1)) (a+1) rfl (aG _) (by unfold eA;simp) h;have hl:(jN s a (s.drop (a+1)) (a+1)).1.length<=1100:=by
   rw[quoteL_cut' s a _ _ h];have:=aeW (s:=s) ((a:Int)+1) ((jN s a (s.drop (a+1)) (a+1)).2.1-1);omega
  refine⟨?_,Db vC hl⟩;show ((jN s a (s.drop (a+1)) (a+1)).1.all BF&&bI 0 0)=true;rw[hp];rfl
 rename_i YH;rw[aa YH];have h:(vB s a).2.2.1=0:=h;unfold vB at h ⊢;have hm:=GJ s a y5 h;have hm:(sC s a y5).1∈ZQ:=hm;have hl:∀S∈ZQ,S.length<=1100:=by decide
 refine⟨?_,Db vC (hl _ hm)⟩;show (ZQ.any (λp=>decide ((sC s a y5).1=p))&&bI 0 0)=true;rw[jb.2 ⟨_,hm,bf rfl⟩];rfl
theorem Su (s:List UInt8)(hs:s.length<=1000):∀(n:Nat) (left:List UInt8),left.length<=n->s.drop (s.length-left.length)=left->left.length<=s.length->∀y∈(sD s n left).1,tM y=true/\EC y=true:=by
 intro n;induction n with
 |zero=>intro left _ _ _ y hy;cases hy
 |succ n ih =>
  intro left h1 h3 h4
  match left,h1,h3,h4 with
  |[],_,_,_=>intro y hy;cases hy
  |c::r,h1,h3,h4 =>
   rw[aJ]at h1 h3 h4;have hr:s.drop (s.length-r.length)=r:=by
    have:s.length-r.length=s.length-(r.length+1)+1:=by omega
    rw[this,<-eH,h3];rfl
   rw[sD];split
   .exact ih r (by omega) hr (by omega)
   split
   .intro y hy;cases hy
   split
   .rename_i hp;have he:=xJ h3 hp;intro y hy;rcases bw.1 hy with rfl|hy
    .exact LG hs h3 hp
    exact ih _ (by simp only[bR];omega) (by rw[bR];congr 1;omega) (by simp only[bR];omega) y hy
   intro y hy;cases hy
theorem EF (s:List UInt8):(∀y∈(j3 s).1,tM y=true/\EC y=true)/\(j3 s).1.length<=1000:=by
 unfold j3;split
 .exact ⟨λy hy=>(by cases hy),(by simp)⟩
 rename_i hl;split
 .exact ⟨Su s (by omega) s.length s (aG _) (by simp) (aG _),(by have:=VV s s.length s;show (sD s s.length s).1.length<=1000;omega)⟩
 exact⟨λy hy=>(by cases hy),(by simp)⟩
end Go.Proofs.YtfggompceldfgaaGreatDoor.lt
namespace Go.Proofs.YtfggompceldfgaaGreatDoor.ps.sr
open Go.Tv Go.Ev Go.Px Go.Pp Go.Proofs.YtfggompceldfgaaGreatDoor.ex
set_option maxRecDepth 100000
noncomputable section
def KP (k:Int)(w:List UInt8)(r:LR):Prop:=r.2.aC=k/\r.2.lab=w
section
variable {n:Int} {l:List Tok}
theorem QF {s:RS}{e i:Int}:KP s.aC s.lab (gJ n l s e i):=⟨rfl,rfl⟩
theorem Xc {s:RS}{k:Int}{w:List UInt8}{go:List Nd->Int->LR}(h1:s.aC=k)(h2:s.lab=w)(hg:∀x e,KP k w (go x e)):KP k w (JO n l s go):=by
 unfold JO;split
 .exact ⟨h1,h2⟩
 exact hg _ _
theorem OX {fin:Bool}{J:RS->LR}{s:RS}{k:Int}{w:List UInt8}(h1:s.aC=k)(h2:s.lab=w) (hJ:KP k w (J { s with a:=s.a+1 })):KP k w (wY n l fin J s):=by
 unfold wY;split
 .exact ⟨h1,h2⟩
 split
 .exact hJ
 exact⟨h1,h2⟩
theorem QG:∀(m:Nat) (s:RS),KP s.aC s.lab (Jn n l m s)
 |0,s=>⟨rfl,rfl⟩
 |m+1,s=>by
  unfold Jn;split
  .exact QF
  split
  .exact OX rfl rfl (QG m _)
  exact Xc rfl rfl λx e=>OX rfl rfl (QG m _)
theorem Xd:∀(m:Nat) (s:RS),KP s.aC s.lab (Tz n l m s)
 |0,s=>⟨rfl,rfl⟩
 |m+1,s=>by
  unfold Tz;split
  .exact QF
  exact Xc rfl rfl λx e=>OX rfl rfl (Xd m _)
theorem Fi (s:RS):KP s.aC s.lab (BO n l s):=by
 unfold BO;split<;>exact⟨rfl,rfl⟩
theorem tv (aC:Int)(s:RS):KP aC s.lab (vF n l aC s):=Xc rfl rfl λx e=>Fi _
def QL (r:LR):Prop:=r.1=true->(r.2.aC=3\/r.2.aC=6)->r.2.lab≠[]
theorem Hr {k:Int}{w:List UInt8}{r:LR}(h:KP k w r)(h3:k≠3)(h6:k≠6):QL r:=λ_ hk=>by rw[h.1]at hk;omega
theorem Xe {k:Int}{w:List UInt8}{r:LR}(h:KP k w r)(hw:w≠[]):QL r:=λ_ _=>by rw[h.2];exact hw
theorem rO {s:RS}{e i:Int}:QL (gJ n l s e i):=λh=>by cases h
variable (hl:∀t∈l,t.1=1->t.2.2.1≠[])
include hl in
theorem Js {i:Int}{s:RS}{k:RS->LR} (hk:∀t,t≠[]->QL (k { s with lab:=t })):QL (FR n l i s k):=by
 unfold FR;split
 .exact rO
 rename_i t ht;split
 .exact rO
 exact hk t (afZ (n:=n) hl i ht)
include hl in
theorem aaC {w:List UInt8}{s:RS}:QL (jR n l w s):=by
 unfold jR;split
 .exact Hr (QG _ _) (by show (2:Int)≠3;decide) (by show (2:Int)≠6;decide)
 split
 .exact Hr (tv 8 _) (by decide) (by decide)
 split
 .exact Hr (tv 4 _) (by decide) (by decide)
 split
 .exact Hr (tv 5 _) (by decide) (by decide)
 split
 .exact Js hl λt ht=>Xe (Fi _) ht
 split
 .exact Hr (Fi _) (by show (7:Int)≠3;decide) (by show (7:Int)≠6;decide)
 split
 .exact Hr (Xd _ _) (by show (9:Int)≠3;decide) (by show (9:Int)≠6;decide)
 split
 .unfold WQ;split
  .exact rO
  exact λ_ hk=>by
   have hk:(1:Int)=3\/(1:Int)=6:=hk;omega
 exact rO
include hl in
theorem QH {cY:Bool}{s:RS}(h:s.aC=0):QL (ru n l cY s):=by
 unfold ru;split
 .split
  .exact rO
  exact λ_ hk=>by
   have hk:s.aC=3\/s.aC=6:=hk;omega
 split
 .exact rO
 unfold OS;split
 .exact rO
 split
 .exact rO
 exact aaC hl
include hl in
theorem Mc {s:RS}(h:s.aC=0):QL (qg n l s):=by
 unfold qg;split
 .unfold JO;split
  .exact rO
  exact QH hl h
 exact QH hl h
include hl in
theorem aaD:QL (pQ n l ry):=by
 unfold pQ;split
 .exact Js hl λt ht=>Xe (tv 3 _) ht
 split
 .exact Js hl λt ht=>Mc hl rfl
 exact Mc hl rfl
end
theorem Xf {s:List UInt8}:∀t∈(lt.j3 s).1,t.1=1->t.2.2.1≠[]:=λt ht h1=>by
 have:=((lt.EF s).1 t ht).1;unfold lt.tM at this;intro h0;rw[h1,h0]at this;have this:(bI t.2.1 0&&lt.bX [])=true:=this;rw[show lt.bX []=false from rfl,Bool.and_false]at this;cases this
theorem Xh (s:List UInt8)(h:(iK s).2.1=0)(hk:(iK s).1.aC=3\/(iK s).1.aC=6):(iK s).1.lab≠[]:=by
 unfold iK at h hk ⊢;split at h
 .rename_i h1;exact absurd h h1
 rename_i h1;rw[aa h1]at hk ⊢;split at h
 .rename_i h2;rw[ag h2]at hk ⊢;exact aaD Xf h2 hk
 rename_i h2;rw[aa h2]at hk;have hk:(0:Int)=3\/(0:Int)=6:=hk;omega
end
end Go.Proofs.YtfggompceldfgaaGreatDoor.ps.sr
