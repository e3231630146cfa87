/- Tokens, written, joined. -/
import Derived.Test.YtbeckacfibledaaGreatDoorGrb
import Derived.Test.YtbeckacfibledaaGreatDoorLyg
import Derived.Test.YtbeckacfibledaaGreatDoorGva
set_option linter.unusedVariables false
set_option linter.unusedSimpArgs false

namespace Go.Proofs.YtbeckacfibledaaGreatDoor.lt
open Go.Tv Go.Ev
set_option maxRecDepth 100000
def adq:cA:=[[36,36],[60,60],[62,62],[43],[45],[42],[47],[37],[38],[124],[94],[126],[40],[41],[91],[93],[44],[58],[36]]
def C9 (c:UInt8):Bool:=uf (cS c) && !bS (cS c) 34
noncomputable def vl (y:Piece):Bool:=ah (bS y.1 1) (bS y.2.1 0&&bZ y.2.2.1) (ah (bS y.1 2) (decide (y.2.2.1=[])) (ah (bS y.1 3) (y.2.2.1.all C9&&bS y.2.1 0) (ah (bS y.1 4) (adq.any (λp=>decide (y.2.2.1=p))&&bS y.2.1 0) false)))
noncomputable def Ge (y:Piece):Bool := !bN y.2.1 (-9223372036854775808)&&bN y.2.1 9223372036854775808&&Nat.ble y.2.2.1.length 1100
theorem BU {s:au}{a e:Nat}(b:a<=e){c:UInt8}{r:au}(d:s.drop e=c::r):dZ s (a:Int) ((e+1:Nat):Int)=dZ s (a:Int) (e:Int)++[c]:=by
 unfold dZ;simp only[bf];have f:e+1-a=(e-a)+1:=by omega
 have e2:(s.drop a)[e-a]? = some c:=by
  rw[hU,show a+(e-a)=e by omega];have:s[e]? = (s.drop e)[0]? := by simp
  rw[this,d];rfl
 rw[f,List.take_add_one,e2];rfl
theorem Tj {s:au}(a e:Nat):(dZ s (a:Int) (e:Int)).length<=e-a:=by unfold dZ;simp;omega
theorem ai1 {s:au}(a e:Int):(dZ s a e).length<=s.length:=by unfold dZ;simp;omega
theorem za {s:au}{e:Nat}{c:UInt8}{r:au}(a:s.drop e=c::r):s.drop (e+1)=r:=by rw[<-dB,a];rfl
theorem Gg (s:au)(a:Nat):∀(rest:au) (e:Nat),s.drop e=rest->a<=e->e<=a+60->(dZ s a e).all yl=true->(jN s a rest e).2.2.1=0->(jN s a rest e).1.all yl=true/\(jN s a rest e).1.length<=60
 |[],e,_,g,i,f,_=>⟨f,by show (dZ s a e).length<=60;have:=Tj (s:=s) a e;omega⟩
 |c::r,e,h,g,i,f,d=>by
  rw[jN]at d ⊢;split at d
  .rename_i b;rw[ag b];split at d
   .exact absurd d (by simp)
   rename_i j;rw[aa j];have b:yl c=true:=b;refine Gg s a r (e+1) (za h) (by omega) (by omega) ?_ d;rw[BU g h,kX,f];simp[b]
  rename_i b;rw[aa b];exact⟨f,by show (dZ s a e).length<=60;have:=Tj (s:=s) a e;omega⟩
theorem Gh (s:au)(a:Nat){d:UInt8}:∀(rest:au) (e:Nat),s.drop e=rest->a<=e->(dZ s a e).head? = some d->(jN s a rest e).2.2.1=0->(jN s a rest e).1.head? = some d
 |[],e,_,_,f,_=>f
 |c::r,e,h,i,f,b=>by
  rw[jN]at b ⊢;split at b
  .rename_i g;rw[ag g];split at b
   .exact absurd b (by simp)
   rename_i j;rw[aa j];refine Gh s a r (e+1) (za h) (by omega) ?_ b;rw[BU i h,List.head?_append,f];rfl
  rename_i g;rw[aa g];exact f
theorem BV (s:au)(a:Nat):∀(rest:au) (e:Nat),s.drop e=rest->a+1<=e->(dZ s ((a+1:Nat):Int) e).all C9=true->(iH s a rest e).2.2.1=0->(iH s a rest e).1.all C9=true
 |[],e,_,_,_,h=>by exact absurd h (by rw[iH];simp)
 |c::r,e,f,j,g,b=>by
  rw[iH]at b ⊢;split at b
  .rename_i d;rw[ag d];exact g
  rename_i d;rw[aa d];split at b
  .rename_i i;rw[ag i];refine BV s a r (e+1) (za f) (by omega) ?_ b;have k:C9 c=true:=by unfold C9;rw[i,y9 d];rfl
   rw[BU j f,kX,g];simp[k]
  exact absurd b (by simp)
theorem Ja (s:au)(a:Nat):∀l:cA,(oN s a l).2.2.1=0->(oN s a l).1∈l
 |[],h=>by exact absurd h (by rw[oN];simp)
 |g::l,h=>by
  rw[oN]at h ⊢;split at h
  .rename_i b;rw[ag b];exact cq ..
  rename_i b;rw[aa b];exact bI _ (Ja s a l h)
theorem quoteL_cut' (s:au)(a:Nat):∀(rest:au) (e:Nat),(iH s a rest e).2.2.1=0->(iH s a rest e).1=dZ s (a+1) ((iH s a rest e).2.1-1):=by
 intro rest;induction rest with
 |nil=>intro e h;exact absurd h (by simp[iH])
 |cons c r d =>
  intro e h;rw[iH]at h ⊢;split at h
  .rename_i b;rw[ag b];show dZ s (a+1) e=dZ s (a+1) ((e:Int)+1-1);rw[show (e:Int)+1-1=e by omega]
  rename_i b;rw[aa b];split at h
  .rename_i f;rw[ag f];exact d (e+1) h
  exact absurd h (by simp)
theorem YX (s:au):∀(n:Nat) (left:au),(gD s n left).1.length<=n:=by
 intro n;induction n with
 |zero=>intro left;exact aG _
 |succ n a =>
  intro left
  match left with
  |[]=>exact cJ _
  |c::r =>
   rw[gD];split
   .exact Nat.le_succ_of_le (a r)
   split
   .exact cJ _
   split
   .exact Nat.succ_le_succ (a _)
   exact cJ _
def inN (n:Int):Prop := -9223372036854775808<=n/\n<9223372036854775808
theorem Oe (n:Int):inN (IntKind.wrap .i64 n):=by unfold inN;rw[Yc];split<;>omega
theorem xe:inN 0:=by unfold inN;omega
theorem Og (len:Nat):∀(rest:au) (k N i:Nat),inN (ot len rest k N i).1
 |[],_,_,_=>xe
 |c::r,k,N,i=>by
  rw[ot];split
  .split
   .exact xe
   exact Oe _
  split
  .exact xe
  split
  .exact xe
  exact Og len r _ _ _
theorem YY (s:au)(a:Int):inN (jq s a).1:=by
 unfold jq;split
 .exact xe
 split
 .exact xe
 split
 .exact Og _ _ _ _ _
 split
 .unfold sV;split
  .exact xe
  split
  .exact xe
  exact Oe _
 exact xe
theorem EC {k n a:Int}{S:au}(b:inN n)(c:S.length<=1100):Ge (k,n,S,a)=true:=by
 unfold Ge;rw[gB b.1,rC b.2,eN c];rfl
theorem Oh {s:au}(o:s.length<=1000){a:Nat}{c:UInt8}{r:au}(i:s.drop a=c::r)(h:(fN s c a).2.2.1=0):vl (fN s c a).1=true/\Ge (fN s c a).1=true:=by
 have c0:dZ s (a:Int) (a:Int)=[]:=by unfold dZ;simp
 unfold fN at h ⊢;split at h
 .rename_i f;rw[ag f];have h:(iE s a).2.2.1=0:=h;unfold iE at h ⊢;obtain⟨m1,l⟩:=Gg s a (s.drop a) a rfl (aG _) (by omega) (by rw[c0];rfl) h;refine⟨?_,EC xe (by omega)⟩;have g:(jN s a (s.drop a) a).1.head? = some c:=by
   rw[i]at h ⊢;rw[jN]at h ⊢;have e:rD (cS c)=true:=Q4 f;rw[ag e,aa (by omega)]at h ⊢;refine Gh s a r (a+1) (za i) (by omega) ?_ h;rw[BU (aG _) i,c0];rfl
  show bZ _=true;cases m:(jN s a (s.drop a) a).1 with
  |nil=>rw[m]at g;cases g
  |cons d q =>
   rw[m]at g m1 l;have:d=c:=by simpa using g
   subst this;show (decide (q.length<60)&&kK (cS d)&&(d::q).all yl)=true;simp only[aJ]at l;rw[bg (by omega),f,m1];rfl
 rename_i f;rw[aa f];split at h
 .rename_i j;rw[ag j];exact⟨rfl,EC (YY s a) (by simp)⟩
 rename_i j;rw[aa j];split at h
 .rename_i b;rw[ag b];have h:(vk s a).2.2.1=0:=h;unfold vk at h ⊢;have n:=BV s a (s.drop (a+1)) (a+1) rfl (aG _) (by unfold dZ;simp) h;have k:(iH s a (s.drop (a+1)) (a+1)).1.length<=1100:=by
   rw[quoteL_cut' s a _ _ h];have:=ai1 (s:=s) ((a:Int)+1) ((iH s a (s.drop (a+1)) (a+1)).2.1-1);omega
  refine⟨?_,EC xe k⟩;show ((iH s a (s.drop (a+1)) (a+1)).1.all C9&&bS 0 0)=true;rw[n];rfl
 rename_i b;rw[aa b];have h:(uT s a).2.2.1=0:=h;unfold uT at h ⊢;have e:=Ja s a yj h;have e:(oN s a yj).1∈adq:=e;have k:∀S∈adq,S.length<=1100:=by decide
 refine⟨?_,EC xe (k _ e)⟩;show (adq.any (λp=>decide ((oN s a yj).1=p))&&bS 0 0)=true;rw[kj.2 ⟨_,e,bg rfl⟩];rfl
theorem Vu (s:au)(g:s.length<=1000):∀(n:Nat) (left:au),left.length<=n->s.drop (s.length-left.length)=left->left.length<=s.length->∀y∈(gD s n left).1,vl y=true/\Ge y=true:=by
 intro n;induction n with
 |zero=>intro left _ _ _ y hy;cases hy
 |succ n e =>
  intro left b a d
  match left,b,a,d with
  |[],_,_,_=>intro y hy;cases hy
  |c::r,b,a,d =>
   rw[aJ]at b a d;have h:s.drop (s.length-r.length)=r:=by
    have:s.length-r.length=s.length-(r.length+1)+1:=by omega
    rw[this,<-dB,a];rfl
   rw[gD];split
   .exact e r (by omega) h (by omega)
   split
   .intro y hy;cases hy
   split
   .rename_i f;have i:=vL a f;intro y hy;rcases bD.1 hy with rfl|hy
    .exact Oh g a f
    exact e _ (by simp only[bB];omega) (by rw[bB];congr 1;omega) (by simp only[bB];omega) y hy
   intro y hy;cases hy
theorem Gi (s:au):(∀y∈(gq s).1,vl y=true/\Ge y=true)/\(gq s).1.length<=1000:=by
 unfold gq;split
 .exact ⟨λy hy=>(by cases hy),(by simp)⟩
 rename_i a;split
 .exact ⟨Vu s (by omega) s.length s (aG _) (by simp) (aG _),(by have:=YX s s.length s;show (gD s s.length s).1.length<=1000;omega)⟩
 exact⟨λy hy=>(by cases hy),(by simp)⟩
end Go.Proofs.YtbeckacfibledaaGreatDoor.lt
namespace Go.Proofs.YtbeckacfibledaaGreatDoor.ps.sr
open Go.Tv Go.Ev Go.Px Go.Pp Go.Proofs.YtbeckacfibledaaGreatDoor.ex
set_option maxRecDepth 100000
noncomputable section
def KP (k:Int)(w:au)(r:LR):Prop:=r.2.aC=k/\r.2.lab=w
section
variable {n:Int} {l:aX}
theorem TH {s:RS}{e i:Int}:KP s.aC s.lab (iT n l s e i):=⟨rfl,rfl⟩
theorem Z7 {s:RS}{k:Int}{w:au}{go:bz->Int->LR}(a:s.aC=k)(b:s.lab=w)(c:∀x e,KP k w (go x e)):KP k w (Dj n l s go):=by
 unfold Dj;split
 .exact ⟨a,b⟩
 exact c _ _
theorem RD {fin:Bool}{J:RS->LR}{s:RS}{k:Int}{w:au}(b:s.aC=k)(c:s.lab=w) (d:KP k w (J { s with a:=s.a+1 })):KP k w (rR n l fin J s):=by
 unfold rR;split
 .exact ⟨b,c⟩
 split
 .exact d
 exact⟨b,c⟩
theorem TI:∀(m:Nat) (s:RS),KP s.aC s.lab (B5 n l m s)
 |0,s=>⟨rfl,rfl⟩
 |m+1,s=>by
  unfold B5;split
  .exact TH
  split
  .exact RD rfl rfl (TI m _)
  exact Z7 rfl rfl λx e=>RD rfl rfl (TI m _)
theorem TJ:∀(m:Nat) (s:RS),KP s.aC s.lab (HM n l m s)
 |0,s=>⟨rfl,rfl⟩
 |m+1,s=>by
  unfold HM;split
  .exact TH
  exact Z7 rfl rfl λx e=>RD rfl rfl (TJ m _)
theorem AY (s:RS):KP s.aC s.lab (zC n l s):=by
 unfold zC;split<;>exact⟨rfl,rfl⟩
theorem rA (aC:Int)(s:RS):KP aC s.lab (sW n l aC s):=Z7 rfl rfl λx e=>AY _
variable (hl:∀t∈l,t.1=1->t.2.2.1≠[])
include hl in
end
theorem Z8 {s:au}:∀t∈(lt.gq s).1,t.1=1->t.2.2.1≠[]:=λt a b=>by
 have:=((lt.Gi s).1 t a).1;unfold lt.vl at this;intro c;rw[b,c]at this;have this:(bS t.2.1 0&&lt.bZ [])=true:=this;rw[show lt.bZ []=false from rfl,Bool.and_false]at this;cases this
end
end Go.Proofs.YtbeckacfibledaaGreatDoor.ps.sr
