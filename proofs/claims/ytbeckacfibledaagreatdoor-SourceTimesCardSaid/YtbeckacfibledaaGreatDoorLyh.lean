/- Contracts of functions that are handed a pointer to a row of theirs, and hand back lists in lists. -/
import Derived.Test.YtbeckacfibledaaGreatDoorLyg
set_option linter.unusedVariables false
set_option linter.unusedSimpArgs false

namespace Go.Tv
open Go.Ev (Tr ah jx Mem kV alive ay eA)
noncomputable section
def Q6:AV->Bool
 |.int _ _=>true
 |.bool _=>true
 |.str _=>true
 |.rL _=>true
 |.eB=>true
 |.pU=>true
 |.eC _ _=>true
 |.fn _ [] []=>true
 |_=>false
def Gj:AV->Bool
 |.agg l=>l.all Q6
 |v=>Q6 v
inductive Gm where
 |val (v:AV)
 |list (t:TypeId) (e:Ty) (l:List e.den)
abbrev eZ:=List Gm
theorem YZ {S S':Wo}(r:∀i x,S.F i=some x->S'.F i=some x){v:AV}{x:Value}(h:Gj v=true)(g:VR S v x):VR S' v x:=by
 have one:∀{v:AV} {x:Value},Q6 v=true->VR S v x->VR S' v x:=λh g=>by
  cases g with
  |int=>exact .int _ _
  |bool=>exact .bool _
  |str=>exact .str _
  |rL=>exact .rL _
  |eB=>exact .eB
  |pU=>exact .pU
  |eC e l _ h=>exact .eC e l _ (h.mono r)
  |fn f a b o p c d t u =>
   match a,b,h with
   |[],[],_=>exact .fn f [] [] o p c d (λj x y q=>by cases q) (λj x y q=>by cases q)
  |_=>cases h
 cases g with
 |fn f a b o p c d t u=>exact one h (.fn f a b o p c d t u)
 |agg l m w z=>exact .agg l m w λj a b c d=>one (aN.1 h a (bu c)) (z j a b c d)
 |int k n=>exact one h (.int k n)
 |bool b=>exact one h (.bool b)
 |str s=>exact one h (.str s)
 |rL n=>exact one h (.rL n)
 |eB=>exact .eB
 |pU=>exact .pU
 |eC e l _ h=>exact .eC e l _ (h.mono r)
 |_=>cases h
def lY:eZ->aH->aI×aH
 |[],H=>([],H)
 |.val v::rs,H=>(v::(lY rs H).1,(lY rs H).2)
 |.list t e l::rs,H=>(.own H.next l.length::(lY rs (H.push (.list t e l 0 false false))).1,(lY rs (H.push (.list t e l 0 false false))).2)
def sO (M:aH):cY->aI->eZ->Prop
 |_,[],[]=>True
 |seen,v::vs,.val w::rs=>v=w/\Gj w=true/\sO M seen vs rs
 |seen,v::vs,.list t e l::rs=>(∃id iL ex,v = .own id l.length/\M.get id=some (.list t e l iL ex false)/\id ∉ seen/\sO M (id::seen) vs rs)\/(v = .eB/\l=[]/\sO M seen vs rs)
 |_,_,_=>False
def agl (S:Wo)(H:aH)(E:Mem)(Gn:Nat->Prop)(rs:eZ)(xs:aW):Prop :=
 ∃S',S.le S'/\LV S' (lY rs H).1 xs/\Rel S' (lY rs H).2 E/\S'.F=S.F/\H.next<=(lY rs H).2.next/\(lY rs H).2.lk=H.lk/\(lY rs H).2.par=H.par /\
  (∀id,id<H.next->(lY rs H).2.get id=H.get id/\S'.ρ id=S.ρ id)/\(∀id q z,H.next<=id->(lY rs H).2.get id=some q->S'.ρ id=some z->Gn z.1)
theorem Tk {S1:Wo}{M1:aH}{E:Mem}(B:Rel S1 M1 E)(Gn:Nat->Prop)(D:M1.lk=0):∀{vs:aI} {rs:eZ} {seen:cY} {xs:aW} {S:Wo} {H:aH},sO M1 seen vs rs->LV S1 vs xs->Rel S H E->S.F=S1.F ->
 (∀id r y,M1.get id=some r->id ∉ seen->S1.ρ id=some y->r.Cm=false->Gn y.1/\∀k q z,H.get k=some q->S.ρ k=some z->z.1≠y.1) ->
 agl S H E Gn rs xs
 |[],[],seen,xs,S,H,_,P,p,s,f=>by
  rw[P.kI];exact⟨S,S.le_refl,LV.nil,p,rfl,aG _,rfl,rfl,λ_ _=>⟨rfl,rfl⟩,λid q z a u _=>absurd (aH.fM u) (by show ¬id<H.next;omega)⟩
 |v::vs,Q::rs,seen,xs,S,H,h,P,p,s,f=>by
  obtain⟨x,R,rfl,M,h2⟩:=P.cons_inv;have T:∀v,S.Γ H.next v=none:=λv=>p.D5 _ _ (aG _)
  have go:∀(t:TypeId) (e:Ty) (l:List e.den) (c:cY) (y:Option (Nat×Nat×Nat)),Q = .list t e l->sO M1 c vs rs->S.le (S.new H.next y (some ⟨e,l⟩))->Rel (S.new H.next y (some ⟨e,l⟩)) (H.push (.list t e l 0 false false)) E->VR (S.new H.next y (some ⟨e,l⟩)) (.own H.next l.length) x ->
   (∀z,y=some z->Gn z.1/\∃G N r1,G∈c/\S1.ρ G=some N/\N.1=z.1/\M1.get G=some r1)->(∀id,id∈seen->id∈c)->agl S H E Gn (Q::rs) (x::R):=λt e l c y WL I U J V hy K=>by
   subst WL;obtain⟨p1,p2,p3,p4⟩:=aH.eG H (.list t e l 0 false false);have A:∀id r C,M1.get id=some r->id ∉ c->S1.ρ id=some C->r.Cm=false->Gn C.1/\∀k q z,(H.push (.list t e l 0 false false)).get k=some q->(S.new H.next y (some ⟨e,l⟩)).ρ k=some z->z.1≠C.1:=λid r C o m hρ W=>by
    obtain⟨k1,k2⟩:=f id r C o (λhm=>m (K _ hm)) hρ W;refine⟨k1,λk q z u d=>?_⟩;rw[p4]at u;by_cases a:k=H.next
    .subst a;have d:y=some z:=by rw[<-d];exact(ag rfl).symm
     obtain⟨_,G,N,r1,b1,b2,b3,b4⟩:=hy z d;intro he;have:=B.inj G id r1 r N C b4 o b2 hρ (by omega);subst this;exact m b1
    rw[aa a]at u;have d:S.ρ k=some z:=by rw[<-d];exact(aa a).symm
    exact k2 k q z u d
   obtain⟨S',a1,a2,Y,O,a5,a6,a7,Z,a9⟩:=Tk B Gn D I h2 J s A;rw[p1]at a5 Z a9;rw[p2]at a6;rw[p3]at a7;refine⟨S',Wo.le_trans U a1,LV.cons (V.mono a1) a2,Y,O,bA (gx _) a5,a6,a7,λid a=>?_,λid q z a u d=>?_⟩
   .obtain ⟨b1,b2⟩:=Z id (by omega);exact⟨b1.trans (by rw[p4,aa (by omega)]),b2.trans (aa (by omega))⟩
   by_cases L:id=H.next
   .subst L;have:S'.ρ H.next=(S.new H.next y (some ⟨e,l⟩)).ρ H.next:=(Z H.next (by omega)).2
    rw[this]at d;have d:y=some z:=by rw[<-d];exact(ag rfl).symm
    exact(hy z d).1
   exact a9 id q z (by omega) u d
  cases Q with
  |val w =>
   obtain⟨rfl,hs,h⟩:=h;obtain⟨S',a1,a2,Y,O⟩:=Tk B Gn D h h2 p s f;exact⟨S',a1,LV.cons (YZ (λi x hx=>by rw[O.1,s];exact hx) hs M) a2,Y,O⟩
  |list t e l =>
   rcases h with⟨id,iL,ex,rfl,o,m,h⟩|⟨rfl,rfl,h⟩
   .obtain ⟨g1,⟨g0,g,g2,g2'⟩,g3⟩:=B.row id _ o;generalize Nk:l.length=n at M;cases M with
    |own _ _ i0 rM s0 hρ g' hg' hn' =>
     rcases g3 with⟨_,g5,_⟩|⟨i',cap,b,mid,post,q1,q2,q3,q4,q5,q6,q7,q8,q9,zw⟩
     .rw[hρ]at g5;cases g5
     rw[hρ]at q1;cases q1;subst Nk;obtain⟨f1,f2⟩:=f id _ _ o m hρ rfl;obtain⟨b1,b2⟩:=p.zP (r:=.list t e l 0 false false) (x:=some (i0,rM,e.size)) (g:=some ⟨e,l⟩) (λr' j=>by
      cases j;exact mJ T q2 q3 q4 (by rw[s];exact q5) q6 q7 q8 (λh=>by cases h) (by rw[s];exact zw.2)) (λy hy=>by
       cases hy;exact⟨f2,by rw[s];exact B.sep id _ _ o rfl hρ,B.lk id _ _ o (by omega) hρ⟩)
     refine go t e l (id::seen) _ rfl h b1 b2 (.own _ _ i0 rM e.size (ag rfl) ⟨e,l⟩ (ag ⟨rfl,rfl⟩) rfl) (λz d=>?_) (λid a=>bI _ a);cases d;exact⟨f1,id,_,_,cq,hρ,rfl,o⟩
    |iw _ g' hg' hn' =>
     have hl0:l=[]:=aS.1 Nk;subst hl0;obtain⟨b1,b2⟩:=p.zP (r:=.list t e [] 0 false false) (x:=none) (g:=some ⟨e,[]⟩) (λr' j=>by cases j;exact mK T) (λy hy=>by cases hy);exact go t e [] (id::seen) none rfl h b1 b2 (.iw _ ⟨e,[]⟩ (ag ⟨rfl,rfl⟩) rfl) (λz d=>by cases d) (λid a=>bI _ a)
   cases M;obtain⟨b1,b2⟩:=p.zP (r:=.list t e [] 0 false false) (x:=none) (g:=some ⟨e,[]⟩) (λr' j=>by cases j;exact mK T) (λy hy=>by cases hy);exact go t e [] seen none rfl h b1 b2 (.iw _ ⟨e,[]⟩ (ag ⟨rfl,rfl⟩) rfl) (λz d=>by cases d) (λid a=>a)
theorem Rel.putAt {S:Wo}{H:aH}{E:Mem}(h:Rel S H E){id:Nat}{r:Row}(k:id<H.next)(w:r.Cm=false)(x:∀r',r.live=some r'->qD S E id r')
 (g:∀y,S.ρ id=some y->(∀c q z,H.get c=some q->c≠id->S.ρ c=some z->z.1≠y.1)/\S.F y.1=none/\E.lk<=y.1):Rel S (H.put id r) E:=by
 obtain⟨i,t,p3,p4⟩:=aH.iK H id r;have f:∀j q,(H.put id r).get j=some q->(j=id/\r.live=some q)\/(j≠id/\H.get j=some q):=λj q a=>by
  rw[p4]at a;by_cases e:j=id
  .rw[ag e,ag k]at a;exact .inl ⟨e,a⟩
  rw[aa e]at a;exact .inr ⟨e,a⟩
 refine⟨h.fz,λj y hy=>by rw[i];exact h.dom j y hy,λj v a=>by rw[i]at a;exact h.D5 j v a,λj q a=>?_,λj l q m y n a o hy d p=>?_,λj q y a A hy=>?_,λj q y a u hy=>?_,by rw[i,t];exact h.A0,by rw[i,p3];exact h.Nf,h.ID⟩
 .rcases f j q a with⟨rfl,b⟩|⟨_,b⟩
  .exact x q b
  exact h.row j q b
 .rcases f j q a with⟨rfl,b⟩|⟨B,b⟩<;>rcases f l m o with⟨rfl,s⟩|⟨e2,s⟩
  .rfl
  .exact absurd p.symm ((g y hy).1 l m n s e2 d)
  .exact absurd p ((g n d).1 j q y b B hy)
  exact h.inj j l q m y n b s hy d p
 .rcases f j q a with⟨rfl,b⟩|⟨_,b⟩
  .exact (g y hy).2.1
  exact h.sep j q y b A hy
 rcases f j q a with⟨rfl,b⟩|⟨_,b⟩
 .exact (g y hy).2.2
 rw[t]at u;exact h.lk j q y b u hy
def cellsIn:Nat->eZ->aI
 |_,[]=>[]
 |n,.val v::rs=>v::cellsIn n rs
 |n,.list _ _ l::rs=>.own n l.length::cellsIn (n+1) rs
def dI:aH->eZ->aH
 |M,[]=>M
 |M,.val _::rs=>dI M rs
 |M,.list t e l::rs=>dI (M.push (.list t e l 0 false false)) rs
def kA (t:TypeId)(n:Nat)(rs:eZ):aH:=dI ⟨1,0,1,(aH.empty.push (.cells t ((cellsIn 1 rs).take n))).t⟩ rs
def jO:aH->List (Option (TypeId×Ty))->aI->Option (aI×aH)
 |H,[],[]=>some ([],H)
 |H,none::sig,a::cs=>match kG H [a] with
  |some ([c],d)=>match jO d sig cs with
   |some (l,b)=>some (c::l,b)
   |none=>none
  |_=>none
 |H,some _::sig,a::cs=>match jO H sig cs with
  |some (l,b)=>some (a::l,b)
  |none=>none
 |_,_,_=>none
def iP:aH->List (Option (TypeId×Ty))->aI->Option (eZ×aH)
 |H,[],[]=>some ([],H)
 |H,none::sig,a::cs=>ah (Gj a) (match iP H sig cs with
  |some (rs,b)=>some (.val a::rs,b)
  |none=>none) none
 |H,some (t,e)::sig,.eB::cs=>match iP H sig cs with
  |some (rs,b)=>some (.list t e []::rs,b)
  |none=>none
 |H,some (t,e)::sig,.own id _::cs=>match H.get id with
  |some (.list c d l _ _ false)=>ah (H.o7 id&&Nat.beq c t) (match jl d e l with
   |some f=>match iP (H.put id .dead) sig cs with
    |some (rs,b)=>some (.list t e f::rs,b)
    |none=>none
   |none=>none) none
  |_=>none
 |_,_,_=>none
theorem ED {j:Wo}{q:aH}{E:Mem}:∀{sig:List (Option (TypeId×Ty))} {cs b:aI} {H f:aH} {S:Wo} {C:aW},Rel S H E->j.le S->St j q E S H E->LV S cs C->jO H sig cs=some (b,f)->∃S',j.le S'/\Rel S' f E/\St j q E S' f E/\LV S' b C/\S.le S'
 |[],[],b,H,f,S,C,g,c,d,i,h=>by
  simp only[jO,aq,az]at h;obtain⟨rfl,rfl⟩:=h;exact⟨S,c,g,d,i,S.le_refl⟩
 |none::sig,a::cs,b,H,f,S,C,g,c,d,i,h=>by
  obtain⟨x,r,rfl,k,m⟩:=i.cons_inv;unfold jO at h;split at h
  .rename_i v w s;obtain⟨S1,b1,b2,b3,b4,b5⟩:=qs g c d (LV.cons k LV.nil) s;obtain⟨y,_,e,t,_⟩:=b4.cons_inv;cases e;split at h
   .rename_i l u n;simp only[aq,az]at h;obtain⟨rfl,rfl⟩:=h;obtain⟨S2,c1,c2,o,p,c5⟩:=ED b2 b1 b3 (m.mono b5) n;exact⟨S2,c1,c2,o,LV.cons (t.mono c5) p,Wo.le_trans b5 c5⟩
   cases h
  cases h
 |some _::sig,a::cs,b,H,f,S,C,g,c,d,i,h=>by
  obtain⟨x,r,rfl,k,m⟩:=i.cons_inv;unfold jO at h;split at h
  .rename_i l u n;simp only[aq,az]at h;obtain⟨rfl,rfl⟩:=h;obtain⟨S2,c1,c2,o,p,c5⟩:=ED g c d m n;exact⟨S2,c1,c2,o,LV.cons (k.mono c5) p,c5⟩
  cases h
 |[],_::_,_,_,_,_,_,_,_,_,_,h=>by simp[jO]at h
 |none::_,[],_,_,_,_,_,_,_,_,_,h=>by simp[jO]at h
 |some _::_,[],_,_,_,_,_,_,_,_,_,h=>by simp[jO]at h
structure th (H H':aH):Prop where
 next:H'.next=H.next
 lk:H'.lk=H.lk
 par:H'.par=H.par
 get:∀j r,H'.get j=some r->H.get j=some r
theorem th.refl (H:aH):th H H:=⟨rfl,rfl,rfl,λ_ _ h=>h⟩
theorem th.trans {a b c:aH}(h:th a b)(k:th b c):th a c:=⟨k.next.trans h.next,k.lk.trans h.lk,k.par.trans h.par,λj r d=>h.get j r (k.get j r d)⟩
theorem th.dead (H:aH)(id:Nat):th H (H.put id .dead):=by
 obtain⟨b,c,p3,p4⟩:=aH.iK H id .dead;refine⟨b,c,p3,λj r a=>?_⟩;rw[p4]at a;by_cases e:j=id
 .rw[ag e]at a;split at a<;>cases a
 rw[aa e]at a;exact a
theorem Oi (H:aH)(id:Nat):(H.put id .dead).get id=none:=by
 rw[(aH.iK H id .dead).2.2.2,ag rfl];split<;>rfl
def xg (S:Wo)(H a:aH)(i:Nat):Prop:=∃id r z,H.get id=some r/\r.Cm=false/\S.ρ id=some z/\z.1=i/\a.get id=none
theorem xg.later {S:Wo}{H b a:aH}{i:Nat}(h:xg S H b i)(k:th b a):xg S H a i:=by
 obtain⟨id,r,z,d,e,f,g,c⟩:=h;refine⟨id,r,z,d,e,f,g,?_⟩;cases j:a.get id with
 |none=>rfl
 |some q=>rw[k.get id q j]at c;cases c
theorem xg.ads {S:Wo}{a H b:aH}{i:Nat}(h:xg S H b i)(k:th a H):xg S a b i:=by
 obtain⟨id,r,z,c,d⟩:=h;exact⟨id,r,z,k.get _ _ c,d⟩
theorem BW {S:Wo}{H0:aH}{E:Mem}(Q:Rel S H0 E):∀{sig:List (Option (TypeId×Ty))} {cs:aI} {rs:eZ} {H D M:aH} {f:Wo} {C:aW},th H0 H->iP H sig cs=some (rs,D)->LV S cs C->Rel f M E->f.F=S.F->M.lk=0 ->
 (∀j q y,M.get j=some q->f.ρ j=some y->∀id R z,H.get id=some R->R.Cm=false->(∃t e l v x,R = .list t e l v x false)->S.ρ id=some z->z.1≠y.1) ->
 th H D/\rs.length=cs.length/\rs.length=sig.length/\∃c,f.le c/\Rel c (dI M rs) E/\LV c (cellsIn M.next rs) C/\c.F=f.F/\M.next<=(dI M rs).next/\(dI M rs).lk=0/\(dI M rs).par=M.par /\
  (∀j,j<M.next->(dI M rs).get j=M.get j/\c.ρ j=f.ρ j)/\(∀j q y,M.next<=j->(dI M rs).get j=some q->c.ρ j=some y->xg S H D y.1/\(∃t e l v x,q = .list t e l v x false))
 |[],[],rs,H,D,M,f,C,k,h,U,I,J,s,m=>by
  simp only[iP,aq,az]at h;obtain⟨rfl,rfl⟩:=h;rw[U.kI];exact⟨th.refl _,rfl,rfl,f,f.le_refl,I,LV.nil,rfl,aG _,s,rfl,λ_ _=>⟨rfl,rfl⟩,λj q y K V _=>absurd (aH.fM V) (by show ¬j<M.next;omega)⟩
 |none::sig,a::cs,rs,H,D,M,f,C,k,h,U,I,J,s,m=>by
  obtain⟨x,C',rfl,h1,h2⟩:=U.cons_inv;unfold iP at h;rw[ay]at h;split at h
  .rename_i Sk;split at h
   .rename_i d N hi;simp only[aq,az]at h;obtain⟨rfl,rfl⟩:=h;obtain⟨g1,T,G,c,a1,a2,a3,a4,a5⟩:=BW Q k hi h2 I J s m;exact⟨g1,by simp[T],by simp[G],c,a1,a2,LV.cons (YZ (λi x hx=>by rw[a4,J];exact hx) Sk h1) a3,a4,a5⟩
   cases h
  cases h
 |some (t,e)::sig,a::cs,rs,H,D,M,f,C,k,h,U,I,J,s,m=>by
  obtain⟨x,C',rfl,h1,h2⟩:=U.cons_inv;have p6:∀v,f.Γ M.next v=none:=λv=>I.D5 _ _ (aG _)
  have go:∀(l:List e.den) (d:eZ) (N:aH) (y:Option (Nat×Nat×Nat)),th H N->iP N sig cs=some (d,D)->rs = .list t e l::d->f.le (f.new M.next y (some ⟨e,l⟩))->Rel (f.new M.next y (some ⟨e,l⟩)) (M.push (.list t e l 0 false false)) E->VR (f.new M.next y (some ⟨e,l⟩)) (.own M.next l.length) x ->
   (∀z,y=some z->xg S H N z.1) ->
   th H D/\rs.length=(a::cs).length/\rs.length=(some (t,e)::sig).length/\∃c,f.le c/\Rel c (dI M rs) E/\LV c (cellsIn M.next rs) (x::C')/\c.F=f.F/\M.next<=(dI M rs).next/\(dI M rs).lk=0/\(dI M rs).par=M.par /\
    (∀j,j<M.next->(dI M rs).get j=M.get j/\c.ρ j=f.ρ j)/\(∀j q y,M.next<=j->(dI M rs).get j=some q->c.ρ j=some y->xg S H D y.1/\(∃t e l v x,q = .list t e l v x false)):=by
   intro l d N y u hi Mn hle W hvr hy;subst Mn;obtain⟨p1,p2,p3,p4⟩:=aH.eG M (.list t e l 0 false false);obtain⟨g1,T,G,c,a1,a2,a3,a4,a5,a6,a7,a8,a9⟩:=BW Q (k.trans u) hi h2 W J (by rw[p2];exact s) (λj q O K p id R z P hro hls B=>by
    rw[p4]at K;by_cases Y:j=M.next
    .subst Y;have hz':y=some O:=by rw[<-p];exact(ag rfl).symm
     obtain⟨Ez,r2,z2,k1,k2,k3,k4,k5⟩:=hy O hz';intro he;have:=Q.inj id Ez R r2 z z2 (k.get _ _ (u.get _ _ P)) (k.get _ _ k1) B k3 (by omega);subst this;rw[P]at k5;cases k5
    rw[aa Y]at K;have Z:f.ρ j=some O:=by rw[<-p];exact(aa Y).symm
    exact m j q O K Z id R z (u.get _ _ P) hro hls B)
   rw[p1]at a3 a5 a8 a9;rw[p3]at a7;refine⟨u.trans g1,by simp[T],by simp[G],c,Wo.le_trans hle a1,a2,LV.cons (hvr.mono a1) a3,a4,bA (gx _) a5,a6,a7,λj K=>?_,λj q O K V p=>?_⟩
   .obtain ⟨b1,b2⟩:=a8 j (by omega);exact⟨b1.trans (by rw[p4,aa (by omega)]),b2.trans (aa (by omega))⟩
   by_cases Y:j=M.next
   .subst Y;obtain⟨b1,b2⟩:=a8 M.next (by omega)
    have b2':c.ρ M.next=y:=b2.trans (ag rfl)
    rw[b2']at p;have b1':(dI M (.list t e l::d)).get M.next=some (.list t e l 0 false false):=by
     have:(dI (M.push (.list t e l 0 false false)) d).get M.next=some (.list t e l 0 false false):=b1.trans (by rw[p4,ag rfl];rfl)
     exact this
    rw[b1']at V;cases V;exact⟨(hy O p).later g1,_,_,_,_,_,rfl⟩
   obtain⟨b1,b2⟩:=a9 j q O (by omega) V p;exact⟨b1.ads u,b2⟩
  cases a with
  |eB =>
   unfold iP at h;split at h
   .rename_i d N hi;simp only[aq,az]at h;obtain⟨rfl,rfl⟩:=h;cases h1;obtain⟨b1,b2⟩:=I.zP (r:=.list t e [] 0 false false) (x:=none) (g:=some ⟨e,[]⟩) (λr' w=>by cases w;exact mK p6) (λy hy=>by cases hy);exact go [] d H none (th.refl _) hi rfl b1 b2 (.iw _ ⟨e,[]⟩ (ag ⟨rfl,rfl⟩) rfl) (λz B=>by cases B)
   cases h
  |own id n =>
   unfold iP at h;split at h
   .rename_i t' L l iL ex hg;rw[ay]at h;split at h
    .rename_i o;simp only[ak,aQ]at o;obtain⟨o,rfl⟩:=o;split at h
     .rename_i l' pX;split at h
      .rename_i d N hi;simp only[aq,az]at h;obtain⟨rfl,rfl⟩:=h;obtain⟨he,hc⟩:=cr pX;subst he;have hc:l=l':=hc;subst hc;have Md:=k.get _ _ hg;obtain⟨g1,⟨g0,g,T,G⟩,g3⟩:=Q.row id _ Md;cases h1 with
       |own _ _ i0 rM s0 hρ g' A hn' =>
        rw[T]at A;cases A;rcases g3 with⟨_,g5,_⟩|⟨i',cap,b,mid,post,q1,q2,q3,q4,q5,q6,q7,q8,q9,zw⟩
        .rw[hρ]at g5;cases g5
        rw[hρ]at q1;cases q1;have hn:n=l.length:=by omega
        subst hn;obtain⟨b1,b2⟩:=I.zP (r:=.list t' L l 0 false false) (x:=some (i0,rM,L.size)) (g:=some ⟨L,l⟩) (λr' w=>by
         cases w;exact mJ p6 q2 q3 q4 (by rw[J];exact q5) q6 q7 q8 (λh=>by cases h) (by rw[J];exact zw.2)) (λy hy=>by
          cases hy;refine⟨λj q z K B he=>m j q z K B id _ _ hg rfl ⟨_,_,_,_,_,rfl⟩ hρ he.symm,by rw[J];exact Q.sep id _ _ Md rfl hρ,Q.lk id _ _ Md (by have:=k.lk;simp only[aH.o7,bF]at o;omega) hρ⟩)
        exact go l d (H.put id .dead) _ (th.dead H id) hi rfl b1 b2 (.own _ _ i0 rM L.size (ag rfl) ⟨L,l⟩ (ag ⟨rfl,rfl⟩) rfl) (λz B=>by
         cases B;exact⟨id,_,_,hg,rfl,hρ,rfl,Oi H id⟩)
       |iw _ g' A hn' =>
        rw[T]at A;cases A;have h0:l=[]:=aS.1 (by omega);subst h0;obtain⟨b1,b2⟩:=I.zP (r:=.list t' L [] 0 false false) (x:=none) (g:=some ⟨L,[]⟩) (λr' w=>by cases w;exact mK p6) (λy hy=>by cases hy);exact go [] d (H.put id .dead) none (th.dead H id) hi rfl b1 b2 (.iw _ ⟨L,[]⟩ (ag ⟨rfl,rfl⟩) rfl) (λz B=>by cases B)
      cases h
     cases h
    cases h
   cases h
  |_=>simp[iP]at h
 |[],_::_,_,_,_,_,_,_,_,h,_,_,_,_,_=>by simp[iP]at h
 |none::_,[],_,_,_,_,_,_,_,h,_,_,_,_,_=>by simp[iP]at h
 |some (_,_)::_,[],_,_,_,_,_,_,_,h,_,_,_,_,_=>by simp[iP]at h
theorem Jb {S m S1:Wo}{H f n M1:aH}{E E':Mem}(d:Rel S H E)(t:m.F=S.F)(a:th H f)(g:∀i,Own m n i->xg S H f i)(u:Rel S1 M1 E')(e:CS m n E S1 M1 E') :
 S.le ⟨S1.F,S.ρ,S.Γ⟩/\Rel ⟨S1.F,S.ρ,S.Γ⟩ f E':=by
 have j:S.le ⟨S1.F,S.ρ,S.Γ⟩:=⟨λi x c=>e.F i x (by rw[t];exact c),λ_ _ h=>h,λ_ _ _ h=>h⟩;have k:∀id r y,f.get id=some r->S.ρ id=some y->¬Own m n y.1:=λid r y b hy B=>by
  obtain⟨C,D,z,G,k2,I,J,w⟩:=g _ B;have:=d.inj id C r D y z (a.get _ _ b) G hy I J.symm;subst this;rw[b]at w;cases w
 have old:∀id r y,f.get id=some r->S.ρ id=some y->y.1<E.size:=λid r y b hy=>(let ⟨_,K⟩:=d.old (a.get _ _ b) hy;Mem.fM K)
 refine⟨j,⟨u.fz,λid x c=>by rw[a.next];exact d.dom id x c,λid v A=>d.D5 id v (by rw[a.next]at A;exact A),λid r b=>?_,λid o r r' x L b p c q M=>d.inj id o r r' x L (a.get _ _ b) (a.get _ _ p) c q M,λid r x b s c=>?_,λid r x b N c=>?_,by rw[a.lk,a.next];exact d.A0,by rw[a.par,a.next];exact d.Nf,u.ID⟩⟩
 .exact (d.row id r (a.get _ _ b)).keep j (λh=>h) (λ_ h=>h) λx c=>e.keep _ (old id r x b c) (k id r x b c)
 .show S1.F x.1=none;cases O:S1.F x.1 with
  |none=>rfl
  |some cs =>
   rcases e.Mc x.1 (by rw[O];simp) with l|l|l
   .rw[t]at l;exact absurd (d.sep id r x (a.get _ _ b) s c) l
   .exact absurd l (k id r x b c)
   have:=old id r x b c;omega
 rw[e.lk];exact d.lk id r x (a.get _ _ b) (by rw[<-a.lk];exact N) c
structure HZ where
 ptr:Option (TypeId×List (Option (TypeId×Ty)))
 sig:List (Option (TypeId×Ty))
 g:eZ->Option (Bool×eZ×eZ)
def Jc {β:Type}(c:HZ)(args:aI)(H:aH)(k:AV->aH->Option β):Option β :=
 match c.ptr with
 |none=>match jO H c.sig args with
  |some (args',f)=>match iP f c.sig args' with
   |some (ins,b)=>match c.g ins with
    |some (a,_,rs)=>ah a (k (tf (lY rs b).1) (lY rs b).2) none
    |none=>none
   |none=>none
  |none=>none
 |some (t,sig)=>match args with
  |.ptr id 0::args=>match H.get id with
   |some (.cells h cs)=>match jO H (sig++c.sig) (cs++args) with
    |some (d,b)=>match iP b (sig++c.sig) d with
     |some (ins,e)=>ah (Nat.beq t h&&H.o7 id&&Nat.beq cs.length sig.length) (match c.g ins with
      |some (a,outs,rs)=>ah (a&&Nat.beq outs.length sig.length)
       (k (tf ((lY (outs++rs) (e.put id .dead)).1.drop sig.length)) ((lY (outs++rs) (e.put id .dead)).2.put id (.cells t ((lY (outs++rs) (e.put id .dead)).1.take sig.length)))) none
      |none=>none) none
     |none=>none
    |none=>none
   |_=>none
  |_=>none
section
variable {X:ji} {cf:Nat×Nat->Ev.dx}
def D9 (X:ji)(cf:Nat×Nat->Ev.dx)(f:FuncId)(args:aI)(M:aH)(vs:aI)(a:aH):Prop :=
 ∀(S:Wo) (E:Mem) (b:aW),Rel S M E->gi X S->LV S args b ->
  ∃S' c E',(∃N,∀n:Nat×Nat,N<=n.1/\N<=n.2->cf n f b E=some (c,E'))/\(∃xs,c=Ev.xH xs/\LV S' vs xs)/\Rel S' a E'/\CS S M E S' a E'
def iI (X:ji)(cf:Nat×Nat->Ev.dx)(f:FuncId)(c:HZ):Prop :=
 ∀ins outs rs,c.g ins=some (true,outs,rs) ->
  match c.ptr with
  |none=>ins.length=c.sig.length->∃vs M1,D9 X cf f (cellsIn 0 ins) (dI aH.empty ins) vs M1/\sO M1 [] vs rs
  |some (t,sig)=>outs.length=sig.length->ins.length=(sig++c.sig).length->∃vs M1 cs1,D9 X cf f (.ptr 0 0::(cellsIn 1 ins).drop sig.length) (kA t sig.length ins) vs M1/\M1.get 0=some (.cells t cs1)/\cs1.length=sig.length/\sO M1 [0] (cs1++vs) (outs++rs)
theorem Y0 (t:TypeId)(cs:aI):((⟨1,0,1,(aH.empty.push (.cells t cs)).t⟩:aH).get 0)=some (.cells t cs)/\∀j,j≠0->((⟨1,0,1,(aH.empty.push (.cells t cs)).t⟩:aH).get j)=none:=by
 obtain⟨a,c,p3,p4⟩:=aH.eG aH.empty (.cells t cs);have e:∀j,((⟨1,0,1,(aH.empty.push (.cells t cs)).t⟩:aH).get j)=(aH.empty.push (.cells t cs)).get j:=λj=>by
  rw[aH.get_eq,aH.get_eq,a];rfl
 refine⟨?_,λj b=>?_⟩
 .rw[e,p4];rfl
 rw[e,p4,aa (by show j≠0;exact b),rO]
theorem AJ:∀(rs:eZ) (M c:aH),c.next=M.next->c.lk=M.lk->c.par=M.par->(dI c rs).next=(dI M rs).next/\(dI c rs).lk=(dI M rs).lk/\(dI c rs).par=(dI M rs).par/\M.next<=(dI M rs).next /\
 ∀j,(j<M.next->(dI c rs).get j=c.get j/\(dI M rs).get j=M.get j)/\(M.next<=j->(dI c rs).get j=(dI M rs).get j)
 |[],M,c,d,f,g=>⟨d,f,g,aG _,λj=>⟨λ_=>⟨rfl,rfl⟩,λi=>by
  have a:c.get j=none:=by rw[aH.get_eq,aa (by omega)]
  have b:M.get j=none:=by rw[aH.get_eq,aa (by omega)]
  show c.get j=M.get j;rw[a,b]⟩⟩
 |.val v::rs,M,c,d,f,g=>AJ rs M c d f g
 |.list t e l::rs,M,c,d,f,g=>by
  obtain⟨k,o,p3,p4⟩:=aH.eG M (.list t e l 0 false false);obtain⟨q1,q2,q3,m⟩:=aH.eG c (.list t e l 0 false false);obtain⟨a1,a2,p,n,h⟩:=AJ rs (M.push (.list t e l 0 false false)) (c.push (.list t e l 0 false false)) (by rw[k,q1,d]) (by rw[o,q2,f]) (by rw[p3,q3,g]);refine⟨a1,a2,p,by rw[k]at n;exact bA (gx _) n,λj=>⟨λi=>?_,λi=>?_⟩⟩
  .obtain ⟨b1,b2⟩:=(h j).1 (by omega);exact⟨b1.trans (by rw[m,aa (by omega)]),b2.trans (by rw[p4,aa (by omega)])⟩
  by_cases q:j=M.next
  .obtain ⟨b1,b2⟩:=(h j).1 (by omega);have c1:(dI c (.list t e l::rs)).get j=(c.push (.list t e l 0 false false)).get j:=b1;have c2:(dI M (.list t e l::rs)).get j=(M.push (.list t e l 0 false false)).get j:=b2;rw[c1,c2,m,p4,d];simp only[q,gy]
  exact(h j).2 (by omega)
theorem Vv {id:Nat}{t:TypeId}{cs:aI}:∀{sig:List (Option (TypeId×Ty))} {c cs1:aI} {A B:aH},jO A sig c=some (cs1,B)->A.get id=some (.cells t cs)->B.get id=some (.cells t cs):=by
 have one:∀{l h:aI} {A B:aH},kG A l=some (h,B)->A.get id=some (.cells t cs)->B.get id=some (.cells t cs):=by
  intro l;induction l with
  |nil=>intro h A B b hA;simp only[kG,aq,az]at b;rw[<-b.2];exact hA
  |cons v l f =>
   intro h A B b hA;cases v with
   |own m n1 =>
    unfold kG at b;split at b
    .rename_i n o p iL ex r g;split at b
     .rename_i r' j d;simp only[aq,az]at b;obtain⟨_,rfl⟩:=b;refine f d ?_;rw[(aH.iK _ _ _).2.2.2,aa (λe=>by subst e;rw[hA]at g;cases g)];exact hA
     cases b
    cases b
   |tc m k Y1 x =>
    unfold kG at b;split at b
    .rename_i n o p iL ex r g;split at b
     .rename_i r' j d;simp only[aq,az]at b;obtain⟨_,rfl⟩:=b;refine f d ?_;rw[(aH.iK _ _ _).2.2.2,aa (λe=>by subst e;rw[hA]at g;cases g)];exact hA
     cases b
    cases b
   |_ =>
    simp only[kG]at b;split at b
    .rename_i r' j d;simp only[aq,az]at b;obtain⟨_,rfl⟩:=b;exact f d hA
    cases b
 intro sig;induction sig with
 |nil =>
  intro c cs1 A B b hA;cases c with
  |nil=>simp only[jO,aq,az]at b;rw[<-b.2];exact hA
  |cons a l=>simp[jO]at b
 |cons s sig f =>
  intro c cs1 A B b hA;cases c with
  |nil=>cases s<;>simp[jO]at b
  |cons a l =>
   cases s with
   |none =>
    unfold jO at b;split at b
    .rename_i y z i;split at b
     .rename_i u w d;simp only[aq,az]at b;obtain⟨_,rfl⟩:=b;exact f d (one i hA)
     cases b
    cases b
   |some q =>
    unfold jO at b;split at b
    .rename_i u w d;simp only[aq,az]at b;obtain⟨_,rfl⟩:=b;exact f d hA
    cases b
theorem Y2 {id:Nat}{t:TypeId}{cs:aI}:∀{sig:List (Option (TypeId×Ty))} {l:aI} {f:eZ} {A B:aH},iP A sig l=some (f,B)->A.get id=some (.cells t cs)->B.get id=some (.cells t cs):=by
 intro sig;induction sig with
 |nil =>
  intro l f A B b hA;cases l with
  |nil=>simp only[iP,aq,az]at b;rw[<-b.2];exact hA
  |cons a l=>simp[iP]at b
 |cons s sig g =>
  intro l f A B b hA;cases l with
  |nil=>cases s with
   |none=>simp[iP]at b
   |some q=>obtain⟨q1,q2⟩:=q;simp[iP]at b
  |cons a l =>
   cases s with
   |none =>
    unfold iP at b;rw[ay]at b;split at b
    .split at b
     .rename_i c h d;simp only[aq,az]at b;obtain⟨_,rfl⟩:=b;exact g d hA
     cases b
    cases b
   |some q =>
    obtain⟨q1,q2⟩:=q;cases a with
    |eB =>
     unfold iP at b;split at b
     .rename_i c h d;simp only[aq,az]at b;obtain⟨_,rfl⟩:=b;exact g d hA
     cases b
    |own k n1 =>
     unfold iP at b;split at b
     .rename_i m j n v2 o i;rw[ay]at b;split at b
      .split at b
       .split at b
        .rename_i c h d;simp only[aq,az]at b;obtain⟨_,rfl⟩:=b;refine g d ?_;rw[(aH.iK _ _ _).2.2.2,aa (λe=>by subst e;rw[hA]at i;cases i)];exact hA
        cases b
       cases b
      cases b
     cases b
    |_=>simp[iP]at b
theorem Oj {β:Type}{f:FuncId}{c:HZ}(hc:iI X cf f c){args:aI}{H:aH}{k:AV->aH->Option β}{r:β}(h:Jc c args H k=some r):∃v H',k v H'=some r/\KL X cf f args H v H':=by
 unfold Jc at h;obtain⟨ptr,awJ,g⟩:=c;cases ptr with
 |none =>
  simp only at h;split at h;case h_2=>cases h
  rename_i args' H1 hfz;split at h;case h_2=>cases h
  rename_i ins O hin;split at h;case h_2=>cases h
  rename_i cnd o rs hg;rw[ay]at h;split at h;case isFalse=>cases h
  rename_i P;subst P;refine⟨_,_,h,λS E bU hr hgl hl=>?_⟩;obtain⟨S2,b1,b2,b3,b4,_⟩:=ED hr S.le_refl (St.refl S H E) hl hfz;have hrB:Rel ⟨S2.F,λ_=>none,λ_ _=>none⟩ aH.empty E:=CW _ E b2.fz b2.ID;obtain⟨g1,g2,g2',T,f1,f2,f3,f4,f5,f6,f7,f8,f9⟩:=BW b2 (th.refl H1) hin b4 hrB rfl rfl (λj q y a=>by rw[rO]at a;cases a);obtain⟨vs,M1,Y,Z⟩:=hc ins o rs hg g2';obtain⟨S1,vE,E',a1,⟨xs,rfl,a2⟩,a3,A⟩:=Y T E bU f2 (hgl.mono' λi x n=>by rw[f4];exact b1.F i x n) f3;have s:∀i,Own T (dI aH.empty ins) i->xg S2 H1 O i:=λi ⟨j,q,y,Q,k2,K,k4⟩=>by
   obtain⟨b,_⟩:=f9 j q y (cJ _) Q K;rw[k4]at b;exact b
  obtain⟨c1,c2⟩:=Jb b2 f4 g1 s a3 A;have SH:O.next=H1.next:=g1.next
  have Gp:∀i,Own T (dI aH.empty ins) i->Own S2 H1 i:=λi ho=>by
   obtain⟨j,q,z,Q,k2,K,k4,_⟩:=s i ho;exact⟨j,q,z,Q,k2,K,k4⟩
  obtain⟨S',d1,d2,d3,d4,d5,d6,d7,I,d9⟩:=Tk (Gn:=λi=>E.size<=i\/Own T (dI aH.empty ins) i) a3 (by rw[A.UH];exact f6) Z a2 c2 rfl (λid q y J _ hy hro=>by
   have hor:E.size<=y.1\/Own T (dI aH.empty ins) y.1:=by
    by_cases hy':y.1<E.size
    .exact .inr (A.own y.1 ⟨id,q,y,J,hro,hy,rfl⟩ hy')
    exact .inl (by omega)
   refine⟨hor,λEz q2 z hq2 hz he=>?_⟩;have B:=g1.get _ _ hq2;rcases hor with d|d
   .obtain ⟨b,hb⟩:=b2.old B hz;have:=Mem.fM hb;omega
   obtain⟨id3,r3',z3,Q,k2,K,k4,k5⟩:=s _ d;have:=b2.inj Ez id3 q2 r3' z z3 B Q hz K (by omega);subst this;rw[hq2]at k5;cases k5)
  rw[SH]at d5 I d9;have Y3:S.le S':=Wo.le_trans b1 (Wo.le_trans c1 d1);refine⟨S',Ev.xH xs,E',a1,Y3,KW d2,d3,⟨A.sz,A.lk,by rw[d6,g1.lk];exact b3.UH,by rw[d7,g1.par];exact b3.Ak,Y3.F,λi ho hi=>?_,λi hi=>?_,λi hi ho=>A.keep i hi (λd=>ho (b3.own i (Gp i d) hi)),λid C=>?_,bA b3.nx d5,λid C L=>?_,λid C hn=>?_⟩⟩
  .obtain ⟨id,q,y,d,h2,h3,rfl⟩:=ho;by_cases C:id<H1.next
   .rw[(I id C).1]at d;rw[(I id C).2]at h3;exact b3.own _ ⟨id,q,y,g1.get _ _ d,h2,h3,rfl⟩ hi
   rcases d9 id q y (by omega) d h3 with h4|h4
   .omega
   exact b3.own _ (Gp _ h4) hi
  .rw[d4]at hi;rcases A.Mc i hi with d|d|d
   .rw[f4]at d;exact b3.Mc i d
   .by_cases hsz:i<E.size
    .exact .inr (.inl (b3.own i (Gp i d) hsz))
    exact .inr (.inr (by omega))
   exact .inr (.inr d)
  .rw[(I id (by have:=hr.Nf;have:=b3.nx;omega)).2];exact b3.par id C
  .have u:id<H1.next:=by have:=b3.nx;omega
   rw[(I id u).1]at L;exact b3.live id C (λhn=>by
    cases J:O.get id with
    |none=>exact L J
    |some q=>rw[g1.get id q J]at hn;cases hn)
  rw[(I id (by have:=b3.nx;omega)).2];exact b3.rn id C hn
 |some p =>
  obtain⟨t,sig⟩:=p;simp only at h;split at h;case h_2=>cases h
  rename_i id args;split at h;case h_2=>cases h
  rename_i t' cs hcell;split at h;case h_2=>cases h
  rename_i cs' O hfz;split at h;case h_2=>cases h
  rename_i ins V hin;rw[ay]at h;split at h;case isFalse=>cases h
  rename_i hb;simp only[ak,aQ]at hb;obtain⟨⟨rfl,hmay⟩,pX⟩:=hb;split at h;case h_2=>cases h
  rename_i cnd outs rs hg;rw[ay]at h;split at h;case isFalse=>cases h
  rename_i P;simp only[ak,aQ]at P;obtain⟨rfl,hol⟩:=P;refine⟨_,_,h,λS E bU hr hgl hl=>?_⟩;obtain⟨xp,w,rfl,hp,hla⟩:=hl.cons_inv
  -- the pointer's row
  obtain⟨R,c0,s0,bk,r1,r2,r3,r4,r5⟩:=hr.row id _ hcell;obtain⟨S2,e1,e2,M,e4,e5⟩:=ED hr S.le_refl (St.refl S H E) (r3.append hla) hfz;have hρ2:S2.ρ id=some (R,c0,s0):=e5.ρ _ _ r1;have BX:O.get id=some (.cells t cs):=Vv hfz hcell;have hg3:V.get id=some (.cells t cs):=Y2 hin BX;have awK:R<E.size:=mI r2;have XA:bk.cells.length=sig.length:=by rw[<-r3.1,pX]
  -- what the callee sees
  let W:aH:=⟨1,0,1,.e⟩
  have Vf:∀j,W.get j=none:=λj=>by
   rw[aH.get_eq];split
   .show (Tr.get Tr.e j).bind Row.live=none;rw[Ev.Tr.Ml];rfl
   rfl
  let T0:Wo:=⟨S2.F,λj=>if j=0 then some (R,c0,s0) else none,λ_ _=>none⟩
  have hrB:Rel T0 W E:=⟨e2.fz,λj x n=>(by
   have n:(if j=0 then some (R,c0,s0) else none)=some x:=n;by_cases m:j=0
   .subst m;exact mX
   rw[aa m]at n;cases n),λ_ _ _=>rfl,λj q a=>(by rw[Vf]at a;cases a),λj j' q q' x x' a=>(by rw[Vf]at a;cases a),λj q x a=>(by rw[Vf]at a;cases a),λj q x a=>(by rw[Vf]at a;cases a),cJ _,aG _,e2.ID⟩
  obtain⟨g1,g2,g2',T,f1,f2,f3,f4,f5,f6,f7,f8,f9⟩:=BW e2 (th.refl O) hin e4 hrB rfl rfl (λj q y a=>by rw[Vf]at a;cases a);have D:T.ρ 0=some (R,c0,s0):=(f8 0 mX).2;have f3':LV T (cellsIn 1 ins) (bk.cells++w):=f3;have f3a:LV T ((cellsIn 1 ins).take sig.length) bk.cells:=by
   have:=f3'.take sig.length;rwa[eo (l₁:=bk.cells) (by omega),cz (l:=bk.cells) (by omega)]at this
  have f3b:LV T ((cellsIn 1 ins).drop sig.length) w:=by
   have:=f3'.drop sig.length;rwa[ek (l₁:=bk.cells) (by omega),List.drop_of_length_le (l:=bk.cells) (by omega),cE]at this
  have hLI:=AJ ins W ⟨1,0,1,(aH.empty.push (.cells t ((cellsIn 1 ins).take sig.length))).t⟩ rfl rfl rfl;obtain⟨m1,m2,m3,m4,m5⟩:=hLI;obtain⟨hd1,hd2⟩:=Y0 t ((cellsIn 1 ins).take sig.length);have hM0:(kA t sig.length ins).get 0=some (.cells t ((cellsIn 1 ins).take sig.length)):=by
   have:=((m5 0).1 mX).1;exact this.trans hd1
  have N:∀j,j≠0->(kA t sig.length ins).get j=(dI W ins).get j:=λj a=>(m5 j).2 (by show 1<=j;omega)
  have hi0:∀j q y,(dI W ins).get j=some q->T.ρ j=some y->j≠0->y.1≠R:=λj q y J hy a he=>by
   obtain⟨⟨Ez,r2',z,Q,k2,K,k4,k5⟩,ty⟩:=f9 j q y (by show 1<=j;omega) J hy;have:=e2.inj id Ez _ r2' _ z BX Q hρ2 K (by show R=z.1;omega);subst this;rw[hg3]at k5;cases k5
  have WL:Rel T (kA t sig.length ins) E:=by
   refine⟨f2.fz,λj x n=>?_,λj v a=>?_,λj q a=>?_,λj j' q q' x x' a hj' n hx' he=>?_,λj q x a hb n=>?_,λj q x a _ n=>?_,?_,?_,f2.ID⟩
   .show j<(kA t sig.length ins).next
    rw[show (kA t sig.length ins).next=(dI W ins).next from m1];exact f2.dom j x n
   .rw[show (kA t sig.length ins).next=(dI W ins).next from m1]at a;exact f2.D5 j v a
   .by_cases m:j=0
    .subst m;rw[hM0]at a;cases a;exact⟨R,c0,s0,bk,D,r2,f3a,r4,r5⟩
    rw[N j m]at a;exact f2.row j q a
   .by_cases m:j=0
    .by_cases ej':j'=0
     .omega
     subst m;rw[D]at n;cases n;rw[N j' ej']at hj';exact absurd he.symm (hi0 j' q' x' hj' hx' ej')
    rw[N j m]at a;by_cases ej':j'=0
    .subst ej';rw[D]at hx';cases hx';exact absurd he (hi0 j q x a n m)
    rw[N j' ej']at hj';exact f2.inj j j' q q' x x' a hj' n hx' he
   .by_cases m:j=0
    .subst m;rw[D]at n;cases n;rw[f4];exact e2.sep id _ _ BX rfl hρ2
    rw[N j m]at a;exact f2.sep j q x a hb n
   .by_cases m:j=0
    .subst m;rw[D]at n;cases n;exact e2.lk id _ _ BX (by rw[M.UH];simpa[aH.o7,bF] using hmay) hρ2
    rw[N j m]at a;exact f2.lk j q x a (by rw[f6];exact cJ _) n
   .show (kA t sig.length ins).lk<=_;rw[show (kA t sig.length ins).lk=(dI W ins).lk from m2,f6];exact cJ _
   rw[show (kA t sig.length ins).par=(dI W ins).par from m3,f7,show (kA t sig.length ins).next=(dI W ins).next from m1];exact f5
  have hFT:T.F=S2.F:=f4;have hlT:LV T (.ptr 0 0::(cellsIn 1 ins).drop sig.length) (xp::w):=by
   cases hp with
   |ptr _ _ ip cp sp hρp =>
    rw[r1]at hρp;cases hρp;exact LV.cons (.ptr 0 0 _ _ _ D) f3b
  obtain⟨vs,M1,cs1,Y,hM1,au2,Z⟩:=hc ins outs rs hg hol g2';obtain⟨S1,vE,E',a1,⟨xs,rfl,a2⟩,a3,A⟩:=Y T E _ WL (hgl.mono' λi x n=>by rw[hFT];exact e5.F i x n) hlT;have hρ1:S1.ρ 0=some (R,c0,s0):=(A.par 0 (by rw[show (kA t sig.length ins).par=(dI W ins).par from m3,f7];exact mX)).trans D;have G:th O (V.put id .dead):=g1.trans (th.dead V id);have s:∀i,Own T (kA t sig.length ins) i->xg S2 O (V.put id .dead) i:=λi ⟨j,q,y,Q,k2,K,k4⟩=>by
   by_cases m:j=0
   .subst m;rw[D]at K;cases K;exact⟨id,_,_,BX,rfl,hρ2,k4,Oi _ _⟩
   rw[N j m]at Q;obtain⟨b,_⟩:=f9 j q y (by show 1<=j;omega) Q K;rw[k4]at b;exact b.later (th.dead V id)
  obtain⟨c1,c2⟩:=Jb e2 hFT G s a3 A;obtain⟨i1,c1',s1,U,u1,u2,u3,u4,u5⟩:=a3.row 0 _ hM1;rw[hρ1]at u1;cases u1;have SH:(V.put id .dead).next=O.next:=G.next
  have Gp:∀i,Own T (kA t sig.length ins) i->Own S2 O i:=λi ho=>by
   obtain⟨j,q,z,Q,k2,K,k4,_⟩:=s i ho;exact⟨j,q,z,Q,k2,K,k4⟩
  obtain⟨S',d1,d2,d3,d4,d5,d6,d7,I,d9⟩:=Tk (Gn:=λi=>(E.size<=i\/Own T (kA t sig.length ins) i)/\i≠R) a3 (by rw[A.UH];exact m2.trans f6) Z (u3.append a2) c2 rfl (λj q y J hns hy hro=>by
   have hne:y.1≠R:=λhe=>by
    have:=a3.inj j 0 q _ y _ J hM1 hy hρ1 he;exact hns (by simp[this])
   have hor:E.size<=y.1\/Own T (kA t sig.length ins) y.1:=by
    by_cases hy':y.1<E.size
    .exact .inr (A.own y.1 ⟨j,q,y,J,hro,hy,rfl⟩ hy')
    exact .inl (by omega)
   refine⟨⟨hor,hne⟩,λEz q2 z hq2 hz he=>?_⟩;have B:=G.get _ _ hq2;rcases hor with d|d
   .obtain ⟨b,hb⟩:=e2.old B hz;have:=Mem.fM hb;omega
   obtain⟨id3,r3',z3,Q,k2,K,k4,k5⟩:=s _ d;have:=e2.inj Ez id3 q2 r3' z z3 B Q hz K (by omega);subst this;rw[hq2]at k5;cases k5)
  rw[SH]at d5 I d9;have asW:id<O.next:=aH.fM BX
  have hρ':S'.ρ id=some (R,c0,s0):=((I id asW).2).trans hρ2;have hu3:=u3.1;have d2a:LV S' ((lY (outs++rs) (V.put id .dead)).1.take sig.length) U.cells:=by
   have:=d2.take sig.length;rwa[eo (l₁:=U.cells) (by omega),cz (l:=U.cells) (by omega)]at this
  have d2b:LV S' ((lY (outs++rs) (V.put id .dead)).1.drop sig.length) xs:=by
   have:=d2.drop sig.length;rwa[ek (l₁:=U.cells) (by omega),List.drop_of_length_le (l:=U.cells) (by omega),cE]at this
  have hfin:=d3.putAt (id:=id) (r:=.cells t ((lY (outs++rs) (V.put id .dead)).1.take sig.length)) (by omega) rfl (λr' hr'=>by
   cases hr';exact⟨R,c0,s0,U,hρ',u2,d2a,u4,u5⟩) (λy hy=>by
    rw[hρ']at hy;cases hy;refine⟨λid' q z J hne hz he=>?_,by rw[d4];exact a3.sep 0 _ _ hM1 rfl hρ1,a3.lk 0 _ _ hM1 (by rw[A.UH,show (kA t sig.length ins).lk=(dI W ins).lk from m2,f6];exact cJ _) hρ1⟩;by_cases u:id'<O.next
    .rw[(I id' u).1]at J;rw[(I id' u).2]at hz;exact hne (e2.inj id' id q _ z _ (G.get _ _ J) BX hz hρ2 he)
    exact(d9 id' q z (by omega) J hz).2 he)
  obtain⟨p1,p2,p3,p4⟩:=aH.iK (lY (outs++rs) (V.put id .dead)).2 id (.cells t ((lY (outs++rs) (V.put id .dead)).1.take sig.length));have Y3:S.le S':=Wo.le_trans e1 (Wo.le_trans c1 d1);refine⟨S',Ev.xH xs,E',a1,Y3,KW d2b,hfin,⟨A.sz,A.lk,by rw[p2,d6,G.lk];exact M.UH,by rw[p3,d7,G.par];exact M.Ak,Y3.F,λi ho hi=>?_,λi hi=>?_,λi hi ho=>A.keep i hi (λd=>ho (M.own i (Gp i d) hi)),λj a=>?_,?_,λj a L=>?_,λj a hn=>?_⟩⟩
  .obtain ⟨j,q,y,d,h2,h3,rfl⟩:=ho;refine M.own _ ?_ hi;rw[p4]at d;by_cases m:j=id
   .subst m;rw[hρ']at h3;cases h3;exact⟨j,_,_,BX,rfl,hρ2,rfl⟩
   rw[aa m]at d;by_cases u:j<O.next
   .rw[(I j u).1]at d;rw[(I j u).2]at h3;exact⟨j,q,y,G.get _ _ d,h2,h3,rfl⟩
   rcases (d9 j q y (by omega) d h3).1 with h4|h4
   .omega
   exact Gp _ h4
  .rw[d4]at hi;rcases A.Mc i hi with d|d|d
   .rw[hFT]at d;exact M.Mc i d
   .by_cases hsz:i<E.size
    .exact .inr (.inl (M.own i (Gp i d) hsz))
    exact .inr (.inr (by omega))
   exact .inr (.inr d)
  .rw[(I j (by have:=hr.Nf;have:=M.nx;omega)).2];exact M.par j a
  .rw[p1];exact bA M.nx d5
  .rw[p4]at L;by_cases m:j=id
   .subst m;exact M.live j a (by rw[BX];simp)
   rw[aa m]at L;have u:j<O.next:=by have:=M.nx;omega
   rw[(I j u).1]at L;exact M.live j a (λhn=>by
    cases J:(V.put id .dead).get j with
    |none=>exact L J
    |some q=>rw[G.get j q J]at hn;cases hn)
  rw[(I j (by have:=M.nx;omega)).2];exact M.rn j a hn
end
section
variable {X:ji}
def qL:aH->eZ->aI->Option (aI×aH)
 |M,[],[]=>some ([],M)
 |M,.val _::rs,v::vs=>match v with
  |.agg l=>match kG M l with
   |some (a,M1)=>match qL M1 rs vs with
    |some (r,M2)=>some (.agg a::r,M2)
    |none=>none
   |none=>none
  |v=>match kG M [v] with
   |some ([v'],M1)=>match qL M1 rs vs with
    |some (r,M2)=>some (v'::r,M2)
    |none=>none
   |_=>none
 |M,.list _ _ _::rs,v::vs=>match qL M rs vs with
  |some (r,M2)=>some (v::r,M2)
  |none=>none
 |_,_,_=>none
theorem BZ {s:Wo}{u:aH}{y E:Mem}:∀{rs:eZ} {vs b:aI} {M c:aH} {S:Wo} {C:aW},Rel S M E->CS s u y S M E->LV S vs C->qL M rs vs=some (b,c)->∃S',Rel S' c E/\CS s u y S' c E/\LV S' b C/\S.le S'
 |[],[],b,M,c,S,C,d,a,f,h=>by
  simp only[qL,aq,az]at h;obtain⟨rfl,rfl⟩:=h;exact⟨S,d,a,f,S.le_refl⟩
 |.val w::rs,v::vs,b,M,c,S,C,d,a,f,h=>by
  obtain⟨x,z,rfl,k,n⟩:=f.cons_inv;unfold qL at h;split at h
  .rename_i l;split at h
   .rename_i B M1 o;cases k with
    |agg _ m p q =>
     obtain⟨S1,b1,b2,b3,b4,b5⟩:=qs d S.le_refl (St.refl S M E) ⟨p,q⟩ o;split at h
     .rename_i r M2 g;simp only[aq,az]at h;obtain⟨rfl,rfl⟩:=h;obtain⟨S2,c2,i,j,c5⟩:=BZ b2 (a.trans b3.PM) (n.mono b5) g;exact⟨S2,c2,i,LV.cons (.agg _ _ (b4.mono c5).1 (b4.mono c5).2) j,Wo.le_trans b5 c5⟩
     cases h
   cases h
  split at h
  .rename_i v' M1 o;obtain⟨S1,b1,b2,b3,b4,b5⟩:=qs d S.le_refl (St.refl S M E) (LV.cons k LV.nil) o;obtain⟨D,_,e,A,_⟩:=b4.cons_inv;cases e;split at h
   .rename_i r M2 g;simp only[aq,az]at h;obtain⟨rfl,rfl⟩:=h;obtain⟨S2,c2,i,j,c5⟩:=BZ b2 (a.trans b3.PM) (n.mono b5) g;exact⟨S2,c2,i,LV.cons (A.mono c5) j,Wo.le_trans b5 c5⟩
   cases h
  cases h
 |.list t e l::rs,v::vs,b,M,c,S,C,d,a,f,h=>by
  obtain⟨x,z,rfl,k,n⟩:=f.cons_inv;unfold qL at h;split at h
  .rename_i r M2 g;simp only[aq,az]at h;obtain⟨rfl,rfl⟩:=h;obtain⟨S2,c2,i,j,c5⟩:=BZ d a n g;exact⟨S2,c2,i,LV.cons (k.mono c5) j,c5⟩
  cases h
 |[],_::_,_,_,_,_,_,_,_,_,h=>by simp[qL]at h
 |.val _::_,[],_,_,_,_,_,_,_,_,h=>by simp[qL]at h
 |.list _ _ _::_,[],_,_,_,_,_,_,_,_,h=>by simp[qL]at h
theorem p7 {γ:Type}{kn:Ev.fZ}{id:FuncId}(c:∀args,kn id args=none){call:dz γ}(a:dO X (eM X kn) call){an:fe}{rounds:Nat}{args:aI}{M:aH}{b:AV->aH->Option γ}{r:γ}
 (h:aT X call an rounds id args M b=some r):∃v M1,b v M1=some r/\∀vs,v=tf vs->D9 X (eM X kn) id args M vs M1:=by
 obtain⟨v,M1,d,e⟩:=mH (nf:=false) a (λh=>by cases h) h;refine⟨v,M1,d,λvs f=>?_⟩;subst f;intro S E g i j k;obtain⟨S',o,E',a1,a2,l,m,_⟩:=e S E g i j k;obtain⟨xs,rfl,n⟩:=EA a2;exact⟨S',_,E',iy c a1,⟨xs,rfl,n⟩,l,m⟩
theorem D9.Y4 {cf:Nat×Nat->Ev.dx}{id:FuncId}{args vs a:aI}{M M1 M2:aH}{rs:eZ}(h:D9 X cf id args M vs M1)(b:qL M1 rs vs=some (a,M2)):D9 X cf id args M a M2:=by
 intro S E c d e f;obtain⟨S',j,E',a1,⟨xs,rfl,a2⟩,g,i⟩:=h S E c d e f;obtain⟨S2,b1,b2,b3,b4⟩:=BZ g i a2 b;exact⟨S2,_,E',a1,⟨xs,rfl,b3⟩,b1,b2⟩
abbrev KTN:=FuncId->Option HZ
def Y5 (X:ji)(K:Wu)(a:KTN)(inl:FuncId->Bool)(rounds:Nat)(β:Type):Nat->dz β :=
 λn=>Nat.rec (motive:=λ_=>dz β) (λ_ _ _ _=>none)
  (λ_ go id args H k=>ah (X.kl id) (DH X args H k) (match K id with
   |some (sig,g)=>uR sig g args H k
   |none=>match a id with
    |some c=>Jc c args H k
    |none=>ah (inl id) (aT X go ⟨.none,.none,X.trs id⟩ rounds id args H k) none)) n
theorem Y6 {kn:Ev.fZ}{K:Wu}{a:KTN}{inl:FuncId->Bool}(i:∀id sig g,K id=some (sig,g)->dQ X (eM X kn) id g)(j:∀id c,a id=some c->iI X (eM X kn) id c)(hi:∀id,inl id=true->∀args,kn id args=none)(rounds:Nat)(n:Nat)(β:Type) (b:aij X kn:=by exact λ_ h=>Bool.noConfusion (show false=true from h)):dO X (eM X kn) (Y5 X K a inl rounds β n):=by
 induction n with
 |zero=>exact λf args H k r h=>by cases h
 |succ n l =>
  intro f args H k r h;have h:ah (X.kl f) (DH X args H k) (match K f with
   |some (sig,g)=>uR sig g args H k
   |none=>match a f with
    |some c=>Jc c args H k
    |none=>ah (inl f) (aT X (Y5 X K a inl rounds β n) ⟨.none,.none,X.trs f⟩ rounds f args H k) none)=some r:=h
  rw[ay]at h;split at h
  .rename_i m;exact FV (b f m) h
  split at h
  .rename_i sig g o;exact AA (i f sig g o) h
  split at h
  .rename_i c p;exact Oj (j f c p) h
  rw[ay]at h;split at h
  .rename_i d;obtain⟨v,q,s,t⟩:=mH (nf:=true) l (λ_=>⟨rfl,rfl⟩) h;refine⟨v,q,s,λS E u w x y=>?_⟩;obtain⟨S',z,E',a1,a2,A,B,e⟩:=t S E u w x y;exact⟨S',z,E',iy (hi f d) a1,(e rfl).1,a2,A,(e rfl).2⟩
  cases h
abbrev rf:=FuncId×HZ
def adt (l:List rf):KTN:=λf=>List.rec (motive:=λ_=>Option HZ) none (λe _ r=>ah (Nat.beq f e.1) (some e.2) r) l
def jc (X:ji)(cf:Nat×Nat->Ev.dx)(l:List rf):Prop:=∀id c,adt l id=some c->iI X cf id c
theorem jc.nil {cf:Nat×Nat->Ev.dx}:jc X cf []:=λ_ _ h=>by cases h
theorem jc.cons {cf:Nat×Nat->Ev.dx}{f:FuncId}{c:HZ}{l:List rf}(h:iI X cf f c)(t:jc X cf l):jc X cf ((f,c)::l):=λid b d=>by
 have a:ah (Nat.beq id f) (some c) (adt l id)=some b:=d;clear d;rw[ay]at a;split at a
 .rename_i e;obtain rfl:=bt e;have g:c=b:=bT a;subst g;exact h
 exact t id b a
end
def adD:Option Ty->AV->AV
 |some e,.eB=>.eC e []
 |_,v=>v
def B3:List (Option Ty)->aI->aI
 |s::sg,v::l=>adD s v::B3 sg l
 |_,l=>l
def ai8 (sg:List (Option Ty)):AV->AV
 |.agg l=>.agg (B3 sg l)
 |v=>match sg with
  |[s]=>adD s v
  |_=>v
def Gz:List (List (Option Ty))->aI->aI
 |s::sg,v::l=>ai8 s v::Gz sg l
 |_,l=>l
theorem Ll {S:Wo}{v:AV}{x:Value}(s:Option Ty)(h:VR S v x):VR S (adD s v) x:=by
 unfold adD;split
 .cases h;exact .eC _ _ _ (.inl ⟨rfl,.inl rfl⟩)
 exact h
theorem GA {S:Wo}:∀(sg:List (Option Ty)) {l:aI} {m:aW},LV S l m->LV S (B3 sg l) m
 |[],l,m,h=>by cases l<;>exact h
 |s::sg,[],m,h=>h
 |s::sg,v::l,m,h=>by
  obtain⟨x,c,rfl,a,b⟩:=h.cons_inv;exact LV.cons (Ll s a) (GA sg b)
theorem adE {S:Wo}{v:AV}{x:Value}(sg:List (Option Ty))(h:VR S v x):VR S (ai8 sg v) x:=by
 unfold ai8;split
 .rename_i l;cases h with
  |agg _ m a b =>
   obtain⟨c,d⟩:=GA sg (S:=S) (l:=l) (m:=m) ⟨a,b⟩;exact .agg _ m c d
 split
 .exact Ll _ h
 exact h
theorem GB {S:Wo}:∀(sg:List (List (Option Ty))) {l:aI} {m:aW},LV S l m->LV S (Gz sg l) m
 |[],l,m,h=>by cases l<;>exact h
 |s::sg,[],m,h=>h
 |s::sg,v::l,m,h=>by
  obtain⟨x,c,rfl,a,b⟩:=h.cons_inv;exact LV.cons (adE s a) (GB sg b)
def Ot:Nat->AV->Option aI
 |1,v=>some [v]
 |_,.gI l=>some l
 |_,_=>none
def tn (sg:List (List (Option Ty)))(v:AV)(H:aH):Option aI :=
 match Ot sg.length v with
 |some vs=>match qL H (sg.map λ_=>.val .lG) vs with
  |some (a,_)=>some (Gz sg a)
  |none=>none
 |none=>none
section
variable {X:ji}
theorem AL {n:Nat}{v:AV}{vs:aI}(h:Ot n v=some vs)(a:vs.length=n):v=tf vs:=by
 unfold Ot at h;split at h
 .cases h;rfl
 .rename_i l _;cases h
  match vs,a with
  |[],_=>rfl
  |[x],a=>rename_i b;exact absurd a.symm b
  |x::y::l,_=>rfl
 cases h
theorem zb:∀{rs:eZ} {vs a:aI} {M c:aH},qL M rs vs=some (a,c)->vs.length=rs.length
 |[],[],_,_,_,_=>rfl
 |[],_::_,_,_,_,h=>by simp[qL]at h
 |.val _::_,[],_,_,_,h=>by simp[qL]at h
 |.list _ _ _::_,[],_,_,_,h=>by simp[qL]at h
 |.list _ _ _::rs,v::vs,a,M,c,h=>by
  unfold qL at h;split at h
  .rename_i r M2 b;simp[zb b]
  cases h
 |.val _::rs,v::vs,a,M,c,h=>by
  unfold qL at h;split at h
  .split at h
   .split at h
    .rename_i r M2 b;simp[zb b]
    cases h
   cases h
  split at h
  .split at h
   .rename_i r M2 b;simp[zb b]
   cases h
  cases h
theorem Ji {kn:Ev.fZ}{id:FuncId}(g:∀args,kn id args=none){call:dz aI}(a:dO X (eM X kn) call){an:fe}{rounds:Nat}{args:aI}{M:aH}{sg:List (List (Option Ty))}{e:aI}
 (h:aT X call an rounds id args M (tn sg)=some e):∃M1,D9 X (eM X kn) id args M e M1:=by
 obtain⟨v,M1,b,i⟩:=p7 g a h;unfold tn at b;split at b;case h_2=>cases b
 rename_i vs j;split at b;case h_2=>cases b
 rename_i k M2 f;cases b;have d:=zb f;rw[cO]at d;have c:=(i vs (AL j d)).Y4 f;refine⟨M2,λS E l m n d=>?_⟩;obtain⟨S',q,E',a1,⟨xs,rfl,a2⟩,o,p⟩:=c S E l m n d;exact⟨S',_,E',a1,⟨xs,rfl,GB sg a2⟩,o,p⟩
theorem yu {M:aH}:∀{a:aI} {seen:cY},a.all Gj=true->sO M seen a (a.map .val)
 |[],_,_=>trivial
 |w::a,seen,h=>by
  simp only[ck,ak]at h;exact⟨rfl,h.1,yu h.2⟩
theorem Ou {kn:Ev.fZ}{id:FuncId}(c:∀args,kn id args=none){call:∀ β,dz β}(a:∀ β,dO X (eM X kn) (call β)){sig:List (Option (TypeId×Ty))}{g:eZ->Option (Bool×eZ×eZ)}(sg:List (List (Option Ty)))
 (h:∀ins outs rs,g ins=some (true,outs,rs)->∃an rounds b,aT X (call aI) an rounds id (cellsIn 0 ins) (dI aH.empty ins) (tn sg)=some b/\rs=b.map .val/\b.all Gj=true):iI X (eM X kn) id ⟨none,sig,g⟩:=by
 intro ins outs rs d;obtain⟨an,rounds,b,e,rfl,f⟩:=h ins outs rs d;intro _;obtain⟨M1,i⟩:=Ji c (a _) e;exact⟨b,M1,i,yu f⟩
def nR (M:aH):cY->List (Option (TypeId×Ty))->aI->Option (eZ×cY)
 |_,[],[]=>some ([],[])
 |seen,none::sig,a::cs=>ah (Gj a) (match nR M seen sig cs with
  |some (r,b)=>some (.val a::r,b)
  |none=>none) none
 |seen,some (t,e)::sig,.eB::cs=>match nR M seen sig cs with
  |some (r,b)=>some (.list t e []::r,0::b)
  |none=>none
 |seen,some (t,e)::sig,.own id n::cs=>match M.get id with
  |some (.list c d l _ _ false)=>ah (Nat.beq c t && !seen.any (Nat.beq id)) (match jl d e l with
   |some f=>match nR M (id::seen) sig cs with
    |some (r,b)=>some (.list t e f::r,n::b)
    |none=>none
   |none=>none) none
  |_=>none
 |_,_,_=>none
def yw:eZ->cY
 |[]=>[]
 |.val _::rs=>yw rs
 |.list _ _ l::rs=>l.length::yw rs
theorem yx {M:aH}:∀{sig:List (Option (TypeId×Ty))} {cs:aI} {seen:cY} {rs:eZ} {b:cY},nR M seen sig cs=some (rs,b)->b=yw rs->sO M seen cs rs/\cs.length=sig.length
 |[],[],seen,rs,b,h,_=>by
  simp only[nR,aq,az]at h;obtain⟨rfl,rfl⟩:=h;exact⟨trivial,rfl⟩
 |[],_::_,_,_,_,h,_=>by simp[nR]at h
 |none::_,[],_,_,_,h,_=>by simp[nR]at h
 |some _::_,[],_,_,_,h,_=>by simp[nR]at h
 |none::sig,a::cs,seen,rs,b,h,c=>by
  unfold nR at h;rw[ay]at h;split at h
  .rename_i o;split at h
   .rename_i r d f;cases h;obtain⟨g,i⟩:=yx f c;exact⟨⟨rfl,o,g⟩,by simp[i]⟩
   cases h
  cases h
 |some (t,e)::sig,a::cs,seen,rs,b,h,c=>by
  unfold nR at h;split at h
  .simp at *
  .simp at *
  .rename_i q1 q2;split at h
   .rename_i r d f;cases h;cases q1;cases q2;obtain⟨g,i⟩:=yx f (List.cons.inj c).2;exact⟨.inr ⟨rfl,rfl,g⟩,by simp[i]⟩
   cases h
  .rename_i id n _ q1 q2;split at h
   .rename_i w x l iL ex p;rw[ay]at h;split at h
    .rename_i m;simp only[ak,aU]at m;obtain⟨q,j⟩:=m;obtain rfl:=bt q;split at h
     .rename_i s u;obtain⟨rfl,k⟩:=cr u;have k:l=s:=k;subst k;split at h
      .rename_i r d f;cases h;cases q1;cases q2;obtain⟨g,i⟩:=yx f (List.cons.inj c).2;have hlen:=(List.cons.inj c).1;refine⟨.inl ⟨id,iL,ex,by rw[hlen],p,λv=>?_,g⟩,by simp[i]⟩;exact absurd (kj.2 ⟨id,v,qg id⟩) (by rw[j];exact lz)
      cases h
     cases h
    cases h
   cases h
  cases h
def ai9 (t:TypeId)(sig:List (Option (TypeId×Ty)))(vn:List (Option (TypeId×Ty)))(v:AV)(H:aH):Option (eZ×cY) :=
 match H.get 0 with
 |some (.cells a cs)=>ah (Nat.beq a t&&Nat.beq cs.length sig.length) (match Ot vn.length v with
  |some vs=>nR H [0] (sig++vn) (cs++vs)
  |none=>none) none
 |_=>none
theorem adF {kn:Ev.fZ}{id:FuncId}(j:∀args,kn id args=none){call:∀ β,dz β}(b:∀ β,dO X (eM X kn) (call β)){t:TypeId}{sig f vn:List (Option (TypeId×Ty))}{g:eZ->Option (Bool×eZ×eZ)}
 (h:∀ins outs rs,g ins=some (true,outs,rs)->ins.length=(sig++f).length->∃an rounds c,aT X (call _) an rounds id (.ptr 0 0::(cellsIn 1 ins).drop sig.length) (kA t sig.length ins) (ai9 t sig vn)=some (outs++rs,c)/\c=yw (outs++rs)):iI X (eM X kn) id ⟨some (t,sig),f,g⟩:=by
 intro ins outs rs k _ d;obtain⟨an,rounds,c,l,m⟩:=h ins outs rs k d;obtain⟨v,M1,a,n⟩:=p7 j (b _) l;unfold ai9 at a;split at a;case h_2=>cases a
 rename_i s cs o;rw[ay]at a;split at a;case isFalse=>cases a
 rename_i i;rw[ak,aQ,aQ]at i;obtain⟨rfl,p⟩:=i;split at a;case h_2=>cases a
 rename_i vs q;obtain⟨r,k2⟩:=yx a m;have e:vs.length=vn.length:=by
  simp only[aA]at k2;omega
 exact⟨vs,M1,cs,n vs (AL q e),o,p,r⟩
def Zn (t:TypeId)(rg:List (Option Ty))(sig:List (Option (TypeId×Ty)))(vn:List (Option (TypeId×Ty)))(v:AV)(H:aH):Option (eZ×cY) :=
 match H.get 0 with
 |some (.cells a cs)=>ah (Nat.beq a t&&Nat.beq (B3 rg cs).length sig.length) (match Ot vn.length v with
  |some vs=>nR H [0] (sig++vn) (B3 rg cs++vs)
  |none=>none) none
 |_=>none
theorem Ra {M:aH}{r:Row}{vs:aI}{rs:eZ}:∀{seen:cY},0∈seen->sO M seen vs rs->sO (M.put 0 r) seen vs rs:=by
 induction vs generalizing rs with
 |nil =>
  intro seen a h;cases rs with
  |nil=>trivial
  |cons q rs=>cases q<;>exact h
 |cons v vs c =>
  intro seen a h;cases rs with
  |nil=>exact h
  |cons q rs =>
   cases q with
   |val w=>exact⟨h.1,h.2.1,c a h.2.2⟩
   |list t e l =>
    rcases h with⟨id,iL,ex,d,f,b,g⟩|⟨d,f,b⟩
    .refine .inl ⟨id,iL,ex,d,?_,b,c (bI _ a) g⟩;rw[(aH.iK M 0 r).2.2.2 id,aa (λi=>b (by rw[i];exact a))];exact f
    exact .inr ⟨d,f,c a b⟩
theorem D9.ao0 {d:Nat×Nat->Ev.dx}{id:FuncId}{args vs:aI}{M M1:aH}{t:TypeId}{cs:aI}(rg:List (Option Ty))(h:D9 X d id args M vs M1)(e:M1.get 0=some (.cells t cs)):D9 X d id args M vs (M1.put 0 (.cells t (B3 rg cs))):=by
 intro S E g k a l;obtain⟨S',m,E',a1,a2,f,n⟩:=h S E g k a l;obtain⟨i,c,s,b,r1,o,p,r,u⟩:=f.row 0 _ e;obtain⟨m1,v⟩:=f.mod (S':=S') (E':=E') (r':=.cells t (B3 rg cs)) e rfl S'.le_refl rfl (λ_ _ _=>rfl) rfl rfl (λj x=>rfl) (λj cs h=>.inl h) (λq w=>by
  cases w;exact⟨i,c,s,b,r1,o,GA rg p,r,u⟩)
 exact⟨S',m,E',a1,a2,m1,n.trans v.PM⟩
theorem Zo {kn:Ev.fZ}{id:FuncId}(l:∀args,kn id args=none){call:∀ β,dz β}(b:∀ β,dO X (eM X kn) (call β)){t:TypeId}(rg:List (Option Ty)){sig j vn:List (Option (TypeId×Ty))}{g:eZ->Option (Bool×eZ×eZ)}
 (h:∀ins outs rs,g ins=some (true,outs,rs)->ins.length=(sig++j).length->∃an rounds d,aT X (call _) an rounds id (.ptr 0 0::(cellsIn 1 ins).drop sig.length) (kA t sig.length ins) (Zn t rg sig vn)=some (outs++rs,d)/\d=yw (outs++rs)):iI X (eM X kn) id ⟨some (t,sig),j,g⟩:=by
 intro ins outs rs m _ e;obtain⟨an,rounds,d,n,o⟩:=h ins outs rs m e;obtain⟨v,M1,a,p⟩:=p7 l (b _) n;unfold Zn at a;split at a;case h_2=>cases a
 rename_i q cs c;rw[ay]at a;split at a;case isFalse=>cases a
 rename_i k;rw[ak,aQ,aQ]at k;obtain⟨rfl,r⟩:=k;split at a;case h_2=>cases a
 rename_i vs s;obtain⟨u,k2⟩:=yx a o;have f:vs.length=vn.length:=by
  simp only[aA]at k2;omega
 have i:0<M1.next:=by
  rw[aH.get_eq]at c;split at c
  .assumption
  cases c
 refine⟨vs,M1.put 0 (.cells q (B3 rg cs)),B3 rg cs,(p vs (AL s f)).ao0 rg c,?_,r,Ra (by simp) u⟩;rw[(aH.iK M1 0 _).2.2.2 0,ag rfl,ag i];rfl
end
def agW (a:cY):AV->cY
 |.agg l=>l.foldl Nc a
 |v=>Nc a v
def JH (a:cY):AV->cY
 |.gI l=>l.foldl agW a
 |v=>agW a v
def VT (H:aH):AV->AV
 |.own id n=>match H.get id with
  |some (.list _ _ l _ _ _)=>.own id l.length
  |_=>.own id n
 |v=>v
def Y1 (H:aH):AV->AV
 |.agg l=>.agg (l.map (VT H))
 |v=>VT H v
def akx (H:aH):AV->AV
 |.gI l=>.gI (l.map (Y1 H))
 |v=>Y1 H v
def RO (H:aH):Row->Row
 |.cells t cs=>.cells t (cs.map (VT H))
 |r=>r
def rowOf (H:aH)(ids:cY)(id:Nat):Row :=
 match H.get id with
 |some r=>Kx ids (RO H r)
 |none=>.dead
def rowsOf (H:aH)(ids:cY):cQ:=ids.map (rowOf H ids)
def fT (p:Nat)(l:cQ):aH:=l.foldl (λM r=>M.push r) ⟨0,0,p,.e⟩
def iN (v:AV)(H:aH):Option (AV×cQ) :=
 (λids:cY=>ah (nodupB ids&&(ids.take H.par==List.range H.par)&&Nat.beq H.lk 0) (some (nN ids (akx H v),rowsOf H ids)) none)
  (xY H 3 (JH ((List.range H.par).foldl (Ky H) (List.range H.par)) v))
def vS:Row->Bool
 |.cells _ _=>true
 |.mp _ _=>true
 |_=>false
def Hi:Row->Bool
 |.list _ _ _ _ _ false=>true
 |_=>false
def JI (H:aH)(id:Nat):Bool:=match H.get id with
 |some r=>vS r
 |none=>false
def O4 (H:aH)(id:Nat):Bool:=match H.get id with
 |some r=>Hi r
 |none=>false
def uu:cQ->Nat
 |[]=>0
 |r::l=>ah (vS r) (uu l+1) 0
def fH:List (Option (TypeId×Ty))->aI->aH->aI×aH
 |some (t,e)::sg,.eB::cs,H=>(.own H.next 0::(fH sg cs (H.push (.list t e [] 0 false false))).1,(fH sg cs (H.push (.list t e [] 0 false false))).2)
 |_::sg,c::cs,H=>(c::(fH sg cs H).1,(fH sg cs H).2)
 |_,cs,H=>(cs,H)
def ownRow (t0:TypeId)(sg:List (Option (TypeId×Ty)))(H:aH)(id:Nat):aH :=
 match H.get id with
 |some (.cells t cs)=>ah (Nat.beq t t0) ((fH sg cs H).2.put id (.cells t (fH sg cs H).1)) H
 |_=>H
mutual
def Dk (φ:Nat->Nat)(p:Nat):AV->AV
 |.own id n=>ah (Nat.ble p id) (.own (φ id) n) .lG
 |.tc id a b c=>ah (Nat.ble p id) (.tc (φ id) a b c) .lG
 |.ptr id off=>.ptr (φ id) off
 |.FB id n=>ah (Nat.ble p id) (.FB (φ id) n) .lG
 |.zN id=>.zN (φ id)
 |.Er _ _ _ _ _=>.lG
 |.dat _=>.lG
 |.fn f a b=>.fn f (RP φ p a) (RP φ p b)
 |.agg l=>.agg (RP φ p l)
 |.gI l=>.gI (RP φ p l)
 |.int k n=>.int k n
 |.bool b=>.bool b
 |.str s=>.str s
 |.rL n=>.rL n
 |.eC e l=>.eC e l
 |.eB=>.eB
 |.Ad cs=>.Ad (RP φ p cs)
 |.pU=>.pU
 |.BB v=>.BB v
 |.fl a=>.fl a
 |.cx a b=>.cx a b
 |.lG=>.lG
def RP (φ:Nat->Nat)(p:Nat):aI->aI
 |[]=>[]
 |v::l=>Dk φ p v::RP φ p l
end
def A3 (φ:Nat->Nat)(p:Nat):Row->Row
 |.cells t cs=>.cells t (RP φ p cs)
 |r=>r
def wV (ids:cY)(p next:Nat)(i:Nat):Nat:=ah (Nat.ble (Nat.succ i) p) (ids.getD i 0) (Nat.add next (Nat.sub i p))
def iu:cY->cQ->aH->aH
 |id::ids,r::rs,M=>iu ids rs (M.put id r)
 |_,_,M=>M
def Hl (H:aH)(ids:cY)(p:Nat)(outs:cQ):aH :=
 iu ids ((outs.take p).map (A3 (wV ids p H.next) p)++(ids.drop p).map λ_=>.dead) ((outs.drop p).foldl (λM r=>M.push (A3 (wV ids p H.next) p r)) H)
structure O5 where
 t:TypeId
 sg:List (Option (TypeId×Ty))
 g:aI->cQ->Option (Bool×AV×cQ)
def RQ {β:Type}(g:aI->cQ->Option (Bool×AV×cQ))(args:aI)(H:aH)(st ids:cY)(k:AV->aH->Option β):Option β :=
 ah (nodupB ids&&ids.all H.o7&&(ids.take st.length).all (JI H)&&(ids.drop st.length).all (O4 H)&&Nat.ble st.length ids.length)
  (match g (zu ids (args.map (akx H))) (rowsOf H ids) with
   |some (a,v,outs)=>ah (Nat.ble st.length outs.length&&(outs.take st.length).all vS&&(outs.drop st.length).all λr=>vS r||Hi r)
    (ah a (k (Dk (wV ids st.length H.next) st.length v) (Hl H ids st.length outs)) none) none
   |none=>none) none
def TW {β:Type}(c:O5)(args:aI)(H:aH)(k:AV->aH->Option β):Option β :=
 ah ((xY H 3 (args.foldl JH [])).all H.o7) ((λa:aH=>(λids:cY=>(λst:cY=>RQ c.g args a st (args.foldl JH (st.foldl (Ky a) st)) k) (ids.filter (JI a))) (xY a 3 (args.foldl JH [])))
  ((xY H 3 (args.foldl JH [])).foldl (ownRow c.t c.sg) H)) none
theorem Ho:∀(l:cQ) (M:aH),(l.foldl (λM r=>M.push r) M).next=M.next+l.length/\(l.foldl (λM r=>M.push r) M).lk=M.lk/\(l.foldl (λM r=>M.push r) M).par=M.par /\
 ∀j,(l.foldl (λM r=>M.push r) M).get j=if j<M.next then M.get j else (l[j-M.next]?).bind Row.live
 |[],M=>⟨rfl,rfl,rfl,λj=>by
  show M.get j=_;by_cases a:j<M.next
  .rw[ag a]
  rw[aa a];cases h:M.get j with
  |none=>rfl
  |some r=>exact absurd (aH.fM h) a⟩
 |r::l,M=>by
  rw[iF];obtain⟨d,e,f,g⟩:=Ho l (M.push r);obtain⟨c,i,p3,p4⟩:=aH.eG M r;refine⟨by rw[d,c];simp;omega,by rw[e,i],by rw[f,p3],λj=>?_⟩;rw[g,c,p4];by_cases a:j<M.next
  .rw[ag (by omega),aa (by omega),ag a]
  rw[aa a];by_cases b:j=M.next
  .subst b;rw[ag (by omega),ag rfl];simp
  rw[aa (by omega)];have:j-M.next=(j-(M.next+1))+1:=by omega
  rw[this];rfl
theorem vT (p:Nat)(l:cQ):(fT p l).next=l.length/\(fT p l).lk=0/\(fT p l).par=p/\∀j,(fT p l).get j=(l[j]?).bind Row.live:=by
 obtain⟨a,b,c,d⟩:=Ho l ⟨0,0,p,.e⟩;refine⟨by unfold fT;rw[a];simp,b,c,λj=>?_⟩;have:=d j;rw[aa (by show ¬j<0;omega)]at this;exact this
theorem Hp:∀(ids:cY) (rs:cQ) (M:aH),(∀id∈ids,id<M.next)->rs.length=ids.length->(∀(i j:Nat) x,ids[i]? = some x->ids[j]? = some x->i=j) ->
 (iu ids rs M).next=M.next/\(iu ids rs M).lk=M.lk/\(iu ids rs M).par=M.par/\(∀(i j:Nat),ids[i]? = some j->(iu ids rs M).get j=(rs[i]?).bind Row.live)/\∀j,j ∉ ids->(iu ids rs M).get j=M.get j
 |[],rs,M,_,b,_=>by
  have:rs=[]:=aS.1 b;subst this;exact⟨rfl,rfl,rfl,λi j h=>by simp at h,λ_ _=>rfl⟩
 |id::ids,[],M,_,b,_=>by simp at b
 |id::ids,r::rs,M,c,b,d=>by
  obtain⟨l,n,p3,p4⟩:=aH.iK M id r;have f:id ∉ ids:=λo=>by
   obtain⟨i,hi⟩:=fB o;have:=d 0 (i+1) id rfl (by simpa using hi);omega
  obtain⟨p,q,s,t,m⟩:=Hp ids rs (M.put id r) (λx u=>by rw[l];exact c x (by simp[u])) (by simpa using b) (λi j x hi a=>by
   have:=d (i+1) (j+1) x (by simpa using hi) (by simpa using a);omega)
  refine⟨p.trans l,q.trans n,s.trans p3,λi j a=>?_,λj a=>?_⟩
  .cases i with
   |zero =>
    simp at a;subst a;show (iu ids rs (M.put id r)).get id=_;rw[m id f,p4,ag rfl,ag (c id (by simp))];rfl
   |succ i=>exact(t i j (by simpa using a)).trans rfl
  have g:j≠id:=λe=>a (by simp[e])
  have k:j ∉ ids:=λe=>a (by simp[e])
  show (iu ids rs (M.put id r)).get j=_;rw[m j k,p4,aa g]
section
variable {S:Wo} {H:aH} {E:Mem} {ids:cY}
theorem TX {id:Nat}{r:Row}(h:H.get id=some r):rowOf H ids id=Kx ids (RO H r):=by unfold rowOf;rw[h]
theorem LW (d:Rel S H E){v:AV}{x:Value}(h:VR S v x):VR S (VT H v) x:=by
 cases v with
 |own id n =>
  have e0:VT H (.own id n)=(match H.get id with
   |some (.list _ _ l _ _ _)=>AV.own id l.length
   |_=>AV.own id n):=rfl
  rw[e0];split
  .rename_i t e l iL ex j f;obtain⟨_,⟨_,g0,b,k2⟩,_⟩:=d.row id _ f;cases h with
   |own _ _ i cap s hρ g a c=>rw[b]at a;cases a;rw[show l.length=n by omega];exact .own id _ i cap s hρ g0 b c
   |iw _ g a c=>rw[b]at a;cases a;rw[show l.length=0 by omega];exact .iw id g0 b c
  exact h
 |_=>exact h
theorem LV.yH {f:AV->AV}(a:∀v x,VR S v x->VR S (f v) x):∀{l:aI} {m:aW},LV S l m->LV S (l.map f) m
 |[],m,h=>h
 |v::l,m,h=>by
  obtain⟨x,d,rfl,b,c⟩:=h.cons_inv;exact LV.cons (a v x b) (LV.yH a c)
theorem TY (a:Rel S H E){v:AV}{x:Value}(h:VR S v x):VR S (Y1 H v) x:=by
 cases v with
 |agg l=>cases h with
  |agg _ m b c =>
   have:=LV.yH (f:=VT H) (λv x h=>LW a h) (show LV S l m from ⟨b,c⟩);exact .agg _ m this.1 this.2
 |_=>exact LW a h
theorem TZ (a:Rel S H E){v:AV}{x:Value}(h:VR S v x):VR S (akx H v) x:=by
 cases v with
 |gI l=>cases h with
  |gI _ m b c =>
   have:=LV.yH (f:=Y1 H) (λv x h=>TY a h) (show LV S l m from ⟨b,c⟩);exact .gI _ m this.1 this.2
 |_=>exact TY a h
theorem aeA (a:Rel S H E){id:Nat}{r:Row}(h:qD S E id r):qD S E id (RO H r):=by
 cases r with
 |cells t cs =>
  obtain⟨i,c,s,b,a1,a2,d,e⟩:=h;exact⟨i,c,s,b,a1,a2,LV.yH (λv x h=>LW a h) d,e⟩
 |_=>exact h
theorem T1 (r:Row):(RO H r).Cm=r.Cm:=by cases r<;>rfl
theorem T2 (m:Rel S H E)(D:nodupB ids=true){p:Nat}(N:p<=ids.length)(n:∀id∈ids,H.lk<=id):Rel (S.ya H ids) (fT p (rowsOf H ids)) E:=by
 obtain⟨o,O,p3,p4⟩:=vT p (rowsOf H ids);have hlen:(rowsOf H ids).length=ids.length:=cO ..;rw[hlen]at o;have u:∀j q,(fT p (rowsOf H ids)).get j=some q->∃id r,ids[j]? = some id/\H.get id=some r/\q=Kx ids (RO H r):=λj q d=>by
  rw[p4]at d;obtain⟨V,a,k⟩:=eK.1 d;unfold rowsOf at a;rw[dg]at a;obtain⟨id,P,Q⟩:=aO.1 a;subst Q;unfold rowOf at k;split at k
  .rename_i r K;refine⟨id,r,P,K,?_⟩;cases r<;>first|(simpa[Kx,RO,Row.live] using k.symm)|exact absurd K aH.KC
  cases k
 have ρj:∀{j id},ids[j]? = some id->(S.ya H ids).ρ j=S.ρ id:=λ{j id} d=>by
  show (ids[j]?).bind S.ρ=_;rw[d];rfl
 refine⟨m.fz,λj x A=>?_,λj v d=>?_,λj q d=>?_,λj L q R y T d F hy w U=>?_,λj q y d M hy=>?_,λj q y d _ hy=>?_,by rw[o,O];exact cJ _,by rw[o,p3];exact N,m.ID⟩
 .rw[o];have A:(ids[j]?).bind S.ρ=some x:=A;cases hi:ids[j]? with
  |none=>rw[hi]at A;cases A
  |some id=>exact(bH.1 hi).1
 .rw[o]at d;show (if v=0 then (ids[j]?).bind _ else none)=none;rw[eD d];split<;>rfl
 .obtain ⟨id,r,a,k,rfl⟩:=u j q d;have f:=aeA m (m.row id r k);cases r with
  |dead=>trivial
  |cells t cs =>
   obtain⟨i,c,s,b,a1,a2,B,C⟩:=f;exact⟨i,c,s,b,by rw[ρj a];exact a1,a2,B.ya m,C⟩
  |mp t ks =>
   obtain⟨i,c,s,b,a1,a2⟩:=f;exact⟨i,c,s,b,by rw[ρj a];exact a1,a2⟩
  |mf t ks =>
   obtain⟨i,c,s,b,a1,a2,B,C,G⟩:=f;exact⟨i,c,s,b,by rw[ρj a];exact a1,a2,B,C.ya m,G⟩
  |list t e l iL ex W =>
   obtain⟨a1,⟨a2,g,B,C⟩,G⟩:=f;have hΓ:(S.ya H ids).Γ j 0=some ⟨e,l⟩:=by
    show (if 0=0 then (ids[j]?).bind _ else none)=_;rw[ag rfl,a];simp only[bh,k]
   refine⟨hΓ,⟨λv Y=>aa (by omega),⟨e,l⟩,hΓ,rfl⟩,?_⟩;rcases G with⟨b1,b2,b3⟩|⟨i,cap,b,mid,post,q1,q2⟩
   .exact .inl ⟨b1,by rw[ρj a];exact b2,b3⟩
   exact .inr ⟨i,cap,b,mid,post,by rw[ρj a];exact q1,q2⟩
 .obtain ⟨id,r,a,k,rfl⟩:=u j q d;obtain⟨I,r',z,J,rfl⟩:=u L R F;rw[ρj a]at hy;rw[ρj z]at w;have:=m.inj id I r r' y T k J hy w U;subst this;exact uP D j L id a z
 .obtain ⟨id,r,a,k,rfl⟩:=u j q d;rw[ρj a]at hy;rw[Ey,T1]at M;exact m.sep id r y k M hy
 obtain⟨id,r,a,k,rfl⟩:=u j q d;rw[ρj a]at hy;exact m.lk id r y k (n id (bu a)) hy
theorem RR {v v':AV}{outs:cQ}{x:Value}(h:iN v H=some (v',outs))(d:Rel S H E)(o:VR S v x):∃S',VR S' v' x/\Rel S' (fT H.par outs) E/\CS S H E S' (fT H.par outs) E:=by
 unfold iN at h;generalize xY H 3 (JH ((List.range H.par).foldl (Ky H) (List.range H.par)) v)=ids at h;simp only at h;rw[ay]at h;split at h;case isFalse=>cases h
 rename_i l;simp only[ak,aQ]at l;obtain⟨⟨e,a⟩,f⟩:=l;have a:ids.take H.par=List.range H.par:=by simpa using a
 simp only[aq,az]at h;obtain⟨rfl,rfl⟩:=h;have g:H.par<=ids.length:=by
  have:=bO List.length a;simp at this;omega
 refine⟨S.ya H ids,(TZ d o).ya d,T2 d e g (λid _=>by omega),?_⟩;obtain⟨z,p,p3,p4⟩:=vT H.par (rowsOf H ids);refine⟨aG _,rfl,by rw[p,f],p3,λ_ _ h=>h,λi s _=>?_,λi hi=>.inl hi,λ_ _ _=>rfl,λid b=>?_⟩
 .obtain ⟨j,q,y,m,t,hy,rfl⟩:=s;rw[p4]at m;obtain⟨A,k,c⟩:=eK.1 m;unfold rowsOf at k;rw[dg]at k;obtain⟨id,u,w⟩:=aO.1 k;subst w;have hy:(ids[j]?).bind S.ρ=some y:=hy;rw[u]at hy;unfold rowOf at c;split at c
  .rename_i r n;refine⟨id,r,y,n,?_,hy,rfl⟩;rw[<-T1 (H:=H),<-Ey (ids:=ids)];cases r<;>first|(simp only[Kx,RO,Row.live,aq]at c;subst c;exact t)|exact absurd n aH.KC
  cases c
 have:(ids.take H.par)[id]? = some id:=by rw[a];simp[b]
 rw[ez,ag b]at this;show (ids[id]?).bind S.ρ=_;rw[this];rfl
end
def Wo.back (S S':Wo)(p next:Nat):Wo:=⟨S'.F,λj=>if j<next then S.ρ j else S'.ρ (p+(j-next)),λj v=>if j<next then S.Γ j v else S'.Γ (p+(j-next)) v⟩
structure Bk (S S':Wo)(p next:Nat)(φ:Nat->Nat):Prop where
 lo:∀i x,i<p->S'.ρ i=some x->(S.back S' p next).ρ (φ i)=some x
 hi:∀i,p<=i->φ i=next+(i-p)
theorem Bk.ρ {S S':Wo}{p next:Nat}{φ:Nat->Nat}(h:Bk S S' p next φ){i:Nat}{x:Nat×Nat×Nat}(a:S'.ρ i=some x):(S.back S' p next).ρ (φ i)=some x:=by
 by_cases hi:i<p
 .exact h.lo i x hi a
 rw[h.hi i (by omega)];show (if next+(i-p)<next then _ else S'.ρ (p+(next+(i-p)-next)))=_;rw[aa (by omega),show p+(next+(i-p)-next)=i by omega];exact a
theorem Bk.ρN {S S':Wo}{p next:Nat}{φ:Nat->Nat}(h:Bk S S' p next φ){i:Nat}(hi:p<=i):(S.back S' p next).ρ (φ i)=S'.ρ i:=by
 rw[h.hi i hi];show (if next+(i-p)<next then _ else S'.ρ (p+(next+(i-p)-next)))=_;rw[aa (by omega),show p+(next+(i-p)-next)=i by omega]
theorem Bk.Γ {S S':Wo}{p next:Nat}{φ:Nat->Nat}(h:Bk S S' p next φ){i:Nat}(hi:p<=i)(v:Nat):(S.back S' p next).Γ (φ i) v=S'.Γ i v:=by
 rw[h.hi i hi];show (if next+(i-p)<next then _ else S'.Γ (p+(next+(i-p)-next)) v)=_;rw[aa (by omega),show p+(next+(i-p)-next)=i by omega]
theorem VR.sh {S S':Wo}{p next:Nat}{φ:Nat->Nat}(d:Bk S S' p next φ){v:AV}{x:Value}(h:VR S' v x):VR (S.back S' p next) (Dk φ p v) x:=by
 have eC:∀{l:aI} {m:aW},(∀(j:Nat) a b,l[j]? = some a->m[j]? = some b->VR (S.back S' p next) (Dk φ p a) b)->(∀(j:Nat) a b,(RP φ p l)[j]? = some a->m[j]? = some b->VR (S.back S' p next) a b)/\(RP φ p l).length=l.length:=by
  intro l;induction l with
  |nil=>intro m h;exact⟨λj a b o=>by simp[RP]at o,rfl⟩
  |cons v l q =>
   intro m h;cases m with
   |nil=>exact⟨λj a b o d=>by simp at d,by have:=(q (m:=[]) (λj a b _ d=>by simp at d)).2;simp[RP,this]⟩
   |cons y m =>
    obtain⟨D,F⟩:=q (m:=m) λj a b o d=>h (j+1) a b (by simpa using o) (by simpa using d)
    refine⟨λj a b o d=>?_,by simp[RP,F]⟩;cases j with
    |zero=>simp[RP]at o d;subst o;subst d;exact h 0 v y rfl rfl
    |succ j=>exact D j a b (by simpa[RP] using o) (by simpa using d)
 have u:∀{id:Nat} {w:AV},(p<=id->VR (S.back S' p next) w x)->VR (S.back S' p next) (ah (Nat.ble p id) w .lG) x:=λ{id w} B=>by
  rw[ay];split
  .rename_i k;exact B (aB k)
  exact .lG _
 clear u;have u:∀{id:Nat} {w:AV} {y:Value},(p<=id->VR (S.back S' p next) w y)->VR (S.back S' p next) (ah (Nat.ble p id) w .lG) y:=λ{id w y} B=>by
  rw[ay];split
  .rename_i k;exact B (aB k)
  exact .lG _
 induction h with
 |int=>unfold Dk;exact .int _ _
 |bool=>unfold Dk;exact .bool _
 |str=>unfold Dk;exact .str _
 |rL=>unfold Dk;exact .rL _
 |eC e l v h=>unfold Dk;exact .eC e l v h
 |eB=>unfold Dk;exact .eB
 |own id n i cap s h g r z=>unfold Dk;exact u λk=>.own _ n i cap s (d.ρ h) g (by rw[d.Γ k];exact r) z
 |iw id g r z=>unfold Dk;exact u λk=>.iw _ g (by rw[d.Γ k];exact r) z
 |tc id off len cap i c s h g r G A=>unfold Dk;exact u λk=>.tc _ off len cap i c s (d.ρ h) g (by rw[d.Γ k];exact r) G A
 |ptr id off i c s h=>unfold Dk;exact .ptr _ off i c s (d.ρ h)
 |Er=>unfold Dk;exact .lG _
 |zN id i c s h=>unfold Dk;exact .zN _ i c s (d.ρ h)
 |dat=>unfold Dk;exact .lG _
 |FB id n i c s h g r z=>unfold Dk;exact u λk=>.FB _ n i c s (d.ρ h) g (by rw[d.Γ k];exact r) z
 |Ad cs i pre mid post h A _ q =>
  unfold Dk;obtain⟨t,C⟩:=eC q;exact .Ad _ i pre mid post h (by omega) t
 |pU=>unfold Dk;exact .pU
 |fn f a b I J o K _ _ L M =>
  unfold Dk;obtain⟨t,C⟩:=eC L;obtain⟨m1,N⟩:=eC M;exact .fn f _ _ I J (by omega) (by omega) t m1
 |agg l m A _ q =>
  unfold Dk;obtain⟨t,C⟩:=eC q;exact .agg _ m (by omega) t
 |gI l m A _ q =>
  unfold Dk;obtain⟨t,C⟩:=eC q;exact .gI _ m (by omega) t
 |BB v h=>unfold Dk;exact .BB v h
 |fl a v h=>unfold Dk;exact .fl a v h
 |cx a b v h=>unfold Dk;exact .cx a b v h
 |lG v=>unfold Dk;exact .lG v
theorem LV.sh {S S':Wo}{p next:Nat}{φ:Nat->Nat}(a:Bk S S' p next φ):∀{l:aI} {m:aW},LV S' l m->LV (S.back S' p next) (RP φ p l) m
 |[],m,h=>by rw[h.kI];exact LV.nil
 |v::l,m,h=>by
  obtain⟨x,d,rfl,b,c⟩:=h.cons_inv;exact LV.cons (b.sh a) (LV.sh a c)
theorem qD.sh {S S':Wo}{E:Mem}{p next:Nat}{φ:Nat->Nat}(d:Bk S S' p next φ){i:Nat}{r:Row}(a:vS r=true\/(Hi r=true/\p<=i))(h:qD S' E i r):qD (S.back S' p next) E (φ i) (A3 φ p r):=by
 cases r with
 |dead=>trivial
 |cells t cs =>
  obtain⟨f,c,s,b,a1,a2,k,m⟩:=h;exact⟨f,c,s,b,d.ρ a1,a2,k.sh d,m⟩
 |mp t ks =>
  obtain⟨f,c,s,b,a1,a2⟩:=h;exact⟨f,c,s,b,d.ρ a1,a2⟩
 |mf t ks=>rcases a with a|a<;>simp[vS,Hi]at a
 |list t e l iL ex q =>
  have j:p<=i:=by
   rcases a with a|a
   .simp[vS]at a
   exact a.2
  obtain⟨a1,⟨a2,g,k,m⟩,n⟩:=h;refine⟨by rw[d.Γ j];exact a1,⟨λv o=>by rw[d.Γ j];exact a2 v o,g,by rw[d.Γ j];exact k,m⟩,?_⟩;rcases n with⟨b1,b2,b3⟩|⟨f,cap,b,mid,post,q1,q2⟩
  .exact .inl ⟨b1,by rw[d.ρN j];exact b2,b3⟩
  exact .inr ⟨f,cap,b,mid,post,d.ρ q1,q2⟩
theorem O6 {φ:Nat->Nat}{p:Nat}{r q:Row}(h:(A3 φ p r).live=some q):q=A3 φ p r/\r.live=some r:=by
 cases r<;>simp[A3,Row.live]at h<;>exact⟨by rw[<-h];rfl,rfl⟩
theorem O7 {H:aH}{id:Nat}(h:JI H id=true):∃r,H.get id=some r/\vS r=true:=by
 unfold JI at h;split at h
 .rename_i r a;exact⟨r,a,h⟩
 cases h
theorem O8 {H:aH}{id:Nat}(h:O4 H id=true):∃r,H.get id=some r/\Hi r=true:=by
 unfold O4 at h;split at h
 .rename_i r a;exact⟨r,a,h⟩
 cases h
theorem LX {r:Row}(h:vS r=true):r.Cm=false/\r.live=some r:=by
 cases r<;>first|exact⟨rfl,rfl⟩|cases h
theorem T3 {r:Row}(h:Hi r=true):r.Cm=false/\r.live=some r:=by
 cases r with
 |list t e l v ex a=>cases a with
  |false=>exact⟨rfl,rfl⟩
  |true=>cases h
 |_=>cases h
theorem aax {S S':Wo}{H:aH}{E E':Mem}{ids:cY}{p:Nat}{outs:cQ}(u:Rel S H E)(hnd:nodupB ids=true)(hp:p<=ids.length)
 (aeB:∀i id,ids[i]? = some id->i<p->JI H id=true) (Cq:∀i id,ids[i]? = some id->p<=i->O4 H id=true)
 (n:Rel S' (fT p outs) E') (l:CS (S.ya H ids) (fT p (rowsOf H ids)) E S' (fT p outs) E')
 (hpo:p<=outs.length) (U:∀i r,outs[i]? = some r->i<p->vS r=true) (Eo:∀i r,outs[i]? = some r->p<=i->vS r=true\/Hi r=true) :
 Bk S S' p H.next (wV ids p H.next)/\S.le (S.back S' p H.next)/\Rel (S.back S' p H.next) (Hl H ids p outs) E'/\St S H E (S.back S' p H.next) (Hl H ids p outs) E':=by
 have φlo:∀{i id},i<p->ids[i]? = some id->wV ids p H.next i=id:=λ{i id} hi k=>by
  unfold wV;rw[ay,ag (fm hi),gU,k];rfl
 have φhi:∀{i},p<=i->wV ids p H.next i=H.next+(i-p):=λ{i} hi=>by
  unfold wV;rw[ay,aa (by rw[bF];omega)];rfl
 have I:∀{i id},ids[i]? = some id->∃r,H.get id=some r/\r.Cm=false:=λ{i id} k=>by
  by_cases hi:i<p
  .obtain ⟨r,e,c⟩:=O7 (aeB i id k hi);exact⟨r,e,(LX c).1⟩
  obtain⟨r,e,c⟩:=O8 (Cq i id k (by omega));exact⟨r,e,(T3 c).1⟩
 have J:∀{i id},ids[i]? = some id->id<H.next:=λk=>let ⟨_,h,_⟩:=I k;aH.fM h
 obtain⟨m1,m2,m3,m4⟩:=vT p (rowsOf H ids);obtain⟨o1,o2,o3,o4⟩:=vT p outs;have avl:(rowsOf H ids).length=ids.length:=cO ..;have s:∀{i q},outs[i]? = some q->q.Cm=false/\q.live=some q/\(fT p outs).get i=some q:=λ{i q} w=>by
  have hh:q.Cm=false/\q.live=some q:=by
   by_cases hi:i<p
   .exact LX (U i q w hi)
   rcases Eo i q w (by omega) with h|h
   .exact LX h
   exact T3 h
  exact⟨hh.1,hh.2,by rw[o4,w];exact hh.2⟩
 have lo:∀i x,i<p->S'.ρ i=some x->∃id,ids[i]? = some id/\S.ρ id=some x:=λi x hi d=>by
  have e:=l.par i (by rw[m3];exact hi);rw[e]at d;have d:(ids[i]?).bind S.ρ=some x:=d;obtain⟨id,c,f⟩:=eK.1 d;exact⟨id,c,f⟩
 have old:∀j,j<H.next->(S.back S' p H.next).ρ j=S.ρ j:=λj g=>ag g
 have oldΓ:∀j v,j<H.next->(S.back S' p H.next).Γ j v=S.Γ j v:=λj v g=>ag g
 have K:Bk S S' p H.next (wV ids p H.next):=⟨λi x hi d=>by
  obtain⟨id,e,c⟩:=lo i x hi d;rw[φlo hi e,old id (J e)];exact c,λi hi=>φhi hi⟩
 have L:S.le (S.back S' p H.next):=⟨λi x d=>l.F i x d,λi x d=>by rw[old i (u.dom i x d)];exact d,λi v x d=>by
  rw[oldΓ i v (by
   by_cases hi:i<H.next
   .exact hi
   rw[u.D5 i v (by omega)]at d;cases d)];exact d⟩
 -- the memory
 have hM1:(outs.drop p).foldl (λM r=>M.push (A3 (wV ids p H.next) p r)) H=((outs.drop p).map (A3 (wV ids p H.next) p)).foldl (λM r=>M.push r) H:=by rw[List.foldl_map]
 obtain⟨q1,q2,q3,q4⟩:=Ho ((outs.drop p).map (A3 (wV ids p H.next) p)) H;rw[<-hM1]at q1 q2 q3 q4;have apE:Hl H ids p outs=iu ids ((outs.take p).map (A3 (wV ids p H.next) p)++(ids.drop p).map λ_=>.dead) ((outs.drop p).foldl (λM r=>M.push (A3 (wV ids p H.next) p r)) H):=rfl;obtain⟨g1,V,g3,g4,g5⟩:=Hp ids ((outs.take p).map (A3 (wV ids p H.next) p)++(ids.drop p).map λ_=>.dead) ((outs.drop p).foldl (λM r=>M.push (A3 (wV ids p H.next) p r)) H)
  (λid k=>by
   obtain⟨i,hi⟩:=fB k;rw[q1];have:=J hi;omega) (by simp;omega) (uP hnd)
 rw[<-apE]at g1 V g3 g4 g5;rw[q1]at g1;rw[q2]at V;rw[q3]at g3;have W:(Hl H ids p outs).next=H.next+(outs.length-p):=by rw[g1];simp
 have O:∀j r,(Hl H ids p outs).get j=some r->(j<H.next/\j ∉ ids/\H.get j=some r)\/∃i q,j=wV ids p H.next i/\outs[i]? = some q/\r=A3 (wV ids p H.next) p q:=λj r g=>by
  by_cases hm:j∈ids
  .obtain ⟨i,hi⟩:=fB hm;rw[g4 i j hi]at g;obtain⟨r0,e,c⟩:=eK.1 g;by_cases Y:i<p
   .rw[List.getElem?_append_left (by simp;omega),dg,ez,ag Y]at e;obtain⟨q,f,z⟩:=aO.1 e;subst z;exact .inr ⟨i,q,(φlo Y hi).symm,f,(O6 c).1⟩
   rw[mO (by simp;omega),dg]at e;obtain⟨q,f,z⟩:=aO.1 e;subst z;cases c
  rw[g5 j hm,q4]at g;by_cases A:j<H.next
  .rw[ag A]at g;exact .inl ⟨A,hm,g⟩
  rw[aa A,dg,hU]at g;obtain⟨r0,e,c⟩:=eK.1 g;obtain⟨q,f,z⟩:=aO.1 e;subst z;exact .inr ⟨p+(j-H.next),q,by rw[φhi (by omega)];omega,f,(O6 c).1⟩
 have ρB:∀{i q},outs[i]? = some q->(S.back S' p H.next).ρ (wV ids p H.next i)=S'.ρ i:=λ{i q} w=>by
  by_cases hi:i<p
  .have e:=l.par i (by rw[m3];exact hi);rw[e];show _=(ids[i]?).bind S.ρ;have:i<ids.length:=by omega
   rw[aR this,φlo hi (aR this),old _ (J (aR this))];rfl
  exact K.ρN (by omega)
 -- rows on the other side
 have Z:∀m,Own (S.ya H ids) (fT p (rowsOf H ids)) m->∃id r x,id∈ids/\H.get id=some r/\r.Cm=false/\S.ρ id=some x/\x.1=m:=λm ⟨j,q,y,g,T,hy,D⟩=>by
  have hy:(ids[j]?).bind S.ρ=some y:=hy;obtain⟨id,e,c⟩:=eK.1 hy;obtain⟨r,f,z⟩:=I e;exact⟨id,r,y,bu e,f,z,c,D⟩
 have G:∀j r y,j ∉ ids->H.get j=some r->S.ρ j=some y->¬Own (S.ya H ids) (fT p (rowsOf H ids)) y.1/\y.1<E.size:=λj r y g hg hy=>by
  refine⟨λP=>?_,let ⟨_,T⟩:=u.old hg hy;Mem.fM T⟩;obtain⟨id,r',x,e,c,f,z,h5⟩:=Z _ P;have:=u.inj id j r' r x y c hg z hy h5;subst this;exact g e
 have C:∀i q y,outs[i]? = some q->S'.ρ i=some y->E.size<=y.1\/Own (S.ya H ids) (fT p (rowsOf H ids)) y.1:=λi q y w hy=>by
  by_cases hs:E.size<=y.1
  .exact .inl hs
  obtain⟨a,_,b⟩:=s w;exact .inr (l.own y.1 ⟨i,q,y,b,a,hy,rfl⟩ (by omega))
 have Q:∀m,Own (S.ya H ids) (fT p (rowsOf H ids)) m->Own S H m:=λm P=>by
  obtain⟨id,r,x,_,c,f,z,h5⟩:=Z m P;exact⟨id,r,x,c,f,z,h5⟩
 refine⟨K,L,⟨n.fz,λj x d=>?_,λj v g=>?_,λj r g=>?_,λj j' r r' x x' g hj' d o D=>?_,λj r x g T d=>?_,λj r x g hl d=>?_,by rw[V,W];have:=u.A0;omega,by rw[g3,W];have:=u.Nf;omega,n.ID⟩,
  ⟨l.sz,l.lk,V,g3,L.F,λi P hi=>?_,λi hi=>?_,λi hi P=>l.keep i hi λh=>P (Q i h),λid k=>old id (by have:=u.Nf;omega),by rw[W];omega,λid k hlv=>?_,λid k hn=>by rw[old id k];exact hn⟩⟩
 .rw[W];by_cases A:j<H.next
  .omega
  have d:(if j<H.next then S.ρ j else S'.ρ (p+(j-H.next)))=some x:=d;rw[aa A]at d;have:=n.dom _ x d;rw[o1]at this;omega
 .rw[W]at g;show (if j<H.next then S.Γ j v else S'.Γ (p+(j-H.next)) v)=none;rw[aa (by omega)];exact n.D5 _ v (by rw[o1];omega)
 .rcases O j r g with⟨e,c,f⟩|⟨i,q,rfl,c,rfl⟩
  .refine (u.row j r f).keep L (λhn=>by rw[old j e];exact hn) (λv hv=>by rw[oldΓ j v e];exact hv) λx d=>?_
   obtain⟨R,f2⟩:=G j r x c f d;exact l.keep _ f2 R
  refine qD.sh K ?_ (n.row i q (s c).2.2);by_cases hi:i<p
  .exact .inl (U i q c hi)
  rcases Eo i q c (by omega) with h|h
  .exact .inl h
  exact .inr ⟨h,by omega⟩
 .rcases O j r g with⟨e,c,f⟩|⟨i,q,rfl,c,rfl⟩<;>rcases O j' r' hj' with⟨h1',t,h3'⟩|⟨i',q',rfl,t,rfl⟩
  .rw[old j e]at d;rw[old j' h1']at o;exact u.inj j j' r r' x x' f h3' d o D
  .rw[old j e]at d;rw[ρB t]at o;obtain⟨R,f2⟩:=G j r x c f d;rcases C i' q' x' t o with h|h
   .omega
   rw[<-D]at h;exact absurd h R
  .rw[old j' h1']at o;rw[ρB c]at d;obtain⟨R,f2⟩:=G j' r' x' t h3' o;rcases C i q x c d with h|h
   .omega
   rw[D]at h;exact absurd h R
  rw[ρB c]at d;rw[ρB t]at o;rw[n.inj i i' q q' x x' (s c).2.2 (s t).2.2 d o D]
 .rcases O j r g with⟨e,c,f⟩|⟨i,q,rfl,c,rfl⟩
  .rw[old j e]at d;obtain⟨R,f2⟩:=G j r x c f d;show S'.F x.1=none;cases w:S'.F x.1 with
   |none=>rfl
   |some cs =>
    rcases l.Mc x.1 (by rw[w];simp) with h|h|h
    .exact absurd (u.sep j r x f T d) h
    .exact absurd h R
    omega
  rw[ρB c]at d;exact n.sep i q x (s c).2.2 (s c).1 d
 .rcases O j r g with⟨e,c,f⟩|⟨i,q,rfl,c,rfl⟩
  .rw[old j e]at d;rw[l.lk];exact u.lk j r x f (by rw[<-V];exact hl) d
  rw[ρB c]at d;exact n.lk i q x (s c).2.2 (by rw[o2];exact cJ _) d
 .obtain ⟨j,r,x,g,T,d,rfl⟩:=P;rcases O j r g with⟨e,c,f⟩|⟨i,q,rfl,c,rfl⟩
  .rw[old j e]at d;exact⟨j,r,x,f,T,d,rfl⟩
  rw[ρB c]at d;rcases C i q x c d with h|h
  .omega
  exact Q _ h
 .rcases l.Mc i hi with h|h|h
  .exact .inl h
  .exact .inr (.inl (Q i h))
  exact .inr (.inr h)
 cases w:(Hl H ids p outs).get id with
 |none=>exact absurd w hlv
 |some r =>
  rcases O id r w with⟨e,c,f⟩|⟨i,q,D,c,_⟩
  .rw[f];simp
  by_cases hi:i<p
  .have hil:i<ids.length:=by omega
   rw[φlo hi (aR hil)]at D;obtain⟨r0,k1,_⟩:=I (aR hil);rw[D,k1];simp
  rw[φhi (by omega)]at D;omega
theorem uW {h:Wo}{k:aH}{E:Mem}:∀{sg:List (Option (TypeId×Ty))} {cs:aI} {H:aH} {S:Wo} {C:aW},Rel S H E->h.le S->St h k E S H E->LV S cs C ->
 ∃S',S.le S'/\Rel S' (fH sg cs H).2 E/\St h k E S' (fH sg cs H).2 E/\LV S' (fH sg cs H).1 C/\H.next<=(fH sg cs H).2.next/\(∀j,j<H.next->(fH sg cs H).2.get j=H.get j/\S'.ρ j=S.ρ j)
 |[],cs,H,S,C,d,b,a,f=>by
  cases cs<;>exact⟨S,S.le_refl,d,a,f,aG _,λ_ _=>⟨rfl,rfl⟩⟩
 |s::sg,[],H,S,C,d,b,a,f=>by
  have e:fH (s::sg) [] H=([],H):=by cases s with
   |none=>rfl
   |some q=>rfl
  rw[e];exact⟨S,S.le_refl,d,a,f,aG _,λ_ _=>⟨rfl,rfl⟩⟩
 |s::sg,c::cs,H,S,C,d,b,a,f=>by
  obtain⟨x,z,rfl,p,u⟩:=f.cons_inv;have same:(∃S',S.le S'/\Rel S' (c::(fH sg cs H).1,(fH sg cs H).2).2 E/\St h k E S' (c::(fH sg cs H).1,(fH sg cs H).2).2 E/\LV S' (c::(fH sg cs H).1,(fH sg cs H).2).1 (x::z)/\H.next<=(c::(fH sg cs H).1,(fH sg cs H).2).2.next/\(∀j,j<H.next->(c::(fH sg cs H).1,(fH sg cs H).2).2.get j=H.get j/\S'.ρ j=S.ρ j)):=by
   obtain⟨S',a1,a2,l,m,i,n⟩:=uW (sg:=sg) d b a u;exact⟨S',a1,a2,l,LV.cons (p.mono a1) m,i,n⟩
  cases s with
  |none=>exact same
  |some q =>
   obtain⟨t,e⟩:=q;cases c with
   |eB =>
    have A:∀v,S.Γ H.next v=none:=λv=>d.D5 _ _ (aG _)
    obtain⟨b1,b2,b3⟩:=d.add (E':=E) (r:=.list t e [] 0 false false) (x:=none) (g:=some ⟨e,[]⟩) (aG _) rfl (λ_ _=>rfl) (λr' o=>by cases o;exact mK A) (λy hy=>by cases hy) rfl;obtain⟨w,D,p3,p4⟩:=aH.eG H (.list t e [] 0 false false);obtain⟨S',a1,a2,l,m,i,n⟩:=uW (sg:=sg) b2 (Wo.le_trans b b1) (a.trans b3) (u.mono b1);cases p;have B:VR (S.new H.next none (some ⟨e,[]⟩)) (.own H.next 0) (.slice none 0 0):=.iw _ ⟨e,[]⟩ (ag ⟨rfl,rfl⟩) rfl;refine⟨S',Wo.le_trans b1 a1,a2,l,LV.cons (B.mono a1) m,by rw[w]at i;exact bA (gx _) i,λj F=>?_⟩
    obtain⟨c1,c2⟩:=n j (by rw[w];omega);exact⟨c1.trans (by rw[p4,aa (by omega)]),c2.trans (aa (by omega))⟩
   |_=>exact same
theorem VU {t0:TypeId}{sg:List (Option (TypeId×Ty))}{e S:Wo}{f H:aH}{E:Mem}(id:Nat)(m:f.lk<=id)(d:Rel S H E)(g:e.le S)(a:St e f E S H E) :
 ∃S',S.le S'/\Rel S' (ownRow t0 sg H id) E/\St e f E S' (ownRow t0 sg H id) E:=by
 unfold ownRow;split;case h_2=>exact⟨S,S.le_refl,d,a⟩
 rename_i t cs k;rw[ay];split;case isFalse=>exact⟨S,S.le_refl,d,a⟩
 obtain⟨i,c,s,b,n,o,p,u⟩:=d.row id _ k;obtain⟨S1,a1,a2,v,w,B,x⟩:=uW (sg:=sg) d g a p;have l:=aH.fM k;obtain⟨g1,y⟩:=x id l;obtain⟨m1,z⟩:=a2.mod (S':=S1) (E':=E) (r:=.cells t cs) (r':=.cells t (fH sg cs H).1) (by rw[g1];exact k) rfl S1.le_refl rfl (λ_ _ _=>rfl) rfl rfl (λ_ _=>rfl) (λj cs h=>.inl h) (λq A=>by
  cases A;exact⟨i,c,s,b,by rw[y];exact n,o,w,u⟩)
 exact⟨S1,a1,m1,v.trans z⟩
theorem Hq {t0:TypeId}{sg:List (Option (TypeId×Ty))}{c:Wo}{d:aH}{E:Mem}:∀(l:cY) {S:Wo} {H:aH},(∀id∈l,d.lk<=id)->Rel S H E->c.le S->St c d E S H E ->
 ∃S',S.le S'/\Rel S' (l.foldl (ownRow t0 sg) H) E/\St c d E S' (l.foldl (ownRow t0 sg) H) E
 |[],S,H,_,e,a,b=>⟨S,S.le_refl,e,b⟩
 |id::l,S,H,f,e,a,b=>by
  obtain⟨S1,a1,a2,g⟩:=VU (t0:=t0) (sg:=sg) id (f id (by simp)) e a b;obtain⟨S2,b1,b2,b3⟩:=Hq l (λx h=>f x (by simp[h])) a2 (Wo.le_trans a a1) g;exact⟨S2,Wo.le_trans a1 b1,b2,b3⟩
section
variable {X:ji} {cf:Nat×Nat->Ev.dx}
def lK (X:ji)(cf:Nat×Nat->Ev.dx)(f:FuncId)(g:aI->cQ->Option (Bool×AV×cQ)):Prop :=
 ∀args rows v outs,g args rows=some (true,v,outs)->∀p,∀(S:Wo) (E:Mem) (a:aW),p=uu rows->Rel S (fT p rows) E->gi X S->LV S args a ->
  ∃S' b E',(∃N,∀n:Nat×Nat,N<=n.1/\N<=n.2->cf n f a E=some (b,E'))/\VR S' v b/\Rel S' (fT p outs) E'/\CS S (fT p rows) E S' (fT p outs) E'
theorem O9:∀(l:cQ) (p:Nat),(∀i r,l[i]? = some r->i<p->vS r=true)->(∀i r,l[i]? = some r->p<=i->vS r=false)->p<=l.length->uu l=p
 |[],p,_,_,a=>by simp at a;subst a;rfl
 |r::l,p,c,d,a=>by
  unfold uu;rw[ay];cases p with
  |zero=>rw[aa (by have:=d 0 r rfl (aG _);rw[this];simp)]
  |succ p =>
   rw[ag (c 0 r rfl (by omega)),O9 l p (λi q b hi=>c (i+1) q (by simpa using b) (by omega)) (λi q b hi=>d (i+1) q (by simpa using b) (by omega)) (by simpa using a)]
theorem VV {f:FuncId}{g:aI->cQ->Option (Bool×AV×cQ)}(J:lK X cf f g){β:Type}{args:aI}{H:aH}{st ids:cY}{k:AV->aH->Option β}{r:β}(h:RQ g args H st ids k=some r):∃v D,k v D=some r/\KL X cf f args H v D:=by
 unfold RQ at h;rw[ay]at h;split at h;case isFalse=>cases h
 rename_i F;simp only[ak]at F;obtain⟨⟨⟨⟨j,l⟩,u⟩,w⟩,a⟩:=F;split at h;case h_2=>cases h
 rename_i K v outs L;rw[ay]at h;split at h;case isFalse=>cases h
 rename_i G;simp only[ak]at G;obtain⟨⟨d,y⟩,M⟩:=G;rw[ay]at h;split at h;case isFalse=>cases h
 rename_i m;subst m;have a:=aB a;have d:=aB d;refine⟨_,_,h,λS E N s z O=>?_⟩;have e:∀id∈ids,H.lk<=id:=λid A=>by
  have:=aN.1 l id A;simpa[aH.o7,bF] using this
 have n:∀i id,ids[i]? = some id->i<st.length->JI H id=true:=λi id hi B =>
  aN.1 u id (bu (i:=i) (by rw[ez,ag B];exact hi))
 have I:∀i id,ids[i]? = some id->st.length<=i->O4 H id=true:=λi id hi P =>
  aN.1 w id (bu (i:=i-st.length) (by rw[hU,show st.length+(i-st.length)=i by omega];exact hi))
 have c:∀i q,(rowsOf H ids)[i]? = some q->∃id,ids[i]? = some id/\q=rowOf H ids id:=λi q b=>by
  unfold rowsOf at b;rw[dg]at b;obtain⟨id,o,p⟩:=aO.1 b;exact⟨id,o,p.symm⟩
 have Q:uu (rowsOf H ids)=st.length:=O9 _ _ (λi q b hi=>by
  obtain⟨id,o,rfl⟩:=c i q b;obtain⟨C,p,t⟩:=O7 (n i id o hi);rw[TX p];cases C<;>first|exact t|cases t) (λi q b hi=>by
  obtain⟨id,o,rfl⟩:=c i q b;obtain⟨C,p,t⟩:=O8 (I i id o hi);rw[TX p];cases C<;>first|rfl|cases t) (by unfold rowsOf;simpa using a)
 obtain⟨S',R,E',a1,a2,T,U⟩:=J _ _ v outs L st.length (S.ya H ids) E N Q.symm (T2 s j a e) (z.mono' λ_ _ h=>h) ((LV.yH (λv x h=>TZ s h) O).ya s);obtain⟨b1,b2,b3,b4⟩:=aax s j a n I T U d (λi q b hi=>aN.1 y q (bu (i:=i) (by rw[ez,ag hi];exact b))) (λi q b hi=>by
  have:=aN.1 M q (bu (i:=i-st.length) (by rw[hU,show st.length+(i-st.length)=i by omega];exact b));simpa using this)
 exact⟨_,R,E',a1,b2,a2.sh b1,b3,b4⟩
theorem aay {f:FuncId}{c:O5}(e:lK X cf f c.g){β:Type}{args:aI}{H:aH}{k:AV->aH->Option β}{r:β}(h:TW c args H k=some r):∃v a,k v a=some r/\KL X cf f args H v a:=by
 unfold TW at h;simp only at h;rw[ay]at h;split at h;case isFalse=>cases h
 rename_i i;obtain⟨v,a,j,l⟩:=VV e h;refine⟨v,a,j,λS E m n b o=>?_⟩;obtain⟨S1,a1,a2,p⟩:=Hq (t0:=c.t) (sg:=c.sg) _ (λid d=>by
  have:=aN.1 i id d;simpa[aH.o7,bF] using this) n S.le_refl (St.refl S H E)
 obtain⟨S2,q,E',b1,b2,b3,b4,b5⟩:=l S1 E m a2 (b.mono a1) (o.mono a1);exact⟨S2,q,E',b1,Wo.le_trans a1 b2,b3,b4,p.trans b5⟩
theorem o8 {kn:Ev.fZ}{id:FuncId}(f:∀args,kn id args=none){call:∀ β,dz β}(a:∀ β,dO X (eM X kn) (call β)){g:aI->cQ->Option (Bool×AV×cQ)}
 (h:∀args rows v outs,g args rows=some (true,v,outs)->∃(an:fe) (rounds:Nat),aT X (call (AV×cQ)) an rounds id args (fT (uu rows) rows) iN=some (v,outs)):lK X (eM X kn) id g:=by
 intro args rows v outs i p S E j k l d m;subst k;obtain⟨an,rounds,b⟩:=h args rows v outs i;obtain⟨v1,n,o,q⟩:=mH (nf:=false) (a _) (λh=>by cases h) b;obtain⟨S1,r,E',a1,a2,s,e,_⟩:=q S E j l d m;obtain⟨S2,b1,b2,b3⟩:=RR o s a2;have c:n.par=uu rows:=e.Ak.trans (vT _ _).2.2.1;rw[c]at b2 b3;exact⟨S2,r,E',iy f a1,b1,b2,e.trans b3⟩
def Ce {β:Type}(it:au->cA)(args:aI)(H:aH)(k:AV->aH->Option β):Option β :=
 match args with
 |[.ptr id 0]=>match H.get id with
  |some (.cells _ [.str s])=>ah (H.o7 id&&Nat.ble s.length 2000000) (k (.gI (.lG::(it s).map .str)) (H.put id .dead)) none
  |_=>none
 |_=>none
def RV (X:ji)(kn:Ev.fZ)(f:FuncId)(it:au->cA):Prop :=
 X.P.funcs[f]? = none/\(∀i,kn f [.pointer (some ⟨i,0,none⟩)]=none)/\∀s:au,s.length<=2000000->kn f [Ev.jk,.string ⟨s.toArray⟩]=some (.tuple ((it s).map λx=>Value.string ⟨x.toArray⟩).toArray)
theorem JJ:∀(l:cA),Ev.dm (l.map λx=>Value.string ⟨x.toArray⟩)=true
 |[]=>rfl
 |x::l=>by
  have:=JJ l;simpa[Ev.dm,Ev.br] using this
theorem aeC {kn:Ev.fZ}{f:FuncId}{it:au->cA}(hi:RV X kn f it){β:Type}{args:aI}{H:aH}{k:AV->aH->Option β}{r:β}(h:Ce it args H k=some r):∃v B,k v B=some r/\KL X (eM X kn) f args H v B:=by
 obtain⟨C,K,L⟩:=hi;unfold Ce at h;split at h;case h_2=>cases h
 rename_i id;split at h;case h_2=>cases h
 rename_i t s p;rw[ay]at h;split at h;case isFalse=>cases h
 rename_i F;simp only[ak]at F;obtain⟨e,hlen⟩:=F;have hlen:=aB hlen;refine⟨_,_,h,λS E bU u hg M=>?_⟩;obtain⟨x,rfl,N⟩:=LV.single M;obtain⟨l,c0,s0,b,q1,q2,q3,q4,q5⟩:=u.row id _ p;cases N with
 |ptr _ _ i c s1 hρ =>
  rw[q1]at hρ;cases hρ;obtain⟨y,m',I,hy,a⟩:=q3.cons_inv;have a:=a.kI;subst a;rw[hy.kH]at I;have d:H.lk<=id:=by simpa[aH.o7,bF] using e
  have w:=u.lk id _ _ p d q1;obtain⟨m,z⟩:=Mem.j5 (b:={ b with live:=false,fix:=false }) (mI q2) w;have J:Ev.kill E l=some m:=by unfold Ev.kill;rw[(eA q2).1];exact z
  obtain⟨O,Q,z3,T,z5⟩:=Ev.o5 J;obtain⟨m1,U⟩:=u.mod (S':=S) (E':=m) (r':=.dead) p rfl S.le_refl rfl (λ_ _ _=>rfl) O Q (λj V=>T j (V _ q1)) (λj cs h=>.inl h) (λq W=>by cases W);have g:LV S (.lG::(it s).map .str) (Ev.jk::(it s).map λx=>Value.string ⟨x.toArray⟩):=LV.cons (.lG _) (LV.map _ λx _=>.str x);refine⟨S,.tuple (Ev.jk::(it s).map λx=>Value.string ⟨x.toArray⟩).toArray,m,⟨1,λn A=>?_⟩,S.le_refl,.gI _ _ g.1 g.2,m1,U⟩;obtain⟨R,D⟩:=n;obtain⟨o,rfl⟩:∃o,D=o+1:=⟨D-1,by have:=A.2;simp only at this;omega⟩
  show Ev.pg X.P X.G kn R (o+1) f _ E=_;rw[Ev.nr,K];have Y:Ev.qm X.P kn f [.pointer (some ⟨l,0,none⟩)] E=none:=rfl;have e2:Ev.mZ X.P X.G (Ev.pg X.P X.G kn R o) R f [.pointer (some ⟨l,0,none⟩)] E=none:=by unfold Ev.mZ;rw[C]
  have Z:Ev.z0 X.P kn f [.pointer (some ⟨l,0,none⟩)] E=some (.tuple (Ev.jk::(it s).map λx=>Value.string ⟨x.toArray⟩).toArray,m):=by
   unfold Ev.z0;simp only[C,q2,I,L s hlen,J,ay];have:=JJ (it s);simp[this]
  simp only[Y,e2,Z,Ev.oY]
abbrev Cf:=FuncId×O5
def akB (l:List Cf):FuncId->Option O5:=λf=>List.rec (motive:=λ_=>Option O5) none (λe _ r=>ah (Nat.beq f e.1) (some e.2) r) l
def rB (X:ji)(cf:Nat×Nat->Ev.dx)(l:List Cf):Prop:=∀id c,akB l id=some c->lK X cf id c.g
theorem rB.nil {cf:Nat×Nat->Ev.dx}:rB X cf []:=λ_ _ h=>by cases h
theorem rB.cons {cf:Nat×Nat->Ev.dx}{f:FuncId}{c:O5}{l:List Cf}(h:lK X cf f c.g)(t:rB X cf l):rB X cf ((f,c)::l):=λid b d=>by
 have a:ah (Nat.beq id f) (some c) (akB l id)=some b:=d;clear d;rw[ay]at a;split at a
 .rename_i e;obtain rfl:=bt e;have i:c=b:=bT a;subst i;exact h
 exact t id b a
abbrev ItT:=FuncId->Option (au->cA)
def aaA (X:ji)(K:Wu)(a:KTN)(b:FuncId->Option O5)(d:ItT)(inl:FuncId->Bool)(rounds:Nat)(β:Type):Nat->dz β :=
 λn=>Nat.rec (motive:=λ_=>dz β) (λ_ _ _ _=>none)
  (λ_ go id args H k=>ah (X.kl id) (DH X args H k) (match K id with
   |some (sig,g)=>uR sig g args H k
   |none=>match a id with
    |some c=>Jc c args H k
    |none=>match b id with
     |some c=>TW c args H k
     |none=>match d id with
      |some it=>Ce it args H k
      |none=>ah (inl id) (aT X go ⟨.none,.none,X.trs id⟩ rounds id args H k) none)) n
theorem aaB {kn:Ev.fZ}{K:Wu}{a:KTN}{b:FuncId->Option O5}{d:ItT}{inl:FuncId->Bool}(o:∀id sig g,K id=some (sig,g)->dQ X (eM X kn) id g)(p:∀id c,a id=some c->iI X (eM X kn) id c)(q:∀id c,b id=some c->lK X (eM X kn) id c.g)(s:∀id it,d id=some it->RV X kn id it)
 (hi:∀id,inl id=true->∀args,kn id args=none) (rounds:Nat) (n:Nat) (β:Type) (e:aij X kn:=by exact λ_ h=>Bool.noConfusion (show false=true from h)):dO X (eM X kn) (aaA X K a b d inl rounds β n):=by
 induction n with
 |zero=>exact λf args H k r h=>by cases h
 |succ n t =>
  intro f args H k r h;have h:ah (X.kl f) (DH X args H k) (match K f with
   |some (sig,g)=>uR sig g args H k
   |none=>match a f with
    |some c=>Jc c args H k
    |none=>match b f with
     |some c=>TW c args H k
     |none=>match d f with
      |some it=>Ce it args H k
      |none=>ah (inl f) (aT X (aaA X K a b d inl rounds β n) ⟨.none,.none,X.trs f⟩ rounds f args H k) none)=some r:=h
  rw[ay]at h;split at h
  .rename_i u;exact FV (e f u) h
  split at h
  .rename_i sig g w;exact AA (o f sig g w) h
  split at h
  .rename_i c i;exact Oj (p f c i) h
  split at h
  .rename_i c i;exact aay (q f c i) h
  split at h
  .rename_i it j;exact aeC (s f it j) h
  rw[ay]at h;split at h
  .rename_i l;obtain⟨v,x,y,z⟩:=mH (nf:=true) t (λ_=>⟨rfl,rfl⟩) h;refine⟨v,x,y,λS E A B C D=>?_⟩;obtain⟨S',F,E',a1,a2,G,I,m⟩:=z S E A B C D;exact⟨S',F,E',iy (hi f l) a1,(m rfl).1,a2,G,(m rfl).2⟩
  cases h
end
end
end Go.Tv
