/- Contracts of functions that are handed a pointer to a row of theirs, and hand back lists in lists. What a run is seen to hand back: lists in structs, cells behind a pointer. Calls that are handed rows of several kinds, by contracts: what is reached goes, and comes back. -/
import Derived.Test.YtbeckacfibledaaGreatDoorLyg
set_option linter.unusedVariables false
set_option linter.unusedSimpArgs false

namespace Go.Tv
open Go.Ev (Tr ah iL Mem jJ alive ax dF)
noncomputable section
def Pd:AV->Bool
 |.int _ _=>true
 |.bool _=>true
 |.str _=>true
 |.qg _=>true
 |.dG=>true
 |.oh=>true
 |.dH _ _=>true
 |.fn _ [] []=>true
 |_=>false
def EZ:AV->Bool
 |.agg l=>l.all Pd
 |v=>Pd v
inductive fN where
 |val (v:AV)
 |list (t:TypeId) (e:Ty) (l:List e.den)
theorem WO {S S':Wo}(hF:∀i x,S.F i=some x->S'.F i=some x){v:AV}{x:Value}(h:EZ v=true)(hv:VR S v x):VR S' v x:=by
 have one:∀{v:AV} {x:Value},Pd v=true->VR S v x->VR S' v x:=λh hv=>by
  cases hv with
  |int=>exact .int _ _
  |bool=>exact .bool _
  |str=>exact .str _
  |qg=>exact .qg _
  |dG=>exact .dG
  |oh=>exact .oh
  |dH e l _ h=>exact .dH e l _ (h.mono hF)
  |fn f a b a' b' ha hb va vb =>
   match a,b,h with
   |[],[],_=>exact .fn f [] [] a' b' ha hb (λj x y hx=>by cases hx) (λj x y hx=>by cases hx)
  |_=>cases h
 cases hv with
 |fn f a b a' b' ha hb va vb=>exact one h (.fn f a b a' b' ha hb va vb)
 |agg l m hl hm=>exact .agg l m hl λj a b ha hb=>one (aK.1 h a (bh ha)) (hm j a b ha hb)
 |int k n=>exact one h (.int k n)
 |bool b=>exact one h (.bool b)
 |str s=>exact one h (.str s)
 |qg n=>exact one h (.qg n)
 |dG=>exact .dG
 |oh=>exact .oh
 |dH e l _ h=>exact .dH e l _ (h.mono hF)
 |_=>cases h
def kD:List fN->aG->List AV×aG
 |[],H=>([],H)
 |.val v::rs,H=>(v::(kD rs H).1,(kD rs H).2)
 |.list t e l::rs,H=>(.own H.next l.length::(kD rs (H.push (.list t e l 0 false false))).1,(kD rs (H.push (.list t e l 0 false false))).2)
def rq (M:aG):List Nat->List AV->List fN->Prop
 |_,[],[]=>True
 |seen,v::vs,.val w::rs=>v=w/\EZ w=true/\rq M seen vs rs
 |seen,v::vs,.list t e l::rs=>(∃id gC ex,v = .own id l.length/\M.get id=some (.list t e l gC ex false)/\id ∉ seen/\rq M (id::seen) vs rs)\/(v = .dG/\l=[]/\rq M seen vs rs)
 |_,_,_=>False
def adI (S:Wo)(H:aG)(E:Mem)(E4:Nat->Prop)(rs:List fN)(xs:List Value):Prop :=
 ∃S',S.le S'/\LV S' (kD rs H).1 xs/\Rel S' (kD rs H).2 E/\S'.F=S.F/\H.next<=(kD rs H).2.next/\(kD rs H).2.lk=H.lk/\(kD rs H).2.par=H.par /\
  (∀id,id<H.next->(kD rs H).2.get id=H.get id/\S'.ρ id=S.ρ id)/\(∀id q z,H.next<=id->(kD rs H).2.get id=some q->S'.ρ id=some z->E4 z.1)
theorem Re {S1:Wo}{M1:aG}{E:Mem}(Ez:Rel S1 M1 E)(E4:Nat->Prop)(hlk:M1.lk=0):∀{vs:List AV} {rs:List fN} {seen:List Nat} {xs:List Value} {S:Wo} {H:aG},rq M1 seen vs rs->LV S1 vs xs->Rel S H E->S.F=S1.F ->
 (∀id r y,M1.get id=some r->id ∉ seen->S1.ρ id=some y->r.A8=false->E4 y.1/\∀Ds q z,H.get Ds=some q->S.ρ Ds=some z->z.1≠y.1) ->
 adI S H E E4 rs xs
 |[],[],seen,xs,S,H,_,hl,hr,hF,hown=>by
  rw[hl.jx];exact⟨S,S.le_refl,LV.nil,hr,rfl,aC _,rfl,rfl,λ_ _=>⟨rfl,rfl⟩,λid q z hid hq _=>absurd (aG.eL hq) (by show ¬id<H.next;omega)⟩
 |v::vs,r0::rs,seen,xs,S,H,h,hl,hr,hF,hown=>by
  obtain⟨x,xs',rfl,h1,h2⟩:=hl.cons_inv;have ox:∀v,S.Γ H.next v=none:=λv=>hr.C3 _ _ (aC _)
  have go:∀(t:TypeId) (e:Ty) (l:List e.den) (seen':List Nat) (y:Option (Nat×Nat×Nat)),r0 = .list t e l->rq M1 seen' vs rs->S.le (S.new H.next y (some ⟨e,l⟩))->Rel (S.new H.next y (some ⟨e,l⟩)) (H.push (.list t e l 0 false false)) E->VR (S.new H.next y (some ⟨e,l⟩)) (.own H.next l.length) x ->
   (∀z,y=some z->E4 z.1/\∃C5 y1 r1,C5∈seen'/\S1.ρ C5=some y1/\y1.1=z.1/\M1.get C5=some r1)->(∀id,id∈seen->id∈seen')->adI S H E E4 (r0::rs) (x::xs'):=λt e l seen' y UE hres hle hrel hvr hy hsub=>by
   subst UE;obtain⟨p1,p2,p3,p4⟩:=aG.dN H (.list t e l 0 false false);have hown':∀id r y',M1.get id=some r->id ∉ seen'->S1.ρ id=some y'->r.A8=false->E4 y'.1/\∀Ds q z,(H.push (.list t e l 0 false false)).get Ds=some q->(S.new H.next y (some ⟨e,l⟩)).ρ Ds=some z->z.1≠y'.1:=λid r y' hg hns hρ hro=>by
    obtain⟨k1,k2⟩:=hown id r y' hg (λhm=>hns (hsub _ hm)) hρ hro;refine⟨k1,λDs q z hq hz=>?_⟩;rw[p4]at hq;by_cases hid:Ds=H.next
    .subst hid;have hz:y=some z:=by rw[<-hz];exact(ag rfl).symm
     obtain⟨_,C5,y1,r1,b1,b2,b3,b4⟩:=hy z hz;intro he;have:=Ez.inj C5 id r1 r y1 y' b4 hg b2 hρ (by omega);subst this;exact hns b1
    rw[aa hid]at hq;have hz:S.ρ Ds=some z:=by rw[<-hz];exact(aa hid).symm
    exact k2 Ds q z hq hz
   obtain⟨S',a1,a2,a3,a4,a5,a6,a7,a8,a9⟩:=Re Ez E4 hlk hres h2 hrel hF hown';rw[p1]at a5 a8 a9;rw[p2]at a6;rw[p3]at a7;refine⟨S',Wo.le_trans hle a1,LV.cons (hvr.mono a1) a2,a3,a4,br (fD _) a5,a6,a7,λid hid=>?_,λid q z hid hq hz=>?_⟩
   .obtain ⟨b1,b2⟩:=a8 id (by omega);exact⟨b1.trans (by rw[p4,aa (by omega)]),b2.trans (aa (by omega))⟩
   by_cases hid':id=H.next
   .subst hid';have:S'.ρ H.next=(S.new H.next y (some ⟨e,l⟩)).ρ H.next:=(a8 H.next (by omega)).2
    rw[this]at hz;have hz:y=some z:=by rw[<-hz];exact(ag rfl).symm
    exact(hy z hz).1
   exact a9 id q z (by omega) hq hz
  cases r0 with
  |val w =>
   obtain⟨rfl,hs,h⟩:=h;obtain⟨S',a1,a2,a3,a4⟩:=Re Ez E4 hlk h h2 hr hF hown;exact⟨S',a1,LV.cons (WO (λi x hx=>by rw[a4.1,hF];exact hx) hs h1) a2,a3,a4⟩
  |list t e l =>
   rcases h with⟨id,gC,ex,rfl,hg,hns,h⟩|⟨rfl,rfl,h⟩
   .obtain ⟨g1,⟨g0,g,g2,g2'⟩,g3⟩:=Ez.row id _ hg;generalize Lw:l.length=n at h1;cases h1 with
    |own _ _ i0 qh s0 hρ g' hg' hn' =>
     rcases g3 with⟨_,g5,_⟩|⟨i',cap,b,mid,post,q1,q2,q3,q4,q5,q6,q7,q8,q9,yq⟩
     .rw[hρ]at g5;cases g5
     rw[hρ]at q1;cases q1;subst Lw;obtain⟨f1,f2⟩:=hown id _ _ hg hns hρ rfl;obtain⟨b1,b2⟩:=hr.yH (r:=.list t e l 0 false false) (x:=some (i0,qh,e.size)) (g:=some ⟨e,l⟩) (λr' hr'=>by
      cases hr';exact lu ox q2 q3 q4 (by rw[hF];exact q5) q6 q7 q8 (λh=>by cases h) (by rw[hF];exact yq.2)) (λy hy=>by
       cases hy;exact⟨f2,by rw[hF];exact Ez.sep id _ _ hg rfl hρ,Ez.lk id _ _ hg (by omega) hρ⟩)
     refine go t e l (id::seen) _ rfl h b1 b2 (.own _ _ i0 qh e.size (ag rfl) ⟨e,l⟩ (ag ⟨rfl,rfl⟩) rfl) (λz hz=>?_) (λid hid=>bE _ hid);cases hz;exact⟨f1,id,_,_,cF,hρ,rfl,hg⟩
    |gh _ g' hg' hn' =>
     have hl0:l=[]:=aQ.1 Lw;subst hl0;obtain⟨b1,b2⟩:=hr.yH (r:=.list t e [] 0 false false) (x:=none) (g:=some ⟨e,[]⟩) (λr' hr'=>by cases hr';exact lz ox) (λy hy=>by cases hy);exact go t e [] (id::seen) none rfl h b1 b2 (.gh _ ⟨e,[]⟩ (ag ⟨rfl,rfl⟩) rfl) (λz hz=>by cases hz) (λid hid=>bE _ hid)
   cases h1;obtain⟨b1,b2⟩:=hr.yH (r:=.list t e [] 0 false false) (x:=none) (g:=some ⟨e,[]⟩) (λr' hr'=>by cases hr';exact lz ox) (λy hy=>by cases hy);exact go t e [] seen none rfl h b1 b2 (.gh _ ⟨e,[]⟩ (ag ⟨rfl,rfl⟩) rfl) (λz hz=>by cases hz) (λid hid=>hid)
theorem Rel.putAt {S:Wo}{H:aG}{E:Mem}(h:Rel S H E){id:Nat}{r:Row}(hid:id<H.next)(hro:r.A8=false)(hr:∀r',r.live=some r'->o6 S E id r')
 (hx:∀y,S.ρ id=some y->(∀id' q z,H.get id'=some q->id'≠id->S.ρ id'=some z->z.1≠y.1)/\S.F y.1=none/\E.lk<=y.1):Rel S (H.put id r) E:=by
 obtain⟨p1,p2,p3,p4⟩:=aG.gB H id r;have oP:∀j q,(H.put id r).get j=some q->(j=id/\r.live=some q)\/(j≠id/\H.get j=some q):=λj q hj=>by
  rw[p4]at hj;by_cases e:j=id
  .rw[ag e,ag hid]at hj;exact .inl ⟨e,hj⟩
  rw[aa e]at hj;exact .inr ⟨e,hj⟩
 refine⟨h.fz,λj y hy=>by rw[p1];exact h.dom j y hy,λj v hj=>by rw[p1]at hj;exact h.C3 j v hj,λj q hj=>?_,λj j' q q' y y' hj hj' hy hy' he=>?_,λj q y hj hb hy=>?_,λj q y hj hl hy=>?_,by rw[p1,p2];exact h.zF,by rw[p1,p3];exact h.Lq,h.GL⟩
 .rcases oP j q hj with⟨rfl,h1⟩|⟨_,h1⟩
  .exact hr q h1
  exact h.row j q h1
 .rcases oP j q hj with⟨rfl,h1⟩|⟨e1,h1⟩<;>rcases oP j' q' hj' with⟨rfl,h2⟩|⟨e2,h2⟩
  .rfl
  .exact absurd he.symm ((hx y hy).1 j' q' y' h2 e2 hy')
  .exact absurd he ((hx y' hy').1 j q y h1 e1 hy)
  exact h.inj j j' q q' y y' h1 h2 hy hy' he
 .rcases oP j q hj with⟨rfl,h1⟩|⟨_,h1⟩
  .exact (hx y hy).2.1
  exact h.sep j q y h1 hb hy
 rcases oP j q hj with⟨rfl,h1⟩|⟨_,h1⟩
 .exact (hx y hy).2.2
 rw[p2]at hl;exact h.lk j q y h1 hl hy
def cellsIn:Nat->List fN->List AV
 |_,[]=>[]
 |n,.val v::rs=>v::cellsIn n rs
 |n,.list _ _ l::rs=>.own n l.length::cellsIn (n+1) rs
def cQ:aG->List fN->aG
 |M,[]=>M
 |M,.val _::rs=>cQ M rs
 |M,.list t e l::rs=>cQ (M.push (.list t e l 0 false false)) rs
def jn (t:TypeId)(n:Nat)(rs:List fN):aG:=cQ ⟨1,0,1,(aG.empty.push (.cells t ((cellsIn 1 rs).take n))).t⟩ rs
def iW:aG->List (Option (TypeId×Ty))->List AV->Option (List AV×aG)
 |H,[],[]=>some ([],H)
 |H,none::sig,a::cs=>match jv H [a] with
  |some ([a'],H1)=>match iW H1 sig cs with
   |some (l,H2)=>some (a'::l,H2)
   |none=>none
  |_=>none
 |H,some _::sig,a::cs=>match iW H sig cs with
  |some (l,H2)=>some (a::l,H2)
  |none=>none
 |_,_,_=>none
def gJ:aG->List (Option (TypeId×Ty))->List AV->Option (List fN×aG)
 |H,[],[]=>some ([],H)
 |H,none::sig,a::cs=>ah (EZ a) (match gJ H sig cs with
  |some (rs,H')=>some (.val a::rs,H')
  |none=>none) none
 |H,some (t,e)::sig,.dG::cs=>match gJ H sig cs with
  |some (rs,H')=>some (.list t e []::rs,H')
  |none=>none
 |H,some (t,e)::sig,.own id _::cs=>match H.get id with
  |some (.list t' e' l _ _ false)=>ah (H.nO id&&Nat.beq t' t) (match iC e' e l with
   |some l'=>match gJ (H.put id .dead) sig cs with
    |some (rs,H')=>some (.list t e l'::rs,H')
    |none=>none
   |none=>none) none
  |_=>none
 |_,_,_=>none
theorem Dx {S0:Wo}{H0:aG}{E:Mem}:∀{sig:List (Option (TypeId×Ty))} {cs cs':List AV} {H H':aG} {S:Wo} {C:List Value},Rel S H E->S0.le S->St S0 H0 E S H E->LV S cs C->iW H sig cs=some (cs',H')->∃S',S0.le S'/\Rel S' H' E/\St S0 H0 E S' H' E/\LV S' cs' C/\S.le S'
 |[],[],cs',H,H',S,C,hr,hle,hst,hl,h=>by
  simp only[iW,aq,ay]at h;obtain⟨rfl,rfl⟩:=h;exact⟨S,hle,hr,hst,hl,S.le_refl⟩
 |none::sig,a::cs,cs',H,H',S,C,hr,hle,hst,hl,h=>by
  obtain⟨x,C',rfl,h1,h2⟩:=hl.cons_inv;unfold iW at h;split at h
  .rename_i a' H1 hf;obtain⟨S1,b1,b2,b3,b4,b5⟩:=oQ hr hle hst (LV.cons h1 LV.nil) hf;obtain⟨x',_,e,b6,_⟩:=b4.cons_inv;cases e;split at h
   .rename_i l H2 hg;simp only[aq,ay]at h;obtain⟨rfl,rfl⟩:=h;obtain⟨S2,c1,c2,c3,c4,c5⟩:=Dx b2 b1 b3 (h2.mono b5) hg;exact⟨S2,c1,c2,c3,LV.cons (b6.mono c5) c4,Wo.le_trans b5 c5⟩
   cases h
  cases h
 |some _::sig,a::cs,cs',H,H',S,C,hr,hle,hst,hl,h=>by
  obtain⟨x,C',rfl,h1,h2⟩:=hl.cons_inv;unfold iW at h;split at h
  .rename_i l H2 hg;simp only[aq,ay]at h;obtain⟨rfl,rfl⟩:=h;obtain⟨S2,c1,c2,c3,c4,c5⟩:=Dx hr hle hst h2 hg;exact⟨S2,c1,c2,c3,LV.cons (h1.mono c5) c4,c5⟩
  cases h
 |[],_::_,_,_,_,_,_,_,_,_,_,h=>by simp[iW]at h
 |none::_,[],_,_,_,_,_,_,_,_,_,h=>by simp[iW]at h
 |some _::_,[],_,_,_,_,_,_,_,_,_,h=>by simp[iW]at h
structure rS (H H':aG):Prop where
 next:H'.next=H.next
 lk:H'.lk=H.lk
 par:H'.par=H.par
 get:∀j r,H'.get j=some r->H.get j=some r
theorem rS.refl (H:aG):rS H H:=⟨rfl,rfl,rfl,λ_ _ h=>h⟩
theorem rS.trans {a b c:aG}(h:rS a b)(k:rS b c):rS a c:=⟨k.next.trans h.next,k.lk.trans h.lk,k.par.trans h.par,λj r hj=>h.get j r (k.get j r hj)⟩
theorem rS.dead (H:aG)(id:Nat):rS H (H.put id .dead):=by
 obtain⟨p1,p2,p3,p4⟩:=aG.gB H id .dead;refine⟨p1,p2,p3,λj r hj=>?_⟩;rw[p4]at hj;by_cases e:j=id
 .rw[ag e]at hj;split at hj<;>cases hj
 rw[aa e]at hj;exact hj
theorem Mi (H:aG)(id:Nat):(H.put id .dead).get id=none:=by
 rw[(aG.gB H id .dead).2.2.2,ag rfl];split<;>rfl
def vT (S:Wo)(H H':aG)(i:Nat):Prop:=∃id r z,H.get id=some r/\r.A8=false/\S.ρ id=some z/\z.1=i/\H'.get id=none
theorem vT.later {S:Wo}{H H' H'':aG}{i:Nat}(h:vT S H H' i)(k:rS H' H''):vT S H H'' i:=by
 obtain⟨id,r,z,h1,h2,h3,h4,h5⟩:=h;refine⟨id,r,z,h1,h2,h3,h4,?_⟩;cases hg:H''.get id with
 |none=>rfl
 |some q=>rw[k.get id q hg]at h5;cases h5
theorem vT.aaP {S:Wo}{H0 H H':aG}{i:Nat}(h:vT S H H' i)(k:rS H0 H):vT S H0 H' i:=by
 obtain⟨id,r,z,h1,h2⟩:=h;exact⟨id,r,z,k.get _ _ h1,h2⟩
theorem AB {S:Wo}{H0:aG}{E:Mem}(hr:Rel S H0 E):∀{sig:List (Option (TypeId×Ty))} {cs:List AV} {rs:List fN} {H H' M:aG} {S0:Wo} {C:List Value},rS H0 H->gJ H sig cs=some (rs,H')->LV S cs C->Rel S0 M E->S0.F=S.F->M.lk=0 ->
 (∀j q y,M.get j=some q->S0.ρ j=some y->∀id q' z,H.get id=some q'->q'.A8=false->(∃t e l v x,q' = .list t e l v x false)->S.ρ id=some z->z.1≠y.1) ->
 rS H H'/\rs.length=cs.length/\rs.length=sig.length/\∃S0',S0.le S0'/\Rel S0' (cQ M rs) E/\LV S0' (cellsIn M.next rs) C/\S0'.F=S0.F/\M.next<=(cQ M rs).next/\(cQ M rs).lk=0/\(cQ M rs).par=M.par /\
  (∀j,j<M.next->(cQ M rs).get j=M.get j/\S0'.ρ j=S0.ρ j)/\(∀j q y,M.next<=j->(cQ M rs).get j=some q->S0'.ρ j=some y->vT S H H' y.1/\(∃t e l v x,q = .list t e l v x false))
 |[],[],rs,H,H',M,S0,C,hgo,h,hl,hm,hF,hlk,hown=>by
  simp only[gJ,aq,ay]at h;obtain⟨rfl,rfl⟩:=h;rw[hl.jx];exact⟨rS.refl _,rfl,rfl,S0,S0.le_refl,hm,LV.nil,rfl,aC _,hlk,rfl,λ_ _=>⟨rfl,rfl⟩,λj q y hj hq _=>absurd (aG.eL hq) (by show ¬j<M.next;omega)⟩
 |none::sig,a::cs,rs,H,H',M,S0,C,hgo,h,hl,hm,hF,hlk,hown=>by
  obtain⟨x,C',rfl,h1,h2⟩:=hl.cons_inv;unfold gJ at h;rw[ax]at h;split at h
  .rename_i Qn;split at h
   .rename_i rs' H1 hi;simp only[aq,ay]at h;obtain⟨rfl,rfl⟩:=h;obtain⟨g1,g2,g2',S0',a1,a2,a3,a4,a5⟩:=AB hr hgo hi h2 hm hF hlk hown;exact⟨g1,by simp[g2],by simp[g2'],S0',a1,a2,LV.cons (WO (λi x hx=>by rw[a4,hF];exact hx) Qn h1) a3,a4,a5⟩
   cases h
  cases h
 |some (t,e)::sig,a::cs,rs,H,H',M,S0,C,hgo,h,hl,hm,hF,hlk,hown=>by
  obtain⟨x,C',rfl,h1,h2⟩:=hl.cons_inv;have ox:∀v,S0.Γ M.next v=none:=λv=>hm.C3 _ _ (aC _)
  have go:∀(l:List e.den) (rs':List fN) (H1:aG) (y:Option (Nat×Nat×Nat)),rS H H1->gJ H1 sig cs=some (rs',H')->rs = .list t e l::rs'->S0.le (S0.new M.next y (some ⟨e,l⟩))->Rel (S0.new M.next y (some ⟨e,l⟩)) (M.push (.list t e l 0 false false)) E->VR (S0.new M.next y (some ⟨e,l⟩)) (.own M.next l.length) x ->
   (∀z,y=some z->vT S H H1 z.1) ->
   rS H H'/\rs.length=(a::cs).length/\rs.length=(some (t,e)::sig).length/\∃S0',S0.le S0'/\Rel S0' (cQ M rs) E/\LV S0' (cellsIn M.next rs) (x::C')/\S0'.F=S0.F/\M.next<=(cQ M rs).next/\(cQ M rs).lk=0/\(cQ M rs).par=M.par /\
    (∀j,j<M.next->(cQ M rs).get j=M.get j/\S0'.ρ j=S0.ρ j)/\(∀j q y,M.next<=j->(cQ M rs).get j=some q->S0'.ρ j=some y->vT S H H' y.1/\(∃t e l v x,q = .list t e l v x false)):=by
   intro l rs' H1 y hg1 hi Ky hle hrel hvr hy;subst Ky;obtain⟨p1,p2,p3,p4⟩:=aG.dN M (.list t e l 0 false false);obtain⟨g1,g2,g2',S0',a1,a2,a3,a4,a5,a6,a7,a8,a9⟩:=AB hr (hgo.trans hg1) hi h2 hrel hF (by rw[p2];exact hlk) (λj q y' hj hy' id q' z hq' hro hls hz=>by
    rw[p4]at hj;by_cases ej:j=M.next
    .subst ej;have hz':y=some y':=by rw[<-hy'];exact(ag rfl).symm
     obtain⟨Ds,r2,z2,k1,k2,k3,k4,k5⟩:=hy y' hz';intro he;have:=hr.inj id Ds q' r2 z z2 (hgo.get _ _ (hg1.get _ _ hq')) (hgo.get _ _ k1) hz k3 (by omega);subst this;rw[hq']at k5;cases k5
    rw[aa ej]at hj;have hy'':S0.ρ j=some y':=by rw[<-hy'];exact(aa ej).symm
    exact hown j q y' hj hy'' id q' z (hg1.get _ _ hq') hro hls hz)
   rw[p1]at a3 a5 a8 a9;rw[p3]at a7;refine⟨hg1.trans g1,by simp[g2],by simp[g2'],S0',Wo.le_trans hle a1,a2,LV.cons (hvr.mono a1) a3,a4,br (fD _) a5,a6,a7,λj hj=>?_,λj q y' hj hq hy'=>?_⟩
   .obtain ⟨b1,b2⟩:=a8 j (by omega);exact⟨b1.trans (by rw[p4,aa (by omega)]),b2.trans (aa (by omega))⟩
   by_cases ej:j=M.next
   .subst ej;obtain⟨b1,b2⟩:=a8 M.next (by omega)
    have b2':S0'.ρ M.next=y:=b2.trans (ag rfl)
    rw[b2']at hy';have b1':(cQ M (.list t e l::rs')).get M.next=some (.list t e l 0 false false):=by
     have:(cQ (M.push (.list t e l 0 false false)) rs').get M.next=some (.list t e l 0 false false):=b1.trans (by rw[p4,ag rfl];rfl)
     exact this
    rw[b1']at hq;cases hq;exact⟨(hy y' hy').later g1,_,_,_,_,_,rfl⟩
   obtain⟨b1,b2⟩:=a9 j q y' (by omega) hq hy';exact⟨b1.aaP hg1,b2⟩
  cases a with
  |dG =>
   unfold gJ at h;split at h
   .rename_i rs' H1 hi;simp only[aq,ay]at h;obtain⟨rfl,rfl⟩:=h;cases h1;obtain⟨b1,b2⟩:=hm.yH (r:=.list t e [] 0 false false) (x:=none) (g:=some ⟨e,[]⟩) (λr' hr'=>by cases hr';exact lz ox) (λy hy=>by cases hy);exact go [] rs' H none (rS.refl _) hi rfl b1 b2 (.gh _ ⟨e,[]⟩ (ag ⟨rfl,rfl⟩) rfl) (λz hz=>by cases hz)
   cases h
  |own id n =>
   unfold gJ at h;split at h
   .rename_i t' e' l gC ex hg;rw[ax]at h;split at h
    .rename_i hmay;simp only[ak,aO]at hmay;obtain⟨hmay,rfl⟩:=hmay;split at h
     .rename_i l' ot;split at h
      .rename_i rs' H1 hi;simp only[aq,ay]at h;obtain⟨rfl,rfl⟩:=h;obtain⟨he,hc⟩:=bT ot;subst he;have hc:l=l':=hc;subst hc;have Km:=hgo.get _ _ hg;obtain⟨g1,⟨g0,g,g2,g2'⟩,g3⟩:=hr.row id _ Km;cases h1 with
       |own _ _ i0 qh s0 hρ g' hg' hn' =>
        rw[g2]at hg';cases hg';rcases g3 with⟨_,g5,_⟩|⟨i',cap,b,mid,post,q1,q2,q3,q4,q5,q6,q7,q8,q9,yq⟩
        .rw[hρ]at g5;cases g5
        rw[hρ]at q1;cases q1;have hn:n=l.length:=by omega
        subst hn;obtain⟨b1,b2⟩:=hm.yH (r:=.list t' e' l 0 false false) (x:=some (i0,qh,e'.size)) (g:=some ⟨e',l⟩) (λr' hr'=>by
         cases hr';exact lu ox q2 q3 q4 (by rw[hF];exact q5) q6 q7 q8 (λh=>by cases h) (by rw[hF];exact yq.2)) (λy hy=>by
          cases hy;refine⟨λj q z hj hz he=>hown j q z hj hz id _ _ hg rfl ⟨_,_,_,_,_,rfl⟩ hρ he.symm,by rw[hF];exact hr.sep id _ _ Km rfl hρ,hr.lk id _ _ Km (by have:=hgo.lk;simp only[aG.nO,bu]at hmay;omega) hρ⟩)
        exact go l rs' (H.put id .dead) _ (rS.dead H id) hi rfl b1 b2 (.own _ _ i0 qh e'.size (ag rfl) ⟨e',l⟩ (ag ⟨rfl,rfl⟩) rfl) (λz hz=>by
         cases hz;exact⟨id,_,_,hg,rfl,hρ,rfl,Mi H id⟩)
       |gh _ g' hg' hn' =>
        rw[g2]at hg';cases hg';have h0:l=[]:=aQ.1 (by omega);subst h0;obtain⟨b1,b2⟩:=hm.yH (r:=.list t' e' [] 0 false false) (x:=none) (g:=some ⟨e',[]⟩) (λr' hr'=>by cases hr';exact lz ox) (λy hy=>by cases hy);exact go [] rs' (H.put id .dead) none (rS.dead H id) hi rfl b1 b2 (.gh _ ⟨e',[]⟩ (ag ⟨rfl,rfl⟩) rfl) (λz hz=>by cases hz)
      cases h
     cases h
    cases h
   cases h
  |_=>simp[gJ]at h
 |[],_::_,_,_,_,_,_,_,_,h,_,_,_,_,_=>by simp[gJ]at h
 |none::_,[],_,_,_,_,_,_,_,h,_,_,_,_,_=>by simp[gJ]at h
 |some (_,_)::_,[],_,_,_,_,_,_,_,h,_,_,_,_,_=>by simp[gJ]at h
theorem Hv {S S0 S1:Wo}{H H3 M0 M1:aG}{E E':Mem}(hr:Rel S H E)(hF:S0.F=S.F)(hgo:rS H H3)(hown:∀i,Own S0 M0 i->vT S H H3 i)(Ez:Rel S1 M1 E')(hst:BJ S0 M0 E S1 M1 E') :
 S.le ⟨S1.F,S.ρ,S.Γ⟩/\Rel ⟨S1.F,S.ρ,S.Γ⟩ H3 E':=by
 have hle:S.le ⟨S1.F,S.ρ,S.Γ⟩:=⟨λi x hx=>hst.F i x (by rw[hF];exact hx),λ_ _ h=>h,λ_ _ _ h=>h⟩;have far:∀id r y,H3.get id=some r->S.ρ id=some y->¬Own S0 M0 y.1:=λid r y hg hy ho=>by
  obtain⟨Ds,r2,z,k1,k2,k3,k4,k5⟩:=hown _ ho;have:=hr.inj id Ds r r2 y z (hgo.get _ _ hg) k1 hy k3 k4.symm;subst this;rw[hg]at k5;cases k5
 have old:∀id r y,H3.get id=some r->S.ρ id=some y->y.1<E.size:=λid r y hg hy=>(let ⟨_,hb⟩:=hr.old (hgo.get _ _ hg) hy;Mem.eL hb)
 refine⟨hle,⟨Ez.fz,λid x hx=>by rw[hgo.next];exact hr.dom id x hx,λid v hv=>hr.C3 id v (by rw[hgo.next]at hv;exact hv),λid r hg=>?_,λid id' r r' x x' hg hg' hx hx' he=>hr.inj id id' r r' x x' (hgo.get _ _ hg) (hgo.get _ _ hg') hx hx' he,λid r x hg hro hx=>?_,λid r x hg hl hx=>?_,by rw[hgo.lk,hgo.next];exact hr.zF,by rw[hgo.par,hgo.next];exact hr.Lq,Ez.GL⟩⟩
 .exact (hr.row id r (hgo.get _ _ hg)).keep hle (λh=>h) (λ_ h=>h) λx hx=>hst.keep _ (old id r x hg hx) (far id r x hg hx)
 .show S1.F x.1=none;cases hq:S1.F x.1 with
  |none=>rfl
  |some cs =>
   rcases hst.Kl x.1 (by rw[hq];simp) with h1|h1|h1
   .rw[hF]at h1;exact absurd (hr.sep id r x (hgo.get _ _ hg) hro hx) h1
   .exact absurd h1 (far id r x hg hx)
   have:=old id r x hg hx;omega
 rw[hst.lk];exact hr.lk id r x (hgo.get _ _ hg) (by rw[<-hgo.lk];exact hl) hx
structure Gi where
 ptr:Option (TypeId×List (Option (TypeId×Ty)))
 sig:List (Option (TypeId×Ty))
 g:List fN->Option (Bool×List fN×List fN)
def Hw {β:Type}(c:Gi)(args:List AV)(H:aG)(k:AV->aG->Option β):Option β :=
 match c.ptr with
 |none=>match iW H c.sig args with
  |some (args',H1)=>match gJ H1 c.sig args' with
   |some (ins,H2)=>match c.g ins with
    |some (cnd,_,rs)=>ah cnd (k (rQ (kD rs H2).1) (kD rs H2).2) none
    |none=>none
   |none=>none
  |none=>none
 |some (t,sig)=>match args with
  |.ptr id 0::args=>match H.get id with
   |some (.cells t' cs)=>match iW H (sig++c.sig) (cs++args) with
    |some (cs',H2)=>match gJ H2 (sig++c.sig) cs' with
     |some (ins,H3)=>ah (Nat.beq t t'&&H.nO id&&Nat.beq cs.length sig.length) (match c.g ins with
      |some (cnd,outs,rs)=>ah (cnd&&Nat.beq outs.length sig.length)
       (k (rQ ((kD (outs++rs) (H3.put id .dead)).1.drop sig.length)) ((kD (outs++rs) (H3.put id .dead)).2.put id (.cells t ((kD (outs++rs) (H3.put id .dead)).1.take sig.length)))) none
      |none=>none) none
     |none=>none
    |none=>none
   |_=>none
  |_=>none
section
variable {X:ij} {cf:Nat×Nat->Ev.cH}
def C6 (X:ij)(cf:Nat×Nat->Ev.cH)(f:FuncId)(args:List AV)(M:aG)(vs:List AV)(M':aG):Prop :=
 ∀(S:Wo) (E:Mem) (bJ:List Value),Rel S M E->fm X S->LV S args bJ ->
  ∃S' vE E',(∃N,∀n:Nat×Nat,N<=n.1/\N<=n.2->cf n f bJ E=some (vE,E'))/\(∃xs,vE=Ev.wz xs/\LV S' vs xs)/\Rel S' M' E'/\BJ S M E S' M' E'
def gy (X:ij)(cf:Nat×Nat->Ev.cH)(f:FuncId)(c:Gi):Prop :=
 ∀ins outs rs,c.g ins=some (true,outs,rs) ->
  match c.ptr with
  |none=>ins.length=c.sig.length->∃vs M1,C6 X cf f (cellsIn 0 ins) (cQ aG.empty ins) vs M1/\rq M1 [] vs rs
  |some (t,sig)=>outs.length=sig.length->ins.length=(sig++c.sig).length->∃vs M1 cs1,C6 X cf f (.ptr 0 0::(cellsIn 1 ins).drop sig.length) (jn t sig.length ins) vs M1/\M1.get 0=some (.cells t cs1)/\cs1.length=sig.length/\rq M1 [0] (cs1++vs) (outs++rs)
theorem WQ (t:TypeId)(cs:List AV):((⟨1,0,1,(aG.empty.push (.cells t cs)).t⟩:aG).get 0)=some (.cells t cs)/\∀j,j≠0->((⟨1,0,1,(aG.empty.push (.cells t cs)).t⟩:aG).get j)=none:=by
 obtain⟨p1,p2,p3,p4⟩:=aG.dN aG.empty (.cells t cs);have e:∀j,((⟨1,0,1,(aG.empty.push (.cells t cs)).t⟩:aG).get j)=(aG.empty.push (.cells t cs)).get j:=λj=>by
  rw[aG.get_eq,aG.get_eq,p1];rfl
 refine⟨?_,λj hj=>?_⟩
 .rw[e,p4];rfl
 rw[e,p4,aa (by show j≠0;exact hj),qj]
theorem zw:∀(rs:List fN) (M M':aG),M'.next=M.next->M'.lk=M.lk->M'.par=M.par->(cQ M' rs).next=(cQ M rs).next/\(cQ M' rs).lk=(cQ M rs).lk/\(cQ M' rs).par=(cQ M rs).par/\M.next<=(cQ M rs).next /\
 ∀j,(j<M.next->(cQ M' rs).get j=M'.get j/\(cQ M rs).get j=M.get j)/\(M.next<=j->(cQ M' rs).get j=(cQ M rs).get j)
 |[],M,M',h1,h2,h3=>⟨h1,h2,h3,aC _,λj=>⟨λ_=>⟨rfl,rfl⟩,λhj=>by
  have a:M'.get j=none:=by rw[aG.get_eq,aa (by omega)]
  have b:M.get j=none:=by rw[aG.get_eq,aa (by omega)]
  show M'.get j=M.get j;rw[a,b]⟩⟩
 |.val v::rs,M,M',h1,h2,h3=>zw rs M M' h1 h2 h3
 |.list t e l::rs,M,M',h1,h2,h3=>by
  obtain⟨p1,p2,p3,p4⟩:=aG.dN M (.list t e l 0 false false);obtain⟨q1,q2,q3,q4⟩:=aG.dN M' (.list t e l 0 false false);obtain⟨a1,a2,a3,a4,a5⟩:=zw rs (M.push (.list t e l 0 false false)) (M'.push (.list t e l 0 false false)) (by rw[p1,q1,h1]) (by rw[p2,q2,h2]) (by rw[p3,q3,h3]);refine⟨a1,a2,a3,by rw[p1]at a4;exact br (fD _) a4,λj=>⟨λhj=>?_,λhj=>?_⟩⟩
  .obtain ⟨b1,b2⟩:=(a5 j).1 (by omega);exact⟨b1.trans (by rw[q4,aa (by omega)]),b2.trans (by rw[p4,aa (by omega)])⟩
  by_cases e':j=M.next
  .obtain ⟨b1,b2⟩:=(a5 j).1 (by omega);have c1:(cQ M' (.list t e l::rs)).get j=(M'.push (.list t e l 0 false false)).get j:=b1;have c2:(cQ M (.list t e l::rs)).get j=(M.push (.list t e l 0 false false)).get j:=b2;rw[c1,c2,q4,p4,h1];simp only[e',fF]
  exact(a5 j).2 (by omega)
theorem Tn {id:Nat}{t:TypeId}{cs:List AV}:∀{sig:List (Option (TypeId×Ty))} {cs0 cs1:List AV} {A B:aG},iW A sig cs0=some (cs1,B)->A.get id=some (.cells t cs)->B.get id=some (.cells t cs):=by
 have one:∀{l l':List AV} {A B:aG},jv A l=some (l',B)->A.get id=some (.cells t cs)->B.get id=some (.cells t cs):=by
  intro l;induction l with
  |nil=>intro l' A B hf hA;simp only[jv,aq,ay]at hf;rw[<-hf.2];exact hA
  |cons v l ih =>
   intro l' A B hf hA;cases v with
   |own C5 n1 =>
    unfold jv at hf;split at hf
    .rename_i t1 e1 l1 gC ex ro Vy;split at hf
     .rename_i r' H' Ga;simp only[aq,ay]at hf;obtain⟨_,rfl⟩:=hf;refine ih Ga ?_;rw[(aG.gB _ _ _).2.2.2,aa (λe=>by subst e;rw[hA]at Vy;cases Vy)];exact hA
     cases hf
    cases hf
   |rO C5 off1 WR Lv =>
    unfold jv at hf;split at hf
    .rename_i t1 e1 l1 gC ex ro Vy;split at hf
     .rename_i r' H' Ga;simp only[aq,ay]at hf;obtain⟨_,rfl⟩:=hf;refine ih Ga ?_;rw[(aG.gB _ _ _).2.2.2,aa (λe=>by subst e;rw[hA]at Vy;cases Vy)];exact hA
     cases hf
    cases hf
   |_ =>
    simp only[jv]at hf;split at hf
    .rename_i r' H' Ga;simp only[aq,ay]at hf;obtain⟨_,rfl⟩:=hf;exact ih Ga hA
    cases hf
 intro sig;induction sig with
 |nil =>
  intro cs0 cs1 A B hf hA;cases cs0 with
  |nil=>simp only[iW,aq,ay]at hf;rw[<-hf.2];exact hA
  |cons a l=>simp[iW]at hf
 |cons s sig ih =>
  intro cs0 cs1 A B hf hA;cases cs0 with
  |nil=>cases s<;>simp[iW]at hf
  |cons a l =>
   cases s with
   |none =>
    unfold iW at hf;split at hf
    .rename_i a' A1 hf1;split at hf
     .rename_i l2 A2 Ga;simp only[aq,ay]at hf;obtain⟨_,rfl⟩:=hf;exact ih Ga (one hf1 hA)
     cases hf
    cases hf
   |some q =>
    unfold iW at hf;split at hf
    .rename_i l2 A2 Ga;simp only[aq,ay]at hf;obtain⟨_,rfl⟩:=hf;exact ih Ga hA
    cases hf
theorem WS {id:Nat}{t:TypeId}{cs:List AV}:∀{sig:List (Option (TypeId×Ty))} {l:List AV} {rr:List fN} {A B:aG},gJ A sig l=some (rr,B)->A.get id=some (.cells t cs)->B.get id=some (.cells t cs):=by
 intro sig;induction sig with
 |nil =>
  intro l rr A B hf hA;cases l with
  |nil=>simp only[gJ,aq,ay]at hf;rw[<-hf.2];exact hA
  |cons a l=>simp[gJ]at hf
 |cons s sig ih =>
  intro l rr A B hf hA;cases l with
  |nil=>cases s with
   |none=>simp[gJ]at hf
   |some q=>obtain⟨q1,q2⟩:=q;simp[gJ]at hf
  |cons a l =>
   cases s with
   |none =>
    unfold gJ at hf;rw[ax]at hf;split at hf
    .split at hf
     .rename_i rr' A2 Ga;simp only[aq,ay]at hf;obtain⟨_,rfl⟩:=hf;exact ih Ga hA
     cases hf
    cases hf
   |some q =>
    obtain⟨q1,q2⟩:=q;cases a with
    |dG =>
     unfold gJ at hf;split at hf
     .rename_i rr' A2 Ga;simp only[aq,ay]at hf;obtain⟨_,rfl⟩:=hf;exact ih Ga hA
     cases hf
    |own C5 n1 =>
     unfold gJ at hf;split at hf
     .rename_i t2 e2' l2 v2 x2 Vy;rw[ax]at hf;split at hf
      .split at hf
       .split at hf
        .rename_i rr' A2 Ga;simp only[aq,ay]at hf;obtain⟨_,rfl⟩:=hf;refine ih Ga ?_;rw[(aG.gB _ _ _).2.2.2,aa (λe=>by subst e;rw[hA]at Vy;cases Vy)];exact hA
        cases hf
       cases hf
      cases hf
     cases hf
    |_=>simp[gJ]at hf
theorem Mj {β:Type}{f:FuncId}{c:Gi}(hc:gy X cf f c){args:List AV}{H:aG}{k:AV->aG->Option β}{r:β}(h:Hw c args H k=some r):∃v H',k v H'=some r/\Jd X cf f args H v H':=by
 unfold Hw at h;obtain⟨ptr,asT,g⟩:=c;cases ptr with
 |none =>
  simp only at h;split at h;case h_2=>cases h
  rename_i args' H1 hfz;split at h;case h_2=>cases h
  rename_i ins H2 hin;split at h;case h_2=>cases h
  rename_i cnd o rs hg;rw[ax]at h;split at h;case isFalse=>cases h
  rename_i hcnd;subst hcnd;refine⟨_,_,h,λS E bJ hr hgl hl=>?_⟩;obtain⟨S2,b1,b2,b3,b4,_⟩:=Dx hr S.le_refl (St.refl S H E) hl hfz;have hrB:Rel ⟨S2.F,λ_=>none,λ_ _=>none⟩ aG.empty E:=BO _ E b2.fz b2.GL;obtain⟨g1,g2,g2',T,f1,f2,f3,f4,f5,f6,f7,f8,f9⟩:=AB b2 (rS.refl H1) hin b4 hrB rfl rfl (λj q y hj=>by rw[qj]at hj;cases hj);obtain⟨vs,M1,hrun,hres⟩:=hc ins o rs hg g2';obtain⟨S1,vE,E',a1,⟨xs,rfl,a2⟩,a3,a4⟩:=hrun T E bJ f2 (hgl.mono' λi x hx=>by rw[f4];exact b1.F i x hx) f3;have hown:∀i,Own T (cQ aG.empty ins) i->vT S2 H1 H2 i:=λi ⟨j,q,y,k1,k2,k3,k4⟩=>by
   obtain⟨b,_⟩:=f9 j q y (ct _) k1 k3;rw[k4]at b;exact b
  obtain⟨c1,c2⟩:=Hv b2 f4 g1 hown a3 a4;have QG:H2.next=H1.next:=g1.next
  have E6:∀i,Own T (cQ aG.empty ins) i->Own S2 H1 i:=λi ho=>by
   obtain⟨j,q,z,k1,k2,k3,k4,_⟩:=hown i ho;exact⟨j,q,z,k1,k2,k3,k4⟩
  obtain⟨S',d1,d2,d3,d4,d5,d6,d7,d8,d9⟩:=Re (E4:=λi=>E.size<=i\/Own T (cQ aG.empty ins) i) a3 (by rw[a4.Sm];exact f6) hres a2 c2 rfl (λid q y hq _ hy hro=>by
   have hor:E.size<=y.1\/Own T (cQ aG.empty ins) y.1:=by
    by_cases hy':y.1<E.size
    .exact .inr (a4.own y.1 ⟨id,q,y,hq,hro,hy,rfl⟩ hy')
    exact .inl (by omega)
   refine⟨hor,λDs q2 z hq2 hz he=>?_⟩;have hq2':=g1.get _ _ hq2;rcases hor with h1|h1
   .obtain ⟨b,hb⟩:=b2.old hq2' hz;have:=Mem.eL hb;omega
   obtain⟨id3,r3',z3,k1,k2,k3,k4,k5⟩:=hown _ h1;have:=b2.inj Ds id3 q2 r3' z z3 hq2' k1 hz k3 (by omega);subst this;rw[hq2]at k5;cases k5)
  rw[QG]at d5 d8 d9;have WT:S.le S':=Wo.le_trans b1 (Wo.le_trans c1 d1);refine⟨S',Ev.wz xs,E',a1,WT,Jl d2,d3,⟨a4.sz,a4.lk,by rw[d6,g1.lk];exact b3.Sm,by rw[d7,g1.par];exact b3.y9,WT.F,λi ho hi=>?_,λi hi=>?_,λi hi ho=>a4.keep i hi (λh1=>ho (b3.own i (E6 i h1) hi)),λid hid=>?_,br b3.nx d5,λid hid hlv=>?_,λid hid hn=>?_⟩⟩
  .obtain ⟨id,q,y,h1,h2,h3,rfl⟩:=ho;by_cases hid:id<H1.next
   .rw[(d8 id hid).1]at h1;rw[(d8 id hid).2]at h3;exact b3.own _ ⟨id,q,y,g1.get _ _ h1,h2,h3,rfl⟩ hi
   rcases d9 id q y (by omega) h1 h3 with h4|h4
   .omega
   exact b3.own _ (E6 _ h4) hi
  .rw[d4]at hi;rcases a4.Kl i hi with h1|h1|h1
   .rw[f4]at h1;exact b3.Kl i h1
   .by_cases hsz:i<E.size
    .exact .inr (.inl (b3.own i (E6 i h1) hsz))
    exact .inr (.inr (by omega))
   exact .inr (.inr h1)
  .rw[(d8 id (by have:=hr.Lq;have:=b3.nx;omega)).2];exact b3.par id hid
  .have hlt:id<H1.next:=by have:=b3.nx;omega
   rw[(d8 id hlt).1]at hlv;exact b3.live id hid (λhn=>by
    cases hq:H2.get id with
    |none=>exact hlv hq
    |some q=>rw[g1.get id q hq]at hn;cases hn)
  rw[(d8 id (by have:=b3.nx;omega)).2];exact b3.rn id hid hn
 |some p =>
  obtain⟨t,sig⟩:=p;simp only at h;split at h;case h_2=>cases h
  rename_i id args;split at h;case h_2=>cases h
  rename_i t' cs hcell;split at h;case h_2=>cases h
  rename_i cs' H2 hfz;split at h;case h_2=>cases h
  rename_i ins H3 hin;rw[ax]at h;split at h;case isFalse=>cases h
  rename_i hb;simp only[ak,aO]at hb;obtain⟨⟨rfl,hmay⟩,ot⟩:=hb;split at h;case h_2=>cases h
  rename_i cnd outs rs hg;rw[ax]at h;split at h;case isFalse=>cases h
  rename_i hcnd;simp only[ak,aO]at hcnd;obtain⟨rfl,hol⟩:=hcnd;refine⟨_,_,h,λS E bJ hr hgl hl=>?_⟩;obtain⟨xp,argsE',rfl,hp,hla⟩:=hl.cons_inv
  -- the pointer's row
  obtain⟨i0,c0,s0,bk,r1,r2,r3,r4,r5⟩:=hr.row id _ hcell;obtain⟨S2,e1,e2,e3,e4,e5⟩:=Dx hr S.le_refl (St.refl S H E) (r3.append hla) hfz;have hρ2:S2.ρ id=some (i0,c0,s0):=e5.ρ _ _ r1;have AE:H2.get id=some (.cells t cs):=Tn hfz hcell;have hg3:H3.get id=some (.cells t cs):=WS hin AE;have asU:i0<E.size:=lq r2;have Vp:bk.cells.length=sig.length:=by rw[<-r3.1,ot]
  -- what the callee sees
  let B0:aG:=⟨1,0,1,.e⟩
  have S7:∀j,B0.get j=none:=λj=>by
   rw[aG.get_eq];split
   .show (Tr.get Tr.e j).bind Row.live=none;rw[Ev.Tr.Kw];rfl
   rfl
  let T0:Wo:=⟨S2.F,λj=>if j=0 then some (i0,c0,s0) else none,λ_ _=>none⟩
  have hrB:Rel T0 B0 E:=⟨e2.fz,λj x hx=>(by
   have hx:(if j=0 then some (i0,c0,s0) else none)=some x:=hx;by_cases ej:j=0
   .subst ej;exact lP
   rw[aa ej]at hx;cases hx),λ_ _ _=>rfl,λj q hj=>(by rw[S7]at hj;cases hj),λj j' q q' x x' hj=>(by rw[S7]at hj;cases hj),λj q x hj=>(by rw[S7]at hj;cases hj),λj q x hj=>(by rw[S7]at hj;cases hj),ct _,aC _,e2.GL⟩
  obtain⟨g1,g2,g2',T,f1,f2,f3,f4,f5,f6,f7,f8,f9⟩:=AB e2 (rS.refl H2) hin e4 hrB rfl rfl (λj q y hj=>by rw[S7]at hj;cases hj);have hT0:T.ρ 0=some (i0,c0,s0):=(f8 0 lP).2;have f3':LV T (cellsIn 1 ins) (bk.cells++argsE'):=f3;have f3a:LV T ((cellsIn 1 ins).take sig.length) bk.cells:=by
   have:=f3'.take sig.length;rwa[fk (l₁:=bk.cells) (by omega),cU (l:=bk.cells) (by omega)]at this
  have f3b:LV T ((cellsIn 1 ins).drop sig.length) argsE':=by
   have:=f3'.drop sig.length;rwa[fj (l₁:=bk.cells) (by omega),List.drop_of_length_le (l:=bk.cells) (by omega),eS]at this
  have hLI:=zw ins B0 ⟨1,0,1,(aG.empty.push (.cells t ((cellsIn 1 ins).take sig.length))).t⟩ rfl rfl rfl;obtain⟨m1,m2,m3,m4,m5⟩:=hLI;obtain⟨hd1,hd2⟩:=WQ t ((cellsIn 1 ins).take sig.length);have hM0:(jn t sig.length ins).get 0=some (.cells t ((cellsIn 1 ins).take sig.length)):=by
   have:=((m5 0).1 lP).1;exact this.trans hd1
  have hMj:∀j,j≠0->(jn t sig.length ins).get j=(cQ B0 ins).get j:=λj hj=>(m5 j).2 (by show 1<=j;omega)
  have hi0:∀j q y,(cQ B0 ins).get j=some q->T.ρ j=some y->j≠0->y.1≠i0:=λj q y hq hy hj he=>by
   obtain⟨⟨Ds,r2',z,k1,k2,k3,k4,k5⟩,ty⟩:=f9 j q y (by show 1<=j;omega) hq hy;have:=e2.inj id Ds _ r2' _ z AE k1 hρ2 k3 (by show i0=z.1;omega);subst this;rw[hg3]at k5;cases k5
  have UE:Rel T (jn t sig.length ins) E:=by
   refine⟨f2.fz,λj x hx=>?_,λj v hj=>?_,λj q hj=>?_,λj j' q q' x x' hj hj' hx hx' he=>?_,λj q x hj hb hx=>?_,λj q x hj _ hx=>?_,?_,?_,f2.GL⟩
   .show j<(jn t sig.length ins).next
    rw[show (jn t sig.length ins).next=(cQ B0 ins).next from m1];exact f2.dom j x hx
   .rw[show (jn t sig.length ins).next=(cQ B0 ins).next from m1]at hj;exact f2.C3 j v hj
   .by_cases ej:j=0
    .subst ej;rw[hM0]at hj;cases hj;exact⟨i0,c0,s0,bk,hT0,r2,f3a,r4,r5⟩
    rw[hMj j ej]at hj;exact f2.row j q hj
   .by_cases ej:j=0
    .by_cases ej':j'=0
     .omega
     subst ej;rw[hT0]at hx;cases hx;rw[hMj j' ej']at hj';exact absurd he.symm (hi0 j' q' x' hj' hx' ej')
    rw[hMj j ej]at hj;by_cases ej':j'=0
    .subst ej';rw[hT0]at hx';cases hx';exact absurd he (hi0 j q x hj hx ej)
    rw[hMj j' ej']at hj';exact f2.inj j j' q q' x x' hj hj' hx hx' he
   .by_cases ej:j=0
    .subst ej;rw[hT0]at hx;cases hx;rw[f4];exact e2.sep id _ _ AE rfl hρ2
    rw[hMj j ej]at hj;exact f2.sep j q x hj hb hx
   .by_cases ej:j=0
    .subst ej;rw[hT0]at hx;cases hx;exact e2.lk id _ _ AE (by rw[e3.Sm];simpa[aG.nO,bu] using hmay) hρ2
    rw[hMj j ej]at hj;exact f2.lk j q x hj (by rw[f6];exact ct _) hx
   .show (jn t sig.length ins).lk<=_;rw[show (jn t sig.length ins).lk=(cQ B0 ins).lk from m2,f6];exact ct _
   rw[show (jn t sig.length ins).par=(cQ B0 ins).par from m3,f7,show (jn t sig.length ins).next=(cQ B0 ins).next from m1];exact f5
  have hFT:T.F=S2.F:=f4;have hlT:LV T (.ptr 0 0::(cellsIn 1 ins).drop sig.length) (xp::argsE'):=by
   cases hp with
   |ptr _ _ ip cp sp hρp =>
    rw[r1]at hρp;cases hρp;exact LV.cons (.ptr 0 0 _ _ _ hT0) f3b
  obtain⟨vs,M1,cs1,hrun,hM1,aq4,hres⟩:=hc ins outs rs hg hol g2';obtain⟨S1,vE,E',a1,⟨xs,rfl,a2⟩,a3,a4⟩:=hrun T E _ UE (hgl.mono' λi x hx=>by rw[hFT];exact e5.F i x hx) hlT;have hρ1:S1.ρ 0=some (i0,c0,s0):=(a4.par 0 (by rw[show (jn t sig.length ins).par=(cQ B0 ins).par from m3,f7];exact lP)).trans hT0;have hH3:rS H2 (H3.put id .dead):=g1.trans (rS.dead H3 id);have hown:∀i,Own T (jn t sig.length ins) i->vT S2 H2 (H3.put id .dead) i:=λi ⟨j,q,y,k1,k2,k3,k4⟩=>by
   by_cases ej:j=0
   .subst ej;rw[hT0]at k3;cases k3;exact⟨id,_,_,AE,rfl,hρ2,k4,Mi _ _⟩
   rw[hMj j ej]at k1;obtain⟨b,_⟩:=f9 j q y (by show 1<=j;omega) k1 k3;rw[k4]at b;exact b.later (rS.dead H3 id)
  obtain⟨c1,c2⟩:=Hv e2 hFT hH3 hown a3 a4;obtain⟨i1,c1',s1,bk1,u1,u2,u3,u4,u5⟩:=a3.row 0 _ hM1;rw[hρ1]at u1;cases u1;have QG:(H3.put id .dead).next=H2.next:=hH3.next
  have E6:∀i,Own T (jn t sig.length ins) i->Own S2 H2 i:=λi ho=>by
   obtain⟨j,q,z,k1,k2,k3,k4,_⟩:=hown i ho;exact⟨j,q,z,k1,k2,k3,k4⟩
  obtain⟨S',d1,d2,d3,d4,d5,d6,d7,d8,d9⟩:=Re (E4:=λi=>(E.size<=i\/Own T (jn t sig.length ins) i)/\i≠i0) a3 (by rw[a4.Sm];exact m2.trans f6) hres (u3.append a2) c2 rfl (λj q y hq hns hy hro=>by
   have hne:y.1≠i0:=λhe=>by
    have:=a3.inj j 0 q _ y _ hq hM1 hy hρ1 he;exact hns (by simp[this])
   have hor:E.size<=y.1\/Own T (jn t sig.length ins) y.1:=by
    by_cases hy':y.1<E.size
    .exact .inr (a4.own y.1 ⟨j,q,y,hq,hro,hy,rfl⟩ hy')
    exact .inl (by omega)
   refine⟨⟨hor,hne⟩,λDs q2 z hq2 hz he=>?_⟩;have hq2':=hH3.get _ _ hq2;rcases hor with h1|h1
   .obtain ⟨b,hb⟩:=e2.old hq2' hz;have:=Mem.eL hb;omega
   obtain⟨id3,r3',z3,k1,k2,k3,k4,k5⟩:=hown _ h1;have:=e2.inj Ds id3 q2 r3' z z3 hq2' k1 hz k3 (by omega);subst this;rw[hq2]at k5;cases k5)
  rw[QG]at d5 d8 d9;have apk:id<H2.next:=aG.eL AE
  have hρ':S'.ρ id=some (i0,c0,s0):=((d8 id apk).2).trans hρ2;have hu3:=u3.1;have d2a:LV S' ((kD (outs++rs) (H3.put id .dead)).1.take sig.length) bk1.cells:=by
   have:=d2.take sig.length;rwa[fk (l₁:=bk1.cells) (by omega),cU (l:=bk1.cells) (by omega)]at this
  have d2b:LV S' ((kD (outs++rs) (H3.put id .dead)).1.drop sig.length) xs:=by
   have:=d2.drop sig.length;rwa[fj (l₁:=bk1.cells) (by omega),List.drop_of_length_le (l:=bk1.cells) (by omega),eS]at this
  have hfin:=d3.putAt (id:=id) (r:=.cells t ((kD (outs++rs) (H3.put id .dead)).1.take sig.length)) (by omega) rfl (λr' hr'=>by
   cases hr';exact⟨i0,c0,s0,bk1,hρ',u2,d2a,u4,u5⟩) (λy hy=>by
    rw[hρ']at hy;cases hy;refine⟨λid' q z hq hne hz he=>?_,by rw[d4];exact a3.sep 0 _ _ hM1 rfl hρ1,a3.lk 0 _ _ hM1 (by rw[a4.Sm,show (jn t sig.length ins).lk=(cQ B0 ins).lk from m2,f6];exact ct _) hρ1⟩;by_cases hlt:id'<H2.next
    .rw[(d8 id' hlt).1]at hq;rw[(d8 id' hlt).2]at hz;exact hne (e2.inj id' id q _ z _ (hH3.get _ _ hq) AE hz hρ2 he)
    exact(d9 id' q z (by omega) hq hz).2 he)
  obtain⟨p1,p2,p3,p4⟩:=aG.gB (kD (outs++rs) (H3.put id .dead)).2 id (.cells t ((kD (outs++rs) (H3.put id .dead)).1.take sig.length));have WT:S.le S':=Wo.le_trans e1 (Wo.le_trans c1 d1);refine⟨S',Ev.wz xs,E',a1,WT,Jl d2b,hfin,⟨a4.sz,a4.lk,by rw[p2,d6,hH3.lk];exact e3.Sm,by rw[p3,d7,hH3.par];exact e3.y9,WT.F,λi ho hi=>?_,λi hi=>?_,λi hi ho=>a4.keep i hi (λh1=>ho (e3.own i (E6 i h1) hi)),λj hj=>?_,?_,λj hj hlv=>?_,λj hj hn=>?_⟩⟩
  .obtain ⟨j,q,y,h1,h2,h3,rfl⟩:=ho;refine e3.own _ ?_ hi;rw[p4]at h1;by_cases ej:j=id
   .subst ej;rw[hρ']at h3;cases h3;exact⟨j,_,_,AE,rfl,hρ2,rfl⟩
   rw[aa ej]at h1;by_cases hlt:j<H2.next
   .rw[(d8 j hlt).1]at h1;rw[(d8 j hlt).2]at h3;exact⟨j,q,y,hH3.get _ _ h1,h2,h3,rfl⟩
   rcases (d9 j q y (by omega) h1 h3).1 with h4|h4
   .omega
   exact E6 _ h4
  .rw[d4]at hi;rcases a4.Kl i hi with h1|h1|h1
   .rw[hFT]at h1;exact e3.Kl i h1
   .by_cases hsz:i<E.size
    .exact .inr (.inl (e3.own i (E6 i h1) hsz))
    exact .inr (.inr (by omega))
   exact .inr (.inr h1)
  .rw[(d8 j (by have:=hr.Lq;have:=e3.nx;omega)).2];exact e3.par j hj
  .rw[p1];exact br e3.nx d5
  .rw[p4]at hlv;by_cases ej:j=id
   .subst ej;exact e3.live j hj (by rw[AE];simp)
   rw[aa ej]at hlv;have hlt:j<H2.next:=by have:=e3.nx;omega
   rw[(d8 j hlt).1]at hlv;exact e3.live j hj (λhn=>by
    cases hq:(H3.put id .dead).get j with
    |none=>exact hlv hq
    |some q=>rw[hH3.get j q hq]at hn;cases hn)
  rw[(d8 j (by have:=e3.nx;omega)).2];exact e3.rn j hj hn
end
section
variable {X:ij}
def pz:aG->List fN->List AV->Option (List AV×aG)
 |M,[],[]=>some ([],M)
 |M,.val _::rs,v::vs=>match v with
  |.agg l=>match jv M l with
   |some (l',M1)=>match pz M1 rs vs with
    |some (r,M2)=>some (.agg l'::r,M2)
    |none=>none
   |none=>none
  |v=>match jv M [v] with
   |some ([v'],M1)=>match pz M1 rs vs with
    |some (r,M2)=>some (v'::r,M2)
    |none=>none
   |_=>none
 |M,.list _ _ _::rs,v::vs=>match pz M rs vs with
  |some (r,M2)=>some (v::r,M2)
  |none=>none
 |_,_,_=>none
theorem AF {S0:Wo}{H0:aG}{E0 E:Mem}:∀{rs:List fN} {vs vs':List AV} {M M':aG} {S:Wo} {C:List Value},Rel S M E->BJ S0 H0 E0 S M E->LV S vs C->pz M rs vs=some (vs',M')->∃S',Rel S' M' E/\BJ S0 H0 E0 S' M' E/\LV S' vs' C/\S.le S'
 |[],[],vs',M,M',S,C,hr,hst,hl,h=>by
  simp only[pz,aq,ay]at h;obtain⟨rfl,rfl⟩:=h;exact⟨S,hr,hst,hl,S.le_refl⟩
 |.val w::rs,v::vs,vs',M,M',S,C,hr,hst,hl,h=>by
  obtain⟨x,C',rfl,h1,h2⟩:=hl.cons_inv;unfold pz at h;split at h
  .rename_i l;split at h
   .rename_i l' M1 hf;cases h1 with
    |agg _ m Zw hm2 =>
     obtain⟨S1,b1,b2,b3,b4,b5⟩:=oQ hr S.le_refl (St.refl S M E) ⟨Zw,hm2⟩ hf;split at h
     .rename_i r M2 hg;simp only[aq,ay]at h;obtain⟨rfl,rfl⟩:=h;obtain⟨S2,c2,c3,c4,c5⟩:=AF b2 (hst.trans b3.NH) (h2.mono b5) hg;exact⟨S2,c2,c3,LV.cons (.agg _ _ (b4.mono c5).1 (b4.mono c5).2) c4,Wo.le_trans b5 c5⟩
     cases h
   cases h
  split at h
  .rename_i v' M1 hf;obtain⟨S1,b1,b2,b3,b4,b5⟩:=oQ hr S.le_refl (St.refl S M E) (LV.cons h1 LV.nil) hf;obtain⟨x',_,e,b6,_⟩:=b4.cons_inv;cases e;split at h
   .rename_i r M2 hg;simp only[aq,ay]at h;obtain⟨rfl,rfl⟩:=h;obtain⟨S2,c2,c3,c4,c5⟩:=AF b2 (hst.trans b3.NH) (h2.mono b5) hg;exact⟨S2,c2,c3,LV.cons (b6.mono c5) c4,Wo.le_trans b5 c5⟩
   cases h
  cases h
 |.list t e l::rs,v::vs,vs',M,M',S,C,hr,hst,hl,h=>by
  obtain⟨x,C',rfl,h1,h2⟩:=hl.cons_inv;unfold pz at h;split at h
  .rename_i r M2 hg;simp only[aq,ay]at h;obtain⟨rfl,rfl⟩:=h;obtain⟨S2,c2,c3,c4,c5⟩:=AF hr hst h2 hg;exact⟨S2,c2,c3,LV.cons (h1.mono c5) c4,c5⟩
  cases h
 |[],_::_,_,_,_,_,_,_,_,_,h=>by simp[pz]at h
 |.val _::_,[],_,_,_,_,_,_,_,_,h=>by simp[pz]at h
 |.list _ _ _::_,[],_,_,_,_,_,_,_,_,h=>by simp[pz]at h
theorem oy {γ:Type}{kn:Ev.fe}{id:FuncId}(hk:∀args,kn id args=none){call:cI γ}(hcall:cX X (dR X kn) call){an:ei}{rounds:Nat}{args:List AV}{M:aG}{obs:AV->aG->Option γ}{r:γ}
 (h:aT X call an rounds id args M obs=some r):∃v M1,obs v M1=some r/\∀vs,v=rQ vs->C6 X (dR X kn) id args M vs M1:=by
 obtain⟨v,M1,h1,h2⟩:=lp (nf:=false) hcall (λh=>by cases h) h;refine⟨v,M1,h1,λvs hv=>?_⟩;subst hv;intro S E bJ hr hg hl;obtain⟨S',vE,E',a1,a2,a3,a4,_⟩:=h2 S E bJ hr hg hl;obtain⟨xs,rfl,hx⟩:=Du a2;exact⟨S',_,E',gi hk a1,⟨xs,rfl,hx⟩,a3,a4⟩
theorem C6.WU {cf:Nat×Nat->Ev.cH}{id:FuncId}{args vs vs':List AV}{M M1 M2:aG}{rs:List fN}(h:C6 X cf id args M vs M1)(hs:pz M1 rs vs=some (vs',M2)):C6 X cf id args M vs' M2:=by
 intro S E bJ hr hg hl;obtain⟨S',vE,E',a1,⟨xs,rfl,a2⟩,a3,a4⟩:=h S E bJ hr hg hl;obtain⟨S2,b1,b2,b3,b4⟩:=AF a3 a4 a2 hs;exact⟨S2,_,E',a1,⟨xs,rfl,b3⟩,b1,b2⟩
abbrev KTN:=FuncId->Option Gi
def WV (X:ij)(K:Up)(KN:KTN)(inl:FuncId->Bool)(rounds:Nat)(β:Type):Nat->cI β :=
 λn=>Nat.rec (motive:=λ_=>cI β) (λ_ _ _ _=>none)
  (λ_ go id args H k=>ah (X.kl id) (CC X args H k) (match K id with
   |some (sig,g)=>tG sig g args H k
   |none=>match KN id with
    |some c=>Hw c args H k
    |none=>ah (inl id) (aT X go ⟨.none,.none,X.trs id⟩ rounds id args H k) none)) n
theorem WW {kn:Ev.fe}{K:Up}{KN:KTN}{inl:FuncId->Bool}(hK:∀id sig g,K id=some (sig,g)->dc X (dR X kn) id g)(hN:∀id c,KN id=some c->gy X (dR X kn) id c)(hi:∀id,inl id=true->∀args,kn id args=none)(rounds:Nat)(n:Nat)(β:Type) (hkl:afx X kn:=by exact λ_ h=>Bool.noConfusion (show false=true from h)):cX X (dR X kn) (WV X K KN inl rounds β n):=by
 induction n with
 |zero=>exact λf args H k r h=>by cases h
 |succ n ih =>
  intro f args H k r h;have h:ah (X.kl f) (CC X args H k) (match K f with
   |some (sig,g)=>tG sig g args H k
   |none=>match KN f with
    |some c=>Hw c args H k
    |none=>ah (inl f) (aT X (WV X K KN inl rounds β n) ⟨.none,.none,X.trs f⟩ rounds f args H k) none)=some r:=h
  rw[ax]at h;split at h
  .rename_i hf;exact EE (hkl f hf) h
  split at h
  .rename_i sig g hk;exact zl (hK f sig g hk) h
  split at h
  .rename_i c hc;exact Mj (hN f c hc) h
  rw[ax]at h;split at h
  .rename_i hin;obtain⟨v,H',h1,h2⟩:=lp (nf:=true) ih (λ_=>⟨rfl,rfl⟩) h;refine⟨v,H',h1,λS E bJ hr hg hl=>?_⟩;obtain⟨S',vE,E',a1,a2,a3,a4,a5⟩:=h2 S E bJ hr hg hl;exact⟨S',vE,E',gi (hi f hin) a1,(a5 rfl).1,a2,a3,(a5 rfl).2⟩
  cases h
abbrev pQ:=FuncId×Gi
def aaQ (l:List pQ):KTN:=λf=>List.rec (motive:=λ_=>Option Gi) none (λe _ r=>ah (Nat.beq f e.1) (some e.2) r) l
def gY (X:ij)(cf:Nat×Nat->Ev.cH)(l:List pQ):Prop:=∀id c,aaQ l id=some c->gy X cf id c
theorem gY.nil {cf:Nat×Nat->Ev.cH}:gY X cf []:=λ_ _ h=>by cases h
theorem gY.cons {cf:Nat×Nat->Ev.cH}{f:FuncId}{c:Gi}{l:List pQ}(h:gy X cf f c)(t:gY X cf l):gY X cf ((f,c)::l):=λid c' hk=>by
 have hk2:ah (Nat.beq id f) (some c) (aaQ l id)=some c':=hk;clear hk;rw[ax]at hk2;split at hk2
 .rename_i hf;obtain rfl:=bf hf;have zn:c=c':=bL hk2;subst zn;exact h
 exact t id c' hk2
end
def aa0:Option Ty->AV->AV
 |some e,.dG=>.dH e []
 |_,v=>v
def AJ:List (Option Ty)->List AV->List AV
 |s::sg,v::l=>aa0 s v::AJ sg l
 |_,l=>l
def agn (sg:List (Option Ty)):AV->AV
 |.agg l=>.agg (AJ sg l)
 |v=>match sg with
  |[s]=>aa0 s v
  |_=>v
def Fg:List (List (Option Ty))->List AV->List AV
 |s::sg,v::l=>agn s v::Fg sg l
 |_,l=>l
theorem JH {S:Wo}{v:AV}{x:Value}(s:Option Ty)(h:VR S v x):VR S (aa0 s v) x:=by
 unfold aa0;split
 .cases h;exact .dH _ _ _ (.inl ⟨rfl,.inl rfl⟩)
 exact h
theorem Fh {S:Wo}:∀(sg:List (Option Ty)) {l:List AV} {m:List Value},LV S l m->LV S (AJ sg l) m
 |[],l,m,h=>by cases l<;>exact h
 |s::sg,[],m,h=>h
 |s::sg,v::l,m,h=>by
  obtain⟨x,m',rfl,h1,h2⟩:=h.cons_inv;exact LV.cons (JH s h1) (Fh sg h2)
theorem aa1 {S:Wo}{v:AV}{x:Value}(sg:List (Option Ty))(h:VR S v x):VR S (agn sg v) x:=by
 unfold agn;split
 .rename_i l;cases h with
  |agg _ m hl hv =>
   obtain⟨h1,h2⟩:=Fh sg (S:=S) (l:=l) (m:=m) ⟨hl,hv⟩;exact .agg _ m h1 h2
 split
 .exact JH _ h
 exact h
theorem Fi {S:Wo}:∀(sg:List (List (Option Ty))) {l:List AV} {m:List Value},LV S l m->LV S (Fg sg l) m
 |[],l,m,h=>by cases l<;>exact h
 |s::sg,[],m,h=>h
 |s::sg,v::l,m,h=>by
  obtain⟨x,m',rfl,h1,h2⟩:=h.cons_inv;exact LV.cons (aa1 s h1) (Fi sg h2)
def Mq:Nat->AV->Option (List AV)
 |1,v=>some [v]
 |_,.fH l=>some l
 |_,_=>none
def rU (sg:List (List (Option Ty)))(v:AV)(H:aG):Option (List AV) :=
 match Mq sg.length v with
 |some vs=>match pz H (sg.map λ_=>.val .j5) vs with
  |some (ws,_)=>some (Fg sg ws)
  |none=>none
 |none=>none
section
variable {X:ij}
theorem zy {n:Nat}{v:AV}{vs:List AV}(h:Mq n v=some vs)(hl:vs.length=n):v=rQ vs:=by
 unfold Mq at h;split at h
 .cases h;rfl
 .rename_i l _;cases h
  match vs,hl with
  |[],_=>rfl
  |[x],hl=>rename_i hne;exact absurd hl.symm hne
  |x::y::l,_=>rfl
 cases h
theorem yc:∀{rs:List fN} {vs vs':List AV} {M M':aG},pz M rs vs=some (vs',M')->vs.length=rs.length
 |[],[],_,_,_,_=>rfl
 |[],_::_,_,_,_,h=>by simp[pz]at h
 |.val _::_,[],_,_,_,h=>by simp[pz]at h
 |.list _ _ _::_,[],_,_,_,h=>by simp[pz]at h
 |.list _ _ _::rs,v::vs,vs',M,M',h=>by
  unfold pz at h;split at h
  .rename_i r M2 hs;simp[yc hs]
  cases h
 |.val _::rs,v::vs,vs',M,M',h=>by
  unfold pz at h;split at h
  .split at h
   .split at h
    .rename_i r M2 hs;simp[yc hs]
    cases h
   cases h
  split at h
  .split at h
   .rename_i r M2 hs;simp[yc hs]
   cases h
  cases h
theorem HC {kn:Ev.fe}{id:FuncId}(hk:∀args,kn id args=none){call:cI (List AV)}(hcall:cX X (dR X kn) call){an:ei}{rounds:Nat}{args:List AV}{M:aG}{sg:List (List (Option Ty))}{ws:List AV}
 (h:aT X call an rounds id args M (rU sg)=some ws):∃M1,C6 X (dR X kn) id args M ws M1:=by
 obtain⟨v,M1,h1,h2⟩:=oy hk hcall h;unfold rU at h1;split at h1;case h_2=>cases h1
 rename_i vs hu;split at h1;case h_2=>cases h1
 rename_i ws1 M2 hs;cases h1;have hl:=yc hs;rw[cg]at hl;have hrun:=(h2 vs (zy hu hl)).WU hs;refine⟨M2,λS E bJ hr hg hl=>?_⟩;obtain⟨S',vE,E',a1,⟨xs,rfl,a2⟩,a3,a4⟩:=hrun S E bJ hr hg hl;exact⟨S',_,E',a1,⟨xs,rfl,Fi sg a2⟩,a3,a4⟩
theorem xu {M:aG}:∀{ws:List AV} {seen:List Nat},ws.all EZ=true->rq M seen ws (ws.map .val)
 |[],_,_=>trivial
 |w::ws,seen,h=>by
  simp only[bY,ak]at h;exact⟨rfl,h.1,xu h.2⟩
theorem Mr {kn:Ev.fe}{id:FuncId}(hk:∀args,kn id args=none){call:∀ β,cI β}(hcall:∀ β,cX X (dR X kn) (call β)){sig:List (Option (TypeId×Ty))}{g:List fN->Option (Bool×List fN×List fN)}(sg:List (List (Option Ty)))
 (h:∀ins outs rs,g ins=some (true,outs,rs)->∃an rounds ws,aT X (call (List AV)) an rounds id (cellsIn 0 ins) (cQ aG.empty ins) (rU sg)=some ws/\rs=ws.map .val/\ws.all EZ=true):gy X (dR X kn) id ⟨none,sig,g⟩:=by
 intro ins outs rs hg;obtain⟨an,rounds,ws,h1,rfl,h3⟩:=h ins outs rs hg;intro _;obtain⟨M1,h4⟩:=HC hk (hcall _) h1;exact⟨ws,M1,h4,xu h3⟩
def mC (M:aG):List Nat->List (Option (TypeId×Ty))->List AV->Option (List fN×List Nat)
 |_,[],[]=>some ([],[])
 |seen,none::sig,a::cs=>ah (EZ a) (match mC M seen sig cs with
  |some (r,ns)=>some (.val a::r,ns)
  |none=>none) none
 |seen,some (t,e)::sig,.dG::cs=>match mC M seen sig cs with
  |some (r,ns)=>some (.list t e []::r,0::ns)
  |none=>none
 |seen,some (t,e)::sig,.own id n::cs=>match M.get id with
  |some (.list t' e' l _ _ false)=>ah (Nat.beq t' t && !seen.any (Nat.beq id)) (match iC e' e l with
   |some l'=>match mC M (id::seen) sig cs with
    |some (r,ns)=>some (.list t e l'::r,n::ns)
    |none=>none
   |none=>none) none
  |_=>none
 |_,_,_=>none
def xw:List fN->List Nat
 |[]=>[]
 |.val _::rs=>xw rs
 |.list _ _ l::rs=>l.length::xw rs
theorem xy {M:aG}:∀{sig:List (Option (TypeId×Ty))} {cs:List AV} {seen:List Nat} {rs:List fN} {ns:List Nat},mC M seen sig cs=some (rs,ns)->ns=xw rs->rq M seen cs rs/\cs.length=sig.length
 |[],[],seen,rs,ns,h,_=>by
  simp only[mC,aq,ay]at h;obtain⟨rfl,rfl⟩:=h;exact⟨trivial,rfl⟩
 |[],_::_,_,_,_,h,_=>by simp[mC]at h
 |none::_,[],_,_,_,h,_=>by simp[mC]at h
 |some _::_,[],_,_,_,h,_=>by simp[mC]at h
 |none::sig,a::cs,seen,rs,ns,h,hn=>by
  unfold mC at h;rw[ax]at h;split at h
  .rename_i hf;split at h
   .rename_i r ns' ho;cases h;obtain⟨h1,h2⟩:=xy ho hn;exact⟨⟨rfl,hf,h1⟩,by simp[h2]⟩
   cases h
  cases h
 |some (t,e)::sig,a::cs,seen,rs,ns,h,hn=>by
  unfold mC at h;split at h
  .simp at *
  .simp at *
  .rename_i q1 q2;split at h
   .rename_i r ns' ho;cases h;cases q1;cases q2;obtain⟨h1,h2⟩:=xy ho (List.cons.inj hn).2;exact⟨.inr ⟨rfl,rfl,h1⟩,by simp[h2]⟩
   cases h
  .rename_i id n _ q1 q2;split at h
   .rename_i t' e' l gC ex hg;rw[ax]at h;split at h
    .rename_i hc;simp only[ak,aS]at hc;obtain⟨ht,alH⟩:=hc;obtain rfl:=bf ht;split at h
     .rename_i l' hl;obtain⟨rfl,A6⟩:=bT hl;have A6:l=l':=A6;subst A6;split at h
      .rename_i r ns' ho;cases h;cases q1;cases q2;obtain⟨h1,h2⟩:=xy ho (List.cons.inj hn).2;have hlen:=(List.cons.inj hn).1;refine⟨.inl ⟨id,gC,ex,by rw[hlen],hg,λhm=>?_,h1⟩,by simp[h2]⟩;exact absurd (ji.2 ⟨id,hm,oF id⟩) (by rw[alH];exact mI)
      cases h
     cases h
    cases h
   cases h
  cases h
def ago (t:TypeId)(sig:List (Option (TypeId×Ty)))(ud:List (Option (TypeId×Ty)))(v:AV)(H:aG):Option (List fN×List Nat) :=
 match H.get 0 with
 |some (.cells t' cs)=>ah (Nat.beq t' t&&Nat.beq cs.length sig.length) (match Mq ud.length v with
  |some vs=>mC H [0] (sig++ud) (cs++vs)
  |none=>none) none
 |_=>none
theorem aa2 {kn:Ev.fe}{id:FuncId}(hk:∀args,kn id args=none){call:∀ β,cI β}(hcall:∀ β,cX X (dR X kn) (call β)){t:TypeId}{sig Gm ud:List (Option (TypeId×Ty))}{g:List fN->Option (Bool×List fN×List fN)}
 (h:∀ins outs rs,g ins=some (true,outs,rs)->ins.length=(sig++Gm).length->∃an rounds ns,aT X (call _) an rounds id (.ptr 0 0::(cellsIn 1 ins).drop sig.length) (jn t sig.length ins) (ago t sig ud)=some (outs++rs,ns)/\ns=xw (outs++rs)):gy X (dR X kn) id ⟨some (t,sig),Gm,g⟩:=by
 intro ins outs rs hg _ hil;obtain⟨an,rounds,ns,h1,h2⟩:=h ins outs rs hg hil;obtain⟨v,M1,h3,h4⟩:=oy hk (hcall _) h1;unfold ago at h3;split at h3;case h_2=>cases h3
 rename_i t' cs Km;rw[ax]at h3;split at h3;case isFalse=>cases h3
 rename_i hc;rw[ak,aO,aO]at hc;obtain⟨rfl,ot⟩:=hc;split at h3;case h_2=>cases h3
 rename_i vs hu;obtain⟨k1,k2⟩:=xy h3 h2;have hvl:vs.length=ud.length:=by
  simp only[aA]at k2;omega
 exact⟨vs,M1,cs,h4 vs (zy hu hvl),Km,ot,k1⟩
def Xj (t:TypeId)(rg:List (Option Ty))(sig:List (Option (TypeId×Ty)))(ud:List (Option (TypeId×Ty)))(v:AV)(H:aG):Option (List fN×List Nat) :=
 match H.get 0 with
 |some (.cells t' cs)=>ah (Nat.beq t' t&&Nat.beq (AJ rg cs).length sig.length) (match Mq ud.length v with
  |some vs=>mC H [0] (sig++ud) (AJ rg cs++vs)
  |none=>none) none
 |_=>none
theorem Pk {M:aG}{r:Row}{vs:List AV}{rs:List fN}:∀{seen:List Nat},0∈seen->rq M seen vs rs->rq (M.put 0 r) seen vs rs:=by
 induction vs generalizing rs with
 |nil =>
  intro seen hs h;cases rs with
  |nil=>trivial
  |cons q rs=>cases q<;>exact h
 |cons v vs ih =>
  intro seen hs h;cases rs with
  |nil=>exact h
  |cons q rs =>
   cases q with
   |val w=>exact⟨h.1,h.2.1,ih hs h.2.2⟩
   |list t e l =>
    rcases h with⟨id,gC,ex,h1,h2,h3,h4⟩|⟨h1,h2,h3⟩
    .refine .inl ⟨id,gC,ex,h1,?_,h3,ih (bE _ hs) h4⟩;rw[(aG.gB M 0 r).2.2.2 id,aa (λhe=>h3 (by rw[he];exact hs))];exact h2
    exact .inr ⟨h1,h2,ih hs h3⟩
theorem C6.alI {cf:Nat×Nat->Ev.cH}{id:FuncId}{args vs:List AV}{M M1:aG}{t:TypeId}{cs:List AV}(rg:List (Option Ty))(h:C6 X cf id args M vs M1)(hg:M1.get 0=some (.cells t cs)):C6 X cf id args M vs (M1.put 0 (.cells t (AJ rg cs))):=by
 intro S E bJ hr hgl hl;obtain⟨S',vE,E',a1,a2,a3,a4⟩:=h S E bJ hr hgl hl;obtain⟨i,c,s,b,r1,r2,r3,r4,r5⟩:=a3.row 0 _ hg;obtain⟨m1,m2⟩:=a3.mod (S':=S') (E':=E') (r':=.cells t (AJ rg cs)) hg rfl S'.le_refl rfl (λ_ _ _=>rfl) rfl rfl (λj hj=>rfl) (λj cs h=>.inl h) (λq hq=>by
  cases hq;exact⟨i,c,s,b,r1,r2,Fh rg r3,r4,r5⟩)
 exact⟨S',vE,E',a1,a2,m1,a4.trans m2.NH⟩
theorem Xk {kn:Ev.fe}{id:FuncId}(hk:∀args,kn id args=none){call:∀ β,cI β}(hcall:∀ β,cX X (dR X kn) (call β)){t:TypeId}(rg:List (Option Ty)){sig Gm ud:List (Option (TypeId×Ty))}{g:List fN->Option (Bool×List fN×List fN)}
 (h:∀ins outs rs,g ins=some (true,outs,rs)->ins.length=(sig++Gm).length->∃an rounds ns,aT X (call _) an rounds id (.ptr 0 0::(cellsIn 1 ins).drop sig.length) (jn t sig.length ins) (Xj t rg sig ud)=some (outs++rs,ns)/\ns=xw (outs++rs)):gy X (dR X kn) id ⟨some (t,sig),Gm,g⟩:=by
 intro ins outs rs hg _ hil;obtain⟨an,rounds,ns,h1,h2⟩:=h ins outs rs hg hil;obtain⟨v,M1,h3,h4⟩:=oy hk (hcall _) h1;unfold Xj at h3;split at h3;case h_2=>cases h3
 rename_i t' cs Km;rw[ax]at h3;split at h3;case isFalse=>cases h3
 rename_i hc;rw[ak,aO,aO]at hc;obtain⟨rfl,ot⟩:=hc;split at h3;case h_2=>cases h3
 rename_i vs hu;obtain⟨k1,k2⟩:=xy h3 h2;have hvl:vs.length=ud.length:=by
  simp only[aA]at k2;omega
 have hlt:0<M1.next:=by
  rw[aG.get_eq]at Km;split at Km
  .assumption
  cases Km
 refine⟨vs,M1.put 0 (.cells t' (AJ rg cs)),AJ rg cs,(h4 vs (zy hu hvl)).alI rg Km,?_,ot,Pk (by simp) k1⟩;rw[(aG.gB M1 0 _).2.2.2 0,ag rfl,ag hlt];rfl
end
def ad9 (acc:List Nat):AV->List Nat
 |.agg l=>l.foldl Lp acc
 |v=>Lp acc v
def HY (acc:List Nat):AV->List Nat
 |.fH l=>l.foldl ad9 acc
 |v=>ad9 acc v
def TR (H:aG):AV->AV
 |.own id n=>match H.get id with
  |some (.list _ _ l _ _ _)=>.own id l.length
  |_=>.own id n
 |v=>v
def WR (H:aG):AV->AV
 |.agg l=>.agg (l.map (TR H))
 |v=>TR H v
def ahv (H:aG):AV->AV
 |.fH l=>.fH (l.map (WR H))
 |v=>WR H v
def PW (H:aG):Row->Row
 |.cells t cs=>.cells t (cs.map (TR H))
 |r=>r
def rowOf (H:aG)(ids:List Nat)(id:Nat):Row :=
 match H.get id with
 |some r=>I2 ids (PW H r)
 |none=>.dead
def rowsOf (H:aG)(ids:List Nat):List Row:=ids.map (rowOf H ids)
def eU (p:Nat)(l:List Row):aG:=l.foldl (λM r=>M.push r) ⟨0,0,p,.e⟩
def gG (v:AV)(H:aG):Option (AV×List Row) :=
 (λids:List Nat=>ah (nodupB ids&&(ids.take H.par==List.range H.par)&&Nat.beq H.lk 0) (some (mo ids (ahv H v),rowsOf H ids)) none)
  (wR H 3 (HY ((List.range H.par).foldl (I3 H) (List.range H.par)) v))
def uJ:Row->Bool
 |.cells _ _=>true
 |.mp _ _=>true
 |_=>false
def FG:Row->Bool
 |.list _ _ _ _ _ false=>true
 |_=>false
def HZ (H:aG)(id:Nat):Bool:=match H.get id with
 |some r=>uJ r
 |none=>false
def MT (H:aG)(id:Nat):Bool:=match H.get id with
 |some r=>FG r
 |none=>false
def s6:List Row->Nat
 |[]=>0
 |r::l=>ah (uJ r) (s6 l+1) 0
def eI:List (Option (TypeId×Ty))->List AV->aG->List AV×aG
 |some (t,e)::sg,.dG::cs,H=>(.own H.next 0::(eI sg cs (H.push (.list t e [] 0 false false))).1,(eI sg cs (H.push (.list t e [] 0 false false))).2)
 |_::sg,c::cs,H=>(c::(eI sg cs H).1,(eI sg cs H).2)
 |_,cs,H=>(cs,H)
def ownRow (t0:TypeId)(sg:List (Option (TypeId×Ty)))(H:aG)(id:Nat):aG :=
 match H.get id with
 |some (.cells t cs)=>ah (Nat.beq t t0) ((eI sg cs H).2.put id (.cells t (eI sg cs H).1)) H
 |_=>H
mutual
def Ce (φ:Nat->Nat)(p:Nat):AV->AV
 |.own id n=>ah (Nat.ble p id) (.own (φ id) n) .j5
 |.rO id a b c=>ah (Nat.ble p id) (.rO (φ id) a b c) .j5
 |.ptr id off=>.ptr (φ id) off
 |.Ej id n=>ah (Nat.ble p id) (.Ej (φ id) n) .j5
 |.yG id=>.yG (φ id)
 |.Dk _ _ _ _ _=>.j5
 |.dat _=>.j5
 |.fn f a b=>.fn f (PY φ p a) (PY φ p b)
 |.agg l=>.agg (PY φ p l)
 |.fH l=>.fH (PY φ p l)
 |.int k n=>.int k n
 |.bool b=>.bool b
 |.str s=>.str s
 |.qg n=>.qg n
 |.dH e l=>.dH e l
 |.dG=>.dG
 |.y4 cs=>.y4 (PY φ p cs)
 |.oh=>.oh
 |.Ad v=>.Ad v
 |.fl a=>.fl a
 |.cx a b=>.cx a b
 |.j5=>.j5
def PY (φ:Nat->Nat)(p:Nat):List AV->List AV
 |[]=>[]
 |v::l=>Ce φ p v::PY φ p l
end
def RA (φ:Nat->Nat)(p:Nat):Row->Row
 |.cells t cs=>.cells t (PY φ p cs)
 |r=>r
def vJ (ids:List Nat)(p next:Nat)(i:Nat):Nat:=ah (Nat.ble (Nat.succ i) p) (ids.getD i 0) (Nat.add next (Nat.sub i p))
def gb:List Nat->List Row->aG->aG
 |id::ids,r::rs,M=>gb ids rs (M.put id r)
 |_,_,M=>M
def FH (H:aG)(ids:List Nat)(p:Nat)(outs:List Row):aG :=
 gb ids ((outs.take p).map (RA (vJ ids p H.next) p)++(ids.drop p).map λ_=>.dead) ((outs.drop p).foldl (λM r=>M.push (RA (vJ ids p H.next) p r)) H)
structure MU where
 t:TypeId
 sg:List (Option (TypeId×Ty))
 g:List AV->List Row->Option (Bool×AV×List Row)
def PZ {β:Type}(g:List AV->List Row->Option (Bool×AV×List Row))(args:List AV)(H:aG)(st ids:List Nat)(k:AV->aG->Option β):Option β :=
 ah (nodupB ids&&ids.all H.nO&&(ids.take st.length).all (HZ H)&&(ids.drop st.length).all (MT H)&&Nat.ble st.length ids.length)
  (match g (yp ids (args.map (ahv H))) (rowsOf H ids) with
   |some (cnd,v,outs)=>ah (Nat.ble st.length outs.length&&(outs.take st.length).all uJ&&(outs.drop st.length).all λr=>uJ r||FG r)
    (ah cnd (k (Ce (vJ ids st.length H.next) st.length v) (FH H ids st.length outs)) none) none
   |none=>none) none
def RB {β:Type}(c:MU)(args:List AV)(H:aG)(k:AV->aG->Option β):Option β :=
 ah ((wR H 3 (args.foldl HY [])).all H.nO) ((λH1:aG=>(λids:List Nat=>(λst:List Nat=>PZ c.g args H1 st (args.foldl HY (st.foldl (I3 H1) st)) k) (ids.filter (HZ H1))) (wR H1 3 (args.foldl HY [])))
  ((wR H 3 (args.foldl HY [])).foldl (ownRow c.t c.sg) H)) none
theorem FI:∀(l:List Row) (M:aG),(l.foldl (λM r=>M.push r) M).next=M.next+l.length/\(l.foldl (λM r=>M.push r) M).lk=M.lk/\(l.foldl (λM r=>M.push r) M).par=M.par /\
 ∀j,(l.foldl (λM r=>M.push r) M).get j=if j<M.next then M.get j else (l[j-M.next]?).bind Row.live
 |[],M=>⟨rfl,rfl,rfl,λj=>by
  show M.get j=_;by_cases hj:j<M.next
  .rw[ag hj]
  rw[aa hj];cases h:M.get j with
  |none=>rfl
  |some r=>exact absurd (aG.eL h) hj⟩
 |r::l,M=>by
  rw[gw];obtain⟨h1,h2,h3,h4⟩:=FI l (M.push r);obtain⟨p1,p2,p3,p4⟩:=aG.dN M r;refine⟨by rw[h1,p1];simp;omega,by rw[h2,p2],by rw[h3,p3],λj=>?_⟩;rw[h4,p1,p4];by_cases hj:j<M.next
  .rw[ag (by omega),aa (by omega),ag hj]
  rw[aa hj];by_cases hj2:j=M.next
  .subst hj2;rw[ag (by omega),ag rfl];simp
  rw[aa (by omega)];have:j-M.next=(j-(M.next+1))+1:=by omega
  rw[this];rfl
theorem uK (p:Nat)(l:List Row):(eU p l).next=l.length/\(eU p l).lk=0/\(eU p l).par=p/\∀j,(eU p l).get j=(l[j]?).bind Row.live:=by
 obtain⟨h1,h2,h3,h4⟩:=FI l ⟨0,0,p,.e⟩;refine⟨by unfold eU;rw[h1];simp,h2,h3,λj=>?_⟩;have:=h4 j;rw[aa (by show ¬j<0;omega)]at this;exact this
theorem FJ:∀(ids:List Nat) (rs:List Row) (M:aG),(∀id∈ids,id<M.next)->rs.length=ids.length->(∀(i j:Nat) x,ids[i]? = some x->ids[j]? = some x->i=j) ->
 (gb ids rs M).next=M.next/\(gb ids rs M).lk=M.lk/\(gb ids rs M).par=M.par/\(∀(i j:Nat),ids[i]? = some j->(gb ids rs M).get j=(rs[i]?).bind Row.live)/\∀j,j ∉ ids->(gb ids rs M).get j=M.get j
 |[],rs,M,_,hl,_=>by
  have:rs=[]:=aQ.1 hl;subst this;exact⟨rfl,rfl,rfl,λi j h=>by simp at h,λ_ _=>rfl⟩
 |id::ids,[],M,_,hl,_=>by simp at hl
 |id::ids,r::rs,M,hlt,hl,hnd=>by
  obtain⟨p1,p2,p3,p4⟩:=aG.gB M id r;have hno:id ∉ ids:=λhm=>by
   obtain⟨i,hi⟩:=eD hm;have:=hnd 0 (i+1) id rfl (by simpa using hi);omega
  obtain⟨h1,h2,h3,h4,h5⟩:=FJ ids rs (M.put id r) (λx hx=>by rw[p1];exact hlt x (by simp[hx])) (by simpa using hl) (λi j x hi hj=>by
   have:=hnd (i+1) (j+1) x (by simpa using hi) (by simpa using hj);omega)
  refine⟨h1.trans p1,h2.trans p2,h3.trans p3,λi j hj=>?_,λj hj=>?_⟩
  .cases i with
   |zero =>
    simp at hj;subst hj;show (gb ids rs (M.put id r)).get id=_;rw[h5 id hno,p4,ag rfl,ag (hlt id (by simp))];rfl
   |succ i=>exact(h4 i j (by simpa using hj)).trans rfl
  have hj1:j≠id:=λe=>hj (by simp[e])
  have hj2:j ∉ ids:=λe=>hj (by simp[e])
  show (gb ids rs (M.put id r)).get j=_;rw[h5 j hj2,p4,aa hj1]
section
variable {S:Wo} {H:aG} {E:Mem} {ids:List Nat}
theorem RC {id:Nat}{r:Row}(h:H.get id=some r):rowOf H ids id=I2 ids (PW H r):=by unfold rowOf;rw[h]
theorem J5 (hr:Rel S H E){v:AV}{x:Value}(h:VR S v x):VR S (TR H v) x:=by
 cases v with
 |own id n =>
  have e0:TR H (.own id n)=(match H.get id with
   |some (.list _ _ l _ _ _)=>AV.own id l.length
   |_=>AV.own id n):=rfl
  rw[e0];split
  .rename_i t e l gC ex ro hg;obtain⟨_,⟨_,g0,k1,k2⟩,_⟩:=hr.row id _ hg;cases h with
   |own _ _ i cap s hρ g hg' hn=>rw[k1]at hg';cases hg';rw[show l.length=n by omega];exact .own id _ i cap s hρ g0 k1 hn
   |gh _ g hg' hn=>rw[k1]at hg';cases hg';rw[show l.length=0 by omega];exact .gh id g0 k1 hn
  exact h
 |_=>exact h
theorem LV.xH {f:AV->AV}(hf:∀v x,VR S v x->VR S (f v) x):∀{l:List AV} {m:List Value},LV S l m->LV S (l.map f) m
 |[],m,h=>h
 |v::l,m,h=>by
  obtain⟨x,m',rfl,h1,h2⟩:=h.cons_inv;exact LV.cons (hf v x h1) (LV.xH hf h2)
theorem RD (hr:Rel S H E){v:AV}{x:Value}(h:VR S v x):VR S (WR H v) x:=by
 cases v with
 |agg l=>cases h with
  |agg _ m hl hm =>
   have:=LV.xH (f:=TR H) (λv x h=>J5 hr h) (show LV S l m from ⟨hl,hm⟩);exact .agg _ m this.1 this.2
 |_=>exact J5 hr h
theorem RF (hr:Rel S H E){v:AV}{x:Value}(h:VR S v x):VR S (ahv H v) x:=by
 cases v with
 |fH l=>cases h with
  |fH _ m hl hm =>
   have:=LV.xH (f:=WR H) (λv x h=>RD hr h) (show LV S l m from ⟨hl,hm⟩);exact .fH _ m this.1 this.2
 |_=>exact RD hr h
theorem abT (hr:Rel S H E){id:Nat}{r:Row}(h:o6 S E id r):o6 S E id (PW H r):=by
 cases r with
 |cells t cs =>
  obtain⟨i,c,s,b,a1,a2,a3,a4⟩:=h;exact⟨i,c,s,b,a1,a2,LV.xH (λv x h=>J5 hr h) a3,a4⟩
 |_=>exact h
theorem RG (r:Row):(PW H r).A8=r.A8:=by cases r<;>rfl
theorem RH (hr:Rel S H E)(hnd:nodupB ids=true){p:Nat}(hp:p<=ids.length)(hmay:∀id∈ids,H.lk<=id):Rel (S.wZ H ids) (eU p (rowsOf H ids)) E:=by
 obtain⟨p1,p2,p3,p4⟩:=uK p (rowsOf H ids);have hlen:(rowsOf H ids).length=ids.length:=cg ..;rw[hlen]at p1;have C4:∀j q,(eU p (rowsOf H ids)).get j=some q->∃id r,ids[j]? = some id/\H.get id=some r/\q=I2 ids (PW H r):=λj q hj=>by
  rw[p4]at hj;obtain⟨r0,h1,h2⟩:=dP.1 hj;unfold rowsOf at h1;rw[cB]at h1;obtain⟨id,h3,h4⟩:=aL.1 h1;subst h4;unfold rowOf at h2;split at h2
  .rename_i r hg;refine⟨id,r,h3,hg,?_⟩;cases r<;>first|(simpa[I2,PW,Row.live] using h2.symm)|exact absurd hg aG.I7
  cases h2
 have ρj:∀{j id},ids[j]? = some id->(S.wZ H ids).ρ j=S.ρ id:=λ{j id} hj=>by
  show (ids[j]?).bind S.ρ=_;rw[hj];rfl
 refine⟨hr.fz,λj x hx=>?_,λj v hj=>?_,λj q hj=>?_,λj j' q q' y y' hj hj' hy hy' he=>?_,λj q y hj hb hy=>?_,λj q y hj _ hy=>?_,by rw[p1,p2];exact ct _,by rw[p1,p3];exact hp,hr.GL⟩
 .rw[p1];have hx:(ids[j]?).bind S.ρ=some x:=hx;cases hi:ids[j]? with
  |none=>rw[hi]at hx;cases hx
  |some id=>exact(bx.1 hi).1
 .rw[p1]at hj;show (if v=0 then (ids[j]?).bind _ else none)=none;rw[dK hj];split<;>rfl
 .obtain ⟨id,r,h1,h2,rfl⟩:=C4 j q hj;have hrow:=abT hr (hr.row id r h2);cases r with
  |dead=>trivial
  |cells t cs =>
   obtain⟨i,c,s,b,a1,a2,a3,a4⟩:=hrow;exact⟨i,c,s,b,by rw[ρj h1];exact a1,a2,a3.wZ hr,a4⟩
  |mp t ks =>
   obtain⟨i,c,s,b,a1,a2⟩:=hrow;exact⟨i,c,s,b,by rw[ρj h1];exact a1,a2⟩
  |mf t ks =>
   obtain⟨i,c,s,b,a1,a2,a3,a4,a5⟩:=hrow;exact⟨i,c,s,b,by rw[ρj h1];exact a1,a2,a3,a4.wZ hr,a5⟩
  |list t e l gC ex ro =>
   obtain⟨a1,⟨a2,g,a3,a4⟩,a5⟩:=hrow;have hΓ:(S.wZ H ids).Γ j 0=some ⟨e,l⟩:=by
    show (if 0=0 then (ids[j]?).bind _ else none)=_;rw[ag rfl,h1];simp only[aW,h2]
   refine⟨hΓ,⟨λv hv=>aa (by omega),⟨e,l⟩,hΓ,rfl⟩,?_⟩;rcases a5 with⟨b1,b2,b3⟩|⟨i,cap,b,mid,post,q1,q2⟩
   .exact .inl ⟨b1,by rw[ρj h1];exact b2,b3⟩
   exact .inr ⟨i,cap,b,mid,post,by rw[ρj h1];exact q1,q2⟩
 .obtain ⟨id,r,h1,h2,rfl⟩:=C4 j q hj;obtain⟨id',r',h1',h2',rfl⟩:=C4 j' q' hj';rw[ρj h1]at hy;rw[ρj h1']at hy';have:=hr.inj id id' r r' y y' h2 h2' hy hy' he;subst this;exact tD hnd j j' id h1 h1'
 .obtain ⟨id,r,h1,h2,rfl⟩:=C4 j q hj;rw[ρj h1]at hy;rw[Dr,RG]at hb;exact hr.sep id r y h2 hb hy
 obtain⟨id,r,h1,h2,rfl⟩:=C4 j q hj;rw[ρj h1]at hy;exact hr.lk id r y h2 (hmay id (bh h1)) hy
theorem P0 {v v':AV}{outs:List Row}{x:Value}(h:gG v H=some (v',outs))(hr:Rel S H E)(hv:VR S v x):∃S',VR S' v' x/\Rel S' (eU H.par outs) E/\BJ S H E S' (eU H.par outs) E:=by
 unfold gG at h;generalize wR H 3 (HY ((List.range H.par).foldl (I3 H) (List.range H.par)) v)=ids at h;simp only at h;rw[ax]at h;split at h;case isFalse=>cases h
 rename_i hc;simp only[ak,aO]at hc;obtain⟨⟨hnd,hpar⟩,hlk⟩:=hc;have hpar:ids.take H.par=List.range H.par:=by simpa using hpar
 simp only[aq,ay]at h;obtain⟨rfl,rfl⟩:=h;have aft:H.par<=ids.length:=by
  have:=cr List.length hpar;simp at this;omega
 refine⟨S.wZ H ids,(RF hr hv).wZ hr,RH hr hnd aft (λid _=>by omega),?_⟩;obtain⟨p1,p2,p3,p4⟩:=uK H.par (rowsOf H ids);refine⟨aC _,rfl,by rw[p2,hlk],p3,λ_ _ h=>h,λi ho _=>?_,λi hi=>.inl hi,λ_ _ _=>rfl,λid hid=>?_⟩
 .obtain ⟨j,q,y,hj,hb,hy,rfl⟩:=ho;rw[p4]at hj;obtain⟨r0,h1,h2⟩:=dP.1 hj;unfold rowsOf at h1;rw[cB]at h1;obtain⟨id,h3,h4⟩:=aL.1 h1;subst h4;have hy:(ids[j]?).bind S.ρ=some y:=hy;rw[h3]at hy;unfold rowOf at h2;split at h2
  .rename_i r hg;refine⟨id,r,y,hg,?_,hy,rfl⟩;rw[<-RG (H:=H),<-Dr (ids:=ids)];cases r<;>first|(simp only[I2,PW,Row.live,aq]at h2;subst h2;exact hb)|exact absurd hg aG.I7
  cases h2
 have:(ids.take H.par)[id]? = some id:=by rw[hpar];simp[hid]
 rw[dD,ag hid]at this;show (ids[id]?).bind S.ρ=_;rw[this];rfl
end
def Wo.back (S S':Wo)(p next:Nat):Wo:=⟨S'.F,λj=>if j<next then S.ρ j else S'.ρ (p+(j-next)),λj v=>if j<next then S.Γ j v else S'.Γ (p+(j-next)) v⟩
structure Bk (S S':Wo)(p next:Nat)(φ:Nat->Nat):Prop where
 lo:∀i x,i<p->S'.ρ i=some x->(S.back S' p next).ρ (φ i)=some x
 hi:∀i,p<=i->φ i=next+(i-p)
theorem Bk.ρ {S S':Wo}{p next:Nat}{φ:Nat->Nat}(h:Bk S S' p next φ){i:Nat}{x:Nat×Nat×Nat}(hx:S'.ρ i=some x):(S.back S' p next).ρ (φ i)=some x:=by
 by_cases hi:i<p
 .exact h.lo i x hi hx
 rw[h.hi i (by omega)];show (if next+(i-p)<next then _ else S'.ρ (p+(next+(i-p)-next)))=_;rw[aa (by omega),show p+(next+(i-p)-next)=i by omega];exact hx
theorem Bk.ρN {S S':Wo}{p next:Nat}{φ:Nat->Nat}(h:Bk S S' p next φ){i:Nat}(hi:p<=i):(S.back S' p next).ρ (φ i)=S'.ρ i:=by
 rw[h.hi i hi];show (if next+(i-p)<next then _ else S'.ρ (p+(next+(i-p)-next)))=_;rw[aa (by omega),show p+(next+(i-p)-next)=i by omega]
theorem Bk.Γ {S S':Wo}{p next:Nat}{φ:Nat->Nat}(h:Bk S S' p next φ){i:Nat}(hi:p<=i)(v:Nat):(S.back S' p next).Γ (φ i) v=S'.Γ i v:=by
 rw[h.hi i hi];show (if next+(i-p)<next then _ else S'.Γ (p+(next+(i-p)-next)) v)=_;rw[aa (by omega),show p+(next+(i-p)-next)=i by omega]
theorem VR.sh {S S':Wo}{p next:Nat}{φ:Nat->Nat}(hb:Bk S S' p next φ){v:AV}{x:Value}(h:VR S' v x):VR (S.back S' p next) (Ce φ p v) x:=by
 have dH:∀{l:List AV} {m:List Value},(∀(j:Nat) a b,l[j]? = some a->m[j]? = some b->VR (S.back S' p next) (Ce φ p a) b)->(∀(j:Nat) a b,(PY φ p l)[j]? = some a->m[j]? = some b->VR (S.back S' p next) a b)/\(PY φ p l).length=l.length:=by
  intro l;induction l with
  |nil=>intro m h;exact⟨λj a b ha=>by simp[PY]at ha,rfl⟩
  |cons v l ih =>
   intro m h;cases m with
   |nil=>exact⟨λj a b ha hb=>by simp at hb,by have:=(ih (m:=[]) (λj a b _ hb=>by simp at hb)).2;simp[PY,this]⟩
   |cons y m =>
    obtain⟨h1,h2⟩:=ih (m:=m) λj a b ha hb=>h (j+1) a b (by simpa using ha) (by simpa using hb)
    refine⟨λj a b ha hb=>?_,by simp[PY,h2]⟩;cases j with
    |zero=>simp[PY]at ha hb;subst ha;subst hb;exact h 0 v y rfl rfl
    |succ j=>exact h1 j a b (by simpa[PY] using ha) (by simpa using hb)
 have pk:∀{id:Nat} {w:AV},(p<=id->VR (S.back S' p next) w x)->VR (S.back S' p next) (ah (Nat.ble p id) w .j5) x:=λ{id w} hw=>by
  rw[ax];split
  .rename_i hp;exact hw (az hp)
  exact .j5 _
 clear pk;have pk:∀{id:Nat} {w:AV} {y:Value},(p<=id->VR (S.back S' p next) w y)->VR (S.back S' p next) (ah (Nat.ble p id) w .j5) y:=λ{id w y} hw=>by
  rw[ax];split
  .rename_i hp;exact hw (az hp)
  exact .j5 _
 induction h with
 |int=>unfold Ce;exact .int _ _
 |bool=>unfold Ce;exact .bool _
 |str=>unfold Ce;exact .str _
 |qg=>unfold Ce;exact .qg _
 |dH e l v h=>unfold Ce;exact .dH e l v h
 |dG=>unfold Ce;exact .dG
 |own id n i cap s h g hg hn=>unfold Ce;exact pk λhp=>.own _ n i cap s (hb.ρ h) g (by rw[hb.Γ hp];exact hg) hn
 |gh id g hg hn=>unfold Ce;exact pk λhp=>.gh _ g (by rw[hb.Γ hp];exact hg) hn
 |rO id off len cap i c s h g hg hc hl=>unfold Ce;exact pk λhp=>.rO _ off len cap i c s (hb.ρ h) g (by rw[hb.Γ hp];exact hg) hc hl
 |ptr id off i c s h=>unfold Ce;exact .ptr _ off i c s (hb.ρ h)
 |Dk=>unfold Ce;exact .j5 _
 |yG id i c s h=>unfold Ce;exact .yG _ i c s (hb.ρ h)
 |dat=>unfold Ce;exact .j5 _
 |Ej id n i c s h g hg hn=>unfold Ce;exact pk λhp=>.Ej _ n i c s (hb.ρ h) g (by rw[hb.Γ hp];exact hg) hn
 |y4 cs i pre mid post h hl _ ih =>
  unfold Ce;obtain⟨l1,l2⟩:=dH ih;exact .y4 _ i pre mid post h (by omega) l1
 |oh=>unfold Ce;exact .oh
 |fn f a b a' b' ha hb' _ _ Uw Ux =>
  unfold Ce;obtain⟨l1,l2⟩:=dH Uw;obtain⟨m1,m2⟩:=dH Ux;exact .fn f _ _ a' b' (by omega) (by omega) l1 m1
 |agg l m hl _ ih =>
  unfold Ce;obtain⟨l1,l2⟩:=dH ih;exact .agg _ m (by omega) l1
 |fH l m hl _ ih =>
  unfold Ce;obtain⟨l1,l2⟩:=dH ih;exact .fH _ m (by omega) l1
 |Ad v h=>unfold Ce;exact .Ad v h
 |fl a v h=>unfold Ce;exact .fl a v h
 |cx a b v h=>unfold Ce;exact .cx a b v h
 |j5 v=>unfold Ce;exact .j5 v
theorem LV.sh {S S':Wo}{p next:Nat}{φ:Nat->Nat}(hb:Bk S S' p next φ):∀{l:List AV} {m:List Value},LV S' l m->LV (S.back S' p next) (PY φ p l) m
 |[],m,h=>by rw[h.jx];exact LV.nil
 |v::l,m,h=>by
  obtain⟨x,m',rfl,h1,h2⟩:=h.cons_inv;exact LV.cons (h1.sh hb) (LV.sh hb h2)
theorem o6.sh {S S':Wo}{E:Mem}{p next:Nat}{φ:Nat->Nat}(hb:Bk S S' p next φ){i:Nat}{r:Row}(hk:uJ r=true\/(FG r=true/\p<=i))(h:o6 S' E i r):o6 (S.back S' p next) E (φ i) (RA φ p r):=by
 cases r with
 |dead=>trivial
 |cells t cs =>
  obtain⟨i0,c,s,b,a1,a2,a3,a4⟩:=h;exact⟨i0,c,s,b,hb.ρ a1,a2,a3.sh hb,a4⟩
 |mp t ks =>
  obtain⟨i0,c,s,b,a1,a2⟩:=h;exact⟨i0,c,s,b,hb.ρ a1,a2⟩
 |mf t ks=>rcases hk with hk|hk<;>simp[uJ,FG]at hk
 |list t e l gC ex ro =>
  have hp:p<=i:=by
   rcases hk with hk|hk
   .simp[uJ]at hk
   exact hk.2
  obtain⟨a1,⟨a2,g,a3,a4⟩,a5⟩:=h;refine⟨by rw[hb.Γ hp];exact a1,⟨λv hv=>by rw[hb.Γ hp];exact a2 v hv,g,by rw[hb.Γ hp];exact a3,a4⟩,?_⟩;rcases a5 with⟨b1,b2,b3⟩|⟨i0,cap,b,mid,post,q1,q2⟩
  .exact .inl ⟨b1,by rw[hb.ρN hp];exact b2,b3⟩
  exact .inr ⟨i0,cap,b,mid,post,hb.ρ q1,q2⟩
theorem MV {φ:Nat->Nat}{p:Nat}{r q:Row}(h:(RA φ p r).live=some q):q=RA φ p r/\r.live=some r:=by
 cases r<;>simp[RA,Row.live]at h<;>exact⟨by rw[<-h];rfl,rfl⟩
theorem MW {H:aG}{id:Nat}(h:HZ H id=true):∃r,H.get id=some r/\uJ r=true:=by
 unfold HZ at h;split at h
 .rename_i r hr;exact⟨r,hr,h⟩
 cases h
theorem MX {H:aG}{id:Nat}(h:MT H id=true):∃r,H.get id=some r/\FG r=true:=by
 unfold MT at h;split at h
 .rename_i r hr;exact⟨r,hr,h⟩
 cases h
theorem J6 {r:Row}(h:uJ r=true):r.A8=false/\r.live=some r:=by
 cases r<;>first|exact⟨rfl,rfl⟩|cases h
theorem RI {r:Row}(h:FG r=true):r.A8=false/\r.live=some r:=by
 cases r with
 |list t e l v ex ro=>cases ro with
  |false=>exact⟨rfl,rfl⟩
  |true=>cases h
 |_=>cases h
theorem Ye {S S':Wo}{H:aG}{E E':Mem}{ids:List Nat}{p:Nat}{outs:List Row}(hr:Rel S H E)(hnd:nodupB ids=true)(hp:p<=ids.length)
 (abU:∀i id,ids[i]? = some id->i<p->HZ H id=true) (Bc:∀i id,ids[i]? = some id->p<=i->MT H id=true)
 (hr':Rel S' (eU p outs) E') (hst:BJ (S.wZ H ids) (eU p (rowsOf H ids)) E S' (eU p outs) E')
 (hpo:p<=outs.length) (ho1:∀i r,outs[i]? = some r->i<p->uJ r=true) (Dj:∀i r,outs[i]? = some r->p<=i->uJ r=true\/FG r=true) :
 Bk S S' p H.next (vJ ids p H.next)/\S.le (S.back S' p H.next)/\Rel (S.back S' p H.next) (FH H ids p outs) E'/\St S H E (S.back S' p H.next) (FH H ids p outs) E':=by
 have φlo:∀{i id},i<p->ids[i]? = some id->vJ ids p H.next i=id:=λ{i id} hi hid=>by
  unfold vJ;rw[ax,ag (ep hi),fS,hid];rfl
 have φhi:∀{i},p<=i->vJ ids p H.next i=H.next+(i-p):=λ{i} hi=>by
  unfold vJ;rw[ax,aa (by rw[bu];omega)];rfl
 have idl:∀{i id},ids[i]? = some id->∃r,H.get id=some r/\r.A8=false:=λ{i id} hid=>by
  by_cases hi:i<p
  .obtain ⟨r,h1,h2⟩:=MW (abU i id hid hi);exact⟨r,h1,(J6 h2).1⟩
  obtain⟨r,h1,h2⟩:=MX (Bc i id hid (by omega));exact⟨r,h1,(RI h2).1⟩
 have ahw:∀{i id},ids[i]? = some id->id<H.next:=λhid=>let ⟨_,h,_⟩:=idl hid;aG.eL h
 obtain⟨m1,m2,m3,m4⟩:=uK p (rowsOf H ids);obtain⟨o1,o2,o3,o4⟩:=uK p outs;have aro:(rowsOf H ids).length=ids.length:=cg ..;have oro:∀{i q},outs[i]? = some q->q.A8=false/\q.live=some q/\(eU p outs).get i=some q:=λ{i q} hq=>by
  have hh:q.A8=false/\q.live=some q:=by
   by_cases hi:i<p
   .exact J6 (ho1 i q hq hi)
   rcases Dj i q hq (by omega) with h|h
   .exact J6 h
   exact RI h
  exact⟨hh.1,hh.2,by rw[o4,hq];exact hh.2⟩
 have lo:∀i x,i<p->S'.ρ i=some x->∃id,ids[i]? = some id/\S.ρ id=some x:=λi x hi hx=>by
  have h1:=hst.par i (by rw[m3];exact hi);rw[h1]at hx;have hx:(ids[i]?).bind S.ρ=some x:=hx;obtain⟨id,h2,h3⟩:=dP.1 hx;exact⟨id,h2,h3⟩
 have old:∀j,j<H.next->(S.back S' p H.next).ρ j=S.ρ j:=λj hj=>ag hj
 have oldΓ:∀j v,j<H.next->(S.back S' p H.next).Γ j v=S.Γ j v:=λj v hj=>ag hj
 have hbk:Bk S S' p H.next (vJ ids p H.next):=⟨λi x hi hx=>by
  obtain⟨id,h1,h2⟩:=lo i x hi hx;rw[φlo hi h1,old id (ahw h1)];exact h2,λi hi=>φhi hi⟩
 have hle:S.le (S.back S' p H.next):=⟨λi x hx=>hst.F i x hx,λi x hx=>by rw[old i (hr.dom i x hx)];exact hx,λi v x hx=>by
  rw[oldΓ i v (by
   by_cases hi:i<H.next
   .exact hi
   rw[hr.C3 i v (by omega)]at hx;cases hx)];exact hx⟩
 -- the memory
 have hM1:(outs.drop p).foldl (λM r=>M.push (RA (vJ ids p H.next) p r)) H=((outs.drop p).map (RA (vJ ids p H.next) p)).foldl (λM r=>M.push r) H:=by rw[List.foldl_map]
 obtain⟨q1,q2,q3,q4⟩:=FI ((outs.drop p).map (RA (vJ ids p H.next) p)) H;rw[<-hM1]at q1 q2 q3 q4;have Yf:FH H ids p outs=gb ids ((outs.take p).map (RA (vJ ids p H.next) p)++(ids.drop p).map λ_=>.dead) ((outs.drop p).foldl (λM r=>M.push (RA (vJ ids p H.next) p r)) H):=rfl;obtain⟨g1,g2,g3,g4,g5⟩:=FJ ids ((outs.take p).map (RA (vJ ids p H.next) p)++(ids.drop p).map λ_=>.dead) ((outs.drop p).foldl (λM r=>M.push (RA (vJ ids p H.next) p r)) H)
  (λid hid=>by
   obtain⟨i,hi⟩:=eD hid;rw[q1];have:=ahw hi;omega) (by simp;omega) (tD hnd)
 rw[<-Yf]at g1 g2 g3 g4 g5;rw[q1]at g1;rw[q2]at g2;rw[q3]at g3;have QG:(FH H ids p outs).next=H.next+(outs.length-p):=by rw[g1];simp
 have P4:∀j r,(FH H ids p outs).get j=some r->(j<H.next/\j ∉ ids/\H.get j=some r)\/∃i q,j=vJ ids p H.next i/\outs[i]? = some q/\r=RA (vJ ids p H.next) p q:=λj r hj=>by
  by_cases hm:j∈ids
  .obtain ⟨i,hi⟩:=eD hm;rw[g4 i j hi]at hj;obtain⟨r0,h1,h2⟩:=dP.1 hj;by_cases hip:i<p
   .rw[List.getElem?_append_left (by simp;omega),cB,dD,ag hip]at h1;obtain⟨q,h3,h4⟩:=aL.1 h1;subst h4;exact .inr ⟨i,q,(φlo hip hi).symm,h3,(MV h2).1⟩
   rw[List.getElem?_append_right (by simp;omega),cB]at h1;obtain⟨q,h3,h4⟩:=aL.1 h1;subst h4;cases h2
  rw[g5 j hm,q4]at hj;by_cases hjn:j<H.next
  .rw[ag hjn]at hj;exact .inl ⟨hjn,hm,hj⟩
  rw[aa hjn,cB,fV]at hj;obtain⟨r0,h1,h2⟩:=dP.1 hj;obtain⟨q,h3,h4⟩:=aL.1 h1;subst h4;exact .inr ⟨p+(j-H.next),q,by rw[φhi (by omega)];omega,h3,(MV h2).1⟩
 have ρB:∀{i q},outs[i]? = some q->(S.back S' p H.next).ρ (vJ ids p H.next i)=S'.ρ i:=λ{i q} hq=>by
  by_cases hi:i<p
  .have h1:=hst.par i (by rw[m3];exact hi);rw[h1];show _=(ids[i]?).bind S.ρ;have:i<ids.length:=by omega
   rw[aP this,φlo hi (aP this),old _ (ahw (aP this))];rfl
  exact hbk.ρN (by omega)
 -- rows on the other side
 have amc:∀m,Own (S.wZ H ids) (eU p (rowsOf H ids)) m->∃id r x,id∈ids/\H.get id=some r/\r.A8=false/\S.ρ id=some x/\x.1=m:=λm ⟨j,q,y,hj,hb,hy,he⟩=>by
  have hy:(ids[j]?).bind S.ρ=some y:=hy;obtain⟨id,h1,h2⟩:=dP.1 hy;obtain⟨r,h3,h4⟩:=idl h1;exact⟨id,r,y,bh h1,h3,h4,h2,he⟩
 have far:∀j r y,j ∉ ids->H.get j=some r->S.ρ j=some y->¬Own (S.wZ H ids) (eU p (rowsOf H ids)) y.1/\y.1<E.size:=λj r y hj hg hy=>by
  refine⟨λho=>?_,let ⟨_,hb⟩:=hr.old hg hy;Mem.eL hb⟩;obtain⟨id,r',x,h1,h2,h3,h4,h5⟩:=amc _ ho;have:=hr.inj id j r' r x y h2 hg h4 hy h5;subst this;exact hj h1
 have near:∀i q y,outs[i]? = some q->S'.ρ i=some y->E.size<=y.1\/Own (S.wZ H ids) (eU p (rowsOf H ids)) y.1:=λi q y hq hy=>by
  by_cases hs:E.size<=y.1
  .exact .inl hs
  obtain⟨a,_,b⟩:=oro hq;exact .inr (hst.own y.1 ⟨i,q,y,b,a,hy,rfl⟩ (by omega))
 have ahy:∀m,Own (S.wZ H ids) (eU p (rowsOf H ids)) m->Own S H m:=λm ho=>by
  obtain⟨id,r,x,_,h2,h3,h4,h5⟩:=amc m ho;exact⟨id,r,x,h2,h3,h4,h5⟩
 refine⟨hbk,hle,⟨hr'.fz,λj x hx=>?_,λj v hj=>?_,λj r hj=>?_,λj j' r r' x x' hj hj' hx hx' he=>?_,λj r x hj hb hx=>?_,λj r x hj hl hx=>?_,by rw[g2,QG];have:=hr.zF;omega,by rw[g3,QG];have:=hr.Lq;omega,hr'.GL⟩,
  ⟨hst.sz,hst.lk,g2,g3,hle.F,λi ho hi=>?_,λi hi=>?_,λi hi ho=>hst.keep i hi λh=>ho (ahy i h),λid hid=>old id (by have:=hr.Lq;omega),by rw[QG];omega,λid hid hlv=>?_,λid hid hn=>by rw[old id hid];exact hn⟩⟩
 .rw[QG];by_cases hjn:j<H.next
  .omega
  have hx:(if j<H.next then S.ρ j else S'.ρ (p+(j-H.next)))=some x:=hx;rw[aa hjn]at hx;have:=hr'.dom _ x hx;rw[o1]at this;omega
 .rw[QG]at hj;show (if j<H.next then S.Γ j v else S'.Γ (p+(j-H.next)) v)=none;rw[aa (by omega)];exact hr'.C3 _ v (by rw[o1];omega)
 .rcases P4 j r hj with⟨h1,h2,h3⟩|⟨i,q,rfl,h2,rfl⟩
  .refine (hr.row j r h3).keep hle (λhn=>by rw[old j h1];exact hn) (λv hv=>by rw[oldΓ j v h1];exact hv) λx hx=>?_
   obtain⟨f1,f2⟩:=far j r x h2 h3 hx;exact hst.keep _ f2 f1
  refine o6.sh hbk ?_ (hr'.row i q (oro h2).2.2);by_cases hi:i<p
  .exact .inl (ho1 i q h2 hi)
  rcases Dj i q h2 (by omega) with h|h
  .exact .inl h
  exact .inr ⟨h,by omega⟩
 .rcases P4 j r hj with⟨h1,h2,h3⟩|⟨i,q,rfl,h2,rfl⟩<;>rcases P4 j' r' hj' with⟨h1',h2',h3'⟩|⟨i',q',rfl,h2',rfl⟩
  .rw[old j h1]at hx;rw[old j' h1']at hx';exact hr.inj j j' r r' x x' h3 h3' hx hx' he
  .rw[old j h1]at hx;rw[ρB h2']at hx';obtain⟨f1,f2⟩:=far j r x h2 h3 hx;rcases near i' q' x' h2' hx' with h|h
   .omega
   rw[<-he]at h;exact absurd h f1
  .rw[old j' h1']at hx';rw[ρB h2]at hx;obtain⟨f1,f2⟩:=far j' r' x' h2' h3' hx';rcases near i q x h2 hx with h|h
   .omega
   rw[he]at h;exact absurd h f1
  rw[ρB h2]at hx;rw[ρB h2']at hx';rw[hr'.inj i i' q q' x x' (oro h2).2.2 (oro h2').2.2 hx hx' he]
 .rcases P4 j r hj with⟨h1,h2,h3⟩|⟨i,q,rfl,h2,rfl⟩
  .rw[old j h1]at hx;obtain⟨f1,f2⟩:=far j r x h2 h3 hx;show S'.F x.1=none;cases hq:S'.F x.1 with
   |none=>rfl
   |some cs =>
    rcases hst.Kl x.1 (by rw[hq];simp) with h|h|h
    .exact absurd (hr.sep j r x h3 hb hx) h
    .exact absurd h f1
    omega
  rw[ρB h2]at hx;exact hr'.sep i q x (oro h2).2.2 (oro h2).1 hx
 .rcases P4 j r hj with⟨h1,h2,h3⟩|⟨i,q,rfl,h2,rfl⟩
  .rw[old j h1]at hx;rw[hst.lk];exact hr.lk j r x h3 (by rw[<-g2];exact hl) hx
  rw[ρB h2]at hx;exact hr'.lk i q x (oro h2).2.2 (by rw[o2];exact ct _) hx
 .obtain ⟨j,r,x,hj,hb,hx,rfl⟩:=ho;rcases P4 j r hj with⟨h1,h2,h3⟩|⟨i,q,rfl,h2,rfl⟩
  .rw[old j h1]at hx;exact⟨j,r,x,h3,hb,hx,rfl⟩
  rw[ρB h2]at hx;rcases near i q x h2 hx with h|h
  .omega
  exact ahy _ h
 .rcases hst.Kl i hi with h|h|h
  .exact .inl h
  .exact .inr (.inl (ahy i h))
  exact .inr (.inr h)
 cases hq:(FH H ids p outs).get id with
 |none=>exact absurd hq hlv
 |some r =>
  rcases P4 id r hq with⟨h1,h2,h3⟩|⟨i,q,he,h2,_⟩
  .rw[h3];simp
  by_cases hi:i<p
  .have hil:i<ids.length:=by omega
   rw[φlo hi (aP hil)]at he;obtain⟨r0,k1,_⟩:=idl (aP hil);rw[he,k1];simp
  rw[φhi (by omega)]at he;omega
theorem tN {S0:Wo}{H0:aG}{E:Mem}:∀{sg:List (Option (TypeId×Ty))} {cs:List AV} {H:aG} {S:Wo} {C:List Value},Rel S H E->S0.le S->St S0 H0 E S H E->LV S cs C ->
 ∃S',S.le S'/\Rel S' (eI sg cs H).2 E/\St S0 H0 E S' (eI sg cs H).2 E/\LV S' (eI sg cs H).1 C/\H.next<=(eI sg cs H).2.next/\(∀j,j<H.next->(eI sg cs H).2.get j=H.get j/\S'.ρ j=S.ρ j)
 |[],cs,H,S,C,hr,hle,hst,hl=>by
  cases cs<;>exact⟨S,S.le_refl,hr,hst,hl,aC _,λ_ _=>⟨rfl,rfl⟩⟩
 |s::sg,[],H,S,C,hr,hle,hst,hl=>by
  have e:eI (s::sg) [] H=([],H):=by cases s with
   |none=>rfl
   |some q=>rfl
  rw[e];exact⟨S,S.le_refl,hr,hst,hl,aC _,λ_ _=>⟨rfl,rfl⟩⟩
 |s::sg,c::cs,H,S,C,hr,hle,hst,hl=>by
  obtain⟨x,C',rfl,h1,h2⟩:=hl.cons_inv;have same:(∃S',S.le S'/\Rel S' (c::(eI sg cs H).1,(eI sg cs H).2).2 E/\St S0 H0 E S' (c::(eI sg cs H).1,(eI sg cs H).2).2 E/\LV S' (c::(eI sg cs H).1,(eI sg cs H).2).1 (x::C')/\H.next<=(c::(eI sg cs H).1,(eI sg cs H).2).2.next/\(∀j,j<H.next->(c::(eI sg cs H).1,(eI sg cs H).2).2.get j=H.get j/\S'.ρ j=S.ρ j)):=by
   obtain⟨S',a1,a2,a3,a4,a5,a6⟩:=tN (sg:=sg) hr hle hst h2;exact⟨S',a1,a2,a3,LV.cons (h1.mono a1) a4,a5,a6⟩
  cases s with
  |none=>exact same
  |some q =>
   obtain⟨t,e⟩:=q;cases c with
   |dG =>
    have ox:∀v,S.Γ H.next v=none:=λv=>hr.C3 _ _ (aC _)
    obtain⟨b1,b2,b3⟩:=hr.add (E':=E) (r:=.list t e [] 0 false false) (x:=none) (g:=some ⟨e,[]⟩) (aC _) rfl (λ_ _=>rfl) (λr' hr'=>by cases hr';exact lz ox) (λy hy=>by cases hy) rfl;obtain⟨p1,p2,p3,p4⟩:=aG.dN H (.list t e [] 0 false false);obtain⟨S',a1,a2,a3,a4,a5,a6⟩:=tN (sg:=sg) b2 (Wo.le_trans hle b1) (hst.trans b3) (h2.mono b1);cases h1;have hv:VR (S.new H.next none (some ⟨e,[]⟩)) (.own H.next 0) (.slice none 0 0):=.gh _ ⟨e,[]⟩ (ag ⟨rfl,rfl⟩) rfl;refine⟨S',Wo.le_trans b1 a1,a2,a3,LV.cons (hv.mono a1) a4,by rw[p1]at a5;exact br (fD _) a5,λj hj=>?_⟩
    obtain⟨c1,c2⟩:=a6 j (by rw[p1];omega);exact⟨c1.trans (by rw[p4,aa (by omega)]),c2.trans (aa (by omega))⟩
   |_=>exact same
theorem TT {t0:TypeId}{sg:List (Option (TypeId×Ty))}{S0 S:Wo}{H0 H:aG}{E:Mem}(id:Nat)(hmay:H0.lk<=id)(hr:Rel S H E)(hle:S0.le S)(hst:St S0 H0 E S H E) :
 ∃S',S.le S'/\Rel S' (ownRow t0 sg H id) E/\St S0 H0 E S' (ownRow t0 sg H id) E:=by
 unfold ownRow;split;case h_2=>exact⟨S,S.le_refl,hr,hst⟩
 rename_i t cs hg;rw[ax];split;case isFalse=>exact⟨S,S.le_refl,hr,hst⟩
 obtain⟨i,c,s,b,h1,h2,h3,h4⟩:=hr.row id _ hg;obtain⟨S1,a1,a2,a3,a4,a5,a6⟩:=tN (sg:=sg) hr hle hst h3;have hid:=aG.eL hg;obtain⟨g1,g2⟩:=a6 id hid;obtain⟨m1,m2⟩:=a2.mod (S':=S1) (E':=E) (r:=.cells t cs) (r':=.cells t (eI sg cs H).1) (by rw[g1];exact hg) rfl S1.le_refl rfl (λ_ _ _=>rfl) rfl rfl (λ_ _=>rfl) (λj cs h=>.inl h) (λq hq=>by
  cases hq;exact⟨i,c,s,b,by rw[g2];exact h1,h2,a4,h4⟩)
 exact⟨S1,a1,m1,a3.trans m2⟩
theorem FK {t0:TypeId}{sg:List (Option (TypeId×Ty))}{S0:Wo}{H0:aG}{E:Mem}:∀(l:List Nat) {S:Wo} {H:aG},(∀id∈l,H0.lk<=id)->Rel S H E->S0.le S->St S0 H0 E S H E ->
 ∃S',S.le S'/\Rel S' (l.foldl (ownRow t0 sg) H) E/\St S0 H0 E S' (l.foldl (ownRow t0 sg) H) E
 |[],S,H,_,hr,hle,hst=>⟨S,S.le_refl,hr,hst⟩
 |id::l,S,H,hm,hr,hle,hst=>by
  obtain⟨S1,a1,a2,a3⟩:=TT (t0:=t0) (sg:=sg) id (hm id (by simp)) hr hle hst;obtain⟨S2,b1,b2,b3⟩:=FK l (λx hx=>hm x (by simp[hx])) a2 (Wo.le_trans hle a1) a3;exact⟨S2,Wo.le_trans a1 b1,b2,b3⟩
section
variable {X:ij} {cf:Nat×Nat->Ev.cH}
def j7 (X:ij)(cf:Nat×Nat->Ev.cH)(f:FuncId)(g:List AV->List Row->Option (Bool×AV×List Row)):Prop :=
 ∀args rows v outs,g args rows=some (true,v,outs)->∀p,∀(S:Wo) (E:Mem) (bJ:List Value),p=s6 rows->Rel S (eU p rows) E->fm X S->LV S args bJ ->
  ∃S' vE E',(∃N,∀n:Nat×Nat,N<=n.1/\N<=n.2->cf n f bJ E=some (vE,E'))/\VR S' v vE/\Rel S' (eU p outs) E'/\BJ S (eU p rows) E S' (eU p outs) E'
theorem MY:∀(l:List Row) (p:Nat),(∀i r,l[i]? = some r->i<p->uJ r=true)->(∀i r,l[i]? = some r->p<=i->uJ r=false)->p<=l.length->s6 l=p
 |[],p,_,_,hp=>by simp at hp;subst hp;rfl
 |r::l,p,h1,h2,hp=>by
  unfold s6;rw[ax];cases p with
  |zero=>rw[aa (by have:=h2 0 r rfl (aC _);rw[this];simp)]
  |succ p =>
   rw[ag (h1 0 r rfl (by omega)),MY l p (λi q hq hi=>h1 (i+1) q (by simpa using hq) (by omega)) (λi q hq hi=>h2 (i+1) q (by simpa using hq) (by omega)) (by simpa using hp)]
theorem TU {f:FuncId}{g:List AV->List Row->Option (Bool×AV×List Row)}(hc:j7 X cf f g){β:Type}{args:List AV}{H:aG}{st ids:List Nat}{k:AV->aG->Option β}{r:β}(h:PZ g args H st ids k=some r):∃v H',k v H'=some r/\Jd X cf f args H v H':=by
 unfold PZ at h;rw[ax]at h;split at h;case isFalse=>cases h
 rename_i hb;simp only[ak]at hb;obtain⟨⟨⟨⟨hnd,hmay⟩,hs1⟩,hs2⟩,hpl⟩:=hb;split at h;case h_2=>cases h
 rename_i cnd v outs hg;rw[ax]at h;split at h;case isFalse=>cases h
 rename_i Kk;simp only[ak]at Kk;obtain⟨⟨hpo,ho1⟩,Dj⟩:=Kk;rw[ax]at h;split at h;case isFalse=>cases h
 rename_i hcnd;subst hcnd;have hpl:=az hpl;have hpo:=az hpo;refine⟨_,_,h,λS E bJ hr hgl hl=>?_⟩;have hmay':∀id∈ids,H.lk<=id:=λid hid=>by
  have:=aK.1 hmay id hid;simpa[aG.nO,bu] using this
 have abU:∀i id,ids[i]? = some id->i<st.length->HZ H id=true:=λi id hi hlt =>
  aK.1 hs1 id (bh (i:=i) (by rw[dD,ag hlt];exact hi))
 have Bc:∀i id,ids[i]? = some id->st.length<=i->MT H id=true:=λi id hi hle =>
  aK.1 hs2 id (bh (i:=i-st.length) (by rw[fV,show st.length+(i-st.length)=i by omega];exact hi))
 have hrow:∀i q,(rowsOf H ids)[i]? = some q->∃id,ids[i]? = some id/\q=rowOf H ids id:=λi q hq=>by
  unfold rowsOf at hq;rw[cB]at hq;obtain⟨id,h1,h2⟩:=aL.1 hq;exact⟨id,h1,h2.symm⟩
 have hN:s6 (rowsOf H ids)=st.length:=MY _ _ (λi q hq hi=>by
  obtain⟨id,h1,rfl⟩:=hrow i q hq;obtain⟨r0,h2,h3⟩:=MW (abU i id h1 hi);rw[RC h2];cases r0<;>first|exact h3|cases h3) (λi q hq hi=>by
  obtain⟨id,h1,rfl⟩:=hrow i q hq;obtain⟨r0,h2,h3⟩:=MX (Bc i id h1 hi);rw[RC h2];cases r0<;>first|rfl|cases h3) (by unfold rowsOf;simpa using hpl)
 obtain⟨S',vE,E',a1,a2,a3,a4⟩:=hc _ _ v outs hg st.length (S.wZ H ids) E bJ hN.symm (RH hr hnd hpl hmay') (hgl.mono' λ_ _ h=>h) ((LV.xH (λv x h=>RF hr h) hl).wZ hr);obtain⟨b1,b2,b3,b4⟩:=Ye hr hnd hpl abU Bc a3 a4 hpo (λi q hq hi=>aK.1 ho1 q (bh (i:=i) (by rw[dD,ag hi];exact hq))) (λi q hq hi=>by
  have:=aK.1 Dj q (bh (i:=i-st.length) (by rw[fV,show st.length+(i-st.length)=i by omega];exact hq));simpa using this)
 exact⟨_,vE,E',a1,b2,a2.sh b1,b3,b4⟩
theorem Yg {f:FuncId}{c:MU}(hc:j7 X cf f c.g){β:Type}{args:List AV}{H:aG}{k:AV->aG->Option β}{r:β}(h:RB c args H k=some r):∃v H',k v H'=some r/\Jd X cf f args H v H':=by
 unfold RB at h;simp only at h;rw[ax]at h;split at h;case isFalse=>cases h
 rename_i hm;obtain⟨v,H',h1,h2⟩:=TU hc h;refine⟨v,H',h1,λS E bJ hr hgl hl=>?_⟩;obtain⟨S1,a1,a2,a3⟩:=FK (t0:=c.t) (sg:=c.sg) _ (λid hid=>by
  have:=aK.1 hm id hid;simpa[aG.nO,bu] using this) hr S.le_refl (St.refl S H E)
 obtain⟨S2,vE,E',b1,b2,b3,b4,b5⟩:=h2 S1 E bJ a2 (hgl.mono a1) (hl.mono a1);exact⟨S2,vE,E',b1,Wo.le_trans a1 b2,b3,b4,a3.trans b5⟩
theorem nP {kn:Ev.fe}{id:FuncId}(hk:∀args,kn id args=none){call:∀ β,cI β}(hcall:∀ β,cX X (dR X kn) (call β)){g:List AV->List Row->Option (Bool×AV×List Row)}
 (h:∀args rows v outs,g args rows=some (true,v,outs)->∃(an:ei) (rounds:Nat),aT X (call (AV×List Row)) an rounds id args (eU (s6 rows) rows) gG=some (v,outs)):j7 X (dR X kn) id g:=by
 intro args rows v outs hg p S E bJ hp hr hgl hl;subst hp;obtain⟨an,rounds,hrun⟩:=h args rows v outs hg;obtain⟨v1,H1,h1,h2⟩:=lp (nf:=false) (hcall _) (λh=>by cases h) hrun;obtain⟨S1,vE,E',a1,a2,a3,a4,_⟩:=h2 S E bJ hr hgl hl;obtain⟨S2,b1,b2,b3⟩:=P0 h1 a3 a2;have hpar:H1.par=s6 rows:=a4.y9.trans (uK _ _).2.2.1;rw[hpar]at b2 b3;exact⟨S2,vE,E',gi hk a1,b1,b2,a4.trans b3⟩
def AY {β:Type}(it:List UInt8->List (List UInt8))(args:List AV)(H:aG)(k:AV->aG->Option β):Option β :=
 match args with
 |[.ptr id 0]=>match H.get id with
  |some (.cells _ [.str s])=>ah (H.nO id&&Nat.ble s.length 2000000) (k (.fH (.j5::(it s).map .str)) (H.put id .dead)) none
  |_=>none
 |_=>none
def P5 (X:ij)(kn:Ev.fe)(f:FuncId)(it:List UInt8->List (List UInt8)):Prop :=
 X.P.funcs[f]? = none/\(∀i,kn f [.pointer (some ⟨i,0,none⟩)]=none)/\∀s:List UInt8,s.length<=2000000->kn f [Ev.iB,.string ⟨s.toArray⟩]=some (.tuple ((it s).map λx=>Value.string ⟨x.toArray⟩).toArray)
theorem H6:∀(l:List (List UInt8)),Ev.cG (l.map λx=>Value.string ⟨x.toArray⟩)=true
 |[]=>rfl
 |x::l=>by
  have:=H6 l;simpa[Ev.cG,Ev.aZ] using this
theorem abV {kn:Ev.fe}{f:FuncId}{it:List UInt8->List (List UInt8)}(hi:P5 X kn f it){β:Type}{args:List AV}{H:aG}{k:AV->aG->Option β}{r:β}(h:AY it args H k=some r):∃v H',k v H'=some r/\Jd X (dR X kn) f args H v H':=by
 obtain⟨i1,i2,i3⟩:=hi;unfold AY at h;split at h;case h_2=>cases h
 rename_i id;split at h;case h_2=>cases h
 rename_i t s Km;rw[ax]at h;split at h;case isFalse=>cases h
 rename_i hc;simp only[ak]at hc;obtain⟨hmay,hlen⟩:=hc;have hlen:=az hlen;refine⟨_,_,h,λS E bJ hr hg hl=>?_⟩;obtain⟨x,rfl,hx⟩:=LV.single hl;obtain⟨i0,c0,s0,b,q1,q2,q3,q4,q5⟩:=hr.row id _ Km;cases hx with
 |ptr _ _ i c s1 hρ =>
  rw[q1]at hρ;cases hρ;obtain⟨y,m',hb,hy,hm'⟩:=q3.cons_inv;have hm':=hm'.jx;subst hm';rw[hy.jw]at hb;have hmay':H.lk<=id:=by simpa[aG.nO,bu] using hmay
  have hlk:=hr.lk id _ _ Km hmay' q1;obtain⟨E1,hE1⟩:=Mem.jc (b:={ b with live:=false,fix:=false }) (lq q2) hlk;have fh:Ev.kill E i0=some E1:=by unfold Ev.kill;rw[(dF q2).1];exact hE1
  obtain⟨z1,z2,z3,z4,z5⟩:=Ev.nM fh;obtain⟨m1,m2⟩:=hr.mod (S':=S) (E':=E1) (r':=.dead) Km rfl S.le_refl rfl (λ_ _ _=>rfl) z1 z2 (λj hj=>z4 j (hj _ q1)) (λj cs h=>.inl h) (λq hq=>by cases hq);have Yh:LV S (.j5::(it s).map .str) (Ev.iB::(it s).map λx=>Value.string ⟨x.toArray⟩):=LV.cons (.j5 _) (LV.map _ λx _=>.str x);refine⟨S,.tuple (Ev.iB::(it s).map λx=>Value.string ⟨x.toArray⟩).toArray,E1,⟨1,λn hn'=>?_⟩,S.le_refl,.fH _ _ Yh.1 Yh.2,m1,m2⟩;obtain⟨R,D⟩:=n;obtain⟨D',rfl⟩:∃D',D=D'+1:=⟨D-1,by have:=hn'.2;simp only at this;omega⟩
  show Ev.nR X.P X.G kn R (D'+1) f _ E=_;rw[Ev.lX,i2];have e1:Ev.oL X.P kn f [.pointer (some ⟨i0,0,none⟩)] E=none:=rfl;have e2:Ev.lR X.P X.G (Ev.nR X.P X.G kn R D') R f [.pointer (some ⟨i0,0,none⟩)] E=none:=by unfold Ev.lR;rw[i1]
  have e3:Ev.yR X.P kn f [.pointer (some ⟨i0,0,none⟩)] E=some (.tuple (Ev.iB::(it s).map λx=>Value.string ⟨x.toArray⟩).toArray,E1):=by
   unfold Ev.yR;simp only[i1,q2,hb,i3 s hlen,fh,ax];have:=H6 (it s);simp[this]
  simp only[e1,e2,e3,Ev.nK]
abbrev AZ:=FuncId×MU
def ahz (l:List AZ):FuncId->Option MU:=λf=>List.rec (motive:=λ_=>Option MU) none (λe _ r=>ah (Nat.beq f e.1) (some e.2) r) l
def pX (X:ij)(cf:Nat×Nat->Ev.cH)(l:List AZ):Prop:=∀id c,ahz l id=some c->j7 X cf id c.g
theorem pX.nil {cf:Nat×Nat->Ev.cH}:pX X cf []:=λ_ _ h=>by cases h
theorem pX.cons {cf:Nat×Nat->Ev.cH}{f:FuncId}{c:MU}{l:List AZ}(h:j7 X cf f c.g)(t:pX X cf l):pX X cf ((f,c)::l):=λid c' hk=>by
 have hk2:ah (Nat.beq id f) (some c) (ahz l id)=some c':=hk;clear hk;rw[ax]at hk2;split at hk2
 .rename_i hf;obtain rfl:=bf hf;have zn:c=c':=bL hk2;subst zn;exact h
 exact t id c' hk2
abbrev ItT:=FuncId->Option (List UInt8->List (List UInt8))
def Yi (X:ij)(K:Up)(KN:KTN)(KG:FuncId->Option MU)(KI:ItT)(inl:FuncId->Bool)(rounds:Nat)(β:Type):Nat->cI β :=
 λn=>Nat.rec (motive:=λ_=>cI β) (λ_ _ _ _=>none)
  (λ_ go id args H k=>ah (X.kl id) (CC X args H k) (match K id with
   |some (sig,g)=>tG sig g args H k
   |none=>match KN id with
    |some c=>Hw c args H k
    |none=>match KG id with
     |some c=>RB c args H k
     |none=>match KI id with
      |some it=>AY it args H k
      |none=>ah (inl id) (aT X go ⟨.none,.none,X.trs id⟩ rounds id args H k) none)) n
theorem Yj {kn:Ev.fe}{K:Up}{KN:KTN}{KG:FuncId->Option MU}{KI:ItT}{inl:FuncId->Bool}(hK:∀id sig g,K id=some (sig,g)->dc X (dR X kn) id g)(hN:∀id c,KN id=some c->gy X (dR X kn) id c)(hG:∀id c,KG id=some c->j7 X (dR X kn) id c.g)(hI:∀id it,KI id=some it->P5 X kn id it)
 (hi:∀id,inl id=true->∀args,kn id args=none) (rounds:Nat) (n:Nat) (β:Type) (hkl:afx X kn:=by exact λ_ h=>Bool.noConfusion (show false=true from h)):cX X (dR X kn) (Yi X K KN KG KI inl rounds β n):=by
 induction n with
 |zero=>exact λf args H k r h=>by cases h
 |succ n ih =>
  intro f args H k r h;have h:ah (X.kl f) (CC X args H k) (match K f with
   |some (sig,g)=>tG sig g args H k
   |none=>match KN f with
    |some c=>Hw c args H k
    |none=>match KG f with
     |some c=>RB c args H k
     |none=>match KI f with
      |some it=>AY it args H k
      |none=>ah (inl f) (aT X (Yi X K KN KG KI inl rounds β n) ⟨.none,.none,X.trs f⟩ rounds f args H k) none)=some r:=h
  rw[ax]at h;split at h
  .rename_i hf;exact EE (hkl f hf) h
  split at h
  .rename_i sig g hk;exact zl (hK f sig g hk) h
  split at h
  .rename_i c hc;exact Mj (hN f c hc) h
  split at h
  .rename_i c hc;exact Yg (hG f c hc) h
  split at h
  .rename_i it hit;exact abV (hI f it hit) h
  rw[ax]at h;split at h
  .rename_i hin;obtain⟨v,H',h1,h2⟩:=lp (nf:=true) ih (λ_=>⟨rfl,rfl⟩) h;refine⟨v,H',h1,λS E bJ hr hg hl=>?_⟩;obtain⟨S',vE,E',a1,a2,a3,a4,a5⟩:=h2 S E bJ hr hg hl;exact⟨S',vE,E',gi (hi f hin) a1,(a5 rfl).1,a2,a3,(a5 rfl).2⟩
  cases h
end
end
end Go.Tv
