/- Contracts of functions that are handed a pointer to a row of theirs, and hand back lists in lists. What a run is seen to hand back: lists in structs, cells behind a pointer. Calls that are handed rows of several kinds, by contracts: what is reached goes, and comes back. -/
import Derived.Test.YtfggompceldfgaaGreatDoorLyg
set_option linter.unusedVariables false
set_option linter.unusedSimpArgs false

namespace Go.Tv
open Go.Ev (Tr ah iD Mem jz alive av dD)
noncomputable section
def Ok:AV->Bool
 |.int _ _=>true
 |.bool _=>true
 |.str _=>true
 |.pZ _=>true
 |.dg=>true
 |.nX=>true
 |.dW _ _=>true
 |.fn _ [] []=>true
 |_=>false
def FN:AV->Bool
 |.agg l=>l.all Ok
 |v=>Ok v
inductive fK where
 |val (v:AV)
 |list (t:TypeId) (e:Ty) (l:List e.den)
theorem VX {S S':Wo}(hF:∀i x,S.F i=some x->S'.F i=some x){v:AV}{x:Value}(h:FN v=true)(hv:VR S v x):VR S' v x:=by
 have one:∀{v:AV} {x:Value},Ok v=true->VR S v x->VR S' v x:=λh hv=>by
  cases hv with
  |int=>exact .int _ _
  |bool=>exact .bool _
  |str=>exact .str _
  |pZ=>exact .pZ _
  |dg=>exact .dg
  |nX=>exact .nX
  |dW e l _ h=>exact .dW e l _ (h.mono hF)
  |fn f a b a' b' ha hb va vb =>
   match a,b,h with
   |[],[],_=>exact .fn f [] [] a' b' ha hb (λj x y hx=>by cases hx) (λj x y hx=>by cases hx)
  |_=>cases h
 cases hv with
 |fn f a b a' b' ha hb va vb=>exact one h (.fn f a b a' b' ha hb va vb)
 |agg l m hl hm=>exact .agg l m hl λj a b ha hb=>one (aP.1 h a (bg ha)) (hm j a b ha hb)
 |int k n=>exact one h (.int k n)
 |bool b=>exact one h (.bool b)
 |str s=>exact one h (.str s)
 |pZ n=>exact one h (.pZ n)
 |dg=>exact .dg
 |nX=>exact .nX
 |dW e l _ h=>exact .dW e l _ (h.mono hF)
 |_=>cases h
def ku:List fK->aH->List AV×aH
 |[],H=>([],H)
 |.val v::rs,H=>(v::(ku rs H).1,(ku rs H).2)
 |.list t e l::rs,H=>(.own H.next l.length::(ku rs (H.push (.list t e l 0 false false))).1,(ku rs (H.push (.list t e l 0 false false))).2)
def qR (M:aH):List Nat->List AV->List fK->Prop
 |_,[],[]=>True
 |seen,v::vs,.val w::rs=>v=w/\FN w=true/\qR M seen vs rs
 |seen,v::vs,.list t e l::rs=>(∃id gu ex,v = .own id l.length/\M.get id=some (.list t e l gu ex false)/\id ∉ seen/\qR M (id::seen) vs rs)\/(v = .dg/\l=[]/\qR M seen vs rs)
 |_,_,_=>False
def acr (S:Wo)(H:aH)(E:Mem)(EG:Nat->Prop)(rs:List fK)(xs:List Value):Prop :=
 ∃S',S.le S'/\LV S' (ku rs H).1 xs/\Rel S' (ku rs H).2 E/\S'.F=S.F/\H.next<=(ku rs H).2.next/\(ku rs H).2.lk=H.lk/\(ku rs H).2.par=H.par /\
  (∀id,id<H.next->(ku rs H).2.get id=H.get id/\S'.ρ id=S.ρ id)/\(∀id q z,H.next<=id->(ku rs H).2.get id=some q->S'.ρ id=some z->EG z.1)
theorem Qq {S1:Wo}{M1:aH}{E:Mem}(Ef:Rel S1 M1 E)(EG:Nat->Prop)(hlk:M1.lk=0):∀{vs:List AV} {rs:List fK} {seen:List Nat} {xs:List Value} {S:Wo} {H:aH},qR M1 seen vs rs->LV S1 vs xs->Rel S H E->S.F=S1.F ->
 (∀id r y,M1.get id=some r->id ∉ seen->S1.ρ id=some y->r.AJ=false->EG y.1/\∀C8 q z,H.get C8=some q->S.ρ C8=some z->z.1≠y.1) ->
 acr S H E EG rs xs
 |[],[],seen,xs,S,H,_,hl,hr,hF,hown=>by
  rw[hl.jq];exact⟨S,S.le_refl,LV.nil,hr,rfl,aG _,rfl,rfl,λ_ _=>⟨rfl,rfl⟩,λid q z hid hq _=>absurd (aH.eJ hq) (by show ¬id<H.next;omega)⟩
 |v::vs,r0::rs,seen,xs,S,H,h,hl,hr,hF,hown=>by
  obtain⟨x,xs',rfl,h1,h2⟩:=hl.cons_inv;have od:∀v,S.Γ H.next v=none:=λv=>hr.CE _ _ (aG _)
  have go:∀(t:TypeId) (e:Ty) (l:List e.den) (seen':List Nat) (y:Option (Nat×Nat×Nat)),r0 = .list t e l->qR M1 seen' vs rs->S.le (S.new H.next y (some ⟨e,l⟩))->Rel (S.new H.next y (some ⟨e,l⟩)) (H.push (.list t e l 0 false false)) E->VR (S.new H.next y (some ⟨e,l⟩)) (.own H.next l.length) x ->
   (∀z,y=some z->EG z.1/\∃CH y1 r1,CH∈seen'/\S1.ρ CH=some y1/\y1.1=z.1/\M1.get CH=some r1)->(∀id,id∈seen->id∈seen')->acr S H E EG (r0::rs) (x::xs'):=λt e l seen' y Tn hres hle hrel Ze hy hsub=>by
   subst Tn;obtain⟨p1,p2,p3,p4⟩:=aH.dL H (.list t e l 0 false false);have hown':∀id r y',M1.get id=some r->id ∉ seen'->S1.ρ id=some y'->r.AJ=false->EG y'.1/\∀C8 q z,(H.push (.list t e l 0 false false)).get C8=some q->(S.new H.next y (some ⟨e,l⟩)).ρ C8=some z->z.1≠y'.1:=λid r y' hg hns hρ hro=>by
    obtain⟨k1,k2⟩:=hown id r y' hg (λhm=>hns (hsub _ hm)) hρ hro;refine⟨k1,λC8 q z hq hz=>?_⟩;rw[p4]at hq;by_cases hid:C8=H.next
    .subst hid;have hz:y=some z:=by rw[<-hz];exact(ag rfl).symm
     obtain⟨_,CH,y1,r1,b1,b2,b3,b4⟩:=hy z hz;intro he;have:=Ef.inj CH id r1 r y1 y' b4 hg b2 hρ (by omega);subst this;exact hns b1
    rw[aa hid]at hq;have hz:S.ρ C8=some z:=by rw[<-hz];exact(aa hid).symm
    exact k2 C8 q z hq hz
   obtain⟨S',a1,a2,a3,a4,a5,a6,a7,a8,a9⟩:=Qq Ef EG hlk hres h2 hrel hF hown';rw[p1]at a5 a8 a9;rw[p2]at a6;rw[p3]at a7;refine⟨S',Wo.le_trans hle a1,LV.cons (Ze.mono a1) a2,a3,a4,bz (fC _) a5,a6,a7,λid hid=>?_,λid q z hid hq hz=>?_⟩
   .obtain ⟨b1,b2⟩:=a8 id (by omega);exact⟨b1.trans (by rw[p4,aa (by omega)]),b2.trans (aa (by omega))⟩
   by_cases hid':id=H.next
   .subst hid';have:S'.ρ H.next=(S.new H.next y (some ⟨e,l⟩)).ρ H.next:=(a8 H.next (by omega)).2
    rw[this]at hz;have hz:y=some z:=by rw[<-hz];exact(ag rfl).symm
    exact(hy z hz).1
   exact a9 id q z (by omega) hq hz
  cases r0 with
  |val w =>
   obtain⟨rfl,hs,h⟩:=h;obtain⟨S',a1,a2,a3,a4⟩:=Qq Ef EG hlk h h2 hr hF hown;exact⟨S',a1,LV.cons (VX (λi x hx=>by rw[a4.1,hF];exact hx) hs h1) a2,a3,a4⟩
  |list t e l =>
   rcases h with⟨id,gu,ex,rfl,hg,hns,h⟩|⟨rfl,rfl,h⟩
   .obtain ⟨g1,⟨g0,g,g2,g2'⟩,g3⟩:=Ef.row id _ hg;generalize KU:l.length=n at h1;cases h1 with
    |own _ _ i0 p5 s0 hρ g' hg' hn' =>
     rcases g3 with⟨_,g5,_⟩|⟨i',cap,b,mid,post,q1,q2,q3,q4,q5,q6,q7,q8,q9,xV⟩
     .rw[hρ]at g5;cases g5
     rw[hρ]at q1;cases q1;subst KU;obtain⟨f1,f2⟩:=hown id _ _ hg hns hρ rfl;obtain⟨b1,b2⟩:=hr.yf (r:=.list t e l 0 false false) (x:=some (i0,p5,e.size)) (g:=some ⟨e,l⟩) (λr' hr'=>by
      cases hr';exact kX od q2 q3 q4 (by rw[hF];exact q5) q6 q7 q8 (λh=>by cases h) (by rw[hF];exact xV.2)) (λy hy=>by
       cases hy;exact⟨f2,by rw[hF];exact Ef.sep id _ _ hg rfl hρ,Ef.lk id _ _ hg (by omega) hρ⟩)
     refine go t e l (id::seen) _ rfl h b1 b2 (.own _ _ i0 p5 e.size (ag rfl) ⟨e,l⟩ (ag ⟨rfl,rfl⟩) rfl) (λz hz=>?_) (λid hid=>bE _ hid);cases hz;exact⟨f1,id,_,_,cE,hρ,rfl,hg⟩
    |fY _ g' hg' hn' =>
     have hl0:l=[]:=aQ.1 KU;subst hl0;obtain⟨b1,b2⟩:=hr.yf (r:=.list t e [] 0 false false) (x:=none) (g:=some ⟨e,[]⟩) (λr' hr'=>by cases hr';exact kY od) (λy hy=>by cases hy);exact go t e [] (id::seen) none rfl h b1 b2 (.fY _ ⟨e,[]⟩ (ag ⟨rfl,rfl⟩) rfl) (λz hz=>by cases hz) (λid hid=>bE _ hid)
   cases h1;obtain⟨b1,b2⟩:=hr.yf (r:=.list t e [] 0 false false) (x:=none) (g:=some ⟨e,[]⟩) (λr' hr'=>by cases hr';exact kY od) (λy hy=>by cases hy);exact go t e [] seen none rfl h b1 b2 (.fY _ ⟨e,[]⟩ (ag ⟨rfl,rfl⟩) rfl) (λz hz=>by cases hz) (λid hid=>hid)
theorem Rel.putAt {S:Wo}{H:aH}{E:Mem}(h:Rel S H E){id:Nat}{r:Row}(hid:id<H.next)(hro:r.AJ=false)(hr:∀r',r.live=some r'->oS S E id r')
 (hx:∀y,S.ρ id=some y->(∀id' q z,H.get id'=some q->id'≠id->S.ρ id'=some z->z.1≠y.1)/\S.F y.1=none/\E.lk<=y.1):Rel S (H.put id r) E:=by
 obtain⟨p1,p2,p3,p4⟩:=aH.gq H id r;have oH:∀j q,(H.put id r).get j=some q->(j=id/\r.live=some q)\/(j≠id/\H.get j=some q):=λj q hj=>by
  rw[p4]at hj;by_cases e:j=id
  .rw[ag e,ag hid]at hj;exact .inl ⟨e,hj⟩
  rw[aa e]at hj;exact .inr ⟨e,hj⟩
 refine⟨h.fz,λj y hy=>by rw[p1];exact h.dom j y hy,λj v hj=>by rw[p1]at hj;exact h.CE j v hj,λj q hj=>?_,λj j' q q' y y' hj hj' hy hy' he=>?_,λj q y hj hb hy=>?_,λj q y hj hl hy=>?_,by rw[p1,p2];exact h.zi,by rw[p1,p3];exact h.KM,h.Gh⟩
 .rcases oH j q hj with⟨rfl,h1⟩|⟨_,h1⟩
  .exact hr q h1
  exact h.row j q h1
 .rcases oH j q hj with⟨rfl,h1⟩|⟨e1,h1⟩<;>rcases oH j' q' hj' with⟨rfl,h2⟩|⟨e2,h2⟩
  .rfl
  .exact absurd he.symm ((hx y hy).1 j' q' y' h2 e2 hy')
  .exact absurd he ((hx y' hy').1 j q y h1 e1 hy)
  exact h.inj j j' q q' y y' h1 h2 hy hy' he
 .rcases oH j q hj with⟨rfl,h1⟩|⟨_,h1⟩
  .exact (hx y hy).2.1
  exact h.sep j q y h1 hb hy
 rcases oH j q hj with⟨rfl,h1⟩|⟨_,h1⟩
 .exact (hx y hy).2.2
 rw[p2]at hl;exact h.lk j q y h1 hl hy
def cellsIn:Nat->List fK->List AV
 |_,[]=>[]
 |n,.val v::rs=>v::cellsIn n rs
 |n,.list _ _ l::rs=>.own n l.length::cellsIn (n+1) rs
def cO:aH->List fK->aH
 |M,[]=>M
 |M,.val _::rs=>cO M rs
 |M,.list t e l::rs=>cO (M.push (.list t e l 0 false false)) rs
def jg (t:TypeId)(n:Nat)(rs:List fK):aH:=cO ⟨1,0,1,(aH.empty.push (.cells t ((cellsIn 1 rs).take n))).t⟩ rs
def iJ:aH->List (Option (TypeId×Ty))->List AV->Option (List AV×aH)
 |H,[],[]=>some ([],H)
 |H,none::sig,a::cs=>match jn H [a] with
  |some ([a'],H1)=>match iJ H1 sig cs with
   |some (l,H2)=>some (a'::l,H2)
   |none=>none
  |_=>none
 |H,some _::sig,a::cs=>match iJ H sig cs with
  |some (l,H2)=>some (a::l,H2)
  |none=>none
 |_,_,_=>none
def gy:aH->List (Option (TypeId×Ty))->List AV->Option (List fK×aH)
 |H,[],[]=>some ([],H)
 |H,none::sig,a::cs=>ah (FN a) (match gy H sig cs with
  |some (rs,H')=>some (.val a::rs,H')
  |none=>none) none
 |H,some (t,e)::sig,.dg::cs=>match gy H sig cs with
  |some (rs,H')=>some (.list t e []::rs,H')
  |none=>none
 |H,some (t,e)::sig,.own id _::cs=>match H.get id with
  |some (.list t' e' l _ _ false)=>ah (H.nH id&&Nat.beq t' t) (match iq e' e l with
   |some l'=>match gy (H.put id .dead) sig cs with
    |some (rs,H')=>some (.list t e l'::rs,H')
    |none=>none
   |none=>none) none
  |_=>none
 |_,_,_=>none
theorem Dc {S0:Wo}{H0:aH}{E:Mem}:∀{sig:List (Option (TypeId×Ty))} {cs cs':List AV} {H H':aH} {S:Wo} {C:List Value},Rel S H E->S0.le S->St S0 H0 E S H E->LV S cs C->iJ H sig cs=some (cs',H')->∃S',S0.le S'/\Rel S' H' E/\St S0 H0 E S' H' E/\LV S' cs' C/\S.le S'
 |[],[],cs',H,H',S,C,hr,hle,hst,hl,h=>by
  simp only[iJ,aq,ax]at h;obtain⟨rfl,rfl⟩:=h;exact⟨S,hle,hr,hst,hl,S.le_refl⟩
 |none::sig,a::cs,cs',H,H',S,C,hr,hle,hst,hl,h=>by
  obtain⟨x,C',rfl,h1,h2⟩:=hl.cons_inv;unfold iJ at h;split at h
  .rename_i a' H1 hf;obtain⟨S1,b1,b2,b3,b4,b5⟩:=oI hr hle hst (LV.cons h1 LV.nil) hf;obtain⟨x',_,e,b6,_⟩:=b4.cons_inv;cases e;split at h
   .rename_i l H2 hg;simp only[aq,ax]at h;obtain⟨rfl,rfl⟩:=h;obtain⟨S2,c1,c2,c3,c4,c5⟩:=Dc b2 b1 b3 (h2.mono b5) hg;exact⟨S2,c1,c2,c3,LV.cons (b6.mono c5) c4,Wo.le_trans b5 c5⟩
   cases h
  cases h
 |some _::sig,a::cs,cs',H,H',S,C,hr,hle,hst,hl,h=>by
  obtain⟨x,C',rfl,h1,h2⟩:=hl.cons_inv;unfold iJ at h;split at h
  .rename_i l H2 hg;simp only[aq,ax]at h;obtain⟨rfl,rfl⟩:=h;obtain⟨S2,c1,c2,c3,c4,c5⟩:=Dc hr hle hst h2 hg;exact⟨S2,c1,c2,c3,LV.cons (h1.mono c5) c4,c5⟩
  cases h
 |[],_::_,_,_,_,_,_,_,_,_,_,h=>by simp[iJ]at h
 |none::_,[],_,_,_,_,_,_,_,_,_,h=>by simp[iJ]at h
 |some _::_,[],_,_,_,_,_,_,_,_,_,h=>by simp[iJ]at h
structure rK (H H':aH):Prop where
 next:H'.next=H.next
 lk:H'.lk=H.lk
 par:H'.par=H.par
 get:∀j r,H'.get j=some r->H.get j=some r
theorem rK.refl (H:aH):rK H H:=⟨rfl,rfl,rfl,λ_ _ h=>h⟩
theorem rK.trans {a b c:aH}(h:rK a b)(k:rK b c):rK a c:=⟨k.next.trans h.next,k.lk.trans h.lk,k.par.trans h.par,λj r hj=>h.get j r (k.get j r hj)⟩
theorem rK.dead (H:aH)(id:Nat):rK H (H.put id .dead):=by
 obtain⟨p1,p2,p3,p4⟩:=aH.gq H id .dead;refine⟨p1,p2,p3,λj r hj=>?_⟩;rw[p4]at hj;by_cases e:j=id
 .rw[ag e]at hj;split at hj<;>cases hj
 rw[aa e]at hj;exact hj
theorem LH (H:aH)(id:Nat):(H.put id .dead).get id=none:=by
 rw[(aH.gq H id .dead).2.2.2,ag rfl];split<;>rfl
def vD (S:Wo)(H H':aH)(i:Nat):Prop:=∃id r z,H.get id=some r/\r.AJ=false/\S.ρ id=some z/\z.1=i/\H'.get id=none
theorem vD.later {S:Wo}{H H' H'':aH}{i:Nat}(h:vD S H H' i)(k:rK H' H''):vD S H H'' i:=by
 obtain⟨id,r,z,h1,h2,h3,h4,h5⟩:=h;refine⟨id,r,z,h1,h2,h3,h4,?_⟩;cases hg:H''.get id with
 |none=>rfl
 |some q=>rw[k.get id q hg]at h5;cases h5
theorem vD.ZR {S:Wo}{H0 H H':aH}{i:Nat}(h:vD S H H' i)(k:rK H0 H):vD S H0 H' i:=by
 obtain⟨id,r,z,h1,h2⟩:=h;exact⟨id,r,z,k.get _ _ h1,h2⟩
theorem Ad {S:Wo}{H0:aH}{E:Mem}(hr:Rel S H0 E):∀{sig:List (Option (TypeId×Ty))} {cs:List AV} {rs:List fK} {H H' M:aH} {S0:Wo} {C:List Value},rK H0 H->gy H sig cs=some (rs,H')->LV S cs C->Rel S0 M E->S0.F=S.F->M.lk=0 ->
 (∀j q y,M.get j=some q->S0.ρ j=some y->∀id q' z,H.get id=some q'->q'.AJ=false->(∃t e l v x,q' = .list t e l v x false)->S.ρ id=some z->z.1≠y.1) ->
 rK H H'/\rs.length=cs.length/\rs.length=sig.length/\∃S0',S0.le S0'/\Rel S0' (cO M rs) E/\LV S0' (cellsIn M.next rs) C/\S0'.F=S0.F/\M.next<=(cO M rs).next/\(cO M rs).lk=0/\(cO M rs).par=M.par /\
  (∀j,j<M.next->(cO M rs).get j=M.get j/\S0'.ρ j=S0.ρ j)/\(∀j q y,M.next<=j->(cO M rs).get j=some q->S0'.ρ j=some y->vD S H H' y.1/\(∃t e l v x,q = .list t e l v x false))
 |[],[],rs,H,H',M,S0,C,hgo,h,hl,hm,hF,hlk,hown=>by
  simp only[gy,aq,ax]at h;obtain⟨rfl,rfl⟩:=h;rw[hl.jq];exact⟨rK.refl _,rfl,rfl,S0,S0.le_refl,hm,LV.nil,rfl,aG _,hlk,rfl,λ_ _=>⟨rfl,rfl⟩,λj q y hj hq _=>absurd (aH.eJ hq) (by show ¬j<M.next;omega)⟩
 |none::sig,a::cs,rs,H,H',M,S0,C,hgo,h,hl,hm,hF,hlk,hown=>by
  obtain⟨x,C',rfl,h1,h2⟩:=hl.cons_inv;unfold gy at h;rw[av]at h;split at h
  .rename_i Pu;split at h
   .rename_i rs' H1 hi;simp only[aq,ax]at h;obtain⟨rfl,rfl⟩:=h;obtain⟨g1,g2,g2',S0',a1,a2,a3,a4,a5⟩:=Ad hr hgo hi h2 hm hF hlk hown;exact⟨g1,by simp[g2],by simp[g2'],S0',a1,a2,LV.cons (VX (λi x hx=>by rw[a4,hF];exact hx) Pu h1) a3,a4,a5⟩
   cases h
  cases h
 |some (t,e)::sig,a::cs,rs,H,H',M,S0,C,hgo,h,hl,hm,hF,hlk,hown=>by
  obtain⟨x,C',rfl,h1,h2⟩:=hl.cons_inv;have od:∀v,S0.Γ M.next v=none:=λv=>hm.CE _ _ (aG _)
  have go:∀(l:List e.den) (rs':List fK) (H1:aH) (y:Option (Nat×Nat×Nat)),rK H H1->gy H1 sig cs=some (rs',H')->rs = .list t e l::rs'->S0.le (S0.new M.next y (some ⟨e,l⟩))->Rel (S0.new M.next y (some ⟨e,l⟩)) (M.push (.list t e l 0 false false)) E->VR (S0.new M.next y (some ⟨e,l⟩)) (.own M.next l.length) x ->
   (∀z,y=some z->vD S H H1 z.1) ->
   rK H H'/\rs.length=(a::cs).length/\rs.length=(some (t,e)::sig).length/\∃S0',S0.le S0'/\Rel S0' (cO M rs) E/\LV S0' (cellsIn M.next rs) (x::C')/\S0'.F=S0.F/\M.next<=(cO M rs).next/\(cO M rs).lk=0/\(cO M rs).par=M.par /\
    (∀j,j<M.next->(cO M rs).get j=M.get j/\S0'.ρ j=S0.ρ j)/\(∀j q y,M.next<=j->(cO M rs).get j=some q->S0'.ρ j=some y->vD S H H' y.1/\(∃t e l v x,q = .list t e l v x false)):=by
   intro l rs' H1 y hg1 hi JZ hle hrel Ze hy;subst JZ;obtain⟨p1,p2,p3,p4⟩:=aH.dL M (.list t e l 0 false false);obtain⟨g1,g2,g2',S0',a1,a2,a3,a4,a5,a6,a7,a8,a9⟩:=Ad hr (hgo.trans hg1) hi h2 hrel hF (by rw[p2];exact hlk) (λj q y' hj hy' id q' z hq' hro hls hz=>by
    rw[p4]at hj;by_cases ej:j=M.next
    .subst ej;have hz':y=some y':=by rw[<-hy'];exact(ag rfl).symm
     obtain⟨C8,r2,z2,k1,k2,k3,k4,k5⟩:=hy y' hz';intro he;have:=hr.inj id C8 q' r2 z z2 (hgo.get _ _ (hg1.get _ _ hq')) (hgo.get _ _ k1) hz k3 (by omega);subst this;rw[hq']at k5;cases k5
    rw[aa ej]at hj;have hy'':S0.ρ j=some y':=by rw[<-hy'];exact(aa ej).symm
    exact hown j q y' hj hy'' id q' z (hg1.get _ _ hq') hro hls hz)
   rw[p1]at a3 a5 a8 a9;rw[p3]at a7;refine⟨hg1.trans g1,by simp[g2],by simp[g2'],S0',Wo.le_trans hle a1,a2,LV.cons (Ze.mono a1) a3,a4,bz (fC _) a5,a6,a7,λj hj=>?_,λj q y' hj hq hy'=>?_⟩
   .obtain ⟨b1,b2⟩:=a8 j (by omega);exact⟨b1.trans (by rw[p4,aa (by omega)]),b2.trans (aa (by omega))⟩
   by_cases ej:j=M.next
   .subst ej;obtain⟨b1,b2⟩:=a8 M.next (by omega)
    have b2':S0'.ρ M.next=y:=b2.trans (ag rfl)
    rw[b2']at hy';have b1':(cO M (.list t e l::rs')).get M.next=some (.list t e l 0 false false):=by
     have:(cO (M.push (.list t e l 0 false false)) rs').get M.next=some (.list t e l 0 false false):=b1.trans (by rw[p4,ag rfl];rfl)
     exact this
    rw[b1']at hq;cases hq;exact⟨(hy y' hy').later g1,_,_,_,_,_,rfl⟩
   obtain⟨b1,b2⟩:=a9 j q y' (by omega) hq hy';exact⟨b1.ZR hg1,b2⟩
  cases a with
  |dg =>
   unfold gy at h;split at h
   .rename_i rs' H1 hi;simp only[aq,ax]at h;obtain⟨rfl,rfl⟩:=h;cases h1;obtain⟨b1,b2⟩:=hm.yf (r:=.list t e [] 0 false false) (x:=none) (g:=some ⟨e,[]⟩) (λr' hr'=>by cases hr';exact kY od) (λy hy=>by cases hy);exact go [] rs' H none (rK.refl _) hi rfl b1 b2 (.fY _ ⟨e,[]⟩ (ag ⟨rfl,rfl⟩) rfl) (λz hz=>by cases hz)
   cases h
  |own id n =>
   unfold gy at h;split at h
   .rename_i t' e' l gu ex hg;rw[av]at h;split at h
    .rename_i hmay;simp only[ak,aN]at hmay;obtain⟨hmay,rfl⟩:=hmay;split at h
     .rename_i l' nY;split at h
      .rename_i rs' H1 hi;simp only[aq,ax]at h;obtain⟨rfl,rfl⟩:=h;obtain⟨he,hc⟩:=bT nY;subst he;have hc:l=l':=hc;subst hc;have JM:=hgo.get _ _ hg;obtain⟨g1,⟨g0,g,g2,g2'⟩,g3⟩:=hr.row id _ JM;cases h1 with
       |own _ _ i0 p5 s0 hρ g' hg' hn' =>
        rw[g2]at hg';cases hg';rcases g3 with⟨_,g5,_⟩|⟨i',cap,b,mid,post,q1,q2,q3,q4,q5,q6,q7,q8,q9,xV⟩
        .rw[hρ]at g5;cases g5
        rw[hρ]at q1;cases q1;have hn:n=l.length:=by omega
        subst hn;obtain⟨b1,b2⟩:=hm.yf (r:=.list t' e' l 0 false false) (x:=some (i0,p5,e'.size)) (g:=some ⟨e',l⟩) (λr' hr'=>by
         cases hr';exact kX od q2 q3 q4 (by rw[hF];exact q5) q6 q7 q8 (λh=>by cases h) (by rw[hF];exact xV.2)) (λy hy=>by
          cases hy;refine⟨λj q z hj hz he=>hown j q z hj hz id _ _ hg rfl ⟨_,_,_,_,_,rfl⟩ hρ he.symm,by rw[hF];exact hr.sep id _ _ JM rfl hρ,hr.lk id _ _ JM (by have:=hgo.lk;simp only[aH.nH,br]at hmay;omega) hρ⟩)
        exact go l rs' (H.put id .dead) _ (rK.dead H id) hi rfl b1 b2 (.own _ _ i0 p5 e'.size (ag rfl) ⟨e',l⟩ (ag ⟨rfl,rfl⟩) rfl) (λz hz=>by
         cases hz;exact⟨id,_,_,hg,rfl,hρ,rfl,LH H id⟩)
       |fY _ g' hg' hn' =>
        rw[g2]at hg';cases hg';have h0:l=[]:=aQ.1 (by omega);subst h0;obtain⟨b1,b2⟩:=hm.yf (r:=.list t' e' [] 0 false false) (x:=none) (g:=some ⟨e',[]⟩) (λr' hr'=>by cases hr';exact kY od) (λy hy=>by cases hy);exact go [] rs' (H.put id .dead) none (rK.dead H id) hi rfl b1 b2 (.fY _ ⟨e',[]⟩ (ag ⟨rfl,rfl⟩) rfl) (λz hz=>by cases hz)
      cases h
     cases h
    cases h
   cases h
  |_=>simp[gy]at h
 |[],_::_,_,_,_,_,_,_,_,h,_,_,_,_,_=>by simp[gy]at h
 |none::_,[],_,_,_,_,_,_,_,h,_,_,_,_,_=>by simp[gy]at h
 |some (_,_)::_,[],_,_,_,_,_,_,_,h,_,_,_,_,_=>by simp[gy]at h
theorem GK {S S0 S1:Wo}{H H3 M0 M1:aH}{E E':Mem}(hr:Rel S H E)(hF:S0.F=S.F)(hgo:rK H H3)(hown:∀i,Own S0 M0 i->vD S H H3 i)(Ef:Rel S1 M1 E')(hst:Bm S0 M0 E S1 M1 E') :
 S.le ⟨S1.F,S.ρ,S.Γ⟩/\Rel ⟨S1.F,S.ρ,S.Γ⟩ H3 E':=by
 have hle:S.le ⟨S1.F,S.ρ,S.Γ⟩:=⟨λi x hx=>hst.F i x (by rw[hF];exact hx),λ_ _ h=>h,λ_ _ _ h=>h⟩;have far:∀id r y,H3.get id=some r->S.ρ id=some y->¬Own S0 M0 y.1:=λid r y hg hy ho=>by
  obtain⟨C8,r2,z,k1,k2,k3,k4,k5⟩:=hown _ ho;have:=hr.inj id C8 r r2 y z (hgo.get _ _ hg) k1 hy k3 k4.symm;subst this;rw[hg]at k5;cases k5
 have old:∀id r y,H3.get id=some r->S.ρ id=some y->y.1<E.size:=λid r y hg hy=>(let ⟨_,hb⟩:=hr.old (hgo.get _ _ hg) hy;Mem.eJ hb)
 refine⟨hle,⟨Ef.fz,λid x hx=>by rw[hgo.next];exact hr.dom id x hx,λid v hv=>hr.CE id v (by rw[hgo.next]at hv;exact hv),λid r hg=>?_,λid id' r r' x x' hg hg' hx hx' he=>hr.inj id id' r r' x x' (hgo.get _ _ hg) (hgo.get _ _ hg') hx hx' he,λid r x hg hro hx=>?_,λid r x hg hl hx=>?_,by rw[hgo.lk,hgo.next];exact hr.zi,by rw[hgo.par,hgo.next];exact hr.KM,Ef.Gh⟩⟩
 .exact (hr.row id r (hgo.get _ _ hg)).keep hle (λh=>h) (λ_ h=>h) λx hx=>hst.keep _ (old id r x hg hx) (far id r x hg hx)
 .show S1.F x.1=none;cases hq:S1.F x.1 with
  |none=>rfl
  |some cs =>
   rcases hst.JL x.1 (by rw[hq];simp) with h1|h1|h1
   .rw[hF]at h1;exact absurd (hr.sep id r x (hgo.get _ _ hg) hro hx) h1
   .exact absurd h1 (far id r x hg hx)
   have:=old id r x hg hx;omega
 rw[hst.lk];exact hr.lk id r x (hgo.get _ _ hg) (by rw[<-hgo.lk];exact hl) hx
structure FO where
 ptr:Option (TypeId×List (Option (TypeId×Ty)))
 sig:List (Option (TypeId×Ty))
 g:List fK->Option (Bool×List fK×List fK)
def GL {β:Type}(c:FO)(args:List AV)(H:aH)(k:AV->aH->Option β):Option β :=
 match c.ptr with
 |none=>match iJ H c.sig args with
  |some (args',H1)=>match gy H1 c.sig args' with
   |some (ins,H2)=>match c.g ins with
    |some (cnd,_,rs)=>ah cnd (k (rJ (ku rs H2).1) (ku rs H2).2) none
    |none=>none
   |none=>none
  |none=>none
 |some (t,sig)=>match args with
  |.ptr id 0::args=>match H.get id with
   |some (.cells t' cs)=>match iJ H (sig++c.sig) (cs++args) with
    |some (cs',H2)=>match gy H2 (sig++c.sig) cs' with
     |some (ins,H3)=>ah (Nat.beq t t'&&H.nH id&&Nat.beq cs.length sig.length) (match c.g ins with
      |some (cnd,outs,rs)=>ah (cnd&&Nat.beq outs.length sig.length)
       (k (rJ ((ku (outs++rs) (H3.put id .dead)).1.drop sig.length)) ((ku (outs++rs) (H3.put id .dead)).2.put id (.cells t ((ku (outs++rs) (H3.put id .dead)).1.take sig.length)))) none
      |none=>none) none
     |none=>none
    |none=>none
   |_=>none
  |_=>none
section
variable {X:gU} {cf:Nat×Nat->Ev.cH}
def CI (X:gU)(cf:Nat×Nat->Ev.cH)(f:FuncId)(args:List AV)(M:aH)(vs:List AV)(M':aH):Prop :=
 ∀(S:Wo) (E:Mem) (bM:List Value),Rel S M E->fm X S->LV S args bM ->
  ∃S' vE E',(∃N,∀n:Nat×Nat,N<=n.1/\N<=n.2->cf n f bM E=some (vE,E'))/\(∃xs,vE=Ev.vV xs/\LV S' vs xs)/\Rel S' M' E'/\Bm S M E S' M' E'
def iB (X:gU)(cf:Nat×Nat->Ev.cH)(f:FuncId)(c:FO):Prop :=
 ∀ins outs rs,c.g ins=some (true,outs,rs) ->
  match c.ptr with
  |none=>ins.length=c.sig.length->∃vs M1,CI X cf f (cellsIn 0 ins) (cO aH.empty ins) vs M1/\qR M1 [] vs rs
  |some (t,sig)=>outs.length=sig.length->ins.length=(sig++c.sig).length->∃vs M1 cs1,CI X cf f (.ptr 0 0::(cellsIn 1 ins).drop sig.length) (jg t sig.length ins) vs M1/\M1.get 0=some (.cells t cs1)/\cs1.length=sig.length/\qR M1 [0] (cs1++vs) (outs++rs)
theorem VY (t:TypeId)(cs:List AV):((⟨1,0,1,(aH.empty.push (.cells t cs)).t⟩:aH).get 0)=some (.cells t cs)/\∀j,j≠0->((⟨1,0,1,(aH.empty.push (.cells t cs)).t⟩:aH).get j)=none:=by
 obtain⟨p1,p2,p3,p4⟩:=aH.dL aH.empty (.cells t cs);have e:∀j,((⟨1,0,1,(aH.empty.push (.cells t cs)).t⟩:aH).get j)=(aH.empty.push (.cells t cs)).get j:=λj=>by
  rw[aH.get_eq,aH.get_eq,p1];rfl
 refine⟨?_,λj hj=>?_⟩
 .rw[e,p4];rfl
 rw[e,p4,aa (by show j≠0;exact hj),p7]
theorem y7:∀(rs:List fK) (M M':aH),M'.next=M.next->M'.lk=M.lk->M'.par=M.par->(cO M' rs).next=(cO M rs).next/\(cO M' rs).lk=(cO M rs).lk/\(cO M' rs).par=(cO M rs).par/\M.next<=(cO M rs).next /\
 ∀j,(j<M.next->(cO M' rs).get j=M'.get j/\(cO M rs).get j=M.get j)/\(M.next<=j->(cO M' rs).get j=(cO M rs).get j)
 |[],M,M',h1,h2,h3=>⟨h1,h2,h3,aG _,λj=>⟨λ_=>⟨rfl,rfl⟩,λhj=>by
  have a:M'.get j=none:=by rw[aH.get_eq,aa (by omega)]
  have b:M.get j=none:=by rw[aH.get_eq,aa (by omega)]
  show M'.get j=M.get j;rw[a,b]⟩⟩
 |.val v::rs,M,M',h1,h2,h3=>y7 rs M M' h1 h2 h3
 |.list t e l::rs,M,M',h1,h2,h3=>by
  obtain⟨p1,p2,p3,p4⟩:=aH.dL M (.list t e l 0 false false);obtain⟨q1,q2,q3,q4⟩:=aH.dL M' (.list t e l 0 false false);obtain⟨a1,a2,a3,a4,a5⟩:=y7 rs (M.push (.list t e l 0 false false)) (M'.push (.list t e l 0 false false)) (by rw[p1,q1,h1]) (by rw[p2,q2,h2]) (by rw[p3,q3,h3]);refine⟨a1,a2,a3,by rw[p1]at a4;exact bz (fC _) a4,λj=>⟨λhj=>?_,λhj=>?_⟩⟩
  .obtain ⟨b1,b2⟩:=(a5 j).1 (by omega);exact⟨b1.trans (by rw[q4,aa (by omega)]),b2.trans (by rw[p4,aa (by omega)])⟩
  by_cases e':j=M.next
  .obtain ⟨b1,b2⟩:=(a5 j).1 (by omega);have c1:(cO M' (.list t e l::rs)).get j=(M'.push (.list t e l 0 false false)).get j:=b1;have c2:(cO M (.list t e l::rs)).get j=(M.push (.list t e l 0 false false)).get j:=b2;rw[c1,c2,q4,p4,h1];simp only[e',fD]
  exact(a5 j).2 (by omega)
theorem Sv {id:Nat}{t:TypeId}{cs:List AV}:∀{sig:List (Option (TypeId×Ty))} {cs0 cs1:List AV} {A B:aH},iJ A sig cs0=some (cs1,B)->A.get id=some (.cells t cs)->B.get id=some (.cells t cs):=by
 have one:∀{l l':List AV} {A B:aH},jn A l=some (l',B)->A.get id=some (.cells t cs)->B.get id=some (.cells t cs):=by
  intro l;induction l with
  |nil=>intro l' A B hf hA;simp only[jn,aq,ax]at hf;rw[<-hf.2];exact hA
  |cons v l ih =>
   intro l' A B hf hA;cases v with
   |own CH n1 =>
    unfold jn at hf;split at hf
    .rename_i t1 e1 l1 gu ex ro UI;split at hf
     .rename_i r' H' FF;simp only[aq,ax]at hf;obtain⟨_,rfl⟩:=hf;refine ih FF ?_;rw[(aH.gq _ _ _).2.2.2,aa (λe=>by subst e;rw[hA]at UI;cases UI)];exact hA
     cases hf
    cases hf
   |rH CH off1 VZ KS =>
    unfold jn at hf;split at hf
    .rename_i t1 e1 l1 gu ex ro UI;split at hf
     .rename_i r' H' FF;simp only[aq,ax]at hf;obtain⟨_,rfl⟩:=hf;refine ih FF ?_;rw[(aH.gq _ _ _).2.2.2,aa (λe=>by subst e;rw[hA]at UI;cases UI)];exact hA
     cases hf
    cases hf
   |_ =>
    simp only[jn]at hf;split at hf
    .rename_i r' H' FF;simp only[aq,ax]at hf;obtain⟨_,rfl⟩:=hf;exact ih FF hA
    cases hf
 intro sig;induction sig with
 |nil =>
  intro cs0 cs1 A B hf hA;cases cs0 with
  |nil=>simp only[iJ,aq,ax]at hf;rw[<-hf.2];exact hA
  |cons a l=>simp[iJ]at hf
 |cons s sig ih =>
  intro cs0 cs1 A B hf hA;cases cs0 with
  |nil=>cases s<;>simp[iJ]at hf
  |cons a l =>
   cases s with
   |none =>
    unfold iJ at hf;split at hf
    .rename_i a' A1 hf1;split at hf
     .rename_i l2 A2 FF;simp only[aq,ax]at hf;obtain⟨_,rfl⟩:=hf;exact ih FF (one hf1 hA)
     cases hf
    cases hf
   |some q =>
    unfold iJ at hf;split at hf
    .rename_i l2 A2 FF;simp only[aq,ax]at hf;obtain⟨_,rfl⟩:=hf;exact ih FF hA
    cases hf
theorem V0 {id:Nat}{t:TypeId}{cs:List AV}:∀{sig:List (Option (TypeId×Ty))} {l:List AV} {rr:List fK} {A B:aH},gy A sig l=some (rr,B)->A.get id=some (.cells t cs)->B.get id=some (.cells t cs):=by
 intro sig;induction sig with
 |nil =>
  intro l rr A B hf hA;cases l with
  |nil=>simp only[gy,aq,ax]at hf;rw[<-hf.2];exact hA
  |cons a l=>simp[gy]at hf
 |cons s sig ih =>
  intro l rr A B hf hA;cases l with
  |nil=>cases s with
   |none=>simp[gy]at hf
   |some q=>obtain⟨q1,q2⟩:=q;simp[gy]at hf
  |cons a l =>
   cases s with
   |none =>
    unfold gy at hf;rw[av]at hf;split at hf
    .split at hf
     .rename_i rr' A2 FF;simp only[aq,ax]at hf;obtain⟨_,rfl⟩:=hf;exact ih FF hA
     cases hf
    cases hf
   |some q =>
    obtain⟨q1,q2⟩:=q;cases a with
    |dg =>
     unfold gy at hf;split at hf
     .rename_i rr' A2 FF;simp only[aq,ax]at hf;obtain⟨_,rfl⟩:=hf;exact ih FF hA
     cases hf
    |own CH n1 =>
     unfold gy at hf;split at hf
     .rename_i t2 e2' l2 v2 x2 UI;rw[av]at hf;split at hf
      .split at hf
       .split at hf
        .rename_i rr' A2 FF;simp only[aq,ax]at hf;obtain⟨_,rfl⟩:=hf;refine ih FF ?_;rw[(aH.gq _ _ _).2.2.2,aa (λe=>by subst e;rw[hA]at UI;cases UI)];exact hA
        cases hf
       cases hf
      cases hf
     cases hf
    |_=>simp[gy]at hf
theorem LI {β:Type}{f:FuncId}{c:FO}(hc:iB X cf f c){args:List AV}{H:aH}{k:AV->aH->Option β}{r:β}(h:GL c args H k=some r):∃v H',k v H'=some r/\IC X cf f args H v H':=by
 unfold GL at h;obtain⟨ptr,aq6,g⟩:=c;cases ptr with
 |none =>
  simp only at h;split at h;case h_2=>cases h
  rename_i args' H1 hfz;split at h;case h_2=>cases h
  rename_i ins H2 hin;split at h;case h_2=>cases h
  rename_i cnd o rs hg;rw[av]at h;split at h;case isFalse=>cases h
  rename_i hcnd;subst hcnd;refine⟨_,_,h,λS E bM hr hgl hl=>?_⟩;obtain⟨S2,b1,b2,b3,b4,_⟩:=Dc hr S.le_refl (St.refl S H E) hl hfz;have hrB:Rel ⟨S2.F,λ_=>none,λ_ _=>none⟩ aH.empty E:=Br _ E b2.fz b2.Gh;obtain⟨g1,g2,g2',T,f1,f2,f3,f4,f5,f6,f7,f8,f9⟩:=Ad b2 (rK.refl H1) hin b4 hrB rfl rfl (λj q y hj=>by rw[p7]at hj;cases hj);obtain⟨vs,M1,hrun,hres⟩:=hc ins o rs hg g2';obtain⟨S1,vE,E',a1,⟨xs,rfl,a2⟩,a3,a4⟩:=hrun T E bM f2 (hgl.mono' λi x hx=>by rw[f4];exact b1.F i x hx) f3;have hown:∀i,Own T (cO aH.empty ins) i->vD S2 H1 H2 i:=λi ⟨j,q,y,k1,k2,k3,k4⟩=>by
   obtain⟨b,_⟩:=f9 j q y (cq _) k1 k3;rw[k4]at b;exact b
  obtain⟨c1,c2⟩:=GK b2 f4 g1 hown a3 a4;have PT:H2.next=H1.next:=g1.next
  have EH:∀i,Own T (cO aH.empty ins) i->Own S2 H1 i:=λi ho=>by
   obtain⟨j,q,z,k1,k2,k3,k4,_⟩:=hown i ho;exact⟨j,q,z,k1,k2,k3,k4⟩
  obtain⟨S',d1,d2,d3,d4,d5,d6,d7,d8,d9⟩:=Qq (EG:=λi=>E.size<=i\/Own T (cO aH.empty ins) i) a3 (by rw[a4.Rz];exact f6) hres a2 c2 rfl (λid q y hq _ hy hro=>by
   have hor:E.size<=y.1\/Own T (cO aH.empty ins) y.1:=by
    by_cases hy':y.1<E.size
    .exact .inr (a4.own y.1 ⟨id,q,y,hq,hro,hy,rfl⟩ hy')
    exact .inl (by omega)
   refine⟨hor,λC8 q2 z hq2 hz he=>?_⟩;have hq2':=g1.get _ _ hq2;rcases hor with h1|h1
   .obtain ⟨b,hb⟩:=b2.old hq2' hz;have:=Mem.eJ hb;omega
   obtain⟨id3,r3',z3,k1,k2,k3,k4,k5⟩:=hown _ h1;have:=b2.inj C8 id3 q2 r3' z z3 hq2' k1 hz k3 (by omega);subst this;rw[hq2]at k5;cases k5)
  rw[PT]at d5 d8 d9;have V1:S.le S':=Wo.le_trans b1 (Wo.le_trans c1 d1);refine⟨S',Ev.vV xs,E',a1,V1,IM d2,d3,⟨a4.sz,a4.lk,by rw[d6,g1.lk];exact b3.Rz,by rw[d7,g1.par];exact b3.yK,V1.F,λi ho hi=>?_,λi hi=>?_,λi hi ho=>a4.keep i hi (λh1=>ho (b3.own i (EH i h1) hi)),λid hid=>?_,bz b3.nx d5,λid hid hlv=>?_,λid hid hn=>?_⟩⟩
  .obtain ⟨id,q,y,h1,h2,h3,rfl⟩:=ho;by_cases hid:id<H1.next
   .rw[(d8 id hid).1]at h1;rw[(d8 id hid).2]at h3;exact b3.own _ ⟨id,q,y,g1.get _ _ h1,h2,h3,rfl⟩ hi
   rcases d9 id q y (by omega) h1 h3 with h4|h4
   .omega
   exact b3.own _ (EH _ h4) hi
  .rw[d4]at hi;rcases a4.JL i hi with h1|h1|h1
   .rw[f4]at h1;exact b3.JL i h1
   .by_cases hsz:i<E.size
    .exact .inr (.inl (b3.own i (EH i h1) hsz))
    exact .inr (.inr (by omega))
   exact .inr (.inr h1)
  .rw[(d8 id (by have:=hr.KM;have:=b3.nx;omega)).2];exact b3.par id hid
  .have hlt:id<H1.next:=by have:=b3.nx;omega
   rw[(d8 id hlt).1]at hlv;exact b3.live id hid (λhn=>by
    cases hq:H2.get id with
    |none=>exact hlv hq
    |some q=>rw[g1.get id q hq]at hn;cases hn)
  rw[(d8 id (by have:=b3.nx;omega)).2];exact b3.rn id hid hn
 |some p =>
  obtain⟨t,sig⟩:=p;simp only at h;split at h;case h_2=>cases h
  rename_i id args;split at h;case h_2=>cases h
  rename_i t' cs hcell;split at h;case h_2=>cases h
  rename_i cs' H2 hfz;split at h;case h_2=>cases h
  rename_i ins H3 hin;rw[av]at h;split at h;case isFalse=>cases h
  rename_i hb;simp only[ak,aN]at hb;obtain⟨⟨rfl,hmay⟩,nY⟩:=hb;split at h;case h_2=>cases h
  rename_i cnd outs rs hg;rw[av]at h;split at h;case isFalse=>cases h
  rename_i hcnd;simp only[ak,aN]at hcnd;obtain⟨rfl,hol⟩:=hcnd;refine⟨_,_,h,λS E bM hr hgl hl=>?_⟩;obtain⟨xp,argsE',rfl,hp,hla⟩:=hl.cons_inv
  -- the pointer's row
  obtain⟨i0,c0,s0,bk,r1,r2,r3,r4,r5⟩:=hr.row id _ hcell;obtain⟨S2,e1,e2,e3,e4,e5⟩:=Dc hr S.le_refl (St.refl S H E) (r3.append hla) hfz;have hρ2:S2.ρ id=some (i0,c0,s0):=e5.ρ _ _ r1;have Ae:H2.get id=some (.cells t cs):=Sv hfz hcell;have hg3:H3.get id=some (.cells t cs):=V0 hin Ae;have aq7:i0<E.size:=kW r2;have Uz:bk.cells.length=sig.length:=by rw[<-r3.1,nY]
  -- what the callee sees
  let B0:aH:=⟨1,0,1,.e⟩
  have Sc:∀j,B0.get j=none:=λj=>by
   rw[aH.get_eq];split
   .show (Tr.get Tr.e j).bind Row.live=none;rw[Ev.Tr.JX];rfl
   rfl
  let T0:Wo:=⟨S2.F,λj=>if j=0 then some (i0,c0,s0) else none,λ_ _=>none⟩
  have hrB:Rel T0 B0 E:=⟨e2.fz,λj x hx=>(by
   have hx:(if j=0 then some (i0,c0,s0) else none)=some x:=hx;by_cases ej:j=0
   .subst ej;exact lI
   rw[aa ej]at hx;cases hx),λ_ _ _=>rfl,λj q hj=>(by rw[Sc]at hj;cases hj),λj j' q q' x x' hj=>(by rw[Sc]at hj;cases hj),λj q x hj=>(by rw[Sc]at hj;cases hj),λj q x hj=>(by rw[Sc]at hj;cases hj),cq _,aG _,e2.Gh⟩
  obtain⟨g1,g2,g2',T,f1,f2,f3,f4,f5,f6,f7,f8,f9⟩:=Ad e2 (rK.refl H2) hin e4 hrB rfl rfl (λj q y hj=>by rw[Sc]at hj;cases hj);have hT0:T.ρ 0=some (i0,c0,s0):=(f8 0 lI).2;have f3':LV T (cellsIn 1 ins) (bk.cells++argsE'):=f3;have f3a:LV T ((cellsIn 1 ins).take sig.length) bk.cells:=by
   have:=f3'.take sig.length;rwa[fj (l₁:=bk.cells) (by omega),cS (l:=bk.cells) (by omega)]at this
  have f3b:LV T ((cellsIn 1 ins).drop sig.length) argsE':=by
   have:=f3'.drop sig.length;rwa[fh (l₁:=bk.cells) (by omega),List.drop_of_length_le (l:=bk.cells) (by omega),eP]at this
  have hLI:=y7 ins B0 ⟨1,0,1,(aH.empty.push (.cells t ((cellsIn 1 ins).take sig.length))).t⟩ rfl rfl rfl;obtain⟨m1,m2,m3,m4,m5⟩:=hLI;obtain⟨hd1,hd2⟩:=VY t ((cellsIn 1 ins).take sig.length);have hM0:(jg t sig.length ins).get 0=some (.cells t ((cellsIn 1 ins).take sig.length)):=by
   have:=((m5 0).1 lI).1;exact this.trans hd1
  have hMj:∀j,j≠0->(jg t sig.length ins).get j=(cO B0 ins).get j:=λj hj=>(m5 j).2 (by show 1<=j;omega)
  have hi0:∀j q y,(cO B0 ins).get j=some q->T.ρ j=some y->j≠0->y.1≠i0:=λj q y hq hy hj he=>by
   obtain⟨⟨C8,r2',z,k1,k2,k3,k4,k5⟩,ty⟩:=f9 j q y (by show 1<=j;omega) hq hy;have:=e2.inj id C8 _ r2' _ z Ae k1 hρ2 k3 (by show i0=z.1;omega);subst this;rw[hg3]at k5;cases k5
  have Tn:Rel T (jg t sig.length ins) E:=by
   refine⟨f2.fz,λj x hx=>?_,λj v hj=>?_,λj q hj=>?_,λj j' q q' x x' hj hj' hx hx' he=>?_,λj q x hj hb hx=>?_,λj q x hj _ hx=>?_,?_,?_,f2.Gh⟩
   .show j<(jg t sig.length ins).next
    rw[show (jg t sig.length ins).next=(cO B0 ins).next from m1];exact f2.dom j x hx
   .rw[show (jg t sig.length ins).next=(cO B0 ins).next from m1]at hj;exact f2.CE j v hj
   .by_cases ej:j=0
    .subst ej;rw[hM0]at hj;cases hj;exact⟨i0,c0,s0,bk,hT0,r2,f3a,r4,r5⟩
    rw[hMj j ej]at hj;exact f2.row j q hj
   .by_cases ej:j=0
    .by_cases ej':j'=0
     .omega
     subst ej;rw[hT0]at hx;cases hx;rw[hMj j' ej']at hj';exact absurd he.symm (hi0 j' q' x' hj' hx' ej')
    rw[hMj j ej]at hj;by_cases ej':j'=0
    .subst ej';rw[hT0]at hx';cases hx';exact absurd he (hi0 j q x hj hx ej)
    rw[hMj j' ej']at hj';exact f2.inj j j' q q' x x' hj hj' hx hx' he
   .by_cases ej:j=0
    .subst ej;rw[hT0]at hx;cases hx;rw[f4];exact e2.sep id _ _ Ae rfl hρ2
    rw[hMj j ej]at hj;exact f2.sep j q x hj hb hx
   .by_cases ej:j=0
    .subst ej;rw[hT0]at hx;cases hx;exact e2.lk id _ _ Ae (by rw[e3.Rz];simpa[aH.nH,br] using hmay) hρ2
    rw[hMj j ej]at hj;exact f2.lk j q x hj (by rw[f6];exact cq _) hx
   .show (jg t sig.length ins).lk<=_;rw[show (jg t sig.length ins).lk=(cO B0 ins).lk from m2,f6];exact cq _
   rw[show (jg t sig.length ins).par=(cO B0 ins).par from m3,f7,show (jg t sig.length ins).next=(cO B0 ins).next from m1];exact f5
  have hFT:T.F=S2.F:=f4;have hlT:LV T (.ptr 0 0::(cellsIn 1 ins).drop sig.length) (xp::argsE'):=by
   cases hp with
   |ptr _ _ ip cp sp hρp =>
    rw[r1]at hρp;cases hρp;exact LV.cons (.ptr 0 0 _ _ _ hT0) f3b
  obtain⟨vs,M1,cs1,hrun,hM1,aps,hres⟩:=hc ins outs rs hg hol g2';obtain⟨S1,vE,E',a1,⟨xs,rfl,a2⟩,a3,a4⟩:=hrun T E _ Tn (hgl.mono' λi x hx=>by rw[hFT];exact e5.F i x hx) hlT;have hρ1:S1.ρ 0=some (i0,c0,s0):=(a4.par 0 (by rw[show (jg t sig.length ins).par=(cO B0 ins).par from m3,f7];exact lI)).trans hT0;have hH3:rK H2 (H3.put id .dead):=g1.trans (rK.dead H3 id);have hown:∀i,Own T (jg t sig.length ins) i->vD S2 H2 (H3.put id .dead) i:=λi ⟨j,q,y,k1,k2,k3,k4⟩=>by
   by_cases ej:j=0
   .subst ej;rw[hT0]at k3;cases k3;exact⟨id,_,_,Ae,rfl,hρ2,k4,LH _ _⟩
   rw[hMj j ej]at k1;obtain⟨b,_⟩:=f9 j q y (by show 1<=j;omega) k1 k3;rw[k4]at b;exact b.later (rK.dead H3 id)
  obtain⟨c1,c2⟩:=GK e2 hFT hH3 hown a3 a4;obtain⟨i1,c1',s1,bk1,u1,u2,u3,u4,u5⟩:=a3.row 0 _ hM1;rw[hρ1]at u1;cases u1;have PT:(H3.put id .dead).next=H2.next:=hH3.next
  have EH:∀i,Own T (jg t sig.length ins) i->Own S2 H2 i:=λi ho=>by
   obtain⟨j,q,z,k1,k2,k3,k4,_⟩:=hown i ho;exact⟨j,q,z,k1,k2,k3,k4⟩
  obtain⟨S',d1,d2,d3,d4,d5,d6,d7,d8,d9⟩:=Qq (EG:=λi=>(E.size<=i\/Own T (jg t sig.length ins) i)/\i≠i0) a3 (by rw[a4.Rz];exact m2.trans f6) hres (u3.append a2) c2 rfl (λj q y hq hns hy hro=>by
   have hne:y.1≠i0:=λhe=>by
    have:=a3.inj j 0 q _ y _ hq hM1 hy hρ1 he;exact hns (by simp[this])
   have hor:E.size<=y.1\/Own T (jg t sig.length ins) y.1:=by
    by_cases hy':y.1<E.size
    .exact .inr (a4.own y.1 ⟨j,q,y,hq,hro,hy,rfl⟩ hy')
    exact .inl (by omega)
   refine⟨⟨hor,hne⟩,λC8 q2 z hq2 hz he=>?_⟩;have hq2':=hH3.get _ _ hq2;rcases hor with h1|h1
   .obtain ⟨b,hb⟩:=e2.old hq2' hz;have:=Mem.eJ hb;omega
   obtain⟨id3,r3',z3,k1,k2,k3,k4,k5⟩:=hown _ h1;have:=e2.inj C8 id3 q2 r3' z z3 hq2' k1 hz k3 (by omega);subst this;rw[hq2]at k5;cases k5)
  rw[PT]at d5 d8 d9;have anH:id<H2.next:=aH.eJ Ae
  have hρ':S'.ρ id=some (i0,c0,s0):=((d8 id anH).2).trans hρ2;have hu3:=u3.1;have d2a:LV S' ((ku (outs++rs) (H3.put id .dead)).1.take sig.length) bk1.cells:=by
   have:=d2.take sig.length;rwa[fj (l₁:=bk1.cells) (by omega),cS (l:=bk1.cells) (by omega)]at this
  have d2b:LV S' ((ku (outs++rs) (H3.put id .dead)).1.drop sig.length) xs:=by
   have:=d2.drop sig.length;rwa[fh (l₁:=bk1.cells) (by omega),List.drop_of_length_le (l:=bk1.cells) (by omega),eP]at this
  have hfin:=d3.putAt (id:=id) (r:=.cells t ((ku (outs++rs) (H3.put id .dead)).1.take sig.length)) (by omega) rfl (λr' hr'=>by
   cases hr';exact⟨i0,c0,s0,bk1,hρ',u2,d2a,u4,u5⟩) (λy hy=>by
    rw[hρ']at hy;cases hy;refine⟨λid' q z hq hne hz he=>?_,by rw[d4];exact a3.sep 0 _ _ hM1 rfl hρ1,a3.lk 0 _ _ hM1 (by rw[a4.Rz,show (jg t sig.length ins).lk=(cO B0 ins).lk from m2,f6];exact cq _) hρ1⟩;by_cases hlt:id'<H2.next
    .rw[(d8 id' hlt).1]at hq;rw[(d8 id' hlt).2]at hz;exact hne (e2.inj id' id q _ z _ (hH3.get _ _ hq) Ae hz hρ2 he)
    exact(d9 id' q z (by omega) hq hz).2 he)
  obtain⟨p1,p2,p3,p4⟩:=aH.gq (ku (outs++rs) (H3.put id .dead)).2 id (.cells t ((ku (outs++rs) (H3.put id .dead)).1.take sig.length));have V1:S.le S':=Wo.le_trans e1 (Wo.le_trans c1 d1);refine⟨S',Ev.vV xs,E',a1,V1,IM d2b,hfin,⟨a4.sz,a4.lk,by rw[p2,d6,hH3.lk];exact e3.Rz,by rw[p3,d7,hH3.par];exact e3.yK,V1.F,λi ho hi=>?_,λi hi=>?_,λi hi ho=>a4.keep i hi (λh1=>ho (e3.own i (EH i h1) hi)),λj hj=>?_,?_,λj hj hlv=>?_,λj hj hn=>?_⟩⟩
  .obtain ⟨j,q,y,h1,h2,h3,rfl⟩:=ho;refine e3.own _ ?_ hi;rw[p4]at h1;by_cases ej:j=id
   .subst ej;rw[hρ']at h3;cases h3;exact⟨j,_,_,Ae,rfl,hρ2,rfl⟩
   rw[aa ej]at h1;by_cases hlt:j<H2.next
   .rw[(d8 j hlt).1]at h1;rw[(d8 j hlt).2]at h3;exact⟨j,q,y,hH3.get _ _ h1,h2,h3,rfl⟩
   rcases (d9 j q y (by omega) h1 h3).1 with h4|h4
   .omega
   exact EH _ h4
  .rw[d4]at hi;rcases a4.JL i hi with h1|h1|h1
   .rw[hFT]at h1;exact e3.JL i h1
   .by_cases hsz:i<E.size
    .exact .inr (.inl (e3.own i (EH i h1) hsz))
    exact .inr (.inr (by omega))
   exact .inr (.inr h1)
  .rw[(d8 j (by have:=hr.KM;have:=e3.nx;omega)).2];exact e3.par j hj
  .rw[p1];exact bz e3.nx d5
  .rw[p4]at hlv;by_cases ej:j=id
   .subst ej;exact e3.live j hj (by rw[Ae];simp)
   rw[aa ej]at hlv;have hlt:j<H2.next:=by have:=e3.nx;omega
   rw[(d8 j hlt).1]at hlv;exact e3.live j hj (λhn=>by
    cases hq:(H3.put id .dead).get j with
    |none=>exact hlv hq
    |some q=>rw[hH3.get j q hq]at hn;cases hn)
  rw[(d8 j (by have:=e3.nx;omega)).2];exact e3.rn j hj hn
end
section
variable {X:gU}
def oY:aH->List fK->List AV->Option (List AV×aH)
 |M,[],[]=>some ([],M)
 |M,.val _::rs,v::vs=>match v with
  |.agg l=>match jn M l with
   |some (l',M1)=>match oY M1 rs vs with
    |some (r,M2)=>some (.agg l'::r,M2)
    |none=>none
   |none=>none
  |v=>match jn M [v] with
   |some ([v'],M1)=>match oY M1 rs vs with
    |some (r,M2)=>some (v'::r,M2)
    |none=>none
   |_=>none
 |M,.list _ _ _::rs,v::vs=>match oY M rs vs with
  |some (r,M2)=>some (v::r,M2)
  |none=>none
 |_,_,_=>none
theorem Af {S0:Wo}{H0:aH}{E0 E:Mem}:∀{rs:List fK} {vs vs':List AV} {M M':aH} {S:Wo} {C:List Value},Rel S M E->Bm S0 H0 E0 S M E->LV S vs C->oY M rs vs=some (vs',M')->∃S',Rel S' M' E/\Bm S0 H0 E0 S' M' E/\LV S' vs' C/\S.le S'
 |[],[],vs',M,M',S,C,hr,hst,hl,h=>by
  simp only[oY,aq,ax]at h;obtain⟨rfl,rfl⟩:=h;exact⟨S,hr,hst,hl,S.le_refl⟩
 |.val w::rs,v::vs,vs',M,M',S,C,hr,hst,hl,h=>by
  obtain⟨x,C',rfl,h1,h2⟩:=hl.cons_inv;unfold oY at h;split at h
  .rename_i l;split at h
   .rename_i l' M1 hf;cases h1 with
    |agg _ m YC hm2 =>
     obtain⟨S1,b1,b2,b3,b4,b5⟩:=oI hr S.le_refl (St.refl S M E) ⟨YC,hm2⟩ hf;split at h
     .rename_i r M2 hg;simp only[aq,ax]at h;obtain⟨rfl,rfl⟩:=h;obtain⟨S2,c2,c3,c4,c5⟩:=Af b2 (hst.trans b3.ML) (h2.mono b5) hg;exact⟨S2,c2,c3,LV.cons (.agg _ _ (b4.mono c5).1 (b4.mono c5).2) c4,Wo.le_trans b5 c5⟩
     cases h
   cases h
  split at h
  .rename_i v' M1 hf;obtain⟨S1,b1,b2,b3,b4,b5⟩:=oI hr S.le_refl (St.refl S M E) (LV.cons h1 LV.nil) hf;obtain⟨x',_,e,b6,_⟩:=b4.cons_inv;cases e;split at h
   .rename_i r M2 hg;simp only[aq,ax]at h;obtain⟨rfl,rfl⟩:=h;obtain⟨S2,c2,c3,c4,c5⟩:=Af b2 (hst.trans b3.ML) (h2.mono b5) hg;exact⟨S2,c2,c3,LV.cons (b6.mono c5) c4,Wo.le_trans b5 c5⟩
   cases h
  cases h
 |.list t e l::rs,v::vs,vs',M,M',S,C,hr,hst,hl,h=>by
  obtain⟨x,C',rfl,h1,h2⟩:=hl.cons_inv;unfold oY at h;split at h
  .rename_i r M2 hg;simp only[aq,ax]at h;obtain⟨rfl,rfl⟩:=h;obtain⟨S2,c2,c3,c4,c5⟩:=Af hr hst h2 hg;exact⟨S2,c2,c3,LV.cons (h1.mono c5) c4,c5⟩
  cases h
 |[],_::_,_,_,_,_,_,_,_,_,h=>by simp[oY]at h
 |.val _::_,[],_,_,_,_,_,_,_,_,h=>by simp[oY]at h
 |.list _ _ _::_,[],_,_,_,_,_,_,_,_,h=>by simp[oY]at h
theorem og {γ:Type}{kn:Ev.fc}{id:FuncId}(hk:∀args,kn id args=none){call:cI γ}(hcall:cT X (dO X kn) call){an:eD}{rounds:Nat}{args:List AV}{M:aH}{obs:AV->aH->Option γ}{r:γ}
 (h:aT X call an rounds id args M obs=some r):∃v M1,obs v M1=some r/\∀vs,v=rJ vs->CI X (dO X kn) id args M vs M1:=by
 obtain⟨v,M1,h1,h2⟩:=kV (nf:=false) hcall (λh=>by cases h) h;refine⟨v,M1,h1,λvs hv=>?_⟩;subst hv;intro S E bM hr hg hl;obtain⟨S',vE,E',a1,a2,a3,a4,_⟩:=h2 S E bM hr hg hl;obtain⟨xs,rfl,hx⟩:=C9 a2;exact⟨S',_,E',fZ hk a1,⟨xs,rfl,hx⟩,a3,a4⟩
theorem CI.V2 {cf:Nat×Nat->Ev.cH}{id:FuncId}{args vs vs':List AV}{M M1 M2:aH}{rs:List fK}(h:CI X cf id args M vs M1)(hs:oY M1 rs vs=some (vs',M2)):CI X cf id args M vs' M2:=by
 intro S E bM hr hg hl;obtain⟨S',vE,E',a1,⟨xs,rfl,a2⟩,a3,a4⟩:=h S E bM hr hg hl;obtain⟨S2,b1,b2,b3,b4⟩:=Af a3 a4 a2 hs;exact⟨S2,_,E',a1,⟨xs,rfl,b3⟩,b1,b2⟩
abbrev KTN:=FuncId->Option FO
def V3 (X:gU)(K:Tu)(KN:KTN)(inl:FuncId->Bool)(rounds:Nat)(β:Type):Nat->cI β :=
 λn=>Nat.rec (motive:=λ_=>cI β) (λ_ _ _ _=>none)
  (λ_ go id args H k=>ah (X.kl id) (Ch X args H k) (match K id with
   |some (sig,g)=>tg sig g args H k
   |none=>match KN id with
    |some c=>GL c args H k
    |none=>ah (inl id) (aT X go ⟨.none,.none,X.trs id⟩ rounds id args H k) none)) n
theorem V4 {kn:Ev.fc}{K:Tu}{KN:KTN}{inl:FuncId->Bool}(hK:∀id sig g,K id=some (sig,g)->dh X (dO X kn) id g)(hN:∀id c,KN id=some c->iB X (dO X kn) id c)(hi:∀id,inl id=true->∀args,kn id args=none)(rounds:Nat)(n:Nat)(β:Type) (hkl:aee X kn:=by exact λ_ h=>Bool.noConfusion (show false=true from h)):cT X (dO X kn) (V3 X K KN inl rounds β n):=by
 induction n with
 |zero=>exact λf args H k r h=>by cases h
 |succ n ih =>
  intro f args H k r h;have h:ah (X.kl f) (Ch X args H k) (match K f with
   |some (sig,g)=>tg sig g args H k
   |none=>match KN f with
    |some c=>GL c args H k
    |none=>ah (inl f) (aT X (V3 X K KN inl rounds β n) ⟨.none,.none,X.trs f⟩ rounds f args H k) none)=some r:=h
  rw[av]at h;split at h
  .rename_i hf;exact Ek (hkl f hf) h
  split at h
  .rename_i sig g hk;exact yV (hK f sig g hk) h
  split at h
  .rename_i c hc;exact LI (hN f c hc) h
  rw[av]at h;split at h
  .rename_i hin;obtain⟨v,H',h1,h2⟩:=kV (nf:=true) ih (λ_=>⟨rfl,rfl⟩) h;refine⟨v,H',h1,λS E bM hr hg hl=>?_⟩;obtain⟨S',vE,E',a1,a2,a3,a4,a5⟩:=h2 S E bM hr hg hl;exact⟨S',vE,E',fZ (hi f hin) a1,(a5 rfl).1,a2,a3,(a5 rfl).2⟩
  cases h
abbrev rL:=FuncId×FO
def ZS (l:List rL):KTN:=λf=>List.rec (motive:=λ_=>Option FO) none (λe _ r=>ah (Nat.beq f e.1) (some e.2) r) l
def js (X:gU)(cf:Nat×Nat->Ev.cH)(l:List rL):Prop:=∀id c,ZS l id=some c->iB X cf id c
theorem js.nil {cf:Nat×Nat->Ev.cH}:js X cf []:=λ_ _ h=>by cases h
theorem js.cons {cf:Nat×Nat->Ev.cH}{f:FuncId}{c:FO}{l:List rL}(h:iB X cf f c)(t:js X cf l):js X cf ((f,c)::l):=λid c' hk=>by
 have hk2:ah (Nat.beq id f) (some c) (ZS l id)=some c':=hk;clear hk;rw[av]at hk2;split at hk2
 .rename_i hf;obtain rfl:=aZ hf;have yY:c=c':=bL hk2;subst yY;exact h
 exact t id c' hk2
end
def Z2:Option Ty->AV->AV
 |some e,.dg=>.dW e []
 |_,v=>v
def Ak:List (Option Ty)->List AV->List AV
 |s::sg,v::l=>Z2 s v::Ak sg l
 |_,l=>l
def ae3 (sg:List (Option Ty)):AV->AV
 |.agg l=>.agg (Ak sg l)
 |v=>match sg with
  |[s]=>Z2 s v
  |_=>v
def Wn:List (List (Option Ty))->List AV->List AV
 |s::sg,v::l=>ae3 s v::Wn sg l
 |_,l=>l
theorem Ja {S:Wo}{v:AV}{x:Value}(s:Option Ty)(h:VR S v x):VR S (Z2 s v) x:=by
 unfold Z2;split
 .cases h;exact .dW _ _ _ (.inl ⟨rfl,.inl rfl⟩)
 exact h
theorem ER {S:Wo}:∀(sg:List (Option Ty)) {l:List AV} {m:List Value},LV S l m->LV S (Ak sg l) m
 |[],l,m,h=>by cases l<;>exact h
 |s::sg,[],m,h=>h
 |s::sg,v::l,m,h=>by
  obtain⟨x,m',rfl,h1,h2⟩:=h.cons_inv;exact LV.cons (Ja s h1) (ER sg h2)
theorem Z3 {S:Wo}{v:AV}{x:Value}(sg:List (Option Ty))(h:VR S v x):VR S (ae3 sg v) x:=by
 unfold ae3;split
 .rename_i l;cases h with
  |agg _ m hl hv =>
   obtain⟨h1,h2⟩:=ER sg (S:=S) (l:=l) (m:=m) ⟨hl,hv⟩;exact .agg _ m h1 h2
 split
 .exact Ja _ h
 exact h
theorem LP {S:Wo}:∀(sg:List (List (Option Ty))) {l:List AV} {m:List Value},LV S l m->LV S (Wn sg l) m
 |[],l,m,h=>by cases l<;>exact h
 |s::sg,[],m,h=>h
 |s::sg,v::l,m,h=>by
  obtain⟨x,m',rfl,h1,h2⟩:=h.cons_inv;exact LV.cons (Z3 s h1) (LP sg h2)
def LQ:Nat->AV->Option (List AV)
 |1,v=>some [v]
 |_,.fH l=>some l
 |_,_=>none
def xY (sg:List (List (Option Ty)))(v:AV)(H:aH):Option (List AV) :=
 match LQ sg.length v with
 |some vs=>match oY H (sg.map λ_=>.val .jZ) vs with
  |some (ws,_)=>some (Wn sg ws)
  |none=>none
 |none=>none
section
variable {X:gU}
theorem y9 {n:Nat}{v:AV}{vs:List AV}(h:LQ n v=some vs)(hl:vs.length=n):v=rJ vs:=by
 unfold LQ at h;split at h
 .cases h;rfl
 .rename_i l _;cases h
  match vs,hl with
  |[],_=>rfl
  |[x],hl=>rename_i hne;exact absurd hl.symm hne
  |x::y::l,_=>rfl
 cases h
theorem xL:∀{rs:List fK} {vs vs':List AV} {M M':aH},oY M rs vs=some (vs',M')->vs.length=rs.length
 |[],[],_,_,_,_=>rfl
 |[],_::_,_,_,_,h=>by simp[oY]at h
 |.val _::_,[],_,_,_,h=>by simp[oY]at h
 |.list _ _ _::_,[],_,_,_,h=>by simp[oY]at h
 |.list _ _ _::rs,v::vs,vs',M,M',h=>by
  unfold oY at h;split at h
  .rename_i r M2 hs;simp[xL hs]
  cases h
 |.val _::rs,v::vs,vs',M,M',h=>by
  unfold oY at h;split at h
  .split at h
   .split at h
    .rename_i r M2 hs;simp[xL hs]
    cases h
   cases h
  split at h
  .split at h
   .rename_i r M2 hs;simp[xL hs]
   cases h
  cases h
theorem SA {kn:Ev.fc}{id:FuncId}(hk:∀args,kn id args=none){call:cI (List AV)}(hcall:cT X (dO X kn) call){an:eD}{rounds:Nat}{args:List AV}{M:aH}{sg:List (List (Option Ty))}{ws:List AV}
 (h:aT X call an rounds id args M (xY sg)=some ws):∃M1,CI X (dO X kn) id args M ws M1:=by
 obtain⟨v,M1,h1,h2⟩:=og hk hcall h;unfold xY at h1;split at h1;case h_2=>cases h1
 rename_i vs hu;split at h1;case h_2=>cases h1
 rename_i ws1 M2 hs;cases h1;have hl:=xL hs;rw[cz]at hl;have hrun:=(h2 vs (y9 hu hl)).V2 hs;refine⟨M2,λS E bM hr hg hl=>?_⟩;obtain⟨S',vE,E',a1,⟨xs,rfl,a2⟩,a3,a4⟩:=hrun S E bM hr hg hl;exact⟨S',_,E',a1,⟨xs,rfl,LP sg a2⟩,a3,a4⟩
theorem Co {M:aH}:∀{ws:List AV} {seen:List Nat},ws.all FN=true->qR M seen ws (ws.map .val)
 |[],_,_=>trivial
 |w::ws,seen,h=>by
  simp only[bY,ak]at h;exact⟨rfl,h.1,Co h.2⟩
theorem LS {kn:Ev.fc}{id:FuncId}(hk:∀args,kn id args=none){call:∀ β,cI β}(hcall:∀ β,cT X (dO X kn) (call β)){sig:List (Option (TypeId×Ty))}{g:List fK->Option (Bool×List fK×List fK)}(sg:List (List (Option Ty)))
 (h:∀ins outs rs,g ins=some (true,outs,rs)->∃an rounds ws,aT X (call (List AV)) an rounds id (cellsIn 0 ins) (cO aH.empty ins) (xY sg)=some ws/\rs=ws.map .val/\ws.all FN=true):iB X (dO X kn) id ⟨none,sig,g⟩:=by
 intro ins outs rs hg;obtain⟨an,rounds,ws,h1,rfl,h3⟩:=h ins outs rs hg;intro _;obtain⟨M1,h4⟩:=SA hk (hcall _) h1;exact⟨ws,M1,h4,Co h3⟩
def mo (M:aH):List Nat->List (Option (TypeId×Ty))->List AV->Option (List fK×List Nat)
 |_,[],[]=>some ([],[])
 |seen,none::sig,a::cs=>ah (FN a) (match mo M seen sig cs with
  |some (r,ns)=>some (.val a::r,ns)
  |none=>none) none
 |seen,some (t,e)::sig,.dg::cs=>match mo M seen sig cs with
  |some (r,ns)=>some (.list t e []::r,0::ns)
  |none=>none
 |seen,some (t,e)::sig,.own id n::cs=>match M.get id with
  |some (.list t' e' l _ _ false)=>ah (Nat.beq t' t && !seen.any (Nat.beq id)) (match iq e' e l with
   |some l'=>match mo M (id::seen) sig cs with
    |some (r,ns)=>some (.list t e l'::r,n::ns)
    |none=>none
   |none=>none) none
  |_=>none
 |_,_,_=>none
def wV:List fK->List Nat
 |[]=>[]
 |.val _::rs=>wV rs
 |.list _ _ l::rs=>l.length::wV rs
theorem wW {M:aH}:∀{sig:List (Option (TypeId×Ty))} {cs:List AV} {seen:List Nat} {rs:List fK} {ns:List Nat},mo M seen sig cs=some (rs,ns)->ns=wV rs->qR M seen cs rs/\cs.length=sig.length
 |[],[],seen,rs,ns,h,_=>by
  simp only[mo,aq,ax]at h;obtain⟨rfl,rfl⟩:=h;exact⟨trivial,rfl⟩
 |[],_::_,_,_,_,h,_=>by simp[mo]at h
 |none::_,[],_,_,_,h,_=>by simp[mo]at h
 |some _::_,[],_,_,_,h,_=>by simp[mo]at h
 |none::sig,a::cs,seen,rs,ns,h,hn=>by
  unfold mo at h;rw[av]at h;split at h
  .rename_i hf;split at h
   .rename_i r ns' ho;cases h;obtain⟨h1,h2⟩:=wW ho hn;exact⟨⟨rfl,hf,h1⟩,by simp[h2]⟩
   cases h
  cases h
 |some (t,e)::sig,a::cs,seen,rs,ns,h,hn=>by
  unfold mo at h;split at h
  .simp at *
  .simp at *
  .rename_i q1 q2;split at h
   .rename_i r ns' ho;cases h;cases q1;cases q2;obtain⟨h1,h2⟩:=wW ho (List.cons.inj hn).2;exact⟨.inr ⟨rfl,rfl,h1⟩,by simp[h2]⟩
   cases h
  .rename_i id n _ q1 q2;split at h
   .rename_i t' e' l gu ex hg;rw[av]at h;split at h
    .rename_i hc;simp only[ak,aS]at hc;obtain⟨ht,akd⟩:=hc;obtain rfl:=aZ ht;split at h
     .rename_i l' hl;obtain⟨rfl,CA⟩:=bT hl;have CA:l=l':=CA;subst CA;split at h
      .rename_i r ns' ho;cases h;cases q1;cases q2;obtain⟨h1,h2⟩:=wW ho (List.cons.inj hn).2;have hlen:=(List.cons.inj hn).1;refine⟨.inl ⟨id,gu,ex,by rw[hlen],hg,λhm=>?_,h1⟩,by simp[h2]⟩;exact absurd (jb.2 ⟨id,hm,ov id⟩) (by rw[akd];exact mD)
      cases h
     cases h
    cases h
   cases h
  cases h
def ae4 (t:TypeId)(sig:List (Option (TypeId×Ty)))(tO:List (Option (TypeId×Ty)))(v:AV)(H:aH):Option (List fK×List Nat) :=
 match H.get 0 with
 |some (.cells t' cs)=>ah (Nat.beq t' t&&Nat.beq cs.length sig.length) (match LQ tO.length v with
  |some vs=>mo H [0] (sig++tO) (cs++vs)
  |none=>none) none
 |_=>none
theorem Z4 {kn:Ev.fc}{id:FuncId}(hk:∀args,kn id args=none){call:∀ β,cI β}(hcall:∀ β,cT X (dO X kn) (call β)){t:TypeId}{sig FQ tO:List (Option (TypeId×Ty))}{g:List fK->Option (Bool×List fK×List fK)}
 (h:∀ins outs rs,g ins=some (true,outs,rs)->ins.length=(sig++FQ).length->∃an rounds ns,aT X (call _) an rounds id (.ptr 0 0::(cellsIn 1 ins).drop sig.length) (jg t sig.length ins) (ae4 t sig tO)=some (outs++rs,ns)/\ns=wV (outs++rs)):iB X (dO X kn) id ⟨some (t,sig),FQ,g⟩:=by
 intro ins outs rs hg _ hil;obtain⟨an,rounds,ns,h1,h2⟩:=h ins outs rs hg hil;obtain⟨v,M1,h3,h4⟩:=og hk (hcall _) h1;unfold ae4 at h3;split at h3;case h_2=>cases h3
 rename_i t' cs JM;rw[av]at h3;split at h3;case isFalse=>cases h3
 rename_i hc;rw[ak,aN,aN]at hc;obtain⟨rfl,nY⟩:=hc;split at h3;case h_2=>cases h3
 rename_i vs hu;obtain⟨k1,k2⟩:=wW h3 h2;have hvl:vs.length=tO.length:=by
  simp only[aA]at k2;omega
 exact⟨vs,M1,cs,h4 vs (y9 hu hvl),JM,nY,k1⟩
def Wp (t:TypeId)(rg:List (Option Ty))(sig:List (Option (TypeId×Ty)))(tO:List (Option (TypeId×Ty)))(v:AV)(H:aH):Option (List fK×List Nat) :=
 match H.get 0 with
 |some (.cells t' cs)=>ah (Nat.beq t' t&&Nat.beq (Ak rg cs).length sig.length) (match LQ tO.length v with
  |some vs=>mo H [0] (sig++tO) (Ak rg cs++vs)
  |none=>none) none
 |_=>none
theorem Ot {M:aH}{r:Row}{vs:List AV}{rs:List fK}:∀{seen:List Nat},0∈seen->qR M seen vs rs->qR (M.put 0 r) seen vs rs:=by
 induction vs generalizing rs with
 |nil =>
  intro seen hs h;cases rs with
  |nil=>trivial
  |cons q rs=>cases q<;>exact h
 |cons v vs ih =>
  intro seen hs h;cases rs with
  |nil=>exact h
  |cons q rs =>
   cases q with
   |val w=>exact⟨h.1,h.2.1,ih hs h.2.2⟩
   |list t e l =>
    rcases h with⟨id,gu,ex,h1,h2,h3,h4⟩|⟨h1,h2,h3⟩
    .refine .inl ⟨id,gu,ex,h1,?_,h3,ih (bE _ hs) h4⟩;rw[(aH.gq M 0 r).2.2.2 id,aa (λhe=>h3 (by rw[he];exact hs))];exact h2
    exact .inr ⟨h1,h2,ih hs h3⟩
theorem CI.ake {cf:Nat×Nat->Ev.cH}{id:FuncId}{args vs:List AV}{M M1:aH}{t:TypeId}{cs:List AV}(rg:List (Option Ty))(h:CI X cf id args M vs M1)(hg:M1.get 0=some (.cells t cs)):CI X cf id args M vs (M1.put 0 (.cells t (Ak rg cs))):=by
 intro S E bM hr hgl hl;obtain⟨S',vE,E',a1,a2,a3,a4⟩:=h S E bM hr hgl hl;obtain⟨i,c,s,b,r1,r2,r3,r4,r5⟩:=a3.row 0 _ hg;obtain⟨m1,m2⟩:=a3.mod (S':=S') (E':=E') (r':=.cells t (Ak rg cs)) hg rfl S'.le_refl rfl (λ_ _ _=>rfl) rfl rfl (λj hj=>rfl) (λj cs h=>.inl h) (λq hq=>by
  cases hq;exact⟨i,c,s,b,r1,r2,ER rg r3,r4,r5⟩)
 exact⟨S',vE,E',a1,a2,m1,a4.trans m2.ML⟩
theorem Wq {kn:Ev.fc}{id:FuncId}(hk:∀args,kn id args=none){call:∀ β,cI β}(hcall:∀ β,cT X (dO X kn) (call β)){t:TypeId}(rg:List (Option Ty)){sig FQ tO:List (Option (TypeId×Ty))}{g:List fK->Option (Bool×List fK×List fK)}
 (h:∀ins outs rs,g ins=some (true,outs,rs)->ins.length=(sig++FQ).length->∃an rounds ns,aT X (call _) an rounds id (.ptr 0 0::(cellsIn 1 ins).drop sig.length) (jg t sig.length ins) (Wp t rg sig tO)=some (outs++rs,ns)/\ns=wV (outs++rs)):iB X (dO X kn) id ⟨some (t,sig),FQ,g⟩:=by
 intro ins outs rs hg _ hil;obtain⟨an,rounds,ns,h1,h2⟩:=h ins outs rs hg hil;obtain⟨v,M1,h3,h4⟩:=og hk (hcall _) h1;unfold Wp at h3;split at h3;case h_2=>cases h3
 rename_i t' cs JM;rw[av]at h3;split at h3;case isFalse=>cases h3
 rename_i hc;rw[ak,aN,aN]at hc;obtain⟨rfl,nY⟩:=hc;split at h3;case h_2=>cases h3
 rename_i vs hu;obtain⟨k1,k2⟩:=wW h3 h2;have hvl:vs.length=tO.length:=by
  simp only[aA]at k2;omega
 have hlt:0<M1.next:=by
  rw[aH.get_eq]at JM;split at JM
  .assumption
  cases JM
 refine⟨vs,M1.put 0 (.cells t' (Ak rg cs)),Ak rg cs,(h4 vs (y9 hu hvl)).ake rg JM,?_,nY,Ot (by simp) k1⟩;rw[(aH.gq M1 0 _).2.2.2 0,ag rfl,ag hlt];rfl
end
def acQ (acc:List Nat):AV->List Nat
 |.agg l=>l.foldl KK acc
 |v=>KK acc v
def Hu (acc:List Nat):AV->List Nat
 |.fH l=>l.foldl acQ acc
 |v=>acQ acc v
def SU (H:aH):AV->AV
 |.own id n=>match H.get id with
  |some (.list _ _ l _ _ _)=>.own id l.length
  |_=>.own id n
 |v=>v
def VZ (H:aH):AV->AV
 |.agg l=>.agg (l.map (SU H))
 |v=>SU H v
def age (H:aH):AV->AV
 |.fH l=>.fH (l.map (VZ H))
 |v=>VZ H v
def O1 (H:aH):Row->Row
 |.cells t cs=>.cells t (cs.map (SU H))
 |r=>r
def rowOf (H:aH)(ids:List Nat)(id:Nat):Row :=
 match H.get id with
 |some r=>Io ids (O1 H r)
 |none=>.dead
def rowsOf (H:aH)(ids:List Nat):List Row:=ids.map (rowOf H ids)
def eS (p:Nat)(l:List Row):aH:=l.foldl (λM r=>M.push r) ⟨0,0,p,.e⟩
def gw (v:AV)(H:aH):Option (AV×List Row) :=
 (λids:List Nat=>ah (nodupB ids&&(ids.take H.par==List.range H.par)&&Nat.beq H.lk 0) (some (me ids (age H v),rowsOf H ids)) none)
  (wB H 3 (Hu ((List.range H.par).foldl (Ip H) (List.range H.par)) v))
def uw:Row->Bool
 |.cells _ _=>true
 |.mp _ _=>true
 |_=>false
def Fl:Row->Bool
 |.list _ _ _ _ _ false=>true
 |_=>false
def Hv (H:aH)(id:Nat):Bool:=match H.get id with
 |some r=>uw r
 |none=>false
def Mj (H:aH)(id:Nat):Bool:=match H.get id with
 |some r=>Fl r
 |none=>false
def sN:List Row->Nat
 |[]=>0
 |r::l=>ah (uw r) (sN l+1) 0
def eG:List (Option (TypeId×Ty))->List AV->aH->List AV×aH
 |some (t,e)::sg,.dg::cs,H=>(.own H.next 0::(eG sg cs (H.push (.list t e [] 0 false false))).1,(eG sg cs (H.push (.list t e [] 0 false false))).2)
 |_::sg,c::cs,H=>(c::(eG sg cs H).1,(eG sg cs H).2)
 |_,cs,H=>(cs,H)
def ownRow (t0:TypeId)(sg:List (Option (TypeId×Ty)))(H:aH)(id:Nat):aH :=
 match H.get id with
 |some (.cells t cs)=>ah (Nat.beq t t0) ((eG sg cs H).2.put id (.cells t (eG sg cs H).1)) H
 |_=>H
mutual
def BQ (φ:Nat->Nat)(p:Nat):AV->AV
 |.own id n=>ah (Nat.ble p id) (.own (φ id) n) .jZ
 |.rH id a b c=>ah (Nat.ble p id) (.rH (φ id) a b c) .jZ
 |.ptr id off=>.ptr (φ id) off
 |.D1 id n=>ah (Nat.ble p id) (.D1 (φ id) n) .jZ
 |.ye id=>.ye (φ id)
 |.CX _ _ _ _ _=>.jZ
 |.dat _=>.jZ
 |.fn f a b=>.fn f (O4 φ p a) (O4 φ p b)
 |.agg l=>.agg (O4 φ p l)
 |.fH l=>.fH (O4 φ p l)
 |.int k n=>.int k n
 |.bool b=>.bool b
 |.str s=>.str s
 |.pZ n=>.pZ n
 |.dW e l=>.dW e l
 |.dg=>.dg
 |.yG cs=>.yG (O4 φ p cs)
 |.nX=>.nX
 |.zR v=>.zR v
 |.fl a=>.fl a
 |.cx a b=>.cx a b
 |.jZ=>.jZ
def O4 (φ:Nat->Nat)(p:Nat):List AV->List AV
 |[]=>[]
 |v::l=>BQ φ p v::O4 φ p l
end
def QS (φ:Nat->Nat)(p:Nat):Row->Row
 |.cells t cs=>.cells t (O4 φ p cs)
 |r=>r
def vo (ids:List Nat)(p next:Nat)(i:Nat):Nat:=ah (Nat.ble (Nat.succ i) p) (ids.getD i 0) (Nat.add next (Nat.sub i p))
def fX:List Nat->List Row->aH->aH
 |id::ids,r::rs,M=>fX ids rs (M.put id r)
 |_,_,M=>M
def Fm (H:aH)(ids:List Nat)(p:Nat)(outs:List Row):aH :=
 fX ids ((outs.take p).map (QS (vo ids p H.next) p)++(ids.drop p).map λ_=>.dead) ((outs.drop p).foldl (λM r=>M.push (QS (vo ids p H.next) p r)) H)
structure Mk where
 t:TypeId
 sg:List (Option (TypeId×Ty))
 g:List AV->List Row->Option (Bool×AV×List Row)
def O5 {β:Type}(g:List AV->List Row->Option (Bool×AV×List Row))(args:List AV)(H:aH)(st ids:List Nat)(k:AV->aH->Option β):Option β :=
 ah (nodupB ids&&ids.all H.nH&&(ids.take st.length).all (Hv H)&&(ids.drop st.length).all (Mj H)&&Nat.ble st.length ids.length)
  (match g (xT ids (args.map (age H))) (rowsOf H ids) with
   |some (cnd,v,outs)=>ah (Nat.ble st.length outs.length&&(outs.take st.length).all uw&&(outs.drop st.length).all λr=>uw r||Fl r)
    (ah cnd (k (BQ (vo ids st.length H.next) st.length v) (Fm H ids st.length outs)) none) none
   |none=>none) none
def QT {β:Type}(c:Mk)(args:List AV)(H:aH)(k:AV->aH->Option β):Option β :=
 ah ((wB H 3 (args.foldl Hu [])).all H.nH) ((λH1:aH=>(λids:List Nat=>(λst:List Nat=>O5 c.g args H1 st (args.foldl Hu (st.foldl (Ip H1) st)) k) (ids.filter (Hv H1))) (wB H1 3 (args.foldl Hu [])))
  ((wB H 3 (args.foldl Hu [])).foldl (ownRow c.t c.sg) H)) none
theorem Fp:∀(l:List Row) (M:aH),(l.foldl (λM r=>M.push r) M).next=M.next+l.length/\(l.foldl (λM r=>M.push r) M).lk=M.lk/\(l.foldl (λM r=>M.push r) M).par=M.par /\
 ∀j,(l.foldl (λM r=>M.push r) M).get j=if j<M.next then M.get j else (l[j-M.next]?).bind Row.live
 |[],M=>⟨rfl,rfl,rfl,λj=>by
  show M.get j=_;by_cases hj:j<M.next
  .rw[ag hj]
  rw[aa hj];cases h:M.get j with
  |none=>rfl
  |some r=>exact absurd (aH.eJ h) hj⟩
 |r::l,M=>by
  rw[gk];obtain⟨h1,h2,h3,h4⟩:=Fp l (M.push r);obtain⟨p1,p2,p3,p4⟩:=aH.dL M r;refine⟨by rw[h1,p1];simp;omega,by rw[h2,p2],by rw[h3,p3],λj=>?_⟩;rw[h4,p1,p4];by_cases hj:j<M.next
  .rw[ag (by omega),aa (by omega),ag hj]
  rw[aa hj];by_cases hj2:j=M.next
  .subst hj2;rw[ag (by omega),ag rfl];simp
  rw[aa (by omega)];have:j-M.next=(j-(M.next+1))+1:=by omega
  rw[this];rfl
theorem ux (p:Nat)(l:List Row):(eS p l).next=l.length/\(eS p l).lk=0/\(eS p l).par=p/\∀j,(eS p l).get j=(l[j]?).bind Row.live:=by
 obtain⟨h1,h2,h3,h4⟩:=Fp l ⟨0,0,p,.e⟩;refine⟨by unfold eS;rw[h1];simp,h2,h3,λj=>?_⟩;have:=h4 j;rw[aa (by show ¬j<0;omega)]at this;exact this
theorem Fq:∀(ids:List Nat) (rs:List Row) (M:aH),(∀id∈ids,id<M.next)->rs.length=ids.length->(∀(i j:Nat) x,ids[i]? = some x->ids[j]? = some x->i=j) ->
 (fX ids rs M).next=M.next/\(fX ids rs M).lk=M.lk/\(fX ids rs M).par=M.par/\(∀(i j:Nat),ids[i]? = some j->(fX ids rs M).get j=(rs[i]?).bind Row.live)/\∀j,j ∉ ids->(fX ids rs M).get j=M.get j
 |[],rs,M,_,hl,_=>by
  have:rs=[]:=aQ.1 hl;subst this;exact⟨rfl,rfl,rfl,λi j h=>by simp at h,λ_ _=>rfl⟩
 |id::ids,[],M,_,hl,_=>by simp at hl
 |id::ids,r::rs,M,hlt,hl,hnd=>by
  obtain⟨p1,p2,p3,p4⟩:=aH.gq M id r;have hno:id ∉ ids:=λhm=>by
   obtain⟨i,hi⟩:=eB hm;have:=hnd 0 (i+1) id rfl (by simpa using hi);omega
  obtain⟨h1,h2,h3,h4,h5⟩:=Fq ids rs (M.put id r) (λx hx=>by rw[p1];exact hlt x (by simp[hx])) (by simpa using hl) (λi j x hi hj=>by
   have:=hnd (i+1) (j+1) x (by simpa using hi) (by simpa using hj);omega)
  refine⟨h1.trans p1,h2.trans p2,h3.trans p3,λi j hj=>?_,λj hj=>?_⟩
  .cases i with
   |zero =>
    simp at hj;subst hj;show (fX ids rs (M.put id r)).get id=_;rw[h5 id hno,p4,ag rfl,ag (hlt id (by simp))];rfl
   |succ i=>exact(h4 i j (by simpa using hj)).trans rfl
  have hj1:j≠id:=λe=>hj (by simp[e])
  have hj2:j ∉ ids:=λe=>hj (by simp[e])
  show (fX ids rs (M.put id r)).get j=_;rw[h5 j hj2,p4,aa hj1]
section
variable {S:Wo} {H:aH} {E:Mem} {ids:List Nat}
theorem QU {id:Nat}{r:Row}(h:H.get id=some r):rowOf H ids id=Io ids (O1 H r):=by unfold rowOf;rw[h]
theorem Jw (hr:Rel S H E){v:AV}{x:Value}(h:VR S v x):VR S (SU H v) x:=by
 cases v with
 |own id n =>
  have e0:SU H (.own id n)=(match H.get id with
   |some (.list _ _ l _ _ _)=>AV.own id l.length
   |_=>AV.own id n):=rfl
  rw[e0];split
  .rename_i t e l gu ex ro hg;obtain⟨_,⟨_,g0,k1,k2⟩,_⟩:=hr.row id _ hg;cases h with
   |own _ _ i cap s hρ g hg' hn=>rw[k1]at hg';cases hg';rw[show l.length=n by omega];exact .own id _ i cap s hρ g0 k1 hn
   |fY _ g hg' hn=>rw[k1]at hg';cases hg';rw[show l.length=0 by omega];exact .fY id g0 k1 hn
  exact h
 |_=>exact h
theorem LV.xb {f:AV->AV}(hf:∀v x,VR S v x->VR S (f v) x):∀{l:List AV} {m:List Value},LV S l m->LV S (l.map f) m
 |[],m,h=>h
 |v::l,m,h=>by
  obtain⟨x,m',rfl,h1,h2⟩:=h.cons_inv;exact LV.cons (hf v x h1) (LV.xb hf h2)
theorem QV (hr:Rel S H E){v:AV}{x:Value}(h:VR S v x):VR S (VZ H v) x:=by
 cases v with
 |agg l=>cases h with
  |agg _ m hl hm =>
   have:=LV.xb (f:=SU H) (λv x h=>Jw hr h) (show LV S l m from ⟨hl,hm⟩);exact .agg _ m this.1 this.2
 |_=>exact Jw hr h
theorem QW (hr:Rel S H E){v:AV}{x:Value}(h:VR S v x):VR S (age H v) x:=by
 cases v with
 |fH l=>cases h with
  |fH _ m hl hm =>
   have:=LV.xb (f:=VZ H) (λv x h=>QV hr h) (show LV S l m from ⟨hl,hm⟩);exact .fH _ m this.1 this.2
 |_=>exact QV hr h
theorem aaW (hr:Rel S H E){id:Nat}{r:Row}(h:oS S E id r):oS S E id (O1 H r):=by
 cases r with
 |cells t cs =>
  obtain⟨i,c,s,b,a1,a2,a3,a4⟩:=h;exact⟨i,c,s,b,a1,a2,LV.xb (λv x h=>Jw hr h) a3,a4⟩
 |_=>exact h
theorem QX (r:Row):(O1 H r).AJ=r.AJ:=by cases r<;>rfl
theorem QZ (hr:Rel S H E)(hnd:nodupB ids=true){p:Nat}(hp:p<=ids.length)(hmay:∀id∈ids,H.lk<=id):Rel (S.wJ H ids) (eS p (rowsOf H ids)) E:=by
 obtain⟨p1,p2,p3,p4⟩:=ux p (rowsOf H ids);have hlen:(rowsOf H ids).length=ids.length:=cz ..;rw[hlen]at p1;have CG:∀j q,(eS p (rowsOf H ids)).get j=some q->∃id r,ids[j]? = some id/\H.get id=some r/\q=Io ids (O1 H r):=λj q hj=>by
  rw[p4]at hj;obtain⟨r0,h1,h2⟩:=dN.1 hj;unfold rowsOf at h1;rw[cA]at h1;obtain⟨id,h3,h4⟩:=aK.1 h1;subst h4;unfold rowOf at h2;split at h2
  .rename_i r hg;refine⟨id,r,h3,hg,?_⟩;cases r<;>first|(simpa[Io,O1,Row.live] using h2.symm)|exact absurd hg aH.Iu
  cases h2
 have ρj:∀{j id},ids[j]? = some id->(S.wJ H ids).ρ j=S.ρ id:=λ{j id} hj=>by
  show (ids[j]?).bind S.ρ=_;rw[hj];rfl
 refine⟨hr.fz,λj x hx=>?_,λj v hj=>?_,λj q hj=>?_,λj j' q q' y y' hj hj' hy hy' he=>?_,λj q y hj hb hy=>?_,λj q y hj _ hy=>?_,by rw[p1,p2];exact cq _,by rw[p1,p3];exact hp,hr.Gh⟩
 .rw[p1];have hx:(ids[j]?).bind S.ρ=some x:=hx;cases hi:ids[j]? with
  |none=>rw[hi]at hx;cases hx
  |some id=>exact(bu.1 hi).1
 .rw[p1]at hj;show (if v=0 then (ids[j]?).bind _ else none)=none;rw[dI hj];split<;>rfl
 .obtain ⟨id,r,h1,h2,rfl⟩:=CG j q hj;have hrow:=aaW hr (hr.row id r h2);cases r with
  |dead=>trivial
  |cells t cs =>
   obtain⟨i,c,s,b,a1,a2,a3,a4⟩:=hrow;exact⟨i,c,s,b,by rw[ρj h1];exact a1,a2,a3.wJ hr,a4⟩
  |mp t ks =>
   obtain⟨i,c,s,b,a1,a2⟩:=hrow;exact⟨i,c,s,b,by rw[ρj h1];exact a1,a2⟩
  |mf t ks =>
   obtain⟨i,c,s,b,a1,a2,a3,a4,a5⟩:=hrow;exact⟨i,c,s,b,by rw[ρj h1];exact a1,a2,a3,a4.wJ hr,a5⟩
  |list t e l gu ex ro =>
   obtain⟨a1,⟨a2,g,a3,a4⟩,a5⟩:=hrow;have hΓ:(S.wJ H ids).Γ j 0=some ⟨e,l⟩:=by
    show (if 0=0 then (ids[j]?).bind _ else none)=_;rw[ag rfl,h1];simp only[aW,h2]
   refine⟨hΓ,⟨λv hv=>aa (by omega),⟨e,l⟩,hΓ,rfl⟩,?_⟩;rcases a5 with⟨b1,b2,b3⟩|⟨i,cap,b,mid,post,q1,q2⟩
   .exact .inl ⟨b1,by rw[ρj h1];exact b2,b3⟩
   exact .inr ⟨i,cap,b,mid,post,by rw[ρj h1];exact q1,q2⟩
 .obtain ⟨id,r,h1,h2,rfl⟩:=CG j q hj;obtain⟨id',r',h1',h2',rfl⟩:=CG j' q' hj';rw[ρj h1]at hy;rw[ρj h1']at hy';have:=hr.inj id id' r r' y y' h2 h2' hy hy' he;subst this;exact td hnd j j' id h1 h1'
 .obtain ⟨id,r,h1,h2,rfl⟩:=CG j q hj;rw[ρj h1]at hy;rw[C7,QX]at hb;exact hr.sep id r y h2 hb hy
 obtain⟨id,r,h1,h2,rfl⟩:=CG j q hj;rw[ρj h1]at hy;exact hr.lk id r y h2 (hmay id (bg h1)) hy
theorem O6 {v v':AV}{outs:List Row}{x:Value}(h:gw v H=some (v',outs))(hr:Rel S H E)(hv:VR S v x):∃S',VR S' v' x/\Rel S' (eS H.par outs) E/\Bm S H E S' (eS H.par outs) E:=by
 unfold gw at h;generalize wB H 3 (Hu ((List.range H.par).foldl (Ip H) (List.range H.par)) v)=ids at h;simp only at h;rw[av]at h;split at h;case isFalse=>cases h
 rename_i hc;simp only[ak,aN]at hc;obtain⟨⟨hnd,hpar⟩,hlk⟩:=hc;have hpar:ids.take H.par=List.range H.par:=by simpa using hpar
 simp only[aq,ax]at h;obtain⟨rfl,rfl⟩:=h;have aeb:H.par<=ids.length:=by
  have:=cn List.length hpar;simp at this;omega
 refine⟨S.wJ H ids,(QW hr hv).wJ hr,QZ hr hnd aeb (λid _=>by omega),?_⟩;obtain⟨p1,p2,p3,p4⟩:=ux H.par (rowsOf H ids);refine⟨aG _,rfl,by rw[p2,hlk],p3,λ_ _ h=>h,λi ho _=>?_,λi hi=>.inl hi,λ_ _ _=>rfl,λid hid=>?_⟩
 .obtain ⟨j,q,y,hj,hb,hy,rfl⟩:=ho;rw[p4]at hj;obtain⟨r0,h1,h2⟩:=dN.1 hj;unfold rowsOf at h1;rw[cA]at h1;obtain⟨id,h3,h4⟩:=aK.1 h1;subst h4;have hy:(ids[j]?).bind S.ρ=some y:=hy;rw[h3]at hy;unfold rowOf at h2;split at h2
  .rename_i r hg;refine⟨id,r,y,hg,?_,hy,rfl⟩;rw[<-QX (H:=H),<-C7 (ids:=ids)];cases r<;>first|(simp only[Io,O1,Row.live,aq]at h2;subst h2;exact hb)|exact absurd hg aH.Iu
  cases h2
 have:(ids.take H.par)[id]? = some id:=by rw[hpar];simp[hid]
 rw[dB,ag hid]at this;show (ids[id]?).bind S.ρ=_;rw[this];rfl
end
def Wo.back (S S':Wo)(p next:Nat):Wo:=⟨S'.F,λj=>if j<next then S.ρ j else S'.ρ (p+(j-next)),λj v=>if j<next then S.Γ j v else S'.Γ (p+(j-next)) v⟩
structure Bk (S S':Wo)(p next:Nat)(φ:Nat->Nat):Prop where
 lo:∀i x,i<p->S'.ρ i=some x->(S.back S' p next).ρ (φ i)=some x
 hi:∀i,p<=i->φ i=next+(i-p)
theorem Bk.ρ {S S':Wo}{p next:Nat}{φ:Nat->Nat}(h:Bk S S' p next φ){i:Nat}{x:Nat×Nat×Nat}(hx:S'.ρ i=some x):(S.back S' p next).ρ (φ i)=some x:=by
 by_cases hi:i<p
 .exact h.lo i x hi hx
 rw[h.hi i (by omega)];show (if next+(i-p)<next then _ else S'.ρ (p+(next+(i-p)-next)))=_;rw[aa (by omega),show p+(next+(i-p)-next)=i by omega];exact hx
theorem Bk.ρN {S S':Wo}{p next:Nat}{φ:Nat->Nat}(h:Bk S S' p next φ){i:Nat}(hi:p<=i):(S.back S' p next).ρ (φ i)=S'.ρ i:=by
 rw[h.hi i hi];show (if next+(i-p)<next then _ else S'.ρ (p+(next+(i-p)-next)))=_;rw[aa (by omega),show p+(next+(i-p)-next)=i by omega]
theorem Bk.Γ {S S':Wo}{p next:Nat}{φ:Nat->Nat}(h:Bk S S' p next φ){i:Nat}(hi:p<=i)(v:Nat):(S.back S' p next).Γ (φ i) v=S'.Γ i v:=by
 rw[h.hi i hi];show (if next+(i-p)<next then _ else S'.Γ (p+(next+(i-p)-next)) v)=_;rw[aa (by omega),show p+(next+(i-p)-next)=i by omega]
theorem VR.sh {S S':Wo}{p next:Nat}{φ:Nat->Nat}(hb:Bk S S' p next φ){v:AV}{x:Value}(h:VR S' v x):VR (S.back S' p next) (BQ φ p v) x:=by
 have dW:∀{l:List AV} {m:List Value},(∀(j:Nat) a b,l[j]? = some a->m[j]? = some b->VR (S.back S' p next) (BQ φ p a) b)->(∀(j:Nat) a b,(O4 φ p l)[j]? = some a->m[j]? = some b->VR (S.back S' p next) a b)/\(O4 φ p l).length=l.length:=by
  intro l;induction l with
  |nil=>intro m h;exact⟨λj a b ha=>by simp[O4]at ha,rfl⟩
  |cons v l ih =>
   intro m h;cases m with
   |nil=>exact⟨λj a b ha hb=>by simp at hb,by have:=(ih (m:=[]) (λj a b _ hb=>by simp at hb)).2;simp[O4,this]⟩
   |cons y m =>
    obtain⟨h1,h2⟩:=ih (m:=m) λj a b ha hb=>h (j+1) a b (by simpa using ha) (by simpa using hb)
    refine⟨λj a b ha hb=>?_,by simp[O4,h2]⟩;cases j with
    |zero=>simp[O4]at ha hb;subst ha;subst hb;exact h 0 v y rfl rfl
    |succ j=>exact h1 j a b (by simpa[O4] using ha) (by simpa using hb)
 have pk:∀{id:Nat} {w:AV},(p<=id->VR (S.back S' p next) w x)->VR (S.back S' p next) (ah (Nat.ble p id) w .jZ) x:=λ{id w} hw=>by
  rw[av];split
  .rename_i hp;exact hw (az hp)
  exact .jZ _
 clear pk;have pk:∀{id:Nat} {w:AV} {y:Value},(p<=id->VR (S.back S' p next) w y)->VR (S.back S' p next) (ah (Nat.ble p id) w .jZ) y:=λ{id w y} hw=>by
  rw[av];split
  .rename_i hp;exact hw (az hp)
  exact .jZ _
 induction h with
 |int=>unfold BQ;exact .int _ _
 |bool=>unfold BQ;exact .bool _
 |str=>unfold BQ;exact .str _
 |pZ=>unfold BQ;exact .pZ _
 |dW e l v h=>unfold BQ;exact .dW e l v h
 |dg=>unfold BQ;exact .dg
 |own id n i cap s h g hg hn=>unfold BQ;exact pk λhp=>.own _ n i cap s (hb.ρ h) g (by rw[hb.Γ hp];exact hg) hn
 |fY id g hg hn=>unfold BQ;exact pk λhp=>.fY _ g (by rw[hb.Γ hp];exact hg) hn
 |rH id off len cap i c s h g hg hc hl=>unfold BQ;exact pk λhp=>.rH _ off len cap i c s (hb.ρ h) g (by rw[hb.Γ hp];exact hg) hc hl
 |ptr id off i c s h=>unfold BQ;exact .ptr _ off i c s (hb.ρ h)
 |CX=>unfold BQ;exact .jZ _
 |ye id i c s h=>unfold BQ;exact .ye _ i c s (hb.ρ h)
 |dat=>unfold BQ;exact .jZ _
 |D1 id n i c s h g hg hn=>unfold BQ;exact pk λhp=>.D1 _ n i c s (hb.ρ h) g (by rw[hb.Γ hp];exact hg) hn
 |yG cs i pre mid post h hl _ ih =>
  unfold BQ;obtain⟨l1,l2⟩:=dW ih;exact .yG _ i pre mid post h (by omega) l1
 |nX=>unfold BQ;exact .nX
 |fn f a b a' b' ha hb' _ _ TE TG =>
  unfold BQ;obtain⟨l1,l2⟩:=dW TE;obtain⟨m1,m2⟩:=dW TG;exact .fn f _ _ a' b' (by omega) (by omega) l1 m1
 |agg l m hl _ ih =>
  unfold BQ;obtain⟨l1,l2⟩:=dW ih;exact .agg _ m (by omega) l1
 |fH l m hl _ ih =>
  unfold BQ;obtain⟨l1,l2⟩:=dW ih;exact .fH _ m (by omega) l1
 |zR v h=>unfold BQ;exact .zR v h
 |fl a v h=>unfold BQ;exact .fl a v h
 |cx a b v h=>unfold BQ;exact .cx a b v h
 |jZ v=>unfold BQ;exact .jZ v
theorem LV.sh {S S':Wo}{p next:Nat}{φ:Nat->Nat}(hb:Bk S S' p next φ):∀{l:List AV} {m:List Value},LV S' l m->LV (S.back S' p next) (O4 φ p l) m
 |[],m,h=>by rw[h.jq];exact LV.nil
 |v::l,m,h=>by
  obtain⟨x,m',rfl,h1,h2⟩:=h.cons_inv;exact LV.cons (h1.sh hb) (LV.sh hb h2)
theorem oS.sh {S S':Wo}{E:Mem}{p next:Nat}{φ:Nat->Nat}(hb:Bk S S' p next φ){i:Nat}{r:Row}(hk:uw r=true\/(Fl r=true/\p<=i))(h:oS S' E i r):oS (S.back S' p next) E (φ i) (QS φ p r):=by
 cases r with
 |dead=>trivial
 |cells t cs =>
  obtain⟨i0,c,s,b,a1,a2,a3,a4⟩:=h;exact⟨i0,c,s,b,hb.ρ a1,a2,a3.sh hb,a4⟩
 |mp t ks =>
  obtain⟨i0,c,s,b,a1,a2⟩:=h;exact⟨i0,c,s,b,hb.ρ a1,a2⟩
 |mf t ks=>rcases hk with hk|hk<;>simp[uw,Fl]at hk
 |list t e l gu ex ro =>
  have hp:p<=i:=by
   rcases hk with hk|hk
   .simp[uw]at hk
   exact hk.2
  obtain⟨a1,⟨a2,g,a3,a4⟩,a5⟩:=h;refine⟨by rw[hb.Γ hp];exact a1,⟨λv hv=>by rw[hb.Γ hp];exact a2 v hv,g,by rw[hb.Γ hp];exact a3,a4⟩,?_⟩;rcases a5 with⟨b1,b2,b3⟩|⟨i0,cap,b,mid,post,q1,q2⟩
  .exact .inl ⟨b1,by rw[hb.ρN hp];exact b2,b3⟩
  exact .inr ⟨i0,cap,b,mid,post,hb.ρ q1,q2⟩
theorem Ml {φ:Nat->Nat}{p:Nat}{r q:Row}(h:(QS φ p r).live=some q):q=QS φ p r/\r.live=some r:=by
 cases r<;>simp[QS,Row.live]at h<;>exact⟨by rw[<-h];rfl,rfl⟩
theorem Mm {H:aH}{id:Nat}(h:Hv H id=true):∃r,H.get id=some r/\uw r=true:=by
 unfold Hv at h;split at h
 .rename_i r hr;exact⟨r,hr,h⟩
 cases h
theorem Mn {H:aH}{id:Nat}(h:Mj H id=true):∃r,H.get id=some r/\Fl r=true:=by
 unfold Mj at h;split at h
 .rename_i r hr;exact⟨r,hr,h⟩
 cases h
theorem Jy {r:Row}(h:uw r=true):r.AJ=false/\r.live=some r:=by
 cases r<;>first|exact⟨rfl,rfl⟩|cases h
theorem Q0 {r:Row}(h:Fl r=true):r.AJ=false/\r.live=some r:=by
 cases r with
 |list t e l v ex ro=>cases ro with
  |false=>exact⟨rfl,rfl⟩
  |true=>cases h
 |_=>cases h
theorem Xx {S S':Wo}{H:aH}{E E':Mem}{ids:List Nat}{p:Nat}{outs:List Row}(hr:Rel S H E)(hnd:nodupB ids=true)(hp:p<=ids.length)
 (aaX:∀i id,ids[i]? = some id->i<p->Hv H id=true) (AP:∀i id,ids[i]? = some id->p<=i->Mj H id=true)
 (hr':Rel S' (eS p outs) E') (hst:Bm (S.wJ H ids) (eS p (rowsOf H ids)) E S' (eS p outs) E')
 (hpo:p<=outs.length) (ho1:∀i r,outs[i]? = some r->i<p->uw r=true) (CW:∀i r,outs[i]? = some r->p<=i->uw r=true\/Fl r=true) :
 Bk S S' p H.next (vo ids p H.next)/\S.le (S.back S' p H.next)/\Rel (S.back S' p H.next) (Fm H ids p outs) E'/\St S H E (S.back S' p H.next) (Fm H ids p outs) E':=by
 have φlo:∀{i id},i<p->ids[i]? = some id->vo ids p H.next i=id:=λ{i id} hi hid=>by
  unfold vo;rw[av,ag (ek hi),fQ,hid];rfl
 have φhi:∀{i},p<=i->vo ids p H.next i=H.next+(i-p):=λ{i} hi=>by
  unfold vo;rw[av,aa (by rw[br];omega)];rfl
 have idl:∀{i id},ids[i]? = some id->∃r,H.get id=some r/\r.AJ=false:=λ{i id} hid=>by
  by_cases hi:i<p
  .obtain ⟨r,h1,h2⟩:=Mm (aaX i id hid hi);exact⟨r,h1,(Jy h2).1⟩
  obtain⟨r,h1,h2⟩:=Mn (AP i id hid (by omega));exact⟨r,h1,(Q0 h2).1⟩
 have agf:∀{i id},ids[i]? = some id->id<H.next:=λhid=>let ⟨_,h,_⟩:=idl hid;aH.eJ h
 obtain⟨m1,m2,m3,m4⟩:=ux p (rowsOf H ids);obtain⟨o1,o2,o3,o4⟩:=ux p outs;have apJ:(rowsOf H ids).length=ids.length:=cz ..;have oro:∀{i q},outs[i]? = some q->q.AJ=false/\q.live=some q/\(eS p outs).get i=some q:=λ{i q} hq=>by
  have hh:q.AJ=false/\q.live=some q:=by
   by_cases hi:i<p
   .exact Jy (ho1 i q hq hi)
   rcases CW i q hq (by omega) with h|h
   .exact Jy h
   exact Q0 h
  exact⟨hh.1,hh.2,by rw[o4,hq];exact hh.2⟩
 have lo:∀i x,i<p->S'.ρ i=some x->∃id,ids[i]? = some id/\S.ρ id=some x:=λi x hi hx=>by
  have h1:=hst.par i (by rw[m3];exact hi);rw[h1]at hx;have hx:(ids[i]?).bind S.ρ=some x:=hx;obtain⟨id,h2,h3⟩:=dN.1 hx;exact⟨id,h2,h3⟩
 have old:∀j,j<H.next->(S.back S' p H.next).ρ j=S.ρ j:=λj hj=>ag hj
 have oldΓ:∀j v,j<H.next->(S.back S' p H.next).Γ j v=S.Γ j v:=λj v hj=>ag hj
 have hbk:Bk S S' p H.next (vo ids p H.next):=⟨λi x hi hx=>by
  obtain⟨id,h1,h2⟩:=lo i x hi hx;rw[φlo hi h1,old id (agf h1)];exact h2,λi hi=>φhi hi⟩
 have hle:S.le (S.back S' p H.next):=⟨λi x hx=>hst.F i x hx,λi x hx=>by rw[old i (hr.dom i x hx)];exact hx,λi v x hx=>by
  rw[oldΓ i v (by
   by_cases hi:i<H.next
   .exact hi
   rw[hr.CE i v (by omega)]at hx;cases hx)];exact hx⟩
 -- the memory
 have hM1:(outs.drop p).foldl (λM r=>M.push (QS (vo ids p H.next) p r)) H=((outs.drop p).map (QS (vo ids p H.next) p)).foldl (λM r=>M.push r) H:=by rw[List.foldl_map]
 obtain⟨q1,q2,q3,q4⟩:=Fp ((outs.drop p).map (QS (vo ids p H.next) p)) H;rw[<-hM1]at q1 q2 q3 q4;have akI:Fm H ids p outs=fX ids ((outs.take p).map (QS (vo ids p H.next) p)++(ids.drop p).map λ_=>.dead) ((outs.drop p).foldl (λM r=>M.push (QS (vo ids p H.next) p r)) H):=rfl;obtain⟨g1,g2,g3,g4,g5⟩:=Fq ids ((outs.take p).map (QS (vo ids p H.next) p)++(ids.drop p).map λ_=>.dead) ((outs.drop p).foldl (λM r=>M.push (QS (vo ids p H.next) p r)) H)
  (λid hid=>by
   obtain⟨i,hi⟩:=eB hid;rw[q1];have:=agf hi;omega) (by simp;omega) (td hnd)
 rw[<-akI]at g1 g2 g3 g4 g5;rw[q1]at g1;rw[q2]at g2;rw[q3]at g3;have PT:(Fm H ids p outs).next=H.next+(outs.length-p):=by rw[g1];simp
 have O7:∀j r,(Fm H ids p outs).get j=some r->(j<H.next/\j ∉ ids/\H.get j=some r)\/∃i q,j=vo ids p H.next i/\outs[i]? = some q/\r=QS (vo ids p H.next) p q:=λj r hj=>by
  by_cases hm:j∈ids
  .obtain ⟨i,hi⟩:=eB hm;rw[g4 i j hi]at hj;obtain⟨r0,h1,h2⟩:=dN.1 hj;by_cases hip:i<p
   .rw[List.getElem?_append_left (by simp;omega),cA,dB,ag hip]at h1;obtain⟨q,h3,h4⟩:=aK.1 h1;subst h4;exact .inr ⟨i,q,(φlo hip hi).symm,h3,(Ml h2).1⟩
   rw[List.getElem?_append_right (by simp;omega),cA]at h1;obtain⟨q,h3,h4⟩:=aK.1 h1;subst h4;cases h2
  rw[g5 j hm,q4]at hj;by_cases hjn:j<H.next
  .rw[ag hjn]at hj;exact .inl ⟨hjn,hm,hj⟩
  rw[aa hjn,cA,fS]at hj;obtain⟨r0,h1,h2⟩:=dN.1 hj;obtain⟨q,h3,h4⟩:=aK.1 h1;subst h4;exact .inr ⟨p+(j-H.next),q,by rw[φhi (by omega)];omega,h3,(Ml h2).1⟩
 have ρB:∀{i q},outs[i]? = some q->(S.back S' p H.next).ρ (vo ids p H.next i)=S'.ρ i:=λ{i q} hq=>by
  by_cases hi:i<p
  .have h1:=hst.par i (by rw[m3];exact hi);rw[h1];show _=(ids[i]?).bind S.ρ;have:i<ids.length:=by omega
   rw[aO this,φlo hi (aO this),old _ (agf (aO this))];rfl
  exact hbk.ρN (by omega)
 -- rows on the other side
 have akJ:∀m,Own (S.wJ H ids) (eS p (rowsOf H ids)) m->∃id r x,id∈ids/\H.get id=some r/\r.AJ=false/\S.ρ id=some x/\x.1=m:=λm ⟨j,q,y,hj,hb,hy,he⟩=>by
  have hy:(ids[j]?).bind S.ρ=some y:=hy;obtain⟨id,h1,h2⟩:=dN.1 hy;obtain⟨r,h3,h4⟩:=idl h1;exact⟨id,r,y,bg h1,h3,h4,h2,he⟩
 have far:∀j r y,j ∉ ids->H.get j=some r->S.ρ j=some y->¬Own (S.wJ H ids) (eS p (rowsOf H ids)) y.1/\y.1<E.size:=λj r y hj hg hy=>by
  refine⟨λho=>?_,let ⟨_,hb⟩:=hr.old hg hy;Mem.eJ hb⟩;obtain⟨id,r',x,h1,h2,h3,h4,h5⟩:=akJ _ ho;have:=hr.inj id j r' r x y h2 hg h4 hy h5;subst this;exact hj h1
 have near:∀i q y,outs[i]? = some q->S'.ρ i=some y->E.size<=y.1\/Own (S.wJ H ids) (eS p (rowsOf H ids)) y.1:=λi q y hq hy=>by
  by_cases hs:E.size<=y.1
  .exact .inl hs
  obtain⟨a,_,b⟩:=oro hq;exact .inr (hst.own y.1 ⟨i,q,y,b,a,hy,rfl⟩ (by omega))
 have agi:∀m,Own (S.wJ H ids) (eS p (rowsOf H ids)) m->Own S H m:=λm ho=>by
  obtain⟨id,r,x,_,h2,h3,h4,h5⟩:=akJ m ho;exact⟨id,r,x,h2,h3,h4,h5⟩
 refine⟨hbk,hle,⟨hr'.fz,λj x hx=>?_,λj v hj=>?_,λj r hj=>?_,λj j' r r' x x' hj hj' hx hx' he=>?_,λj r x hj hb hx=>?_,λj r x hj hl hx=>?_,by rw[g2,PT];have:=hr.zi;omega,by rw[g3,PT];have:=hr.KM;omega,hr'.Gh⟩,
  ⟨hst.sz,hst.lk,g2,g3,hle.F,λi ho hi=>?_,λi hi=>?_,λi hi ho=>hst.keep i hi λh=>ho (agi i h),λid hid=>old id (by have:=hr.KM;omega),by rw[PT];omega,λid hid hlv=>?_,λid hid hn=>by rw[old id hid];exact hn⟩⟩
 .rw[PT];by_cases hjn:j<H.next
  .omega
  have hx:(if j<H.next then S.ρ j else S'.ρ (p+(j-H.next)))=some x:=hx;rw[aa hjn]at hx;have:=hr'.dom _ x hx;rw[o1]at this;omega
 .rw[PT]at hj;show (if j<H.next then S.Γ j v else S'.Γ (p+(j-H.next)) v)=none;rw[aa (by omega)];exact hr'.CE _ v (by rw[o1];omega)
 .rcases O7 j r hj with⟨h1,h2,h3⟩|⟨i,q,rfl,h2,rfl⟩
  .refine (hr.row j r h3).keep hle (λhn=>by rw[old j h1];exact hn) (λv hv=>by rw[oldΓ j v h1];exact hv) λx hx=>?_
   obtain⟨f1,f2⟩:=far j r x h2 h3 hx;exact hst.keep _ f2 f1
  refine oS.sh hbk ?_ (hr'.row i q (oro h2).2.2);by_cases hi:i<p
  .exact .inl (ho1 i q h2 hi)
  rcases CW i q h2 (by omega) with h|h
  .exact .inl h
  exact .inr ⟨h,by omega⟩
 .rcases O7 j r hj with⟨h1,h2,h3⟩|⟨i,q,rfl,h2,rfl⟩<;>rcases O7 j' r' hj' with⟨h1',h2',h3'⟩|⟨i',q',rfl,h2',rfl⟩
  .rw[old j h1]at hx;rw[old j' h1']at hx';exact hr.inj j j' r r' x x' h3 h3' hx hx' he
  .rw[old j h1]at hx;rw[ρB h2']at hx';obtain⟨f1,f2⟩:=far j r x h2 h3 hx;rcases near i' q' x' h2' hx' with h|h
   .omega
   rw[<-he]at h;exact absurd h f1
  .rw[old j' h1']at hx';rw[ρB h2]at hx;obtain⟨f1,f2⟩:=far j' r' x' h2' h3' hx';rcases near i q x h2 hx with h|h
   .omega
   rw[he]at h;exact absurd h f1
  rw[ρB h2]at hx;rw[ρB h2']at hx';rw[hr'.inj i i' q q' x x' (oro h2).2.2 (oro h2').2.2 hx hx' he]
 .rcases O7 j r hj with⟨h1,h2,h3⟩|⟨i,q,rfl,h2,rfl⟩
  .rw[old j h1]at hx;obtain⟨f1,f2⟩:=far j r x h2 h3 hx;show S'.F x.1=none;cases hq:S'.F x.1 with
   |none=>rfl
   |some cs =>
    rcases hst.JL x.1 (by rw[hq];simp) with h|h|h
    .exact absurd (hr.sep j r x h3 hb hx) h
    .exact absurd h f1
    omega
  rw[ρB h2]at hx;exact hr'.sep i q x (oro h2).2.2 (oro h2).1 hx
 .rcases O7 j r hj with⟨h1,h2,h3⟩|⟨i,q,rfl,h2,rfl⟩
  .rw[old j h1]at hx;rw[hst.lk];exact hr.lk j r x h3 (by rw[<-g2];exact hl) hx
  rw[ρB h2]at hx;exact hr'.lk i q x (oro h2).2.2 (by rw[o2];exact cq _) hx
 .obtain ⟨j,r,x,hj,hb,hx,rfl⟩:=ho;rcases O7 j r hj with⟨h1,h2,h3⟩|⟨i,q,rfl,h2,rfl⟩
  .rw[old j h1]at hx;exact⟨j,r,x,h3,hb,hx,rfl⟩
  rw[ρB h2]at hx;rcases near i q x h2 hx with h|h
  .omega
  exact agi _ h
 .rcases hst.JL i hi with h|h|h
  .exact .inl h
  .exact .inr (.inl (agi i h))
  exact .inr (.inr h)
 cases hq:(Fm H ids p outs).get id with
 |none=>exact absurd hq hlv
 |some r =>
  rcases O7 id r hq with⟨h1,h2,h3⟩|⟨i,q,he,h2,_⟩
  .rw[h3];simp
  by_cases hi:i<p
  .have hil:i<ids.length:=by omega
   rw[φlo hi (aO hil)]at he;obtain⟨r0,k1,_⟩:=idl (aO hil);rw[he,k1];simp
  rw[φhi (by omega)]at he;omega
theorem tw {S0:Wo}{H0:aH}{E:Mem}:∀{sg:List (Option (TypeId×Ty))} {cs:List AV} {H:aH} {S:Wo} {C:List Value},Rel S H E->S0.le S->St S0 H0 E S H E->LV S cs C ->
 ∃S',S.le S'/\Rel S' (eG sg cs H).2 E/\St S0 H0 E S' (eG sg cs H).2 E/\LV S' (eG sg cs H).1 C/\H.next<=(eG sg cs H).2.next/\(∀j,j<H.next->(eG sg cs H).2.get j=H.get j/\S'.ρ j=S.ρ j)
 |[],cs,H,S,C,hr,hle,hst,hl=>by
  cases cs<;>exact⟨S,S.le_refl,hr,hst,hl,aG _,λ_ _=>⟨rfl,rfl⟩⟩
 |s::sg,[],H,S,C,hr,hle,hst,hl=>by
  have e:eG (s::sg) [] H=([],H):=by cases s with
   |none=>rfl
   |some q=>rfl
  rw[e];exact⟨S,S.le_refl,hr,hst,hl,aG _,λ_ _=>⟨rfl,rfl⟩⟩
 |s::sg,c::cs,H,S,C,hr,hle,hst,hl=>by
  obtain⟨x,C',rfl,h1,h2⟩:=hl.cons_inv;have same:(∃S',S.le S'/\Rel S' (c::(eG sg cs H).1,(eG sg cs H).2).2 E/\St S0 H0 E S' (c::(eG sg cs H).1,(eG sg cs H).2).2 E/\LV S' (c::(eG sg cs H).1,(eG sg cs H).2).1 (x::C')/\H.next<=(c::(eG sg cs H).1,(eG sg cs H).2).2.next/\(∀j,j<H.next->(c::(eG sg cs H).1,(eG sg cs H).2).2.get j=H.get j/\S'.ρ j=S.ρ j)):=by
   obtain⟨S',a1,a2,a3,a4,a5,a6⟩:=tw (sg:=sg) hr hle hst h2;exact⟨S',a1,a2,a3,LV.cons (h1.mono a1) a4,a5,a6⟩
  cases s with
  |none=>exact same
  |some q =>
   obtain⟨t,e⟩:=q;cases c with
   |dg =>
    have od:∀v,S.Γ H.next v=none:=λv=>hr.CE _ _ (aG _)
    obtain⟨b1,b2,b3⟩:=hr.add (E':=E) (r:=.list t e [] 0 false false) (x:=none) (g:=some ⟨e,[]⟩) (aG _) rfl (λ_ _=>rfl) (λr' hr'=>by cases hr';exact kY od) (λy hy=>by cases hy) rfl;obtain⟨p1,p2,p3,p4⟩:=aH.dL H (.list t e [] 0 false false);obtain⟨S',a1,a2,a3,a4,a5,a6⟩:=tw (sg:=sg) b2 (Wo.le_trans hle b1) (hst.trans b3) (h2.mono b1);cases h1;have hv:VR (S.new H.next none (some ⟨e,[]⟩)) (.own H.next 0) (.slice none 0 0):=.fY _ ⟨e,[]⟩ (ag ⟨rfl,rfl⟩) rfl;refine⟨S',Wo.le_trans b1 a1,a2,a3,LV.cons (hv.mono a1) a4,by rw[p1]at a5;exact bz (fC _) a5,λj hj=>?_⟩
    obtain⟨c1,c2⟩:=a6 j (by rw[p1];omega);exact⟨c1.trans (by rw[p4,aa (by omega)]),c2.trans (aa (by omega))⟩
   |_=>exact same
theorem SV {t0:TypeId}{sg:List (Option (TypeId×Ty))}{S0 S:Wo}{H0 H:aH}{E:Mem}(id:Nat)(hmay:H0.lk<=id)(hr:Rel S H E)(hle:S0.le S)(hst:St S0 H0 E S H E) :
 ∃S',S.le S'/\Rel S' (ownRow t0 sg H id) E/\St S0 H0 E S' (ownRow t0 sg H id) E:=by
 unfold ownRow;split;case h_2=>exact⟨S,S.le_refl,hr,hst⟩
 rename_i t cs hg;rw[av];split;case isFalse=>exact⟨S,S.le_refl,hr,hst⟩
 obtain⟨i,c,s,b,h1,h2,h3,h4⟩:=hr.row id _ hg;obtain⟨S1,a1,a2,a3,a4,a5,a6⟩:=tw (sg:=sg) hr hle hst h3;have hid:=aH.eJ hg;obtain⟨g1,g2⟩:=a6 id hid;obtain⟨m1,m2⟩:=a2.mod (S':=S1) (E':=E) (r:=.cells t cs) (r':=.cells t (eG sg cs H).1) (by rw[g1];exact hg) rfl S1.le_refl rfl (λ_ _ _=>rfl) rfl rfl (λ_ _=>rfl) (λj cs h=>.inl h) (λq hq=>by
  cases hq;exact⟨i,c,s,b,by rw[g2];exact h1,h2,a4,h4⟩)
 exact⟨S1,a1,m1,a3.trans m2⟩
theorem Fs {t0:TypeId}{sg:List (Option (TypeId×Ty))}{S0:Wo}{H0:aH}{E:Mem}:∀(l:List Nat) {S:Wo} {H:aH},(∀id∈l,H0.lk<=id)->Rel S H E->S0.le S->St S0 H0 E S H E ->
 ∃S',S.le S'/\Rel S' (l.foldl (ownRow t0 sg) H) E/\St S0 H0 E S' (l.foldl (ownRow t0 sg) H) E
 |[],S,H,_,hr,hle,hst=>⟨S,S.le_refl,hr,hst⟩
 |id::l,S,H,hm,hr,hle,hst=>by
  obtain⟨S1,a1,a2,a3⟩:=SV (t0:=t0) (sg:=sg) id (hm id (by simp)) hr hle hst;obtain⟨S2,b1,b2,b3⟩:=Fs l (λx hx=>hm x (by simp[hx])) a2 (Wo.le_trans hle a1) a3;exact⟨S2,Wo.le_trans a1 b1,b2,b3⟩
section
variable {X:gU} {cf:Nat×Nat->Ev.cH}
def j5 (X:gU)(cf:Nat×Nat->Ev.cH)(f:FuncId)(g:List AV->List Row->Option (Bool×AV×List Row)):Prop :=
 ∀args rows v outs,g args rows=some (true,v,outs)->∀p,∀(S:Wo) (E:Mem) (bM:List Value),p=sN rows->Rel S (eS p rows) E->fm X S->LV S args bM ->
  ∃S' vE E',(∃N,∀n:Nat×Nat,N<=n.1/\N<=n.2->cf n f bM E=some (vE,E'))/\VR S' v vE/\Rel S' (eS p outs) E'/\Bm S (eS p rows) E S' (eS p outs) E'
theorem Mo:∀(l:List Row) (p:Nat),(∀i r,l[i]? = some r->i<p->uw r=true)->(∀i r,l[i]? = some r->p<=i->uw r=false)->p<=l.length->sN l=p
 |[],p,_,_,hp=>by simp at hp;subst hp;rfl
 |r::l,p,h1,h2,hp=>by
  unfold sN;rw[av];cases p with
  |zero=>rw[aa (by have:=h2 0 r rfl (aG _);rw[this];simp)]
  |succ p =>
   rw[ag (h1 0 r rfl (by omega)),Mo l p (λi q hq hi=>h1 (i+1) q (by simpa using hq) (by omega)) (λi q hq hi=>h2 (i+1) q (by simpa using hq) (by omega)) (by simpa using hp)]
theorem SW {f:FuncId}{g:List AV->List Row->Option (Bool×AV×List Row)}(hc:j5 X cf f g){β:Type}{args:List AV}{H:aH}{st ids:List Nat}{k:AV->aH->Option β}{r:β}(h:O5 g args H st ids k=some r):∃v H',k v H'=some r/\IC X cf f args H v H':=by
 unfold O5 at h;rw[av]at h;split at h;case isFalse=>cases h
 rename_i hb;simp only[ak]at hb;obtain⟨⟨⟨⟨hnd,hmay⟩,hs1⟩,hs2⟩,hpl⟩:=hb;split at h;case h_2=>cases h
 rename_i cnd v outs hg;rw[av]at h;split at h;case isFalse=>cases h
 rename_i JK;simp only[ak]at JK;obtain⟨⟨hpo,ho1⟩,CW⟩:=JK;rw[av]at h;split at h;case isFalse=>cases h
 rename_i hcnd;subst hcnd;have hpl:=az hpl;have hpo:=az hpo;refine⟨_,_,h,λS E bM hr hgl hl=>?_⟩;have hmay':∀id∈ids,H.lk<=id:=λid hid=>by
  have:=aP.1 hmay id hid;simpa[aH.nH,br] using this
 have aaX:∀i id,ids[i]? = some id->i<st.length->Hv H id=true:=λi id hi hlt =>
  aP.1 hs1 id (bg (i:=i) (by rw[dB,ag hlt];exact hi))
 have AP:∀i id,ids[i]? = some id->st.length<=i->Mj H id=true:=λi id hi hle =>
  aP.1 hs2 id (bg (i:=i-st.length) (by rw[fS,show st.length+(i-st.length)=i by omega];exact hi))
 have hrow:∀i q,(rowsOf H ids)[i]? = some q->∃id,ids[i]? = some id/\q=rowOf H ids id:=λi q hq=>by
  unfold rowsOf at hq;rw[cA]at hq;obtain⟨id,h1,h2⟩:=aK.1 hq;exact⟨id,h1,h2.symm⟩
 have hN:sN (rowsOf H ids)=st.length:=Mo _ _ (λi q hq hi=>by
  obtain⟨id,h1,rfl⟩:=hrow i q hq;obtain⟨r0,h2,h3⟩:=Mm (aaX i id h1 hi);rw[QU h2];cases r0<;>first|exact h3|cases h3) (λi q hq hi=>by
  obtain⟨id,h1,rfl⟩:=hrow i q hq;obtain⟨r0,h2,h3⟩:=Mn (AP i id h1 hi);rw[QU h2];cases r0<;>first|rfl|cases h3) (by unfold rowsOf;simpa using hpl)
 obtain⟨S',vE,E',a1,a2,a3,a4⟩:=hc _ _ v outs hg st.length (S.wJ H ids) E bM hN.symm (QZ hr hnd hpl hmay') (hgl.mono' λ_ _ h=>h) ((LV.xb (λv x h=>QW hr h) hl).wJ hr);obtain⟨b1,b2,b3,b4⟩:=Xx hr hnd hpl aaX AP a3 a4 hpo (λi q hq hi=>aP.1 ho1 q (bg (i:=i) (by rw[dB,ag hi];exact hq))) (λi q hq hi=>by
  have:=aP.1 CW q (bg (i:=i-st.length) (by rw[fS,show st.length+(i-st.length)=i by omega];exact hq));simpa using this)
 exact⟨_,vE,E',a1,b2,a2.sh b1,b3,b4⟩
theorem Xy {f:FuncId}{c:Mk}(hc:j5 X cf f c.g){β:Type}{args:List AV}{H:aH}{k:AV->aH->Option β}{r:β}(h:QT c args H k=some r):∃v H',k v H'=some r/\IC X cf f args H v H':=by
 unfold QT at h;simp only at h;rw[av]at h;split at h;case isFalse=>cases h
 rename_i hm;obtain⟨v,H',h1,h2⟩:=SW hc h;refine⟨v,H',h1,λS E bM hr hgl hl=>?_⟩;obtain⟨S1,a1,a2,a3⟩:=Fs (t0:=c.t) (sg:=c.sg) _ (λid hid=>by
  have:=aP.1 hm id hid;simpa[aH.nH,br] using this) hr S.le_refl (St.refl S H E)
 obtain⟨S2,vE,E',b1,b2,b3,b4,b5⟩:=h2 S1 E bM a2 (hgl.mono a1) (hl.mono a1);exact⟨S2,vE,E',b1,Wo.le_trans a1 b2,b3,b4,a3.trans b5⟩
theorem nI {kn:Ev.fc}{id:FuncId}(hk:∀args,kn id args=none){call:∀ β,cI β}(hcall:∀ β,cT X (dO X kn) (call β)){g:List AV->List Row->Option (Bool×AV×List Row)}
 (h:∀args rows v outs,g args rows=some (true,v,outs)->∃(an:eD) (rounds:Nat),aT X (call (AV×List Row)) an rounds id args (eS (sN rows) rows) gw=some (v,outs)):j5 X (dO X kn) id g:=by
 intro args rows v outs hg p S E bM hp hr hgl hl;subst hp;obtain⟨an,rounds,hrun⟩:=h args rows v outs hg;obtain⟨v1,H1,h1,h2⟩:=kV (nf:=false) (hcall _) (λh=>by cases h) hrun;obtain⟨S1,vE,E',a1,a2,a3,a4,_⟩:=h2 S E bM hr hgl hl;obtain⟨S2,b1,b2,b3⟩:=O6 h1 a3 a2;have hpar:H1.par=sN rows:=a4.yK.trans (ux _ _).2.2.1;rw[hpar]at b2 b3;exact⟨S2,vE,E',fZ hk a1,b1,b2,a4.trans b3⟩
def AA {β:Type}(it:List UInt8->List (List UInt8))(args:List AV)(H:aH)(k:AV->aH->Option β):Option β :=
 match args with
 |[.ptr id 0]=>match H.get id with
  |some (.cells _ [.str s])=>ah (H.nH id&&Nat.ble s.length 2000000) (k (.fH (.jZ::(it s).map .str)) (H.put id .dead)) none
  |_=>none
 |_=>none
def O8 (X:gU)(kn:Ev.fc)(f:FuncId)(it:List UInt8->List (List UInt8)):Prop :=
 X.P.funcs[f]? = none/\(∀i,kn f [.pointer (some ⟨i,0,none⟩)]=none)/\∀s:List UInt8,s.length<=2000000->kn f [Ev.ij,.string ⟨s.toArray⟩]=some (.tuple ((it s).map λx=>Value.string ⟨x.toArray⟩).toArray)
theorem Hw:∀(l:List (List UInt8)),Ev.cF (l.map λx=>Value.string ⟨x.toArray⟩)=true
 |[]=>rfl
 |x::l=>by
  have:=Hw l;simpa[Ev.cF,Ev.aY] using this
theorem aaY {kn:Ev.fc}{f:FuncId}{it:List UInt8->List (List UInt8)}(hi:O8 X kn f it){β:Type}{args:List AV}{H:aH}{k:AV->aH->Option β}{r:β}(h:AA it args H k=some r):∃v H',k v H'=some r/\IC X (dO X kn) f args H v H':=by
 obtain⟨i1,i2,i3⟩:=hi;unfold AA at h;split at h;case h_2=>cases h
 rename_i id;split at h;case h_2=>cases h
 rename_i t s JM;rw[av]at h;split at h;case isFalse=>cases h
 rename_i hc;simp only[ak]at hc;obtain⟨hmay,hlen⟩:=hc;have hlen:=az hlen;refine⟨_,_,h,λS E bM hr hg hl=>?_⟩;obtain⟨x,rfl,hx⟩:=LV.single hl;obtain⟨i0,c0,s0,b,q1,q2,q3,q4,q5⟩:=hr.row id _ JM;cases hx with
 |ptr _ _ i c s1 hρ =>
  rw[q1]at hρ;cases hρ;obtain⟨y,m',hb,hy,hm'⟩:=q3.cons_inv;have hm':=hm'.jq;subst hm';rw[hy.jo]at hb;have hmay':H.lk<=id:=by simpa[aH.nH,br] using hmay
  have hlk:=hr.lk id _ _ JM hmay' q1;obtain⟨E1,hE1⟩:=Mem.iS (b:={ b with live:=false,fix:=false }) (kW q2) hlk;have fe:Ev.kill E i0=some E1:=by unfold Ev.kill;rw[(dD q2).1];exact hE1
  obtain⟨z1,z2,z3,z4,z5⟩:=Ev.nF fe;obtain⟨m1,m2⟩:=hr.mod (S':=S) (E':=E1) (r':=.dead) JM rfl S.le_refl rfl (λ_ _ _=>rfl) z1 z2 (λj hj=>z4 j (hj _ q1)) (λj cs h=>.inl h) (λq hq=>by cases hq);have Xz:LV S (.jZ::(it s).map .str) (Ev.ij::(it s).map λx=>Value.string ⟨x.toArray⟩):=LV.cons (.jZ _) (LV.map _ λx _=>.str x);refine⟨S,.tuple (Ev.ij::(it s).map λx=>Value.string ⟨x.toArray⟩).toArray,E1,⟨1,λn hn'=>?_⟩,S.le_refl,.fH _ _ Xz.1 Xz.2,m1,m2⟩;obtain⟨R,D⟩:=n;obtain⟨D',rfl⟩:∃D',D=D'+1:=⟨D-1,by have:=hn'.2;simp only at this;omega⟩
  show Ev.nK X.P X.G kn R (D'+1) f _ E=_;rw[Ev.lS,i2];have e1:Ev.oD X.P kn f [.pointer (some ⟨i0,0,none⟩)] E=none:=rfl;have e2:Ev.lK X.P X.G (Ev.nK X.P X.G kn R D') R f [.pointer (some ⟨i0,0,none⟩)] E=none:=by unfold Ev.lK;rw[i1]
  have e3:Ev.yw X.P kn f [.pointer (some ⟨i0,0,none⟩)] E=some (.tuple (Ev.ij::(it s).map λx=>Value.string ⟨x.toArray⟩).toArray,E1):=by
   unfold Ev.yw;simp only[i1,q2,hb,i3 s hlen,fe,av];have:=Hw (it s);simp[this]
  simp only[e1,e2,e3,Ev.nD]
abbrev AB:=FuncId×Mk
def agj (l:List AB):FuncId->Option Mk:=λf=>List.rec (motive:=λ_=>Option Mk) none (λe _ r=>ah (Nat.beq f e.1) (some e.2) r) l
def pI (X:gU)(cf:Nat×Nat->Ev.cH)(l:List AB):Prop:=∀id c,agj l id=some c->j5 X cf id c.g
theorem pI.nil {cf:Nat×Nat->Ev.cH}:pI X cf []:=λ_ _ h=>by cases h
theorem pI.cons {cf:Nat×Nat->Ev.cH}{f:FuncId}{c:Mk}{l:List AB}(h:j5 X cf f c.g)(t:pI X cf l):pI X cf ((f,c)::l):=λid c' hk=>by
 have hk2:ah (Nat.beq id f) (some c) (agj l id)=some c':=hk;clear hk;rw[av]at hk2;split at hk2
 .rename_i hf;obtain rfl:=aZ hf;have yY:c=c':=bL hk2;subst yY;exact h
 exact t id c' hk2
abbrev ItT:=FuncId->Option (List UInt8->List (List UInt8))
def XA (X:gU)(K:Tu)(KN:KTN)(KG:FuncId->Option Mk)(KI:ItT)(inl:FuncId->Bool)(rounds:Nat)(β:Type):Nat->cI β :=
 λn=>Nat.rec (motive:=λ_=>cI β) (λ_ _ _ _=>none)
  (λ_ go id args H k=>ah (X.kl id) (Ch X args H k) (match K id with
   |some (sig,g)=>tg sig g args H k
   |none=>match KN id with
    |some c=>GL c args H k
    |none=>match KG id with
     |some c=>QT c args H k
     |none=>match KI id with
      |some it=>AA it args H k
      |none=>ah (inl id) (aT X go ⟨.none,.none,X.trs id⟩ rounds id args H k) none)) n
theorem XB {kn:Ev.fc}{K:Tu}{KN:KTN}{KG:FuncId->Option Mk}{KI:ItT}{inl:FuncId->Bool}(hK:∀id sig g,K id=some (sig,g)->dh X (dO X kn) id g)(hN:∀id c,KN id=some c->iB X (dO X kn) id c)(hG:∀id c,KG id=some c->j5 X (dO X kn) id c.g)(hI:∀id it,KI id=some it->O8 X kn id it)
 (hi:∀id,inl id=true->∀args,kn id args=none) (rounds:Nat) (n:Nat) (β:Type) (hkl:aee X kn:=by exact λ_ h=>Bool.noConfusion (show false=true from h)):cT X (dO X kn) (XA X K KN KG KI inl rounds β n):=by
 induction n with
 |zero=>exact λf args H k r h=>by cases h
 |succ n ih =>
  intro f args H k r h;have h:ah (X.kl f) (Ch X args H k) (match K f with
   |some (sig,g)=>tg sig g args H k
   |none=>match KN f with
    |some c=>GL c args H k
    |none=>match KG f with
     |some c=>QT c args H k
     |none=>match KI f with
      |some it=>AA it args H k
      |none=>ah (inl f) (aT X (XA X K KN KG KI inl rounds β n) ⟨.none,.none,X.trs f⟩ rounds f args H k) none)=some r:=h
  rw[av]at h;split at h
  .rename_i hf;exact Ek (hkl f hf) h
  split at h
  .rename_i sig g hk;exact yV (hK f sig g hk) h
  split at h
  .rename_i c hc;exact LI (hN f c hc) h
  split at h
  .rename_i c hc;exact Xy (hG f c hc) h
  split at h
  .rename_i it hit;exact aaY (hI f it hit) h
  rw[av]at h;split at h
  .rename_i hin;obtain⟨v,H',h1,h2⟩:=kV (nf:=true) ih (λ_=>⟨rfl,rfl⟩) h;refine⟨v,H',h1,λS E bM hr hg hl=>?_⟩;obtain⟨S',vE,E',a1,a2,a3,a4,a5⟩:=h2 S E bM hr hg hl;exact⟨S',vE,E',fZ (hi f hin) a1,(a5 rfl).1,a2,a3,(a5 rfl).2⟩
  cases h
end
end
end Go.Tv
