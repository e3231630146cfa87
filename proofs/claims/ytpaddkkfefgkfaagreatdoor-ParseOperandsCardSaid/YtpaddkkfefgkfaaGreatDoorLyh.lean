/- Contracts of functions that are handed a pointer to a row of theirs, and hand back lists in lists. What a run is seen to hand back: lists in structs, cells behind a pointer. -/
import Derived.Test.YtpaddkkfefgkfaaGreatDoorLyg
set_option linter.unusedVariables false
set_option linter.unusedSimpArgs false

namespace Go.Tv
open Go.Ev (Tr pick2 Leave Mem Blk alive pick2_eq alive_some)
noncomputable section
def Hy:AV->Bool
 |.int _ _=>true
 |.bool _=>true
 |.str _=>true
 |.j6 _=>true
 |.br=>true
 |.iE=>true
 |.bA _ _=>true
 |_=>false
def Ak:AV->Bool
 |.agg l=>l.all Hy
 |v=>Hy v
inductive bI where
 |val (v:AV)
 |list (t:TypeId) (e:Ty) (l:List e.den)
theorem Ot {S S':Wo} (hF:∀i x,S.F i=some x->S'.F i=some x) {v:AV} {x:Value} (h:Ak v=true) (hv:VR S v x):VR S' v x:=by
 have one:∀{v:AV} {x:Value},Hy v=true->VR S v x->VR S' v x:=λh hv=>by
  cases hv with
  |int=>exact .int _ _
  |bool=>exact .bool _
  |str=>exact .str _
  |j6=>exact .j6 _
  |br=>exact .br
  |iE=>exact .iE
  |bA e l _ h=>exact .bA e l _ (h.mono hF)
  |_=>cases h
 cases hv with
 |agg l m hl hm=>exact .agg l m hl λj a b ha hb=>one (List.all_eq_true.1 h a (List.mem_of_getElem? ha)) (hm j a b ha hb)
 |int k n=>exact one h (.int k n)
 |bool b=>exact one h (.bool b)
 |str s=>exact one h (.str s)
 |j6 n=>exact one h (.j6 n)
 |br=>exact .br
 |iE=>exact .iE
 |bA e l _ h=>exact .bA e l _ (h.mono hF)
 |_=>cases h
def dW:List bI->aa->List AV×aa
 |[],H=>([],H)
 |.val v::rs,H=>(v::(dW rs H).1,(dW rs H).2)
 |.list t e l::rs,H=>(.own H.next l.length::(dW rs (H.push (.list t e l 0 false false))).1,(dW rs (H.push (.list t e l 0 false false))).2)
def mF (M:aa):List Nat->List AV->List bI->Prop
 |_,[],[]=>True
 |seen,v::vs,.val w::rs=>v=w/\Ak w=true/\mF M seen vs rs
 |seen,v::vs,.list t e l::rs=>(∃id ct ex,v = .own id l.length/\M.get id=some (.list t e l ct ex false)/\id ∉ seen/\mF M (id::seen) vs rs)\/(v = .br/\l=[]/\mF M seen vs rs)
 |_,_,_=>False
def UG (S:Wo) (H:aa) (E:Mem) (yS:Nat->Prop) (rs:List bI) (xs:List Value):Prop :=
 ∃S',S.le S'/\LV S' (dW rs H).1 xs/\Rel S' (dW rs H).2 E/\S'.F=S.F/\H.next<=(dW rs H).2.next/\(dW rs H).2.lk=H.lk/\(dW rs H).2.par=H.par /\
  (∀id,id<H.next->(dW rs H).2.get id=H.get id/\S'.ρ id=S.ρ id)/\(∀id q z,H.next<=id->(dW rs H).2.get id=some q->S'.ρ id=some z->yS z.1)
theorem Js {S1:Wo} {M1:aa} {E:Mem} (Be:Rel S1 M1 E) (yS:Nat->Prop) (hlk:M1.lk=0):∀{vs:List AV} {rs:List bI} {seen:List Nat} {xs:List Value} {S:Wo} {H:aa},mF M1 seen vs rs->LV S1 vs xs->Rel S H E->S.F=S1.F ->
 (∀id r y,M1.get id=some r->id ∉ seen->S1.ρ id=some y->r.A4=false->yS y.1/\∀xg q z,H.get xg=some q->S.ρ xg=some z->z.1≠y.1) ->
 UG S H E yS rs xs
 |
  [],[],seen,xs,S,H,_,hl,hr,hF,hown=>by
  rw[hl.dI];exact ⟨S,S.le_refl,LV.nil,hr,rfl,Nat.le_refl _,rfl,rfl,λ_ _=>⟨rfl,rfl⟩,λid q z hid hq _=>absurd (aa.bC hq) (by show ¬id<H.next;omega)⟩
 |
  v::vs,r0::rs,seen,xs,S,H,h,hl,hr,hF,hown=>by
  obtain ⟨x,xs',rfl,h1,h2⟩:=hl.cons_inv;have iW:∀v,S.Γ H.next v=none:=λv=>hr.Ae _ _ (Nat.le_refl _)
  have go:∀(t:TypeId) (e:Ty) (l:List e.den) (seen':List Nat) (y:Option (Nat×Nat×Nat)),r0 = .list t e l->mF M1 seen' vs rs->S.le (S.new H.next y (some ⟨e,l⟩))->Rel (S.new H.next y (some ⟨e,l⟩)) (H.push (.list t e l 0 false false)) E->VR (S.new H.next y (some ⟨e,l⟩)) (.own H.next l.length) x ->
   (∀z,y=some z->yS z.1/\∃xe y1 r1,xe∈seen'/\S1.ρ xe=some y1/\y1.1=z.1/\M1.get xe=some r1)->(∀id,id∈seen->id∈seen')->UG S H E yS (r0::rs) (x::xs'):=λt e l seen' y LX hres hle hrel Wf hy hsub=>by
   subst LX;obtain ⟨p1,p2,p3,p4⟩:=aa.aY H (.list t e l 0 false false)
   have hown':∀id r y',M1.get id=some r->id ∉ seen'->S1.ρ id=some y'->r.A4=false->yS y'.1/\∀xg q z,(H.push (.list t e l 0 false false)).get xg=some q->(S.new H.next y (some ⟨e,l⟩)).ρ xg=some z->z.1≠y'.1:=λid r y' hg hns hρ hro=>by
    obtain ⟨k1,k2⟩:=hown id r y' hg (λhm=>hns (hsub _ hm)) hρ hro
    refine ⟨k1,λxg q z hq hz=>?_⟩
    rw[p4] at hq;by_cases hid:xg=H.next
    .
     subst hid;have hz:y=some z:=by rw[<-hz];exact (if_pos rfl).symm
     obtain ⟨_,xe,y1,r1,b1,b2,b3,b4⟩:=hy z hz;intro he;have:=Be.inj xe id r1 r y1 y' b4 hg b2 hρ (by omega)
     subst this;exact hns b1
    rw[if_neg hid] at hq;have hz:S.ρ xg=some z:=by rw[<-hz];exact (if_neg hid).symm
    exact k2 xg q z hq hz
   obtain ⟨S',a1,a2,a3,a4,a5,a6,a7,a8,a9⟩:=Js Be yS hlk hres h2 hrel hF hown';rw[p1] at a5 a8 a9;rw[p2] at a6;rw[p3] at a7;refine ⟨S',Wo.le_trans hle a1,LV.cons (Wf.mono a1) a2,a3,a4,Nat.le_trans (Nat.le_succ _) a5,a6,a7,λid hid=>?_,λid q z hid hq hz=>?_⟩
   .
    obtain ⟨b1,b2⟩:=a8 id (by omega)
    exact ⟨b1.trans (by rw[p4,if_neg (by omega)]),b2.trans (if_neg (by omega))⟩
   by_cases hid':id=H.next
   .
    subst hid';have:S'.ρ H.next=(S.new H.next y (some ⟨e,l⟩)).ρ H.next:=(a8 H.next (by omega)).2
    rw[this] at hz;have hz:y=some z:=by rw[<-hz];exact (if_pos rfl).symm
    exact (hy z hz).1
   exact a9 id q z (by omega) hq hz
  cases r0 with
  |
   val w =>
   obtain ⟨rfl,hs,h⟩:=h;obtain ⟨S',a1,a2,a3,a4⟩:=Js Be yS hlk h h2 hr hF hown;exact ⟨S',a1,LV.cons (Ot (λi x hx=>by rw[a4.1,hF];exact hx) hs h1) a2,a3,a4⟩
  |
   list t e l =>
   rcases h with ⟨id,ct,ex,rfl,hg,hns,h⟩|⟨rfl,rfl,h⟩
   .
    obtain ⟨g1,⟨g0,g,g2,g2'⟩,g3⟩:=Be.row id _ hg;generalize EB:l.length=n at h1;cases h1 with
    |
     own _ _ i0 ji s0 hρ g' hg' hn' =>
     rcases g3 with ⟨_,g5,_⟩|⟨i',cap,b,mid,post,q1,q2,q3,q4,q5,q6,q7,q8,q9,qJ⟩
     .
      rw[hρ] at g5;cases g5
     rw[hρ] at q1;cases q1;subst EB;obtain ⟨f1,f2⟩:=hown id _ _ hg hns hρ rfl
     obtain ⟨b1,b2⟩:=hr.qW (r:=.list t e l 0 false false) (x:=some (i0,ji,e.size)) (g:=some ⟨e,l⟩) (λr' hr'=>by
      cases hr'
      exact eE iW q2 q3 q4 (by rw[hF];exact q5) q6 q7 q8 (λh=>by cases h) (by rw[hF];exact qJ.2)) (λy hy=>by
       cases hy;exact ⟨f2,by rw[hF];exact Be.sep id _ _ hg rfl hρ,Be.lk id _ _ hg (by omega) hρ⟩)
     refine go t e l (id::seen) _ rfl h b1 b2 (.own _ _ i0 ji e.size (if_pos rfl) ⟨e,l⟩ (if_pos ⟨rfl,rfl⟩) rfl) (λz hz=>?_) (λid hid=>List.mem_cons_of_mem _ hid)
     cases hz;exact ⟨f1,id,_,_,List.mem_cons_self,hρ,rfl,hg⟩
    |
     cF _ g' hg' hn' =>
     have Wk:l=[]:=List.length_eq_zero_iff.1 EB;subst Wk;obtain ⟨b1,b2⟩:=hr.qW (r:=.list t e [] 0 false false) (x:=none) (g:=some ⟨e,[]⟩) (λr' hr'=>by cases hr';exact gp iW) (λy hy=>by cases hy)
     exact go t e [] (id::seen) none rfl h b1 b2 (.cF _ ⟨e,[]⟩ (if_pos ⟨rfl,rfl⟩) rfl) (λz hz=>by cases hz) (λid hid=>List.mem_cons_of_mem _ hid)
   cases h1;obtain ⟨b1,b2⟩:=hr.qW (r:=.list t e [] 0 false false) (x:=none) (g:=some ⟨e,[]⟩) (λr' hr'=>by cases hr';exact gp iW) (λy hy=>by cases hy)
   exact go t e [] seen none rfl h b1 b2 (.cF _ ⟨e,[]⟩ (if_pos ⟨rfl,rfl⟩) rfl) (λz hz=>by cases hz) (λid hid=>hid)
theorem Rel.putAt {S:Wo} {H:aa} {E:Mem} (h:Rel S H E) {id:Nat} {r:Row} (hid:id<H.next) (hro:r.A4=false) (hr:∀r',r.live=some r'->lW S E id r')
 (hx:∀y,S.ρ id=some y->(∀id' q z,H.get id'=some q->id'≠id->S.ρ id'=some z->z.1≠y.1)/\S.F y.1=none/\E.lk<=y.1):Rel S (H.put id r) E:=by
 obtain ⟨p1,p2,p3,p4⟩:=aa.dg H id r
 have hU:∀j q,(H.put id r).get j=some q->(j=id/\r.live=some q)\/(j≠id/\H.get j=some q):=λj q hj=>by
  rw[p4] at hj;by_cases e:j=id
  .
   rw[if_pos e,if_pos hid] at hj;exact .inl ⟨e,hj⟩
  rw[if_neg e] at hj;exact .inr ⟨e,hj⟩
 refine ⟨h.fz,λj y hy=>by rw[p1];exact h.dom j y hy,λj v hj=>by rw[p1] at hj;exact h.Ae j v hj,λj q hj=>?_,λj j' q q' y y' hj hj' hy hy' he=>?_,λj q y hj hb hy=>?_,λj q y hj hl hy=>?_,by rw[p1,p2];exact h.sM,by rw[p1,p3];exact h.GV,h.DG⟩
 .
  rcases hU j q hj with ⟨rfl,h1⟩|⟨_,h1⟩
  .
   exact hr q h1
  exact h.row j q h1
 .
  rcases hU j q hj with ⟨rfl,h1⟩|⟨e1,h1⟩<;>rcases hU j' q' hj' with ⟨rfl,h2⟩|⟨e2,h2⟩
  .
   rfl
  .
   exact absurd he.symm ((hx y hy).1 j' q' y' h2 e2 hy')
  .
   exact absurd he ((hx y' hy').1 j q y h1 e1 hy)
  exact h.inj j j' q q' y y' h1 h2 hy hy' he
 .
  rcases hU j q hj with ⟨rfl,h1⟩|⟨_,h1⟩
  .
   exact (hx y hy).2.1
  exact h.sep j q y h1 hb hy
 rcases hU j q hj with ⟨rfl,h1⟩|⟨_,h1⟩
 .
  exact (hx y hy).2.2
 rw[p2] at hl;exact h.lk j q y h1 hl hy
def cellsIn:Nat->List bI->List AV
 |_,[]=>[]
 |n,.val v::rs=>v::cellsIn n rs
 |n,.list _ _ l::rs=>.own n l.length::cellsIn (n+1) rs
def aJ:aa->List bI->aa
 |M,[]=>M
 |M,.val _::rs=>aJ M rs
 |M,.list t e l::rs=>aJ (M.push (.list t e l 0 false false)) rs
def eH (t:TypeId) (n:Nat) (rs:List bI):aa:=aJ ⟨1,0,1,(aa.empty.push (.cells t ((cellsIn 1 rs).take n))).t⟩ rs
def cH:aa->List (Option (TypeId×Ty))->List AV->Option (List AV×aa)
 |H,[],[]=>some ([],H)
 |
  H,none::sig,a::cs=>match fJ H [a] with
  |
   some ([a'],H1)=>match cH H1 sig cs with
   |some (l,H2)=>some (a'::l,H2)
   |none=>none
  |_=>none
 |
  H,some _::sig,a::cs=>match cH H sig cs with
  |some (l,H2)=>some (a::l,H2)
  |none=>none
 |_,_,_=>none
def bV:aa->List (Option (TypeId×Ty))->List AV->Option (List bI×aa)
 |H,[],[]=>some ([],H)
 |
  H,none::sig,a::cs=>pick2 (Ak a) (match bV H sig cs with
  |some (rs,H')=>some (.val a::rs,H')
  |none=>none) none
 |
  H,some (t,e)::sig,.br::cs=>match bV H sig cs with
  |some (rs,H')=>some (.list t e []::rs,H')
  |none=>none
 |
  H,some (t,e)::sig,.own id _::cs=>match H.get id with
  |
   some (.list t' e' l _ _ false)=>pick2 (H.iU id&&Nat.beq t' t) (match fk e' e l with
   |
    some l'=>match bV (H.put id .dead) sig cs with
    |some (rs,H')=>some (.list t e l'::rs,H')
    |none=>none
   |none=>none) none
  |_=>none
 |_,_,_=>none
theorem xm {S0:Wo} {H0:aa} {E:Mem}:∀{sig:List (Option (TypeId×Ty))} {cs cs':List AV} {H H':aa} {S:Wo} {C:List Value},Rel S H E->S0.le S->St S0 H0 E S H E->LV S cs C->cH H sig cs=some (cs',H')->∃S',S0.le S'/\Rel S' H' E/\St S0 H0 E S' H' E/\LV S' cs' C/\S.le S'
 |
  [],[],cs',H,H',S,C,hr,hle,hst,hl,h=>by
  simp only[cH,Option.some.injEq,Prod.mk.injEq] at h;obtain ⟨rfl,rfl⟩:=h;exact ⟨S,hle,hr,hst,hl,S.le_refl⟩
 |
  none::sig,a::cs,cs',H,H',S,C,hr,hle,hst,hl,h=>by
  obtain ⟨x,C',rfl,h1,h2⟩:=hl.cons_inv;unfold cH at h;split at h
  .
   rename_i a' H1 hf;obtain ⟨S1,b1,b2,b3,b4,b5⟩:=jl hr hle hst (LV.cons h1 LV.nil) hf;obtain ⟨x',_,e,b6,_⟩:=b4.cons_inv;cases e;split at h
   .
    rename_i l H2 hg;simp only[Option.some.injEq,Prod.mk.injEq] at h;obtain ⟨rfl,rfl⟩:=h;obtain ⟨S2,c1,c2,c3,c4,c5⟩:=xm b2 b1 b3 (h2.mono b5) hg;exact ⟨S2,c1,c2,c3,LV.cons (b6.mono c5) c4,Wo.le_trans b5 c5⟩
   cases h
  cases h
 |
  some _::sig,a::cs,cs',H,H',S,C,hr,hle,hst,hl,h=>by
  obtain ⟨x,C',rfl,h1,h2⟩:=hl.cons_inv;unfold cH at h;split at h
  .
   rename_i l H2 hg;simp only[Option.some.injEq,Prod.mk.injEq] at h;obtain ⟨rfl,rfl⟩:=h;obtain ⟨S2,c1,c2,c3,c4,c5⟩:=xm hr hle hst h2 hg;exact ⟨S2,c1,c2,c3,LV.cons (h1.mono c5) c4,c5⟩
  cases h
 |[],_::_,_,_,_,_,_,_,_,_,_,h=>by simp[cH] at h
 |none::_,[],_,_,_,_,_,_,_,_,_,h=>by simp[cH] at h
 |some _::_,[],_,_,_,_,_,_,_,_,_,h=>by simp[cH] at h
structure kB (H H':aa):Prop where
 next:H'.next=H.next
 lk:H'.lk=H.lk
 par:H'.par=H.par
 get:∀j r,H'.get j=some r->H.get j=some r
theorem kB.refl (H:aa):kB H H:=⟨rfl,rfl,rfl,λ_ _ h=>h⟩
theorem kB.trans {a b c:aa} (h:kB a b) (k:kB b c):kB a c:=⟨k.next.trans h.next,k.lk.trans h.lk,k.par.trans h.par,λj r hj=>h.get j r (k.get j r hj)⟩
theorem kB.dead (H:aa) (id:Nat):kB H (H.put id .dead):=by
 obtain ⟨p1,p2,p3,p4⟩:=aa.dg H id .dead
 refine ⟨p1,p2,p3,λj r hj=>?_⟩
 rw[p4] at hj
 by_cases e:j=id
 .
  rw[if_pos e] at hj;split at hj<;>cases hj
 rw[if_neg e] at hj;exact hj
theorem Fk (H:aa) (id:Nat):(H.put id .dead).get id=none:=by
 rw[(aa.dg H id .dead).2.2.2,if_pos rfl]
 split<;>rfl
def ou (S:Wo) (H H':aa) (i:Nat):Prop:=∃id r z,H.get id=some r/\r.A4=false/\S.ρ id=some z/\z.1=i/\H'.get id=none
theorem ou.later {S:Wo} {H H' H'':aa} {i:Nat} (h:ou S H H' i) (k:kB H' H''):ou S H H'' i:=by
 obtain ⟨id,r,z,h1,h2,h3,h4,h5⟩:=h
 refine ⟨id,r,z,h1,h2,h3,h4,?_⟩
 cases hg:H''.get id with
 |none=>rfl
 |some q=>rw[k.get id q hg] at h5;cases h5
theorem ou.earlier {S:Wo} {H0 H H':aa} {i:Nat} (h:ou S H H' i) (k:kB H0 H):ou S H0 H' i:=by
 obtain ⟨id,r,z,h1,h2⟩:=h
 exact ⟨id,r,z,k.get _ _ h1,h2⟩
theorem tP {S:Wo} {H0:aa} {E:Mem} (hr:Rel S H0 E):∀{sig:List (Option (TypeId×Ty))} {cs:List AV} {rs:List bI} {H H' M:aa} {S0:Wo} {C:List Value},kB H0 H->bV H sig cs=some (rs,H')->LV S cs C->Rel S0 M E->S0.F=S.F->M.lk=0 ->
 (∀j q y,M.get j=some q->S0.ρ j=some y->∀id q' z,H.get id=some q'->q'.A4=false->(∃t e l v x,q' = .list t e l v x false)->S.ρ id=some z->z.1≠y.1) ->
 kB H H'/\rs.length=cs.length/\rs.length=sig.length/\∃S0',S0.le S0'/\Rel S0' (aJ M rs) E/\LV S0' (cellsIn M.next rs) C/\S0'.F=S0.F/\M.next<=(aJ M rs).next/\(aJ M rs).lk=0/\(aJ M rs).par=M.par /\
  (∀j,j<M.next->(aJ M rs).get j=M.get j/\S0'.ρ j=S0.ρ j)/\(∀j q y,M.next<=j->(aJ M rs).get j=some q->S0'.ρ j=some y->ou S H H' y.1/\(∃t e l v x,q = .list t e l v x false))
 |
  [],[],rs,H,H',M,S0,C,hgo,h,hl,hm,hF,hlk,hown=>by
  simp only[bV,Option.some.injEq,Prod.mk.injEq] at h;obtain ⟨rfl,rfl⟩:=h;rw[hl.dI];exact ⟨kB.refl _,rfl,rfl,S0,S0.le_refl,hm,LV.nil,rfl,Nat.le_refl _,hlk,rfl,λ_ _=>⟨rfl,rfl⟩,λj q y hj hq _=>absurd (aa.bC hq) (by show ¬j<M.next;omega)⟩
 |
  none::sig,a::cs,rs,H,H',M,S0,C,hgo,h,hl,hm,hF,hlk,hown=>by
  obtain ⟨x,C',rfl,h1,h2⟩:=hl.cons_inv;unfold bV at h;rw[pick2_eq] at h;split at h
  .
   rename_i Ir;split at h
   .
    rename_i rs' H1 hi;simp only[Option.some.injEq,Prod.mk.injEq] at h;obtain ⟨rfl,rfl⟩:=h;obtain ⟨g1,g2,g2',S0',a1,a2,a3,a4,a5⟩:=tP hr hgo hi h2 hm hF hlk hown;exact ⟨g1,by simp[g2],by simp[g2'],S0',a1,a2,LV.cons (Ot (λi x hx=>by rw[a4,hF];exact hx) Ir h1) a3,a4,a5⟩
   cases h
  cases h
 |
  some (t,e)::sig,a::cs,rs,H,H',M,S0,C,hgo,h,hl,hm,hF,hlk,hown=>by
  obtain ⟨x,C',rfl,h1,h2⟩:=hl.cons_inv;have iW:∀v,S0.Γ M.next v=none:=λv=>hm.Ae _ _ (Nat.le_refl _)
  have go:∀(l:List e.den) (rs':List bI) (H1:aa) (y:Option (Nat×Nat×Nat)),kB H H1->bV H1 sig cs=some (rs',H')->rs = .list t e l::rs'->S0.le (S0.new M.next y (some ⟨e,l⟩))->Rel (S0.new M.next y (some ⟨e,l⟩)) (M.push (.list t e l 0 false false)) E->VR (S0.new M.next y (some ⟨e,l⟩)) (.own M.next l.length) x ->
   (∀z,y=some z->ou S H H1 z.1) ->
   kB H H'/\rs.length=(a::cs).length/\rs.length=(some (t,e)::sig).length/\∃S0',S0.le S0'/\Rel S0' (aJ M rs) E/\LV S0' (cellsIn M.next rs) (x::C')/\S0'.F=S0.F/\M.next<=(aJ M rs).next/\(aJ M rs).lk=0/\(aJ M rs).par=M.par /\
    (∀j,j<M.next->(aJ M rs).get j=M.get j/\S0'.ρ j=S0.ρ j)/\(∀j q y,M.next<=j->(aJ M rs).get j=some q->S0'.ρ j=some y->ou S H H' y.1/\(∃t e l v x,q = .list t e l v x false)):=by
   intro l rs' H1 y hg1 hi QC hle hrel Wf hy;subst QC;obtain ⟨p1,p2,p3,p4⟩:=aa.aY M (.list t e l 0 false false)
   obtain ⟨g1,g2,g2',S0',a1,a2,a3,a4,a5,a6,a7,a8,a9⟩:=tP hr (hgo.trans hg1) hi h2 hrel hF (by rw[p2];exact hlk) (λj q y' hj hy' id q' z hq' hro hls hz=>by
    rw[p4] at hj;by_cases ej:j=M.next
    .
     subst ej;have hz':y=some y':=by rw[<-hy'];exact (if_pos rfl).symm
     obtain ⟨xg,r2,z2,k1,k2,k3,k4,k5⟩:=hy y' hz';intro he;have:=hr.inj id xg q' r2 z z2 (hgo.get _ _ (hg1.get _ _ hq')) (hgo.get _ _ k1) hz k3 (by omega)
     subst this;rw[hq'] at k5;cases k5
    rw[if_neg ej] at hj;have hy'':S0.ρ j=some y':=by rw[<-hy'];exact (if_neg ej).symm
    exact hown j q y' hj hy'' id q' z (hg1.get _ _ hq') hro hls hz)
   rw[p1] at a3 a5 a8 a9;rw[p3] at a7;refine ⟨hg1.trans g1,by simp[g2],by simp[g2'],S0',Wo.le_trans hle a1,a2,LV.cons (Wf.mono a1) a3,a4,Nat.le_trans (Nat.le_succ _) a5,a6,a7,λj hj=>?_,λj q y' hj hq hy'=>?_⟩
   .
    obtain ⟨b1,b2⟩:=a8 j (by omega)
    exact ⟨b1.trans (by rw[p4,if_neg (by omega)]),b2.trans (if_neg (by omega))⟩
   by_cases ej:j=M.next
   .
    subst ej;obtain ⟨b1,b2⟩:=a8 M.next (by omega)
    have b2':S0'.ρ M.next=y:=b2.trans (if_pos rfl)
    rw[b2'] at hy'
    have b1':(aJ M (.list t e l::rs')).get M.next=some (.list t e l 0 false false):=by
     have:(aJ (M.push (.list t e l 0 false false)) rs').get M.next=some (.list t e l 0 false false):=b1.trans (by rw[p4,if_pos rfl];rfl)
     exact this
    rw[b1'] at hq;cases hq;exact ⟨(hy y' hy').later g1,_,_,_,_,_,rfl⟩
   obtain ⟨b1,b2⟩:=a9 j q y' (by omega) hq hy'
   exact ⟨b1.earlier hg1,b2⟩
  cases a with
  |
   br =>
   unfold bV at h;split at h
   .
    rename_i rs' H1 hi;simp only[Option.some.injEq,Prod.mk.injEq] at h;obtain ⟨rfl,rfl⟩:=h;cases h1;obtain ⟨b1,b2⟩:=hm.qW (r:=.list t e [] 0 false false) (x:=none) (g:=some ⟨e,[]⟩) (λr' hr'=>by cases hr';exact gp iW) (λy hy=>by cases hy)
    exact go [] rs' H none (kB.refl _) hi rfl b1 b2 (.cF _ ⟨e,[]⟩ (if_pos ⟨rfl,rfl⟩) rfl) (λz hz=>by cases hz)
   cases h
  |
   own id n =>
   unfold bV at h;split at h
   .
    rename_i t' e' l ct ex hg;rw[pick2_eq] at h;split at h
    .
     rename_i hmay;simp only[Bool.and_eq_true,Nat.beq_eq] at hmay;obtain ⟨hmay,rfl⟩:=hmay;split at h
     .
      rename_i l' gF;split at h
      .
       rename_i rs' H1 hi;simp only[Option.some.injEq,Prod.mk.injEq] at h;obtain ⟨rfl,rfl⟩:=h;obtain ⟨he,hc⟩:=bh gF;subst he;have hc:l=l':=hc;subst hc;have RN:=hgo.get _ _ hg;obtain ⟨g1,⟨g0,g,g2,g2'⟩,g3⟩:=hr.row id _ RN;cases h1 with
       |
        own _ _ i0 ji s0 hρ g' hg' hn' =>
        rw[g2] at hg';cases hg';rcases g3 with ⟨_,g5,_⟩|⟨i',cap,b,mid,post,q1,q2,q3,q4,q5,q6,q7,q8,q9,qJ⟩
        .
         rw[hρ] at g5;cases g5
        rw[hρ] at q1;cases q1;have hn:n=l.length:=by omega
        subst hn
        obtain ⟨b1,b2⟩:=hm.qW (r:=.list t' e' l 0 false false) (x:=some (i0,ji,e'.size)) (g:=some ⟨e',l⟩) (λr' hr'=>by
         cases hr'
         exact eE iW q2 q3 q4 (by rw[hF];exact q5) q6 q7 q8 (λh=>by cases h) (by rw[hF];exact qJ.2)) (λy hy=>by
          cases hy;refine ⟨λj q z hj hz he=>hown j q z hj hz id _ _ hg rfl ⟨_,_,_,_,_,rfl⟩ hρ he.symm,by rw[hF];exact hr.sep id _ _ RN rfl hρ,hr.lk id _ _ RN (by have:=hgo.lk;simp only[aa.iU,Nat.ble_eq] at hmay;omega) hρ⟩)
        exact go l rs' (H.put id .dead) _ (kB.dead H id) hi rfl b1 b2 (.own _ _ i0 ji e'.size (if_pos rfl) ⟨e',l⟩ (if_pos ⟨rfl,rfl⟩) rfl) (λz hz=>by
         cases hz;exact ⟨id,_,_,hg,rfl,hρ,rfl,Fk H id⟩)
       |
        cF _ g' hg' hn' =>
        rw[g2] at hg';cases hg';have h0:l=[]:=List.length_eq_zero_iff.1 (by omega)
        subst h0;obtain ⟨b1,b2⟩:=hm.qW (r:=.list t' e' [] 0 false false) (x:=none) (g:=some ⟨e',[]⟩) (λr' hr'=>by cases hr';exact gp iW) (λy hy=>by cases hy)
        exact go [] rs' (H.put id .dead) none (kB.dead H id) hi rfl b1 b2 (.cF _ ⟨e',[]⟩ (if_pos ⟨rfl,rfl⟩) rfl) (λz hz=>by cases hz)
      cases h
     cases h
    cases h
   cases h
  |_=>simp[bV] at h
 |[],_::_,_,_,_,_,_,_,_,h,_,_,_,_,_=>by simp[bV] at h
 |none::_,[],_,_,_,_,_,_,_,h,_,_,_,_,_=>by simp[bV] at h
 |some (_,_)::_,[],_,_,_,_,_,_,_,h,_,_,_,_,_=>by simp[bV] at h
theorem BF {S S0 S1:Wo} {H H3 M0 M1:aa} {E E':Mem} (hr:Rel S H E) (hF:S0.F=S.F) (hgo:kB H H3) (hown:∀i,Own S0 M0 i->ou S H H3 i) (Be:Rel S1 M1 E') (hst:zX S0 M0 E S1 M1 E') :
 S.le ⟨S1.F,S.ρ,S.Γ⟩/\Rel ⟨S1.F,S.ρ,S.Γ⟩ H3 E':=by
 have hle:S.le ⟨S1.F,S.ρ,S.Γ⟩:=⟨λi x hx=>hst.F i x (by rw[hF];exact hx),λ_ _ h=>h,λ_ _ _ h=>h⟩
 have far:∀id r y,H3.get id=some r->S.ρ id=some y->¬Own S0 M0 y.1:=λid r y hg hy ho=>by
  obtain ⟨xg,r2,z,k1,k2,k3,k4,k5⟩:=hown _ ho;have:=hr.inj id xg r r2 y z (hgo.get _ _ hg) k1 hy k3 k4.symm;subst this;rw[hg] at k5;cases k5
 have old:∀id r y,H3.get id=some r->S.ρ id=some y->y.1<E.size:=λid r y hg hy=>(let ⟨_,hb⟩:=hr.old (hgo.get _ _ hg) hy;Mem.bC hb)
 refine ⟨hle,⟨Be.fz,λid x hx=>by rw[hgo.next];exact hr.dom id x hx,λid v hv=>hr.Ae id v (by rw[hgo.next] at hv;exact hv),λid r hg=>?_,λid id' r r' x x' hg hg' hx hx' he=>hr.inj id id' r r' x x' (hgo.get _ _ hg) (hgo.get _ _ hg') hx hx' he,λid r x hg hro hx=>?_,λid r x hg hl hx=>?_,by rw[hgo.lk,hgo.next];exact hr.sM,by rw[hgo.par,hgo.next];exact hr.GV,Be.DG⟩⟩
 .
  exact (hr.row id r (hgo.get _ _ hg)).keep hle (λh=>h) (λ_ h=>h) λx hx=>hst.keep _ (old id r x hg hx) (far id r x hg hx)
 .
  show S1.F x.1=none;cases hq:S1.F x.1 with
  |none=>rfl
  |
   some cs =>
   rcases hst.Gb x.1 (by rw[hq];simp) with h1|h1|h1
   .
    rw[hF] at h1;exact absurd (hr.sep id r x (hgo.get _ _ hg) hro hx) h1
   .
    exact absurd h1 (far id r x hg hx)
   have:=old id r x hg hx;omega
 rw[hst.lk];exact hr.lk id r x (hgo.get _ _ hg) (by rw[<-hgo.lk];exact hl) hx
structure yU where
 ptr:Option (TypeId×List (Option (TypeId×Ty)))
 sig:List (Option (TypeId×Ty))
 g:List bI->Option (Bool×List bI×List bI)
def Jt {β:Type} (c:yU) (args:List AV) (H:aa) (k:AV->aa->Option β):Option β :=
 match c.ptr with
 |
  none=>match cH H c.sig args with
  |
   some (args',H1)=>match bV H1 c.sig args' with
   |
    some (ins,H2)=>match c.g ins with
    |some (cnd,_,rs)=>pick2 cnd (k (jO (dW rs H2).1) (dW rs H2).2) none
    |none=>none
   |none=>none
  |none=>none
 |
  some (t,sig)=>match args with
  |
   .ptr id 0::args=>match H.get id with
   |
    some (.cells t' cs)=>match cH H (sig++c.sig) (cs++args) with
    |
     some (cs',H2)=>match bV H2 (sig++c.sig) cs' with
     |
      some (ins,H3)=>pick2 (Nat.beq t t'&&H.iU id&&Nat.beq cs.length sig.length) (match c.g ins with
      |some (cnd,outs,rs)=>pick2 (cnd&&Nat.beq outs.length sig.length)
       (k (jO ((dW (outs++rs) (H3.put id .dead)).1.drop sig.length)) ((dW (outs++rs) (H3.put id .dead)).2.put id (.cells t ((dW (outs++rs) (H3.put id .dead)).1.take sig.length)))) none
      |none=>none) none
     |none=>none
    |none=>none
   |_=>none
  |_=>none
section
variable {X:cY} {cf:Nat×Nat->Ev.aM}
def Fl (X:cY) (cf:Nat×Nat->Ev.aM) (f:FuncId) (args:List AV) (M:aa) (vs:List AV) (M':aa):Prop :=
 ∀(S:Wo) (E:Mem) (aB:List Value),Rel S M E->bP X S->LV S args aB ->
  ∃S' vE E',(∃N,∀n:Nat×Nat,N<=n.1/\N<=n.2->cf n f aB E=some (vE,E'))/\(∃xs,vE=Ev.qG xs/\LV S' vs xs)/\Rel S' M' E'/\zX S M E S' M' E'
def dX (X:cY) (cf:Nat×Nat->Ev.aM) (f:FuncId) (c:yU):Prop :=
 ∀ins outs rs,c.g ins=some (true,outs,rs) ->
  match c.ptr with
  |none=>ins.length=c.sig.length->∃vs M1,Fl X cf f (cellsIn 0 ins) (aJ aa.empty ins) vs M1/\mF M1 [] vs rs
  |some (t,sig)=>outs.length=sig.length->ins.length=(sig++c.sig).length->∃vs M1 cs1,Fl X cf f (.ptr 0 0::(cellsIn 1 ins).drop sig.length) (eH t sig.length ins) vs M1/\M1.get 0=some (.cells t cs1)/\cs1.length=sig.length/\mF M1 [0] (cs1++vs) (outs++rs)
theorem Ou (t:TypeId) (cs:List AV):((⟨1,0,1,(aa.empty.push (.cells t cs)).t⟩:aa).get 0)=some (.cells t cs)/\∀j,j≠0->((⟨1,0,1,(aa.empty.push (.cells t cs)).t⟩:aa).get j)=none:=by
 obtain ⟨p1,p2,p3,p4⟩:=aa.aY aa.empty (.cells t cs)
 have e:∀j,((⟨1,0,1,(aa.empty.push (.cells t cs)).t⟩:aa).get j)=(aa.empty.push (.cells t cs)).get j:=λj=>by
  rw[aa.get_eq,aa.get_eq,p1];rfl
 refine ⟨?_,λj hj=>?_⟩
 .
  rw[e,p4];rfl
 rw[e,p4,if_neg (by show j≠0;exact hj),jm]
theorem sn:∀(rs:List bI) (M M':aa),M'.next=M.next->M'.lk=M.lk->M'.par=M.par->(aJ M' rs).next=(aJ M rs).next/\(aJ M' rs).lk=(aJ M rs).lk/\(aJ M' rs).par=(aJ M rs).par/\M.next<=(aJ M rs).next /\
 ∀j,(j<M.next->(aJ M' rs).get j=M'.get j/\(aJ M rs).get j=M.get j)/\(M.next<=j->(aJ M' rs).get j=(aJ M rs).get j)
 |[],M,M',h1,h2,h3=>⟨h1,h2,h3,Nat.le_refl _,λj=>⟨λ_=>⟨rfl,rfl⟩,λhj=>by
  have a:M'.get j=none:=by rw[aa.get_eq,if_neg (by omega)]
  have b:M.get j=none:=by rw[aa.get_eq,if_neg (by omega)]
  show M'.get j=M.get j;rw[a,b]⟩⟩
 |.val v::rs,M,M',h1,h2,h3=>sn rs M M' h1 h2 h3
 |
  .list t e l::rs,M,M',h1,h2,h3=>by
  obtain ⟨p1,p2,p3,p4⟩:=aa.aY M (.list t e l 0 false false);obtain ⟨q1,q2,q3,q4⟩:=aa.aY M' (.list t e l 0 false false);obtain ⟨a1,a2,a3,a4,a5⟩:=sn rs (M.push (.list t e l 0 false false)) (M'.push (.list t e l 0 false false)) (by rw[p1,q1,h1]) (by rw[p2,q2,h2]) (by rw[p3,q3,h3])
  refine ⟨a1,a2,a3,by rw[p1] at a4;exact Nat.le_trans (Nat.le_succ _) a4,λj=>⟨λhj=>?_,λhj=>?_⟩⟩
  .
   obtain ⟨b1,b2⟩:=(a5 j).1 (by omega)
   exact ⟨b1.trans (by rw[q4,if_neg (by omega)]),b2.trans (by rw[p4,if_neg (by omega)])⟩
  by_cases e':j=M.next
  .
   obtain ⟨b1,b2⟩:=(a5 j).1 (by omega)
   have c1:(aJ M' (.list t e l::rs)).get j=(M'.push (.list t e l 0 false false)).get j:=b1;have c2:(aJ M (.list t e l::rs)).get j=(M.push (.list t e l 0 false false)).get j:=b2;rw[c1,c2,q4,p4,h1];simp only[e',if_true]
  exact (a5 j).2 (by omega)
theorem Lb {id:Nat} {t:TypeId} {cs:List AV}:∀{sig:List (Option (TypeId×Ty))} {cs0 cs1:List AV} {A B:aa},cH A sig cs0=some (cs1,B)->A.get id=some (.cells t cs)->B.get id=some (.cells t cs):=by
 have one:∀{l l':List AV} {A B:aa},fJ A l=some (l',B)->A.get id=some (.cells t cs)->B.get id=some (.cells t cs):=by
  intro l
  induction l with
  |nil=>intro l' A B hf hA;simp only[fJ,Option.some.injEq,Prod.mk.injEq] at hf;rw[<-hf.2];exact hA
  |
   cons v l ih =>
   intro l' A B hf hA;cases v with
   |
    own xe n1 =>
    unfold fJ at hf;split at hf
    .
     rename_i t1 e1 l1 ct ex ro hgg;split at hf
     .
      rename_i r' H' Cp;simp only[Option.some.injEq,Prod.mk.injEq] at hf;obtain ⟨_,rfl⟩:=hf;refine ih Cp ?_;rw[(aa.dg _ _ _).2.2.2,if_neg (λe=>by subst e;rw[hA] at hgg;cases hgg)]
      exact hA
     cases hf
    cases hf
   |
    _ =>
    simp only[fJ] at hf;split at hf
    .
     rename_i r' H' Cp;simp only[Option.some.injEq,Prod.mk.injEq] at hf;obtain ⟨_,rfl⟩:=hf;exact ih Cp hA
    cases hf
 intro sig
 induction sig with
 |
  nil =>
  intro cs0 cs1 A B hf hA;cases cs0 with
  |nil=>simp only[cH,Option.some.injEq,Prod.mk.injEq] at hf;rw[<-hf.2];exact hA
  |cons a l=>simp[cH] at hf
 |
  cons s sig ih =>
  intro cs0 cs1 A B hf hA;cases cs0 with
  |nil=>cases s<;>simp[cH] at hf
  |
   cons a l =>
   cases s with
   |
    none =>
    unfold cH at hf;split at hf
    .
     rename_i a' A1 hf1;split at hf
     .
      rename_i l2 A2 Cp;simp only[Option.some.injEq,Prod.mk.injEq] at hf;obtain ⟨_,rfl⟩:=hf;exact ih Cp (one hf1 hA)
     cases hf
    cases hf
   |
    some q =>
    unfold cH at hf;split at hf
    .
     rename_i l2 A2 Cp;simp only[Option.some.injEq,Prod.mk.injEq] at hf;obtain ⟨_,rfl⟩:=hf;exact ih Cp hA
    cases hf
theorem Ov {id:Nat} {t:TypeId} {cs:List AV}:∀{sig:List (Option (TypeId×Ty))} {l:List AV} {rr:List bI} {A B:aa},bV A sig l=some (rr,B)->A.get id=some (.cells t cs)->B.get id=some (.cells t cs):=by
 intro sig
 induction sig with
 |
  nil =>
  intro l rr A B hf hA;cases l with
  |nil=>simp only[bV,Option.some.injEq,Prod.mk.injEq] at hf;rw[<-hf.2];exact hA
  |cons a l=>simp[bV] at hf
 |
  cons s sig ih =>
  intro l rr A B hf hA;cases l with
  |
   nil=>cases s with
   |none=>simp[bV] at hf
   |some q=>obtain ⟨q1,q2⟩:=q;simp[bV] at hf
  |
   cons a l =>
   cases s with
   |
    none =>
    unfold bV at hf;rw[pick2_eq] at hf;split at hf
    .
     split at hf
     .
      rename_i rr' A2 Cp;simp only[Option.some.injEq,Prod.mk.injEq] at hf;obtain ⟨_,rfl⟩:=hf;exact ih Cp hA
     cases hf
    cases hf
   |
    some q =>
    obtain ⟨q1,q2⟩:=q;cases a with
    |
     br =>
     unfold bV at hf;split at hf
     .
      rename_i rr' A2 Cp;simp only[Option.some.injEq,Prod.mk.injEq] at hf;obtain ⟨_,rfl⟩:=hf;exact ih Cp hA
     cases hf
    |
     own xe n1 =>
     unfold bV at hf;split at hf
     .
      rename_i t2 e2' l2 v2 x2 hgg;rw[pick2_eq] at hf;split at hf
      .
       split at hf
       .
        split at hf
        .
         rename_i rr' A2 Cp;simp only[Option.some.injEq,Prod.mk.injEq] at hf;obtain ⟨_,rfl⟩:=hf;refine ih Cp ?_;rw[(aa.dg _ _ _).2.2.2,if_neg (λe=>by subst e;rw[hA] at hgg;cases hgg)]
         exact hA
        cases hf
       cases hf
      cases hf
     cases hf
    |_=>simp[bV] at hf
theorem Ow {β:Type} {f:FuncId} {c:yU} (hc:dX X cf f c) {args:List AV} {H:aa} {k:AV->aa->Option β} {r:β} (h:Jt c args H k=some r):∃v H',k v H'=some r/\KE X cf f args H v H':=by
 unfold Jt at h
 obtain ⟨ptr,ajo,g⟩:=c
 cases ptr with
 |
  none =>
  simp only at h;split at h
  case h_2=>cases h
  rename_i args' H1 hfz;split at h
  case h_2=>cases h
  rename_i ins H2 hin;split at h
  case h_2=>cases h
  rename_i cnd o rs hg;rw[pick2_eq] at h;split at h
  case isFalse=>cases h
  rename_i hcnd;subst hcnd;refine ⟨_,_,h,λS E aB hr hgl hl=>?_⟩
  obtain ⟨S2,b1,b2,b3,b4,_⟩:=xm hr S.le_refl (St.refl S H E) hl hfz;have hrB:Rel ⟨S2.F,λ_=>none,λ_ _=>none⟩ aa.empty E:=vg _ E b2.fz b2.DG
  obtain ⟨g1,g2,g2',T,f1,f2,f3,f4,f5,f6,f7,f8,f9⟩:=tP b2 (kB.refl H1) hin b4 hrB rfl rfl (λj q y hj=>by rw[jm] at hj;cases hj)
  obtain ⟨vs,M1,hrun,hres⟩:=hc ins o rs hg g2';obtain ⟨S1,vE,E',a1,⟨xs,rfl,a2⟩,a3,a4⟩:=hrun T E aB f2 (hgl.mono' λi x hx=>by rw[f4];exact b1.F i x hx) f3
  have hown:∀i,Own T (aJ aa.empty ins) i->ou S2 H1 H2 i:=λi ⟨j,q,y,k1,k2,k3,k4⟩=>by
   obtain ⟨b,_⟩:=f9 j q y (Nat.zero_le _) k1 k3;rw[k4] at b;exact b
  obtain ⟨c1,c2⟩:=BF b2 f4 g1 hown a3 a4;have Uq:H2.next=H1.next:=g1.next
  have yV:∀i,Own T (aJ aa.empty ins) i->Own S2 H1 i:=λi ho=>by
   obtain ⟨j,q,z,k1,k2,k3,k4,_⟩:=hown i ho;exact ⟨j,q,z,k1,k2,k3,k4⟩
  obtain ⟨S',d1,d2,d3,d4,d5,d6,d7,d8,d9⟩:=Js (yS:=λi=>E.size<=i\/Own T (aJ aa.empty ins) i) a3 (by rw[a4.Kj];exact f6) hres a2 c2 rfl (λid q y hq _ hy hro=>by
   have hor:E.size<=y.1\/Own T (aJ aa.empty ins) y.1:=by
    by_cases hy':y.1<E.size
    .
     exact .inr (a4.own y.1 ⟨id,q,y,hq,hro,hy,rfl⟩ hy')
    exact .inl (by omega)
   refine ⟨hor,λxg q2 z Uh hz he=>?_⟩
   have hq2':=g1.get _ _ Uh;rcases hor with h1|h1
   .
    obtain ⟨b,hb⟩:=b2.old hq2' hz;have:=Mem.bC hb;omega
   obtain ⟨id3,r3',z3,k1,k2,k3,k4,k5⟩:=hown _ h1;have:=b2.inj xg id3 q2 r3' z z3 hq2' k1 hz k3 (by omega)
   subst this;rw[Uh] at k5;cases k5)
  rw[Uq] at d5 d8 d9;have Ox:S.le S':=Wo.le_trans b1 (Wo.le_trans c1 d1);refine ⟨S',Ev.qG xs,E',a1,Ox,CY d2,d3,⟨a4.sz,a4.lk,by rw[d6,g1.lk];exact b3.Kj,by rw[d7,g1.par];exact b3.ym,Ox.F,λi ho hi=>?_,λi hi=>?_,λi hi ho=>a4.keep i hi (λh1=>ho (b3.own i (yV i h1) hi)),λid hid=>?_,Nat.le_trans b3.nx d5,λid hid hlv=>?_,λid hid hn=>?_⟩⟩
  .
   obtain ⟨id,q,y,h1,h2,h3,rfl⟩:=ho;by_cases hid:id<H1.next
   .
    rw[(d8 id hid).1] at h1;rw[(d8 id hid).2] at h3;exact b3.own _ ⟨id,q,y,g1.get _ _ h1,h2,h3,rfl⟩ hi
   rcases d9 id q y (by omega) h1 h3 with h4|h4
   .
    omega
   exact b3.own _ (yV _ h4) hi
  .
   rw[d4] at hi;rcases a4.Gb i hi with h1|h1|h1
   .
    rw[f4] at h1;exact b3.Gb i h1
   .
    by_cases hsz:i<E.size
    .
     exact .inr (.inl (b3.own i (yV i h1) hsz))
    exact .inr (.inr (by omega))
   exact .inr (.inr h1)
  .
   rw[(d8 id (by have:=hr.GV;have:=b3.nx;omega)).2];exact b3.par id hid
  .
   have hlt:id<H1.next:=by have:=b3.nx;omega
   rw[(d8 id hlt).1] at hlv
   exact b3.live id hid (λhn=>by
    cases hq:H2.get id with
    |none=>exact hlv hq
    |some q=>rw[g1.get id q hq] at hn;cases hn)
  rw[(d8 id (by have:=b3.nx;omega)).2];exact b3.rn id hid hn
 |
  some p =>
  obtain ⟨t,sig⟩:=p;simp only at h;split at h
  case h_2=>cases h
  rename_i id args;split at h
  case h_2=>cases h
  rename_i t' cs hcell;split at h
  case h_2=>cases h
  rename_i cs' H2 hfz;split at h
  case h_2=>cases h
  rename_i ins H3 hin;rw[pick2_eq] at h;split at h
  case isFalse=>cases h
  rename_i hb;simp only[Bool.and_eq_true,Nat.beq_eq] at hb;obtain ⟨⟨rfl,hmay⟩,gF⟩:=hb;split at h
  case h_2=>cases h
  rename_i cnd outs rs hg;rw[pick2_eq] at h;split at h
  case isFalse=>cases h
  rename_i hcnd;simp only[Bool.and_eq_true,Nat.beq_eq] at hcnd;obtain ⟨rfl,hol⟩:=hcnd;refine ⟨_,_,h,λS E aB hr hgl hl=>?_⟩
  obtain ⟨xp,argsE',rfl,hp,hla⟩:=hl.cons_inv
  -- the pointer's row
  obtain ⟨i0,c0,s0,bk,r1,r2,r3,r4,r5⟩:=hr.row id _ hcell;obtain ⟨S2,e1,e2,e3,e4,e5⟩:=xm hr S.le_refl (St.refl S H E) (r3.append hla) hfz;have hρ2:S2.ρ id=some (i0,c0,s0):=e5.ρ _ _ r1;have tQ:H2.get id=some (.cells t cs):=Lb hfz hcell;have hg3:H3.get id=some (.cells t cs):=Ov hin tQ;have ajq:i0<E.size:=fu r2;have MM:bk.cells.length=sig.length:=by rw[<-r3.1,gF]
  -- what the callee sees
  let B0:aa:=⟨1,0,1,.e⟩
  have hB0:∀j,B0.get j=none:=λj=>by
   rw[aa.get_eq];split
   .
    show (Tr.get Tr.e j).bind Row.live=none;rw[Ev.Tr.DN];rfl
   rfl
  let T0:Wo:=⟨S2.F,λj=>if j=0 then some (i0,c0,s0) else none,λ_ _=>none⟩
  have hrB:Rel T0 B0 E:=⟨e2.fz,λj x hx=>(by
   have hx:(if j=0 then some (i0,c0,s0) else none)=some x:=hx;by_cases ej:j=0
   .
    subst ej;exact Nat.zero_lt_one
   rw[if_neg ej] at hx;cases hx),λ_ _ _=>rfl,λj q hj=>(by rw[hB0] at hj;cases hj),λj j' q q' x x' hj=>(by rw[hB0] at hj;cases hj),λj q x hj=>(by rw[hB0] at hj;cases hj),λj q x hj=>(by rw[hB0] at hj;cases hj),Nat.zero_le _,Nat.le_refl _,e2.DG⟩
  obtain ⟨g1,g2,g2',T,f1,f2,f3,f4,f5,f6,f7,f8,f9⟩:=tP e2 (kB.refl H2) hin e4 hrB rfl rfl (λj q y hj=>by rw[hB0] at hj;cases hj)
  have hT0:T.ρ 0=some (i0,c0,s0):=(f8 0 Nat.zero_lt_one).2;have f3':LV T (cellsIn 1 ins) (bk.cells++argsE'):=f3
  have f3a:LV T ((cellsIn 1 ins).take sig.length) bk.cells:=by
   have:=f3'.take sig.length;rwa[List.take_append_of_le_length (l₁:=bk.cells) (by omega),List.take_of_length_le (l:=bk.cells) (by omega)] at this
  have f3b:LV T ((cellsIn 1 ins).drop sig.length) argsE':=by
   have:=f3'.drop sig.length;rwa[List.drop_append_of_le_length (l₁:=bk.cells) (by omega),List.drop_of_length_le (l:=bk.cells) (by omega),List.nil_append] at this
  have hLI:=sn ins B0 ⟨1,0,1,(aa.empty.push (.cells t ((cellsIn 1 ins).take sig.length))).t⟩ rfl rfl rfl;obtain ⟨m1,m2,m3,m4,m5⟩:=hLI;obtain ⟨WT,hd2⟩:=Ou t ((cellsIn 1 ins).take sig.length)
  have hM0:(eH t sig.length ins).get 0=some (.cells t ((cellsIn 1 ins).take sig.length)):=by
   have:=((m5 0).1 Nat.zero_lt_one).1;exact this.trans WT
  have W5:∀j,j≠0->(eH t sig.length ins).get j=(aJ B0 ins).get j:=λj hj=>(m5 j).2 (by show 1<=j;omega)
  have Y2:∀j q y,(aJ B0 ins).get j=some q->T.ρ j=some y->j≠0->y.1≠i0:=λj q y hq hy hj he=>by
   obtain ⟨⟨xg,r2',z,k1,k2,k3,k4,k5⟩,ty⟩:=f9 j q y (by show 1<=j;omega) hq hy
   have:=e2.inj id xg _ r2' _ z tQ k1 hρ2 k3 (by show i0=z.1;omega)
   subst this;rw[hg3] at k5;cases k5
  have LX:Rel T (eH t sig.length ins) E:=by
   refine ⟨f2.fz,λj x hx=>?_,λj v hj=>?_,λj q hj=>?_,λj j' q q' x x' hj hj' hx hx' he=>?_,λj q x hj hb hx=>?_,λj q x hj _ hx=>?_,?_,?_,f2.DG⟩
   .
    show j<(eH t sig.length ins).next
    rw[show (eH t sig.length ins).next=(aJ B0 ins).next from m1];exact f2.dom j x hx
   .
    rw[show (eH t sig.length ins).next=(aJ B0 ins).next from m1] at hj;exact f2.Ae j v hj
   .
    by_cases ej:j=0
    .
     subst ej;rw[hM0] at hj;cases hj;exact ⟨i0,c0,s0,bk,hT0,r2,f3a,r4,r5⟩
    rw[W5 j ej] at hj;exact f2.row j q hj
   .
    by_cases ej:j=0
    .
     by_cases ej':j'=0
     .
      omega
     subst ej;rw[hT0] at hx;cases hx;rw[W5 j' ej'] at hj';exact absurd he.symm (Y2 j' q' x' hj' hx' ej')
    rw[W5 j ej] at hj;by_cases ej':j'=0
    .
     subst ej';rw[hT0] at hx';cases hx';exact absurd he (Y2 j q x hj hx ej)
    rw[W5 j' ej'] at hj';exact f2.inj j j' q q' x x' hj hj' hx hx' he
   .
    by_cases ej:j=0
    .
     subst ej;rw[hT0] at hx;cases hx;rw[f4];exact e2.sep id _ _ tQ rfl hρ2
    rw[W5 j ej] at hj;exact f2.sep j q x hj hb hx
   .
    by_cases ej:j=0
    .
     subst ej;rw[hT0] at hx;cases hx;exact e2.lk id _ _ tQ (by rw[e3.Kj];simpa[aa.iU,Nat.ble_eq] using hmay) hρ2
    rw[W5 j ej] at hj;exact f2.lk j q x hj (by rw[f6];exact Nat.zero_le _) hx
   .
    show (eH t sig.length ins).lk<=_;rw[show (eH t sig.length ins).lk=(aJ B0 ins).lk from m2,f6];exact Nat.zero_le _
   rw[show (eH t sig.length ins).par=(aJ B0 ins).par from m3,f7,show (eH t sig.length ins).next=(aJ B0 ins).next from m1];exact f5
  have hFT:T.F=S2.F:=f4
  have hlT:LV T (.ptr 0 0::(cellsIn 1 ins).drop sig.length) (xp::argsE'):=by
   cases hp with
   |
    ptr _ _ ip cp sp hρp =>
    rw[r1] at hρp;cases hρp;exact LV.cons (.ptr 0 0 _ _ _ hT0) f3b
  obtain ⟨vs,M1,cs1,hrun,hM1,ahu,hres⟩:=hc ins outs rs hg hol g2';obtain ⟨S1,vE,E',a1,⟨xs,rfl,a2⟩,a3,a4⟩:=hrun T E _ LX (hgl.mono' λi x hx=>by rw[hFT];exact e5.F i x hx) hlT
  have hρ1:S1.ρ 0=some (i0,c0,s0):=(a4.par 0 (by rw[show (eH t sig.length ins).par=(aJ B0 ins).par from m3,f7];exact Nat.zero_lt_one)).trans hT0
  have UH:kB H2 (H3.put id .dead):=g1.trans (kB.dead H3 id)
  have hown:∀i,Own T (eH t sig.length ins) i->ou S2 H2 (H3.put id .dead) i:=λi ⟨j,q,y,k1,k2,k3,k4⟩=>by
   by_cases ej:j=0
   .
    subst ej;rw[hT0] at k3;cases k3;exact ⟨id,_,_,tQ,rfl,hρ2,k4,Fk _ _⟩
   rw[W5 j ej] at k1;obtain ⟨b,_⟩:=f9 j q y (by show 1<=j;omega) k1 k3
   rw[k4] at b;exact b.later (kB.dead H3 id)
  obtain ⟨c1,c2⟩:=BF e2 hFT UH hown a3 a4;obtain ⟨i1,c1',s1,Zi,u1,u2,u3,u4,u5⟩:=a3.row 0 _ hM1;rw[hρ1] at u1;cases u1;have Uq:(H3.put id .dead).next=H2.next:=UH.next
  have yV:∀i,Own T (eH t sig.length ins) i->Own S2 H2 i:=λi ho=>by
   obtain ⟨j,q,z,k1,k2,k3,k4,_⟩:=hown i ho;exact ⟨j,q,z,k1,k2,k3,k4⟩
  obtain ⟨S',d1,d2,d3,d4,d5,d6,d7,d8,d9⟩:=Js (yS:=λi=>(E.size<=i\/Own T (eH t sig.length ins) i)/\i≠i0) a3 (by rw[a4.Kj];exact m2.trans f6) hres (u3.append a2) c2 rfl (λj q y hq hns hy hro=>by
   have hne:y.1≠i0:=λhe=>by
    have:=a3.inj j 0 q _ y _ hq hM1 hy hρ1 he;exact hns (by simp[this])
   have hor:E.size<=y.1\/Own T (eH t sig.length ins) y.1:=by
    by_cases hy':y.1<E.size
    .
     exact .inr (a4.own y.1 ⟨j,q,y,hq,hro,hy,rfl⟩ hy')
    exact .inl (by omega)
   refine ⟨⟨hor,hne⟩,λxg q2 z Uh hz he=>?_⟩
   have hq2':=UH.get _ _ Uh;rcases hor with h1|h1
   .
    obtain ⟨b,hb⟩:=e2.old hq2' hz;have:=Mem.bC hb;omega
   obtain ⟨id3,r3',z3,k1,k2,k3,k4,k5⟩:=hown _ h1;have:=e2.inj xg id3 q2 r3' z z3 hq2' k1 hz k3 (by omega)
   subst this;rw[Uh] at k5;cases k5)
  rw[Uq] at d5 d8 d9;have afb:id<H2.next:=aa.bC tQ
  have hρ':S'.ρ id=some (i0,c0,s0):=((d8 id afb).2).trans hρ2;have hu3:=u3.1
  have d2a:LV S' ((dW (outs++rs) (H3.put id .dead)).1.take sig.length) Zi.cells:=by
   have:=d2.take sig.length;rwa[List.take_append_of_le_length (l₁:=Zi.cells) (by omega),List.take_of_length_le (l:=Zi.cells) (by omega)] at this
  have d2b:LV S' ((dW (outs++rs) (H3.put id .dead)).1.drop sig.length) xs:=by
   have:=d2.drop sig.length;rwa[List.drop_append_of_le_length (l₁:=Zi.cells) (by omega),List.drop_of_length_le (l:=Zi.cells) (by omega),List.nil_append] at this
  have hfin:=d3.putAt (id:=id) (r:=.cells t ((dW (outs++rs) (H3.put id .dead)).1.take sig.length)) (by omega) rfl (λr' hr'=>by
   cases hr'
   exact ⟨i0,c0,s0,Zi,hρ',u2,d2a,u4,u5⟩) (λy hy=>by
    rw[hρ'] at hy;cases hy;refine ⟨λid' q z hq hne hz he=>?_,by rw[d4];exact a3.sep 0 _ _ hM1 rfl hρ1,a3.lk 0 _ _ hM1 (by rw[a4.Kj,show (eH t sig.length ins).lk=(aJ B0 ins).lk from m2,f6];exact Nat.zero_le _) hρ1⟩
    by_cases hlt:id'<H2.next
    .
     rw[(d8 id' hlt).1] at hq;rw[(d8 id' hlt).2] at hz;exact hne (e2.inj id' id q _ z _ (UH.get _ _ hq) tQ hz hρ2 he)
    exact (d9 id' q z (by omega) hq hz).2 he)
  obtain ⟨p1,p2,p3,p4⟩:=aa.dg (dW (outs++rs) (H3.put id .dead)).2 id (.cells t ((dW (outs++rs) (H3.put id .dead)).1.take sig.length));have Ox:S.le S':=Wo.le_trans e1 (Wo.le_trans c1 d1);refine ⟨S',Ev.qG xs,E',a1,Ox,CY d2b,hfin,⟨a4.sz,a4.lk,by rw[p2,d6,UH.lk];exact e3.Kj,by rw[p3,d7,UH.par];exact e3.ym,Ox.F,λi ho hi=>?_,λi hi=>?_,λi hi ho=>a4.keep i hi (λh1=>ho (e3.own i (yV i h1) hi)),λj hj=>?_,?_,λj hj hlv=>?_,λj hj hn=>?_⟩⟩
  .
   obtain ⟨j,q,y,h1,h2,h3,rfl⟩:=ho;refine e3.own _ ?_ hi;rw[p4] at h1;by_cases ej:j=id
   .
    subst ej;rw[hρ'] at h3;cases h3;exact ⟨j,_,_,tQ,rfl,hρ2,rfl⟩
   rw[if_neg ej] at h1;by_cases hlt:j<H2.next
   .
    rw[(d8 j hlt).1] at h1;rw[(d8 j hlt).2] at h3;exact ⟨j,q,y,UH.get _ _ h1,h2,h3,rfl⟩
   rcases (d9 j q y (by omega) h1 h3).1 with h4|h4
   .
    omega
   exact yV _ h4
  .
   rw[d4] at hi;rcases a4.Gb i hi with h1|h1|h1
   .
    rw[hFT] at h1;exact e3.Gb i h1
   .
    by_cases hsz:i<E.size
    .
     exact .inr (.inl (e3.own i (yV i h1) hsz))
    exact .inr (.inr (by omega))
   exact .inr (.inr h1)
  .
   rw[(d8 j (by have:=hr.GV;have:=e3.nx;omega)).2];exact e3.par j hj
  .
   rw[p1];exact Nat.le_trans e3.nx d5
  .
   rw[p4] at hlv;by_cases ej:j=id
   .
    subst ej;exact e3.live j hj (by rw[tQ];simp)
   rw[if_neg ej] at hlv;have hlt:j<H2.next:=by have:=e3.nx;omega
   rw[(d8 j hlt).1] at hlv
   exact e3.live j hj (λhn=>by
    cases hq:(H3.put id .dead).get j with
    |none=>exact hlv hq
    |some q=>rw[UH.get j q hq] at hn;cases hn)
  rw[(d8 j (by have:=e3.nx;omega)).2];exact e3.rn j hj hn
end
section
variable {X:cY}
def iY:aa->List bI->List AV->Option (List AV×aa)
 |M,[],[]=>some ([],M)
 |
  M,.val _::rs,v::vs=>match v with
  |
   .agg l=>match fJ M l with
   |
    some (l',M1)=>match iY M1 rs vs with
    |some (r,M2)=>some (.agg l'::r,M2)
    |none=>none
   |none=>none
  |
   v=>match fJ M [v] with
   |
    some ([v'],M1)=>match iY M1 rs vs with
    |some (r,M2)=>some (v'::r,M2)
    |none=>none
   |_=>none
 |
  M,.list _ _ _::rs,v::vs=>match iY M rs vs with
  |some (r,M2)=>some (v::r,M2)
  |none=>none
 |_,_,_=>none
theorem tR {S0:Wo} {H0:aa} {E0 E:Mem}:∀{rs:List bI} {vs vs':List AV} {M M':aa} {S:Wo} {C:List Value},Rel S M E->zX S0 H0 E0 S M E->LV S vs C->iY M rs vs=some (vs',M')->∃S',Rel S' M' E/\zX S0 H0 E0 S' M' E/\LV S' vs' C/\S.le S'
 |
  [],[],vs',M,M',S,C,hr,hst,hl,h=>by
  simp only[iY,Option.some.injEq,Prod.mk.injEq] at h;obtain ⟨rfl,rfl⟩:=h;exact ⟨S,hr,hst,hl,S.le_refl⟩
 |
  .val w::rs,v::vs,vs',M,M',S,C,hr,hst,hl,h=>by
  obtain ⟨x,C',rfl,h1,h2⟩:=hl.cons_inv;unfold iY at h;split at h
  .
   rename_i l;split at h
   .
    rename_i l' M1 hf;cases h1 with
    |
     agg _ m Uk hm2 =>
     obtain ⟨S1,b1,b2,b3,b4,b5⟩:=jl hr S.le_refl (St.refl S M E) ⟨Uk,hm2⟩ hf;split at h
     .
      rename_i r M2 hg;simp only[Option.some.injEq,Prod.mk.injEq] at h;obtain ⟨rfl,rfl⟩:=h;obtain ⟨S2,c2,c3,c4,c5⟩:=tR b2 (hst.trans b3.QJ) (h2.mono b5) hg;exact ⟨S2,c2,c3,LV.cons (.agg _ _ (b4.mono c5).1 (b4.mono c5).2) c4,Wo.le_trans b5 c5⟩
     cases h
   cases h
  split at h
  .
   rename_i v' M1 hf;obtain ⟨S1,b1,b2,b3,b4,b5⟩:=jl hr S.le_refl (St.refl S M E) (LV.cons h1 LV.nil) hf;obtain ⟨x',_,e,b6,_⟩:=b4.cons_inv;cases e;split at h
   .
    rename_i r M2 hg;simp only[Option.some.injEq,Prod.mk.injEq] at h;obtain ⟨rfl,rfl⟩:=h;obtain ⟨S2,c2,c3,c4,c5⟩:=tR b2 (hst.trans b3.QJ) (h2.mono b5) hg;exact ⟨S2,c2,c3,LV.cons (b6.mono c5) c4,Wo.le_trans b5 c5⟩
   cases h
  cases h
 |
  .list t e l::rs,v::vs,vs',M,M',S,C,hr,hst,hl,h=>by
  obtain ⟨x,C',rfl,h1,h2⟩:=hl.cons_inv;unfold iY at h;split at h
  .
   rename_i r M2 hg;simp only[Option.some.injEq,Prod.mk.injEq] at h;obtain ⟨rfl,rfl⟩:=h;obtain ⟨S2,c2,c3,c4,c5⟩:=tR hr hst h2 hg;exact ⟨S2,c2,c3,LV.cons (h1.mono c5) c4,c5⟩
  cases h
 |[],_::_,_,_,_,_,_,_,_,_,h=>by simp[iY] at h
 |.val _::_,[],_,_,_,_,_,_,_,_,h=>by simp[iY] at h
 |.list _ _ _::_,[],_,_,_,_,_,_,_,_,h=>by simp[iY] at h
theorem lu {γ:Type} {kn:Ev.bO} {id:FuncId} (hk:∀args,kn id args=none) {call:aU γ} (hcall:aV X (bu X kn) call) {an:bG} {rounds:Nat} {args:List AV} {M:aa} {obs:AV->aa->Option γ} {r:γ}
 (h:ag X call an rounds id args M obs=some r):∃v M1,obs v M1=some r/\∀vs,v=jO vs->Fl X (bu X kn) id args M vs M1:=by
 obtain ⟨v,M1,h1,h2⟩:=fT (nf:=false) hcall (λh=>by cases h) h
 refine ⟨v,M1,h1,λvs hv=>?_⟩
 subst hv
 intro S E aB hr hg hl
 obtain ⟨S',vE,E',a1,a2,a3,a4,_⟩:=h2 S E aB hr hg hl
 obtain ⟨xs,rfl,hx⟩:=tF a2
 exact ⟨S',_,E',dD hk a1,⟨xs,rfl,hx⟩,a3,a4⟩
theorem Fl.W6 {cf:Nat×Nat->Ev.aM} {id:FuncId} {args vs vs':List AV} {M M1 M2:aa} {rs:List bI} (h:Fl X cf id args M vs M1) (hs:iY M1 rs vs=some (vs',M2)):Fl X cf id args M vs' M2:=by
 intro S E aB hr hg hl
 obtain ⟨S',vE,E',a1,⟨xs,rfl,a2⟩,a3,a4⟩:=h S E aB hr hg hl
 obtain ⟨S2,b1,b2,b3,b4⟩:=tR a3 a4 a2 hs
 exact ⟨S2,_,E',a1,⟨xs,rfl,b3⟩,b1,b2⟩
abbrev KTN:=FuncId->Option yU
def Oy (X:cY) (K:RM) (KN:KTN) (inl:FuncId->Bool) (rounds:Nat) (β:Type):Nat->aU β :=
 λn=>Nat.rec (motive:=λ_=>aU β) (λ_ _ _ _=>none)
  (λ_ go id args H k=>pick2 (X.kl id) (Bj X args H k) (match K id with
   |some (sig,g)=>qA sig g args H k
   |
    none=>match KN id with
    |some c=>Jt c args H k
    |none=>pick2 (inl id) (ag X go ⟨.none,.none,X.Z7 id⟩ rounds id args H k) none)) n
theorem Oz {kn:Ev.bO} {K:RM} {KN:KTN} {inl:FuncId->Bool} (hK:∀id sig g,K id=some (sig,g)->aI X (bu X kn) id g) (hN:∀id c,KN id=some c->dX X (bu X kn) id c) (hi:∀id,inl id=true->∀args,kn id args=none) (rounds:Nat) (n:Nat) (β:Type) (hkl:aar X kn:=by exact λ_ h=>Bool.noConfusion (show false=true from h)):aV X (bu X kn) (Oy X K KN inl rounds β n):=by
 induction n with
 |zero=>exact λf args H k r h=>by cases h
 |
  succ n ih =>
  intro f args H k r h
  have h:pick2 (X.kl f) (Bj X args H k) (match K f with
   |some (sig,g)=>qA sig g args H k
   |
    none=>match KN f with
    |some c=>Jt c args H k
    |none=>pick2 (inl f) (ag X (Oy X K KN inl rounds β n) ⟨.none,.none,X.Z7 f⟩ rounds f args H k) none)=some r:=h
  rw[pick2_eq] at h;split at h
  .
   rename_i hf;exact EV (hkl f hf) h
  split at h
  .
   rename_i sig g hk;exact yE (hK f sig g hk) h
  split at h
  .
   rename_i c hc;exact Ow (hN f c hc) h
  rw[pick2_eq] at h;split at h
  .
   rename_i hin;obtain ⟨v,H',h1,h2⟩:=fT (nf:=true) ih (λ_=>⟨rfl,rfl⟩) h
   refine ⟨v,H',h1,λS E aB hr hg hl=>?_⟩
   obtain ⟨S',vE,E',a1,a2,a3,a4,a5⟩:=h2 S E aB hr hg hl;exact ⟨S',vE,E',dD (hi f hin) a1,(a5 rfl).1,a2,a3,(a5 rfl).2⟩
  cases h
abbrev jo:=FuncId×yU
def W7 (l:List jo):KTN:=λf=>List.rec (motive:=λ_=>Option yU) none (λe _ r=>pick2 (Nat.beq f e.1) (some e.2) r) l
def eI (X:cY) (cf:Nat×Nat->Ev.aM) (l:List jo):Prop:=∀id c,W7 l id=some c->dX X cf id c
theorem eI.nil {cf:Nat×Nat->Ev.aM}:eI X cf []:=λ_ _ h=>by cases h
theorem eI.cons {cf:Nat×Nat->Ev.aM} {f:FuncId} {c:yU} {l:List jo} (h:dX X cf f c) (t:eI X cf l):eI X cf ((f,c)::l):=λid c' hk=>by
 have hk2:pick2 (Nat.beq id f) (some c) (W7 l id)=some c':=hk
 clear hk
 rw[pick2_eq] at hk2
 split at hk2
 .
  rename_i hf;obtain rfl:=Nat.eq_of_beq_eq_true hf;have QN:c=c':=Option.some.inj hk2;subst QN;exact h
 exact t id c' hk2
end
end
end Go.Tv

namespace Go.Tv
open Go.Ev (Tr pick2 Leave Mem Blk alive pick2_eq alive_some)
noncomputable section
def SJ:Option Ty->AV->AV
 |some e,.br=>.bA e []
 |_,v=>v
def Fy:List (Option Ty)->List AV->List AV
 |s::sg,v::l=>SJ s v::Fy sg l
 |_,l=>l
def Xu (sg:List (Option Ty)):AV->AV
 |.agg l=>.agg (Fy sg l)
 |
  v=>match sg with
  |[s]=>SJ s v
  |_=>v
def ng:List (List (Option Ty))->List AV->List AV
 |s::sg,v::l=>Xu s v::ng sg l
 |_,l=>l
theorem JC {S:Wo} {v:AV} {x:Value} (s:Option Ty) (h:VR S v x):VR S (SJ s v) x:=by
 unfold SJ
 split
 .
  cases h;exact .bA _ _ _ (.inl ⟨rfl,rfl⟩)
 exact h
theorem Fz {S:Wo}:∀(sg:List (Option Ty)) {l:List AV} {m:List Value},LV S l m->LV S (Fy sg l) m
 |[],l,m,h=>by cases l<;>exact h
 |s::sg,[],m,h=>h
 |
  s::sg,v::l,m,h=>by
  obtain ⟨x,m',rfl,h1,h2⟩:=h.cons_inv;exact LV.cons (JC s h1) (Fz sg h2)
theorem SK {S:Wo} {v:AV} {x:Value} (sg:List (Option Ty)) (h:VR S v x):VR S (Xu sg v) x:=by
 unfold Xu
 split
 .
  rename_i l;cases h with
  |
   agg _ m hl hv =>
   obtain ⟨h1,h2⟩:=Fz sg (S:=S) (l:=l) (m:=m) ⟨hl,hv⟩;exact .agg _ m h1 h2
 split
 .
  exact JC _ h
 exact h
theorem ue {S:Wo}:∀(sg:List (List (Option Ty))) {l:List AV} {m:List Value},LV S l m->LV S (ng sg l) m
 |[],l,m,h=>by cases l<;>exact h
 |s::sg,[],m,h=>h
 |
  s::sg,v::l,m,h=>by
  obtain ⟨x,m',rfl,h1,h2⟩:=h.cons_inv;exact LV.cons (SK s h1) (ue sg h2)
def FA:Nat->AV->Option (List AV)
 |1,v=>some [v]
 |_,.bZ l=>some l
 |_,_=>none
def pX (sg:List (List (Option Ty))) (v:AV) (H:aa):Option (List AV) :=
 match FA sg.length v with
 |
  some vs=>match iY H (sg.map λ_=>.val .gS) vs with
  |some (ws,_)=>some (ng sg ws)
  |none=>none
 |none=>none
section
variable {X:cY}
theorem zj {n:Nat} {v:AV} {vs:List AV} (h:FA n v=some vs) (hl:vs.length=n):v=jO vs:=by
 unfold FA at h
 split at h
 .
  cases h;rfl
 .
  rename_i l _;cases h
  match vs,hl with
  |[],_=>rfl
  |[x],hl=>rename_i hne;exact absurd hl.symm hne
  |x::y::l,_=>rfl
 cases h
theorem qC:∀{rs:List bI} {vs vs':List AV} {M M':aa},iY M rs vs=some (vs',M')->vs.length=rs.length
 |[],[],_,_,_,_=>rfl
 |[],_::_,_,_,_,h=>by simp[iY] at h
 |.val _::_,[],_,_,_,h=>by simp[iY] at h
 |.list _ _ _::_,[],_,_,_,h=>by simp[iY] at h
 |
  .list _ _ _::rs,v::vs,vs',M,M',h=>by
  unfold iY at h;split at h
  .
   rename_i r M2 hs;simp[qC hs]
  cases h
 |
  .val _::rs,v::vs,vs',M,M',h=>by
  unfold iY at h;split at h
  .
   split at h
   .
    split at h
    .
     rename_i r M2 hs;simp[qC hs]
    cases h
   cases h
  split at h
  .
   split at h
   .
    rename_i r M2 hs;simp[qC hs]
   cases h
  cases h
theorem BO {kn:Ev.bO} {id:FuncId} (hk:∀args,kn id args=none) {call:aU (List AV)} (hcall:aV X (bu X kn) call) {an:bG} {rounds:Nat} {args:List AV} {M:aa} {sg:List (List (Option Ty))} {ws:List AV}
 (h:ag X call an rounds id args M (pX sg)=some ws):∃M1,Fl X (bu X kn) id args M ws M1:=by
 obtain ⟨v,M1,h1,h2⟩:=lu hk hcall h
 unfold pX at h1
 split at h1
 case h_2=>cases h1
 rename_i vs hu
 split at h1
 case h_2=>cases h1
 rename_i ws1 M2 hs
 cases h1
 have hl:=qC hs
 rw[List.length_map] at hl
 have hrun:=(h2 vs (zj hu hl)).W6 hs
 refine ⟨M2,λS E aB hr hg hl=>?_⟩
 obtain ⟨S',vE,E',a1,⟨xs,rfl,a2⟩,a3,a4⟩:=hrun S E aB hr hg hl
 exact ⟨S',_,E',a1,⟨xs,rfl,ue sg a2⟩,a3,a4⟩
theorem pY {M:aa}:∀{ws:List AV} {seen:List Nat},ws.all Ak=true->mF M seen ws (ws.map .val)
 |[],_,_=>trivial
 |
  w::ws,seen,h=>by
  simp only[List.all_cons,Bool.and_eq_true] at h;exact ⟨rfl,h.1,pY h.2⟩
theorem Pe {kn:Ev.bO} {id:FuncId} (hk:∀args,kn id args=none) {call:∀ β,aU β} (hcall:∀ β,aV X (bu X kn) (call β)) {sig:List (Option (TypeId×Ty))} {g:List bI->Option (Bool×List bI×List bI)} (sg:List (List (Option Ty)))
 (h:∀ins outs rs,g ins=some (true,outs,rs)->∃an rounds ws,ag X (call (List AV)) an rounds id (cellsIn 0 ins) (aJ aa.empty ins) (pX sg)=some ws/\rs=ws.map .val/\ws.all Ak=true):dX X (bu X kn) id ⟨none,sig,g⟩:=by
 intro ins outs rs hg
 obtain ⟨an,rounds,ws,h1,rfl,h3⟩:=h ins outs rs hg
 intro _
 obtain ⟨M1,h4⟩:=BO hk (hcall _) h1
 exact ⟨ws,M1,h4,pY h3⟩
def fA (M:aa):List Nat->List (Option (TypeId×Ty))->List AV->Option (List bI×List Nat)
 |_,[],[]=>some ([],[])
 |
  seen,none::sig,a::cs=>pick2 (Ak a) (match fA M seen sig cs with
  |some (r,ns)=>some (.val a::r,ns)
  |none=>none) none
 |
  seen,some (t,e)::sig,.br::cs=>match fA M seen sig cs with
  |some (r,ns)=>some (.list t e []::r,0::ns)
  |none=>none
 |
  seen,some (t,e)::sig,.own id n::cs=>match M.get id with
  |
   some (.list t' e' l _ _ false)=>pick2 (Nat.beq t' t && !seen.any (Nat.beq id)) (match fk e' e l with
   |
    some l'=>match fA M (id::seen) sig cs with
    |some (r,ns)=>some (.list t e l'::r,n::ns)
    |none=>none
   |none=>none) none
  |_=>none
 |_,_,_=>none
def su:List bI->List Nat
 |[]=>[]
 |.val _::rs=>su rs
 |.list _ _ l::rs=>l.length::su rs
theorem uf {M:aa}:∀{sig:List (Option (TypeId×Ty))} {cs:List AV} {seen:List Nat} {rs:List bI} {ns:List Nat},fA M seen sig cs=some (rs,ns)->ns=su rs->mF M seen cs rs/\cs.length=sig.length
 |
  [],[],seen,rs,ns,h,_=>by
  simp only[fA,Option.some.injEq,Prod.mk.injEq] at h;obtain ⟨rfl,rfl⟩:=h;exact ⟨trivial,rfl⟩
 |[],_::_,_,_,_,h,_=>by simp[fA] at h
 |none::_,[],_,_,_,h,_=>by simp[fA] at h
 |some _::_,[],_,_,_,h,_=>by simp[fA] at h
 |
  none::sig,a::cs,seen,rs,ns,h,hn=>by
  unfold fA at h;rw[pick2_eq] at h;split at h
  .
   rename_i hf;split at h
   .
    rename_i r ns' ho;cases h;obtain ⟨h1,h2⟩:=uf ho hn;exact ⟨⟨rfl,hf,h1⟩,by simp[h2]⟩
   cases h
  cases h
 |
  some (t,e)::sig,a::cs,seen,rs,ns,h,hn=>by
  unfold fA at h;split at h
  .
   simp at *
  .
   simp at *
  .
   rename_i q1 q2;split at h
   .
    rename_i r ns' ho;cases h;cases q1;cases q2;obtain ⟨h1,h2⟩:=uf ho (List.cons.inj hn).2;exact ⟨.inr ⟨rfl,rfl,h1⟩,by simp[h2]⟩
   cases h
  .
   rename_i id n _ q1 q2;split at h
   .
    rename_i t' e' l ct ex hg;rw[pick2_eq] at h;split at h
    .
     rename_i hc;simp only[Bool.and_eq_true,Bool.not_eq_true'] at hc;obtain ⟨ht,abO⟩:=hc;obtain rfl:=Nat.eq_of_beq_eq_true ht;split at h
     .
      rename_i l' hl;obtain ⟨rfl,sR⟩:=bh hl;have sR:l=l':=sR;subst sR;split at h
      .
       rename_i r ns' ho;cases h;cases q1;cases q2;obtain ⟨h1,h2⟩:=uf ho (List.cons.inj hn).2;have hlen:=(List.cons.inj hn).1;refine ⟨.inl ⟨id,ct,ex,by rw[hlen],hg,λhm=>?_,h1⟩,by simp[h2]⟩
       exact absurd (List.any_eq_true.2 ⟨id,hm,Nat.beq_refl id⟩) (by rw[abO];exact Bool.false_ne_true)
      cases h
     cases h
    cases h
   cases h
  cases h
def Xv (t:TypeId) (sig:List (Option (TypeId×Ty))) (pZ:List (Option (TypeId×Ty))) (v:AV) (H:aa):Option (List bI×List Nat) :=
 match H.get 0 with
 |
  some (.cells t' cs)=>pick2 (Nat.beq t' t&&Nat.beq cs.length sig.length) (match FA pZ.length v with
  |some vs=>fA H [0] (sig++pZ) (cs++vs)
  |none=>none) none
 |_=>none
theorem SL {kn:Ev.bO} {id:FuncId} (hk:∀args,kn id args=none) {call:∀ β,aU β} (hcall:∀ β,aV X (bu X kn) (call β)) {t:TypeId} {sig HL pZ:List (Option (TypeId×Ty))} {g:List bI->Option (Bool×List bI×List bI)}
 (h:∀ins outs rs,g ins=some (true,outs,rs)->ins.length=(sig++HL).length->∃an rounds ns,ag X (call _) an rounds id (.ptr 0 0::(cellsIn 1 ins).drop sig.length) (eH t sig.length ins) (Xv t sig pZ)=some (outs++rs,ns)/\ns=su (outs++rs)):dX X (bu X kn) id ⟨some (t,sig),HL,g⟩:=by
 intro ins outs rs hg _ hil
 obtain ⟨an,rounds,ns,h1,h2⟩:=h ins outs rs hg hil
 obtain ⟨v,M1,h3,h4⟩:=lu hk (hcall _) h1
 unfold Xv at h3
 split at h3
 case h_2=>cases h3
 rename_i t' cs RN
 rw[pick2_eq] at h3
 split at h3
 case isFalse=>cases h3
 rename_i hc
 rw[Bool.and_eq_true,Nat.beq_eq,Nat.beq_eq] at hc
 obtain ⟨rfl,gF⟩:=hc
 split at h3
 case h_2=>cases h3
 rename_i vs hu
 obtain ⟨k1,k2⟩:=uf h3 h2
 have hvl:vs.length=pZ.length:=by
  simp only[List.length_append] at k2;omega
 exact ⟨vs,M1,cs,h4 vs (zj hu hvl),RN,gF,k1⟩
def abP (t:TypeId) (rg:List (Option Ty)) (sig:List (Option (TypeId×Ty))) (pZ:List (Option (TypeId×Ty))) (v:AV) (H:aa):Option (List bI×List Nat) :=
 match H.get 0 with
 |
  some (.cells t' cs)=>pick2 (Nat.beq t' t&&Nat.beq (Fy rg cs).length sig.length) (match FA pZ.length v with
  |some vs=>fA H [0] (sig++pZ) (Fy rg cs++vs)
  |none=>none) none
 |_=>none
end
end
end Go.Tv
