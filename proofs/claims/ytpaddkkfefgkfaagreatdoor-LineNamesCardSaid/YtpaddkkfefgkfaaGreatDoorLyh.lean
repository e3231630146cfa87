/- Contracts of functions that are handed a pointer to a row of theirs, and hand back lists in lists. What a run is seen to hand back: lists in structs, cells behind a pointer. -/
import Derived.Test.YtpaddkkfefgkfaaGreatDoorLyg
set_option linter.unusedVariables false
set_option linter.unusedSimpArgs false

namespace Go.Tv
open Go.Ev (Tr pick2 Leave Mem Blk alive pick2_eq alive_some)
noncomputable section
def K7:AV->Bool
 |.int _ _=>true
 |.bool _=>true
 |.str _=>true
 |.mo _=>true
 |.bE=>true
 |.jL=>true
 |.bF _ _=>true
 |_=>false
def CV:AV->Bool
 |.agg l=>l.all K7
 |v=>K7 v
inductive bP where
 |val (v:AV)
 |list (t:TypeId) (e:Ty) (l:List e.den)
theorem SX {S S':Wo} (hF:∀i x,S.F i=some x->S'.F i=some x) {v:AV} {x:Value} (h:CV v=true) (hv:VR S v x):VR S' v x:=by
 have one:∀{v:AV} {x:Value},K7 v=true->VR S v x->VR S' v x:=λh hv=>by
  cases hv with
  |int=>exact .int _ _
  |bool=>exact .bool _
  |str=>exact .str _
  |mo=>exact .mo _
  |bE=>exact .bE
  |jL=>exact .jL
  |bF e l _ h=>exact .bF e l _ (h.mono hF)
  |_=>cases h
 cases hv with
 |agg l m hl hm=>exact .agg l m hl λj a b ha hb=>one (List.all_eq_true.1 h a (List.mem_of_getElem? ha)) (hm j a b ha hb)
 |int k n=>exact one h (.int k n)
 |bool b=>exact one h (.bool b)
 |str s=>exact one h (.str s)
 |mo n=>exact one h (.mo n)
 |bE=>exact .bE
 |jL=>exact .jL
 |bF e l _ h=>exact .bF e l _ (h.mono hF)
 |_=>cases h
def eu:List bP->aa->List AV×aa
 |[],H=>([],H)
 |.val v::rs,H=>(v::(eu rs H).1,(eu rs H).2)
 |.list t e l::rs,H=>(.own H.next l.length::(eu rs (H.push (.list t e l 0 false false))).1,(eu rs (H.push (.list t e l 0 false false))).2)
def mz (M:aa):List Nat->List AV->List bP->Prop
 |_,[],[]=>True
 |seen,v::vs,.val w::rs=>v=w/\CV w=true/\mz M seen vs rs
 |seen,v::vs,.list t e l::rs=>(∃id cS ex,v = .own id l.length/\M.get id=some (.list t e l cS ex false)/\id ∉ seen/\mz M (id::seen) vs rs)\/(v = .bE/\l=[]/\mz M seen vs rs)
 |_,_,_=>False
def ZR (S:Wo) (H:aa) (E:Mem) (BB:Nat->Prop) (rs:List bP) (xs:List Value):Prop :=
 ∃S',S.le S'/\LV S' (eu rs H).1 xs/\Rel S' (eu rs H).2 E/\S'.F=S.F/\H.next<=(eu rs H).2.next/\(eu rs H).2.lk=H.lk/\(eu rs H).2.par=H.par /\
  (∀id,id<H.next->(eu rs H).2.get id=H.get id/\S'.ρ id=S.ρ id)/\(∀id q z,H.next<=id->(eu rs H).2.get id=some q->S'.ρ id=some z->BB z.1)
theorem Ni {S1:Wo} {M1:aa} {E:Mem} (DJ:Rel S1 M1 E) (BB:Nat->Prop) (hlk:M1.lk=0):∀{vs:List AV} {rs:List bP} {seen:List Nat} {xs:List Value} {S:Wo} {H:aa},mz M1 seen vs rs->LV S1 vs xs->Rel S H E->S.F=S1.F ->
 (∀id r y,M1.get id=some r->id ∉ seen->S1.ρ id=some y->r.Dz=false->BB y.1/\∀zE q z,H.get zE=some q->S.ρ zE=some z->z.1≠y.1) ->
 ZR S H E BB rs xs
 |
  [],[],seen,xs,S,H,_,hl,hr,hF,hown=>by
  rw[hl.ep];exact ⟨S,S.le_refl,LV.nil,hr,rfl,Nat.le_refl _,rfl,rfl,λ_ _=>⟨rfl,rfl⟩,λid q z hid hq _=>absurd (aa.bH hq) (by show ¬id<H.next;omega)⟩
 |
  v::vs,r0::rs,seen,xs,S,H,h,hl,hr,hF,hown=>by
  obtain ⟨x,xs',rfl,h1,h2⟩:=hl.cons_inv;have kz:∀v,S.Γ H.next v=none:=λv=>hr.CO _ _ (Nat.le_refl _)
  have go:∀(t:TypeId) (e:Ty) (l:List e.den) (seen':List Nat) (y:Option (Nat×Nat×Nat)),r0 = .list t e l->mz M1 seen' vs rs->S.le (S.new H.next y (some ⟨e,l⟩))->Rel (S.new H.next y (some ⟨e,l⟩)) (H.push (.list t e l 0 false false)) E->VR (S.new H.next y (some ⟨e,l⟩)) (.own H.next l.length) x ->
   (∀z,y=some z->BB z.1/\∃zD y1 r1,zD∈seen'/\S1.ρ zD=some y1/\y1.1=z.1/\M1.get zD=some r1)->(∀id,id∈seen->id∈seen')->ZR S H E BB (r0::rs) (x::xs'):=λt e l seen' y QB hres hle hrel hvr hy hsub=>by
   subst QB;obtain ⟨p1,p2,p3,p4⟩:=aa.bA H (.list t e l 0 false false)
   have hown':∀id r y',M1.get id=some r->id ∉ seen'->S1.ρ id=some y'->r.Dz=false->BB y'.1/\∀zE q z,(H.push (.list t e l 0 false false)).get zE=some q->(S.new H.next y (some ⟨e,l⟩)).ρ zE=some z->z.1≠y'.1:=λid r y' hg hns hρ hro=>by
    obtain ⟨k1,k2⟩:=hown id r y' hg (λhm=>hns (hsub _ hm)) hρ hro
    refine ⟨k1,λzE q z hq hz=>?_⟩
    rw[p4] at hq;by_cases hid:zE=H.next
    .
     subst hid;have hz:y=some z:=by rw[<-hz];exact (if_pos rfl).symm
     obtain ⟨_,zD,y1,r1,b1,b2,b3,b4⟩:=hy z hz;intro he;have:=DJ.inj zD id r1 r y1 y' b4 hg b2 hρ (by omega)
     subst this;exact hns b1
    rw[if_neg hid] at hq;have hz:S.ρ zE=some z:=by rw[<-hz];exact (if_neg hid).symm
    exact k2 zE q z hq hz
   obtain ⟨S',a1,a2,a3,a4,a5,a6,a7,a8,a9⟩:=Ni DJ BB hlk hres h2 hrel hF hown';rw[p1] at a5 a8 a9;rw[p2] at a6;rw[p3] at a7;refine ⟨S',Wo.le_trans hle a1,LV.cons (hvr.mono a1) a2,a3,a4,Nat.le_trans (Nat.le_succ _) a5,a6,a7,λid hid=>?_,λid q z hid hq hz=>?_⟩
   .
    obtain ⟨b1,b2⟩:=a8 id (by omega)
    exact ⟨b1.trans (by rw[p4,if_neg (by omega)]),b2.trans (if_neg (by omega))⟩
   by_cases hid':id=H.next
   .
    subst hid';have:S'.ρ H.next=(S.new H.next y (some ⟨e,l⟩)).ρ H.next:=(a8 H.next (by omega)).2
    rw[this] at hz;have hz:y=some z:=by rw[<-hz];exact (if_pos rfl).symm
    exact (hy z hz).1
   exact a9 id q z (by omega) hq hz
  cases r0 with
  |
   val w =>
   obtain ⟨rfl,hs,h⟩:=h;obtain ⟨S',a1,a2,a3,a4⟩:=Ni DJ BB hlk h h2 hr hF hown;exact ⟨S',a1,LV.cons (SX (λi x hx=>by rw[a4.1,hF];exact hx) hs h1) a2,a3,a4⟩
  |
   list t e l =>
   rcases h with ⟨id,cS,ex,rfl,hg,hns,h⟩|⟨rfl,rfl,h⟩
   .
    obtain ⟨g1,⟨g0,g,g2,g2'⟩,g3⟩:=DJ.row id _ hg;generalize Hy:l.length=n at h1;cases h1 with
    |
     own _ _ i0 gR s0 hρ g' hg' hn' =>
     rcases g3 with ⟨_,g5,_⟩|⟨i',cap,b,mid,post,q1,q2,q3,q4,q5,q6,q7,q8,q9,s9⟩
     .
      rw[hρ] at g5;cases g5
     rw[hρ] at q1;cases q1;subst Hy;obtain ⟨f1,f2⟩:=hown id _ _ hg hns hρ rfl
     obtain ⟨b1,b2⟩:=hr.tF (r:=.list t e l 0 false false) (x:=some (i0,gR,e.size)) (g:=some ⟨e,l⟩) (λr' hr'=>by
      cases hr'
      exact fC kz q2 q3 q4 (by rw[hF];exact q5) q6 q7 q8 (λh=>by cases h) (by rw[hF];exact s9.2)) (λy hy=>by
       cases hy;exact ⟨f2,by rw[hF];exact DJ.sep id _ _ hg rfl hρ,DJ.lk id _ _ hg (by omega) hρ⟩)
     refine go t e l (id::seen) _ rfl h b1 b2 (.own _ _ i0 gR e.size (if_pos rfl) ⟨e,l⟩ (if_pos ⟨rfl,rfl⟩) rfl) (λz hz=>?_) (λid hid=>List.mem_cons_of_mem _ hid)
     cases hz;exact ⟨f1,id,_,_,List.mem_cons_self,hρ,rfl,hg⟩
    |
     dH _ g' hg' hn' =>
     have hl0:l=[]:=List.length_eq_zero_iff.1 Hy;subst hl0;obtain ⟨b1,b2⟩:=hr.tF (r:=.list t e [] 0 false false) (x:=none) (g:=some ⟨e,[]⟩) (λr' hr'=>by cases hr';exact iy kz) (λy hy=>by cases hy)
     exact go t e [] (id::seen) none rfl h b1 b2 (.dH _ ⟨e,[]⟩ (if_pos ⟨rfl,rfl⟩) rfl) (λz hz=>by cases hz) (λid hid=>List.mem_cons_of_mem _ hid)
   cases h1;obtain ⟨b1,b2⟩:=hr.tF (r:=.list t e [] 0 false false) (x:=none) (g:=some ⟨e,[]⟩) (λr' hr'=>by cases hr';exact iy kz) (λy hy=>by cases hy)
   exact go t e [] seen none rfl h b1 b2 (.dH _ ⟨e,[]⟩ (if_pos ⟨rfl,rfl⟩) rfl) (λz hz=>by cases hz) (λid hid=>hid)
theorem Rel.putAt {S:Wo} {H:aa} {E:Mem} (h:Rel S H E) {id:Nat} {r:Row} (hid:id<H.next) (hro:r.Dz=false) (hr:∀r',r.live=some r'->n9 S E id r')
 (hx:∀y,S.ρ id=some y->(∀id' q z,H.get id'=some q->id'≠id->S.ρ id'=some z->z.1≠y.1)/\S.F y.1=none/\E.lk<=y.1):Rel S (H.put id r) E:=by
 obtain ⟨p1,p2,p3,p4⟩:=aa.cX H id r
 have jn:∀j q,(H.put id r).get j=some q->(j=id/\r.live=some q)\/(j≠id/\H.get j=some q):=λj q hj=>by
  rw[p4] at hj;by_cases e:j=id
  .
   rw[if_pos e,if_pos hid] at hj;exact .inl ⟨e,hj⟩
  rw[if_neg e] at hj;exact .inr ⟨e,hj⟩
 refine ⟨h.fz,λj y hy=>by rw[p1];exact h.dom j y hy,λj v hj=>by rw[p1] at hj;exact h.CO j v hj,λj q hj=>?_,λj j' q q' y y' hj hj' hy hy' he=>?_,λj q y hj hb hy=>?_,λj q y hj hl hy=>?_,by rw[p1,p2];exact h.ve,by rw[p1,p3];exact h.Kv,h.Gu⟩
 .
  rcases jn j q hj with ⟨rfl,h1⟩|⟨_,h1⟩
  .
   exact hr q h1
  exact h.row j q h1
 .
  rcases jn j q hj with ⟨rfl,h1⟩|⟨e1,h1⟩<;>rcases jn j' q' hj' with ⟨rfl,h2⟩|⟨e2,h2⟩
  .
   rfl
  .
   exact absurd he.symm ((hx y hy).1 j' q' y' h2 e2 hy')
  .
   exact absurd he ((hx y' hy').1 j q y h1 e1 hy)
  exact h.inj j j' q q' y y' h1 h2 hy hy' he
 .
  rcases jn j q hj with ⟨rfl,h1⟩|⟨_,h1⟩
  .
   exact (hx y hy).2.1
  exact h.sep j q y h1 hb hy
 rcases jn j q hj with ⟨rfl,h1⟩|⟨_,h1⟩
 .
  exact (hx y hy).2.2
 rw[p2] at hl;exact h.lk j q y h1 hl hy
def cellsIn:Nat->List bP->List AV
 |_,[]=>[]
 |n,.val v::rs=>v::cellsIn n rs
 |n,.list _ _ l::rs=>.own n l.length::cellsIn (n+1) rs
def aS:aa->List bP->aa
 |M,[]=>M
 |M,.val _::rs=>aS M rs
 |M,.list t e l::rs=>aS (M.push (.list t e l 0 false false)) rs
def ek (t:TypeId) (n:Nat) (rs:List bP):aa:=aS ⟨1,0,1,(aa.empty.push (.cells t ((cellsIn 1 rs).take n))).t⟩ rs
def dI:aa->List (Option (TypeId×Ty))->List AV->Option (List AV×aa)
 |H,[],[]=>some ([],H)
 |
  H,none::sig,a::cs=>match gA H [a] with
  |
   some ([a'],H1)=>match dI H1 sig cs with
   |some (l,H2)=>some (a'::l,H2)
   |none=>none
  |_=>none
 |
  H,some _::sig,a::cs=>match dI H sig cs with
  |some (l,H2)=>some (a::l,H2)
  |none=>none
 |_,_,_=>none
def cF:aa->List (Option (TypeId×Ty))->List AV->Option (List bP×aa)
 |H,[],[]=>some ([],H)
 |
  H,none::sig,a::cs=>pick2 (CV a) (match cF H sig cs with
  |some (rs,H')=>some (.val a::rs,H')
  |none=>none) none
 |
  H,some (t,e)::sig,.bE::cs=>match cF H sig cs with
  |some (rs,H')=>some (.list t e []::rs,H')
  |none=>none
 |
  H,some (t,e)::sig,.own id _::cs=>match H.get id with
  |
   some (.list t' e' l _ _ false)=>pick2 (H.ku id&&Nat.beq t' t) (match fX e' e l with
   |
    some l'=>match cF (H.put id .dead) sig cs with
    |some (rs,H')=>some (.list t e l'::rs,H')
    |none=>none
   |none=>none) none
  |_=>none
 |_,_,_=>none
theorem zJ {S0:Wo} {H0:aa} {E:Mem}:∀{sig:List (Option (TypeId×Ty))} {cs cs':List AV} {H H':aa} {S:Wo} {C:List Value},Rel S H E->S0.le S->St S0 H0 E S H E->LV S cs C->dI H sig cs=some (cs',H')->∃S',S0.le S'/\Rel S' H' E/\St S0 H0 E S' H' E/\LV S' cs' C/\S.le S'
 |
  [],[],cs',H,H',S,C,hr,hle,hst,hl,h=>by
  simp only[dI,Option.some.injEq,Prod.mk.injEq] at h;obtain ⟨rfl,rfl⟩:=h;exact ⟨S,hle,hr,hst,hl,S.le_refl⟩
 |
  none::sig,a::cs,cs',H,H',S,C,hr,hle,hst,hl,h=>by
  obtain ⟨x,C',rfl,h1,h2⟩:=hl.cons_inv;unfold dI at h;split at h
  .
   rename_i a' H1 hf;obtain ⟨S1,b1,b2,b3,b4,b5⟩:=kS hr hle hst (LV.cons h1 LV.nil) hf;obtain ⟨x',_,e,b6,_⟩:=b4.cons_inv;cases e;split at h
   .
    rename_i l H2 hg;simp only[Option.some.injEq,Prod.mk.injEq] at h;obtain ⟨rfl,rfl⟩:=h;obtain ⟨S2,c1,c2,c3,c4,c5⟩:=zJ b2 b1 b3 (h2.mono b5) hg;exact ⟨S2,c1,c2,c3,LV.cons (b6.mono c5) c4,Wo.le_trans b5 c5⟩
   cases h
  cases h
 |
  some _::sig,a::cs,cs',H,H',S,C,hr,hle,hst,hl,h=>by
  obtain ⟨x,C',rfl,h1,h2⟩:=hl.cons_inv;unfold dI at h;split at h
  .
   rename_i l H2 hg;simp only[Option.some.injEq,Prod.mk.injEq] at h;obtain ⟨rfl,rfl⟩:=h;obtain ⟨S2,c1,c2,c3,c4,c5⟩:=zJ hr hle hst h2 hg;exact ⟨S2,c1,c2,c3,LV.cons (h1.mono c5) c4,c5⟩
  cases h
 |[],_::_,_,_,_,_,_,_,_,_,_,h=>by simp[dI] at h
 |none::_,[],_,_,_,_,_,_,_,_,_,h=>by simp[dI] at h
 |some _::_,[],_,_,_,_,_,_,_,_,_,h=>by simp[dI] at h
structure mR (H H':aa):Prop where
 next:H'.next=H.next
 lk:H'.lk=H.lk
 par:H'.par=H.par
 get:∀j r,H'.get j=some r->H.get j=some r
theorem mR.refl (H:aa):mR H H:=⟨rfl,rfl,rfl,λ_ _ h=>h⟩
theorem mR.trans {a b c:aa} (h:mR a b) (k:mR b c):mR a c:=⟨k.next.trans h.next,k.lk.trans h.lk,k.par.trans h.par,λj r hj=>h.get j r (k.get j r hj)⟩
theorem mR.dead (H:aa) (id:Nat):mR H (H.put id .dead):=by
 obtain ⟨p1,p2,p3,p4⟩:=aa.cX H id .dead
 refine ⟨p1,p2,p3,λj r hj=>?_⟩
 rw[p4] at hj
 by_cases e:j=id
 .
  rw[if_pos e] at hj;split at hj<;>cases hj
 rw[if_neg e] at hj;exact hj
theorem Iv (H:aa) (id:Nat):(H.put id .dead).get id=none:=by
 rw[(aa.cX H id .dead).2.2.2,if_pos rfl]
 split<;>rfl
def ql (S:Wo) (H H':aa) (i:Nat):Prop:=∃id r z,H.get id=some r/\r.Dz=false/\S.ρ id=some z/\z.1=i/\H'.get id=none
theorem ql.later {S:Wo} {H H' H'':aa} {i:Nat} (h:ql S H H' i) (k:mR H' H''):ql S H H'' i:=by
 obtain ⟨id,r,z,h1,h2,h3,h4,h5⟩:=h
 refine ⟨id,r,z,h1,h2,h3,h4,?_⟩
 cases hg:H''.get id with
 |none=>rfl
 |some q=>rw[k.get id q hg] at h5;cases h5
theorem ql.earlier {S:Wo} {H0 H H':aa} {i:Nat} (h:ql S H H' i) (k:mR H0 H):ql S H0 H' i:=by
 obtain ⟨id,r,z,h1,h2⟩:=h
 exact ⟨id,r,z,k.get _ _ h1,h2⟩
theorem vY {S:Wo} {H0:aa} {E:Mem} (hr:Rel S H0 E):∀{sig:List (Option (TypeId×Ty))} {cs:List AV} {rs:List bP} {H H' M:aa} {S0:Wo} {C:List Value},mR H0 H->cF H sig cs=some (rs,H')->LV S cs C->Rel S0 M E->S0.F=S.F->M.lk=0 ->
 (∀j q y,M.get j=some q->S0.ρ j=some y->∀id q' z,H.get id=some q'->q'.Dz=false->(∃t e l v x,q' = .list t e l v x false)->S.ρ id=some z->z.1≠y.1) ->
 mR H H'/\rs.length=cs.length/\rs.length=sig.length/\∃S0',S0.le S0'/\Rel S0' (aS M rs) E/\LV S0' (cellsIn M.next rs) C/\S0'.F=S0.F/\M.next<=(aS M rs).next/\(aS M rs).lk=0/\(aS M rs).par=M.par /\
  (∀j,j<M.next->(aS M rs).get j=M.get j/\S0'.ρ j=S0.ρ j)/\(∀j q y,M.next<=j->(aS M rs).get j=some q->S0'.ρ j=some y->ql S H H' y.1/\(∃t e l v x,q = .list t e l v x false))
 |
  [],[],rs,H,H',M,S0,C,hgo,h,hl,hm,hF,hlk,hown=>by
  simp only[cF,Option.some.injEq,Prod.mk.injEq] at h;obtain ⟨rfl,rfl⟩:=h;rw[hl.ep];exact ⟨mR.refl _,rfl,rfl,S0,S0.le_refl,hm,LV.nil,rfl,Nat.le_refl _,hlk,rfl,λ_ _=>⟨rfl,rfl⟩,λj q y hj hq _=>absurd (aa.bH hq) (by show ¬j<M.next;omega)⟩
 |
  none::sig,a::cs,rs,H,H',M,S0,C,hgo,h,hl,hm,hF,hlk,hown=>by
  obtain ⟨x,C',rfl,h1,h2⟩:=hl.cons_inv;unfold cF at h;rw[pick2_eq] at h;split at h
  .
   rename_i Mf;split at h
   .
    rename_i rs' H1 hi;simp only[Option.some.injEq,Prod.mk.injEq] at h;obtain ⟨rfl,rfl⟩:=h;obtain ⟨g1,g2,g2',S0',a1,a2,a3,a4,a5⟩:=vY hr hgo hi h2 hm hF hlk hown;exact ⟨g1,by simp[g2],by simp[g2'],S0',a1,a2,LV.cons (SX (λi x hx=>by rw[a4,hF];exact hx) Mf h1) a3,a4,a5⟩
   cases h
  cases h
 |
  some (t,e)::sig,a::cs,rs,H,H',M,S0,C,hgo,h,hl,hm,hF,hlk,hown=>by
  obtain ⟨x,C',rfl,h1,h2⟩:=hl.cons_inv;have kz:∀v,S0.Γ M.next v=none:=λv=>hm.CO _ _ (Nat.le_refl _)
  have go:∀(l:List e.den) (rs':List bP) (H1:aa) (y:Option (Nat×Nat×Nat)),mR H H1->cF H1 sig cs=some (rs',H')->rs = .list t e l::rs'->S0.le (S0.new M.next y (some ⟨e,l⟩))->Rel (S0.new M.next y (some ⟨e,l⟩)) (M.push (.list t e l 0 false false)) E->VR (S0.new M.next y (some ⟨e,l⟩)) (.own M.next l.length) x ->
   (∀z,y=some z->ql S H H1 z.1) ->
   mR H H'/\rs.length=(a::cs).length/\rs.length=(some (t,e)::sig).length/\∃S0',S0.le S0'/\Rel S0' (aS M rs) E/\LV S0' (cellsIn M.next rs) (x::C')/\S0'.F=S0.F/\M.next<=(aS M rs).next/\(aS M rs).lk=0/\(aS M rs).par=M.par /\
    (∀j,j<M.next->(aS M rs).get j=M.get j/\S0'.ρ j=S0.ρ j)/\(∀j q y,M.next<=j->(aS M rs).get j=some q->S0'.ρ j=some y->ql S H H' y.1/\(∃t e l v x,q = .list t e l v x false)):=by
   intro l rs' H1 y hg1 hi JZ hle hrel hvr hy;subst JZ;obtain ⟨p1,p2,p3,p4⟩:=aa.bA M (.list t e l 0 false false)
   obtain ⟨g1,g2,g2',S0',a1,a2,a3,a4,a5,a6,a7,a8,a9⟩:=vY hr (hgo.trans hg1) hi h2 hrel hF (by rw[p2];exact hlk) (λj q y' hj hy' id q' z hq' hro hls hz=>by
    rw[p4] at hj;by_cases ej:j=M.next
    .
     subst ej;have hz':y=some y':=by rw[<-hy'];exact (if_pos rfl).symm
     obtain ⟨zE,r2,z2,k1,k2,k3,k4,k5⟩:=hy y' hz';intro he;have:=hr.inj id zE q' r2 z z2 (hgo.get _ _ (hg1.get _ _ hq')) (hgo.get _ _ k1) hz k3 (by omega)
     subst this;rw[hq'] at k5;cases k5
    rw[if_neg ej] at hj;have hy'':S0.ρ j=some y':=by rw[<-hy'];exact (if_neg ej).symm
    exact hown j q y' hj hy'' id q' z (hg1.get _ _ hq') hro hls hz)
   rw[p1] at a3 a5 a8 a9;rw[p3] at a7;refine ⟨hg1.trans g1,by simp[g2],by simp[g2'],S0',Wo.le_trans hle a1,a2,LV.cons (hvr.mono a1) a3,a4,Nat.le_trans (Nat.le_succ _) a5,a6,a7,λj hj=>?_,λj q y' hj hq hy'=>?_⟩
   .
    obtain ⟨b1,b2⟩:=a8 j (by omega)
    exact ⟨b1.trans (by rw[p4,if_neg (by omega)]),b2.trans (if_neg (by omega))⟩
   by_cases ej:j=M.next
   .
    subst ej;obtain ⟨b1,b2⟩:=a8 M.next (by omega)
    have b2':S0'.ρ M.next=y:=b2.trans (if_pos rfl)
    rw[b2'] at hy'
    have b1':(aS M (.list t e l::rs')).get M.next=some (.list t e l 0 false false):=by
     have:(aS (M.push (.list t e l 0 false false)) rs').get M.next=some (.list t e l 0 false false):=b1.trans (by rw[p4,if_pos rfl];rfl)
     exact this
    rw[b1'] at hq;cases hq;exact ⟨(hy y' hy').later g1,_,_,_,_,_,rfl⟩
   obtain ⟨b1,b2⟩:=a9 j q y' (by omega) hq hy'
   exact ⟨b1.earlier hg1,b2⟩
  cases a with
  |
   bE =>
   unfold cF at h;split at h
   .
    rename_i rs' H1 hi;simp only[Option.some.injEq,Prod.mk.injEq] at h;obtain ⟨rfl,rfl⟩:=h;cases h1;obtain ⟨b1,b2⟩:=hm.tF (r:=.list t e [] 0 false false) (x:=none) (g:=some ⟨e,[]⟩) (λr' hr'=>by cases hr';exact iy kz) (λy hy=>by cases hy)
    exact go [] rs' H none (mR.refl _) hi rfl b1 b2 (.dH _ ⟨e,[]⟩ (if_pos ⟨rfl,rfl⟩) rfl) (λz hz=>by cases hz)
   cases h
  |
   own id n =>
   unfold cF at h;split at h
   .
    rename_i t' e' l cS ex hg;rw[pick2_eq] at h;split at h
    .
     rename_i hmay;simp only[Bool.and_eq_true,Nat.beq_eq] at hmay;obtain ⟨hmay,rfl⟩:=hmay;split at h
     .
      rename_i l' iQ;split at h
      .
       rename_i rs' H1 hi;simp only[Option.some.injEq,Prod.mk.injEq] at h;obtain ⟨rfl,rfl⟩:=h;obtain ⟨he,hc⟩:=bq iQ;subst he;have hc:l=l':=hc;subst hc;have MN:=hgo.get _ _ hg;obtain ⟨g1,⟨g0,g,g2,g2'⟩,g3⟩:=hr.row id _ MN;cases h1 with
       |
        own _ _ i0 gR s0 hρ g' hg' hn' =>
        rw[g2] at hg';cases hg';rcases g3 with ⟨_,g5,_⟩|⟨i',cap,b,mid,post,q1,q2,q3,q4,q5,q6,q7,q8,q9,s9⟩
        .
         rw[hρ] at g5;cases g5
        rw[hρ] at q1;cases q1;have hn:n=l.length:=by omega
        subst hn
        obtain ⟨b1,b2⟩:=hm.tF (r:=.list t' e' l 0 false false) (x:=some (i0,gR,e'.size)) (g:=some ⟨e',l⟩) (λr' hr'=>by
         cases hr'
         exact fC kz q2 q3 q4 (by rw[hF];exact q5) q6 q7 q8 (λh=>by cases h) (by rw[hF];exact s9.2)) (λy hy=>by
          cases hy;refine ⟨λj q z hj hz he=>hown j q z hj hz id _ _ hg rfl ⟨_,_,_,_,_,rfl⟩ hρ he.symm,by rw[hF];exact hr.sep id _ _ MN rfl hρ,hr.lk id _ _ MN (by have:=hgo.lk;simp only[aa.ku,Nat.ble_eq] at hmay;omega) hρ⟩)
        exact go l rs' (H.put id .dead) _ (mR.dead H id) hi rfl b1 b2 (.own _ _ i0 gR e'.size (if_pos rfl) ⟨e',l⟩ (if_pos ⟨rfl,rfl⟩) rfl) (λz hz=>by
         cases hz;exact ⟨id,_,_,hg,rfl,hρ,rfl,Iv H id⟩)
       |
        dH _ g' hg' hn' =>
        rw[g2] at hg';cases hg';have h0:l=[]:=List.length_eq_zero_iff.1 (by omega)
        subst h0;obtain ⟨b1,b2⟩:=hm.tF (r:=.list t' e' [] 0 false false) (x:=none) (g:=some ⟨e',[]⟩) (λr' hr'=>by cases hr';exact iy kz) (λy hy=>by cases hy)
        exact go [] rs' (H.put id .dead) none (mR.dead H id) hi rfl b1 b2 (.dH _ ⟨e',[]⟩ (if_pos ⟨rfl,rfl⟩) rfl) (λz hz=>by cases hz)
      cases h
     cases h
    cases h
   cases h
  |_=>simp[cF] at h
 |[],_::_,_,_,_,_,_,_,_,h,_,_,_,_,_=>by simp[cF] at h
 |none::_,[],_,_,_,_,_,_,_,h,_,_,_,_,_=>by simp[cF] at h
 |some (_,_)::_,[],_,_,_,_,_,_,_,h,_,_,_,_,_=>by simp[cF] at h
theorem D4 {S S0 S1:Wo} {H H3 M0 M1:aa} {E E':Mem} (hr:Rel S H E) (hF:S0.F=S.F) (hgo:mR H H3) (hown:∀i,Own S0 M0 i->ql S H H3 i) (DJ:Rel S1 M1 E') (hst:CF S0 M0 E S1 M1 E') :
 S.le ⟨S1.F,S.ρ,S.Γ⟩/\Rel ⟨S1.F,S.ρ,S.Γ⟩ H3 E':=by
 have hle:S.le ⟨S1.F,S.ρ,S.Γ⟩:=⟨λi x hx=>hst.F i x (by rw[hF];exact hx),λ_ _ h=>h,λ_ _ _ h=>h⟩
 have far:∀id r y,H3.get id=some r->S.ρ id=some y->¬Own S0 M0 y.1:=λid r y hg hy ho=>by
  obtain ⟨zE,r2,z,k1,k2,k3,k4,k5⟩:=hown _ ho;have:=hr.inj id zE r r2 y z (hgo.get _ _ hg) k1 hy k3 k4.symm;subst this;rw[hg] at k5;cases k5
 have old:∀id r y,H3.get id=some r->S.ρ id=some y->y.1<E.size:=λid r y hg hy=>(let ⟨_,hb⟩:=hr.old (hgo.get _ _ hg) hy;Mem.bH hb)
 refine ⟨hle,⟨DJ.fz,λid x hx=>by rw[hgo.next];exact hr.dom id x hx,λid v hv=>hr.CO id v (by rw[hgo.next] at hv;exact hv),λid r hg=>?_,λid id' r r' x x' hg hg' hx hx' he=>hr.inj id id' r r' x x' (hgo.get _ _ hg) (hgo.get _ _ hg') hx hx' he,λid r x hg hro hx=>?_,λid r x hg hl hx=>?_,by rw[hgo.lk,hgo.next];exact hr.ve,by rw[hgo.par,hgo.next];exact hr.Kv,DJ.Gu⟩⟩
 .
  exact (hr.row id r (hgo.get _ _ hg)).keep hle (λh=>h) (λ_ h=>h) λx hx=>hst.keep _ (old id r x hg hx) (far id r x hg hx)
 .
  show S1.F x.1=none;cases hq:S1.F x.1 with
  |none=>rfl
  |
   some cs =>
   rcases hst.JM x.1 (by rw[hq];simp) with h1|h1|h1
   .
    rw[hF] at h1;exact absurd (hr.sep id r x (hgo.get _ _ hg) hro hx) h1
   .
    exact absurd h1 (far id r x hg hx)
   have:=old id r x hg hx;omega
 rw[hst.lk];exact hr.lk id r x (hgo.get _ _ hg) (by rw[<-hgo.lk];exact hl) hx
structure BC where
 ptr:Option (TypeId×List (Option (TypeId×Ty)))
 sig:List (Option (TypeId×Ty))
 g:List bP->Option (Bool×List bP×List bP)
def Nj {β:Type} (c:BC) (args:List AV) (H:aa) (k:AV->aa->Option β):Option β :=
 match c.ptr with
 |
  none=>match dI H c.sig args with
  |
   some (args',H1)=>match cF H1 c.sig args' with
   |
    some (ins,H2)=>match c.g ins with
    |some (cnd,_,rs)=>pick2 cnd (k (kP (eu rs H2).1) (eu rs H2).2) none
    |none=>none
   |none=>none
  |none=>none
 |
  some (t,sig)=>match args with
  |
   .ptr id 0::args=>match H.get id with
   |
    some (.cells t' cs)=>match dI H (sig++c.sig) (cs++args) with
    |
     some (cs',H2)=>match cF H2 (sig++c.sig) cs' with
     |
      some (ins,H3)=>pick2 (Nat.beq t t'&&H.ku id&&Nat.beq cs.length sig.length) (match c.g ins with
      |some (cnd,outs,rs)=>pick2 (cnd&&Nat.beq outs.length sig.length)
       (k (kP ((eu (outs++rs) (H3.put id .dead)).1.drop sig.length)) ((eu (outs++rs) (H3.put id .dead)).2.put id (.cells t ((eu (outs++rs) (H3.put id .dead)).1.take sig.length)))) none
      |none=>none) none
     |none=>none
    |none=>none
   |_=>none
  |_=>none
section
variable {X:dF} {cf:Nat×Nat->Ev.aX}
def zf (X:dF) (cf:Nat×Nat->Ev.aX) (f:FuncId) (args:List AV) (M:aa) (vs:List AV) (M':aa):Prop :=
 ∀(S:Wo) (E:Mem) (aC:List Value),Rel S M E->bY X S->LV S args aC ->
  ∃S' vE E',(∃N,∀n:Nat×Nat,N<=n.1/\N<=n.2->cf n f aC E=some (vE,E'))/\(∃xs,vE=Ev.sX xs/\LV S' vs xs)/\Rel S' M' E'/\CF S M E S' M' E'
def cu (X:dF) (cf:Nat×Nat->Ev.aX) (f:FuncId) (c:BC):Prop :=
 ∀ins outs rs,c.g ins=some (true,outs,rs) ->
  match c.ptr with
  |none=>ins.length=c.sig.length->∃vs M1,zf X cf f (cellsIn 0 ins) (aS aa.empty ins) vs M1/\mz M1 [] vs rs
  |some (t,sig)=>outs.length=sig.length->ins.length=(sig++c.sig).length->∃vs M1 cs1,zf X cf f (.ptr 0 0::(cellsIn 1 ins).drop sig.length) (ek t sig.length ins) vs M1/\M1.get 0=some (.cells t cs1)/\cs1.length=sig.length/\mz M1 [0] (cs1++vs) (outs++rs)
theorem SY (t:TypeId) (cs:List AV):((⟨1,0,1,(aa.empty.push (.cells t cs)).t⟩:aa).get 0)=some (.cells t cs)/\∀j,j≠0->((⟨1,0,1,(aa.empty.push (.cells t cs)).t⟩:aa).get j)=none:=by
 obtain ⟨p1,p2,p3,p4⟩:=aa.bA aa.empty (.cells t cs)
 have e:∀j,((⟨1,0,1,(aa.empty.push (.cells t cs)).t⟩:aa).get j)=(aa.empty.push (.cells t cs)).get j:=λj=>by
  rw[aa.get_eq,aa.get_eq,p1];rfl
 refine ⟨?_,λj hj=>?_⟩
 .
  rw[e,p4];rfl
 rw[e,p4,if_neg (by show j≠0;exact hj),kU]
theorem uH:∀(rs:List bP) (M M':aa),M'.next=M.next->M'.lk=M.lk->M'.par=M.par->(aS M' rs).next=(aS M rs).next/\(aS M' rs).lk=(aS M rs).lk/\(aS M' rs).par=(aS M rs).par/\M.next<=(aS M rs).next /\
 ∀j,(j<M.next->(aS M' rs).get j=M'.get j/\(aS M rs).get j=M.get j)/\(M.next<=j->(aS M' rs).get j=(aS M rs).get j)
 |[],M,M',h1,h2,h3=>⟨h1,h2,h3,Nat.le_refl _,λj=>⟨λ_=>⟨rfl,rfl⟩,λhj=>by
  have a:M'.get j=none:=by rw[aa.get_eq,if_neg (by omega)]
  have b:M.get j=none:=by rw[aa.get_eq,if_neg (by omega)]
  show M'.get j=M.get j;rw[a,b]⟩⟩
 |.val v::rs,M,M',h1,h2,h3=>uH rs M M' h1 h2 h3
 |
  .list t e l::rs,M,M',h1,h2,h3=>by
  obtain ⟨p1,p2,p3,p4⟩:=aa.bA M (.list t e l 0 false false);obtain ⟨q1,q2,q3,q4⟩:=aa.bA M' (.list t e l 0 false false);obtain ⟨a1,a2,a3,a4,a5⟩:=uH rs (M.push (.list t e l 0 false false)) (M'.push (.list t e l 0 false false)) (by rw[p1,q1,h1]) (by rw[p2,q2,h2]) (by rw[p3,q3,h3])
  refine ⟨a1,a2,a3,by rw[p1] at a4;exact Nat.le_trans (Nat.le_succ _) a4,λj=>⟨λhj=>?_,λhj=>?_⟩⟩
  .
   obtain ⟨b1,b2⟩:=(a5 j).1 (by omega)
   exact ⟨b1.trans (by rw[q4,if_neg (by omega)]),b2.trans (by rw[p4,if_neg (by omega)])⟩
  by_cases e':j=M.next
  .
   obtain ⟨b1,b2⟩:=(a5 j).1 (by omega)
   have c1:(aS M' (.list t e l::rs)).get j=(M'.push (.list t e l 0 false false)).get j:=b1;have c2:(aS M (.list t e l::rs)).get j=(M.push (.list t e l 0 false false)).get j:=b2;rw[c1,c2,q4,p4,h1];simp only[e',if_true]
  exact (a5 j).2 (by omega)
theorem Iw:∀(rs:List bP) (H:aa),(eu rs H).1.length=rs.length
 |[],_=>rfl
 |.val v::rs,H=>by simp[eu,Iw rs H]
 |.list t e l::rs,H=>by simp[eu,Iw rs]
theorem Pn {id:Nat} {t:TypeId} {cs:List AV}:∀{sig:List (Option (TypeId×Ty))} {cs0 cs1:List AV} {A B:aa},dI A sig cs0=some (cs1,B)->A.get id=some (.cells t cs)->B.get id=some (.cells t cs):=by
 have one:∀{l l':List AV} {A B:aa},gA A l=some (l',B)->A.get id=some (.cells t cs)->B.get id=some (.cells t cs):=by
  intro l
  induction l with
  |nil=>intro l' A B hf hA;simp only[gA,Option.some.injEq,Prod.mk.injEq] at hf;rw[<-hf.2];exact hA
  |
   cons v l ih =>
   intro l' A B hf hA;cases v with
   |
    own zD n1 =>
    unfold gA at hf;split at hf
    .
     rename_i t1 e1 l1 cS ex ro hgg;split at hf
     .
      rename_i r' H' EX;simp only[Option.some.injEq,Prod.mk.injEq] at hf;obtain ⟨_,rfl⟩:=hf;refine ih EX ?_;rw[(aa.cX _ _ _).2.2.2,if_neg (λe=>by subst e;rw[hA] at hgg;cases hgg)]
      exact hA
     cases hf
    cases hf
   |
    _ =>
    simp only[gA] at hf;split at hf
    .
     rename_i r' H' EX;simp only[Option.some.injEq,Prod.mk.injEq] at hf;obtain ⟨_,rfl⟩:=hf;exact ih EX hA
    cases hf
 intro sig
 induction sig with
 |
  nil =>
  intro cs0 cs1 A B hf hA;cases cs0 with
  |nil=>simp only[dI,Option.some.injEq,Prod.mk.injEq] at hf;rw[<-hf.2];exact hA
  |cons a l=>simp[dI] at hf
 |
  cons s sig ih =>
  intro cs0 cs1 A B hf hA;cases cs0 with
  |nil=>cases s<;>simp[dI] at hf
  |
   cons a l =>
   cases s with
   |
    none =>
    unfold dI at hf;split at hf
    .
     rename_i a' A1 hf1;split at hf
     .
      rename_i l2 A2 EX;simp only[Option.some.injEq,Prod.mk.injEq] at hf;obtain ⟨_,rfl⟩:=hf;exact ih EX (one hf1 hA)
     cases hf
    cases hf
   |
    some q =>
    unfold dI at hf;split at hf
    .
     rename_i l2 A2 EX;simp only[Option.some.injEq,Prod.mk.injEq] at hf;obtain ⟨_,rfl⟩:=hf;exact ih EX hA
    cases hf
theorem SZ {id:Nat} {t:TypeId} {cs:List AV}:∀{sig:List (Option (TypeId×Ty))} {l:List AV} {rr:List bP} {A B:aa},cF A sig l=some (rr,B)->A.get id=some (.cells t cs)->B.get id=some (.cells t cs):=by
 intro sig
 induction sig with
 |
  nil =>
  intro l rr A B hf hA;cases l with
  |nil=>simp only[cF,Option.some.injEq,Prod.mk.injEq] at hf;rw[<-hf.2];exact hA
  |cons a l=>simp[cF] at hf
 |
  cons s sig ih =>
  intro l rr A B hf hA;cases l with
  |
   nil=>cases s with
   |none=>simp[cF] at hf
   |some q=>obtain ⟨q1,q2⟩:=q;simp[cF] at hf
  |
   cons a l =>
   cases s with
   |
    none =>
    unfold cF at hf;rw[pick2_eq] at hf;split at hf
    .
     split at hf
     .
      rename_i rr' A2 EX;simp only[Option.some.injEq,Prod.mk.injEq] at hf;obtain ⟨_,rfl⟩:=hf;exact ih EX hA
     cases hf
    cases hf
   |
    some q =>
    obtain ⟨q1,q2⟩:=q;cases a with
    |
     bE =>
     unfold cF at hf;split at hf
     .
      rename_i rr' A2 EX;simp only[Option.some.injEq,Prod.mk.injEq] at hf;obtain ⟨_,rfl⟩:=hf;exact ih EX hA
     cases hf
    |
     own zD n1 =>
     unfold cF at hf;split at hf
     .
      rename_i t2 e2' l2 v2 x2 hgg;rw[pick2_eq] at hf;split at hf
      .
       split at hf
       .
        split at hf
        .
         rename_i rr' A2 EX;simp only[Option.some.injEq,Prod.mk.injEq] at hf;obtain ⟨_,rfl⟩:=hf;refine ih EX ?_;rw[(aa.cX _ _ _).2.2.2,if_neg (λe=>by subst e;rw[hA] at hgg;cases hgg)]
         exact hA
        cases hf
       cases hf
      cases hf
     cases hf
    |_=>simp[cF] at hf
theorem yQ:∀(rs:List bP) (n:Nat),(cellsIn n rs).length=rs.length
 |[],_=>rfl
 |.val v::rs,n=>by simp[cellsIn,yQ rs n]
 |.list t e l::rs,n=>by simp[cellsIn,yQ rs (n+1)]
theorem S3 {β:Type} {f:FuncId} {c:BC} (hc:cu X cf f c) {args:List AV} {H:aa} {k:AV->aa->Option β} {r:β} (h:Nj c args H k=some r):∃v H',k v H'=some r/\Kz X cf f args H v H':=by
 unfold Nj at h
 obtain ⟨ptr,ape,g⟩:=c
 cases ptr with
 |
  none =>
  simp only at h;split at h
  case h_2=>cases h
  rename_i args' H1 hfz;split at h
  case h_2=>cases h
  rename_i ins H2 hin;split at h
  case h_2=>cases h
  rename_i cnd o rs hg;rw[pick2_eq] at h;split at h
  case isFalse=>cases h
  rename_i hcnd;subst hcnd;refine ⟨_,_,h,λS E aC hr hgl hl=>?_⟩
  obtain ⟨S2,b1,b2,b3,b4,_⟩:=zJ hr S.le_refl (St.refl S H E) hl hfz;have hrB:Rel ⟨S2.F,λ_=>none,λ_ _=>none⟩ aa.empty E:=xQ _ E b2.fz b2.Gu
  obtain ⟨g1,g2,g2',T,f1,f2,f3,f4,f5,f6,f7,f8,f9⟩:=vY b2 (mR.refl H1) hin b4 hrB rfl rfl (λj q y hj=>by rw[kU] at hj;cases hj)
  obtain ⟨vs,M1,hrun,hres⟩:=hc ins o rs hg g2';obtain ⟨S1,vE,E',a1,⟨xs,rfl,a2⟩,a3,a4⟩:=hrun T E aC f2 (hgl.mono' λi x hx=>by rw[f4];exact b1.F i x hx) f3
  have hown:∀i,Own T (aS aa.empty ins) i->ql S2 H1 H2 i:=λi ⟨j,q,y,k1,k2,k3,k4⟩=>by
   obtain ⟨b,_⟩:=f9 j q y (Nat.zero_le _) k1 k3;rw[k4] at b;exact b
  obtain ⟨c1,c2⟩:=D4 b2 f4 g1 hown a3 a4;have ZE:H2.next=H1.next:=g1.next
  have BF:∀i,Own T (aS aa.empty ins) i->Own S2 H1 i:=λi ho=>by
   obtain ⟨j,q,z,k1,k2,k3,k4,_⟩:=hown i ho;exact ⟨j,q,z,k1,k2,k3,k4⟩
  obtain ⟨S',d1,d2,d3,d4,d5,d6,d7,d8,d9⟩:=Ni (BB:=λi=>E.size<=i\/Own T (aS aa.empty ins) i) a3 (by rw[a4.Oz];exact f6) hres a2 c2 rfl (λid q y hq _ hy hro=>by
   have hor:E.size<=y.1\/Own T (aS aa.empty ins) y.1:=by
    by_cases hy':y.1<E.size
    .
     exact .inr (a4.own y.1 ⟨id,q,y,hq,hro,hy,rfl⟩ hy')
    exact .inl (by omega)
   refine ⟨hor,λzE q2 z Zw hz he=>?_⟩
   have hq2':=g1.get _ _ Zw;rcases hor with h1|h1
   .
    obtain ⟨b,hb⟩:=b2.old hq2' hz;have:=Mem.bH hb;omega
   obtain ⟨id3,r3',z3,k1,k2,k3,k4,k5⟩:=hown _ h1;have:=b2.inj zE id3 q2 r3' z z3 hq2' k1 hz k3 (by omega)
   subst this;rw[Zw] at k5;cases k5)
  rw[ZE] at d5 d8 d9;have S4:S.le S':=Wo.le_trans b1 (Wo.le_trans c1 d1);refine ⟨S',Ev.sX xs,E',a1,S4,FC d2,d3,⟨a4.sz,a4.lk,by rw[d6,g1.lk];exact b3.Oz,by rw[d7,g1.par];exact b3.A5,S4.F,λi ho hi=>?_,λi hi=>?_,λi hi ho=>a4.keep i hi (λh1=>ho (b3.own i (BF i h1) hi)),λid hid=>?_,Nat.le_trans b3.nx d5,λid hid hlv=>?_,λid hid hn=>?_⟩⟩
  .
   obtain ⟨id,q,y,h1,h2,h3,rfl⟩:=ho;by_cases hid:id<H1.next
   .
    rw[(d8 id hid).1] at h1;rw[(d8 id hid).2] at h3;exact b3.own _ ⟨id,q,y,g1.get _ _ h1,h2,h3,rfl⟩ hi
   rcases d9 id q y (by omega) h1 h3 with h4|h4
   .
    omega
   exact b3.own _ (BF _ h4) hi
  .
   rw[d4] at hi;rcases a4.JM i hi with h1|h1|h1
   .
    rw[f4] at h1;exact b3.JM i h1
   .
    by_cases hsz:i<E.size
    .
     exact .inr (.inl (b3.own i (BF i h1) hsz))
    exact .inr (.inr (by omega))
   exact .inr (.inr h1)
  .
   rw[(d8 id (by have:=hr.Kv;have:=b3.nx;omega)).2];exact b3.par id hid
  .
   have hlt:id<H1.next:=by have:=b3.nx;omega
   rw[(d8 id hlt).1] at hlv
   exact b3.live id hid (λhn=>by
    cases hq:H2.get id with
    |none=>exact hlv hq
    |some q=>rw[g1.get id q hq] at hn;cases hn)
  rw[(d8 id (by have:=b3.nx;omega)).2];exact b3.rn id hid hn
 |
  some p =>
  obtain ⟨t,sig⟩:=p;simp only at h;split at h
  case h_2=>cases h
  rename_i id args;split at h
  case h_2=>cases h
  rename_i t' cs hcell;split at h
  case h_2=>cases h
  rename_i cs' H2 hfz;split at h
  case h_2=>cases h
  rename_i ins H3 hin;rw[pick2_eq] at h;split at h
  case isFalse=>cases h
  rename_i hb;simp only[Bool.and_eq_true,Nat.beq_eq] at hb;obtain ⟨⟨rfl,hmay⟩,iQ⟩:=hb;split at h
  case h_2=>cases h
  rename_i cnd outs rs hg;rw[pick2_eq] at h;split at h
  case isFalse=>cases h
  rename_i hcnd;simp only[Bool.and_eq_true,Nat.beq_eq] at hcnd;obtain ⟨rfl,hol⟩:=hcnd;refine ⟨_,_,h,λS E aC hr hgl hl=>?_⟩
  obtain ⟨xp,argsE',rfl,hp,hla⟩:=hl.cons_inv
  -- the pointer's row
  obtain ⟨i0,c0,s0,bk,r1,r2,r3,r4,r5⟩:=hr.row id _ hcell;obtain ⟨S2,e1,e2,e3,e4,e5⟩:=zJ hr S.le_refl (St.refl S H E) (r3.append hla) hfz;have hρ2:S2.ρ id=some (i0,c0,s0):=e5.ρ _ _ r1;have vZ:H2.get id=some (.cells t cs):=Pn hfz hcell;have hg3:H3.get id=some (.cells t cs):=SZ hin vZ;have apg:i0<E.size:=fY r2;have uW:bk.cells.length=sig.length:=by rw[<-r3.1,iQ]
  -- what the callee sees
  let B0:aa:=⟨1,0,1,.e⟩
  have hB0:∀j,B0.get j=none:=λj=>by
   rw[aa.get_eq];split
   .
    show (Tr.get Tr.e j).bind Row.live=none;rw[Ev.Tr.GA];rfl
   rfl
  let T0:Wo:=⟨S2.F,λj=>if j=0 then some (i0,c0,s0) else none,λ_ _=>none⟩
  have hrB:Rel T0 B0 E:=⟨e2.fz,λj x hx=>(by
   have hx:(if j=0 then some (i0,c0,s0) else none)=some x:=hx;by_cases ej:j=0
   .
    subst ej;exact Nat.zero_lt_one
   rw[if_neg ej] at hx;cases hx),λ_ _ _=>rfl,λj q hj=>(by rw[hB0] at hj;cases hj),λj j' q q' x x' hj=>(by rw[hB0] at hj;cases hj),λj q x hj=>(by rw[hB0] at hj;cases hj),λj q x hj=>(by rw[hB0] at hj;cases hj),Nat.zero_le _,Nat.le_refl _,e2.Gu⟩
  obtain ⟨g1,g2,g2',T,f1,f2,f3,f4,f5,f6,f7,f8,f9⟩:=vY e2 (mR.refl H2) hin e4 hrB rfl rfl (λj q y hj=>by rw[hB0] at hj;cases hj)
  have hT0:T.ρ 0=some (i0,c0,s0):=(f8 0 Nat.zero_lt_one).2;have f3':LV T (cellsIn 1 ins) (bk.cells++argsE'):=f3
  have f3a:LV T ((cellsIn 1 ins).take sig.length) bk.cells:=by
   have:=f3'.take sig.length;rwa[List.take_append_of_le_length (l₁:=bk.cells) (by omega),List.take_of_length_le (l:=bk.cells) (by omega)] at this
  have f3b:LV T ((cellsIn 1 ins).drop sig.length) argsE':=by
   have:=f3'.drop sig.length;rwa[List.drop_append_of_le_length (l₁:=bk.cells) (by omega),List.drop_of_length_le (l:=bk.cells) (by omega),List.nil_append] at this
  have hLI:=uH ins B0 ⟨1,0,1,(aa.empty.push (.cells t ((cellsIn 1 ins).take sig.length))).t⟩ rfl rfl rfl;obtain ⟨m1,m2,m3,m4,m5⟩:=hLI;obtain ⟨hd1,hd2⟩:=SY t ((cellsIn 1 ins).take sig.length)
  have hM0:(ek t sig.length ins).get 0=some (.cells t ((cellsIn 1 ins).take sig.length)):=by
   have:=((m5 0).1 Nat.zero_lt_one).1;exact this.trans hd1
  have hMj:∀j,j≠0->(ek t sig.length ins).get j=(aS B0 ins).get j:=λj hj=>(m5 j).2 (by show 1<=j;omega)
  have hi0:∀j q y,(aS B0 ins).get j=some q->T.ρ j=some y->j≠0->y.1≠i0:=λj q y hq hy hj he=>by
   obtain ⟨⟨zE,r2',z,k1,k2,k3,k4,k5⟩,ty⟩:=f9 j q y (by show 1<=j;omega) hq hy
   have:=e2.inj id zE _ r2' _ z vZ k1 hρ2 k3 (by show i0=z.1;omega)
   subst this;rw[hg3] at k5;cases k5
  have QB:Rel T (ek t sig.length ins) E:=by
   refine ⟨f2.fz,λj x hx=>?_,λj v hj=>?_,λj q hj=>?_,λj j' q q' x x' hj hj' hx hx' he=>?_,λj q x hj hb hx=>?_,λj q x hj _ hx=>?_,?_,?_,f2.Gu⟩
   .
    show j<(ek t sig.length ins).next
    rw[show (ek t sig.length ins).next=(aS B0 ins).next from m1];exact f2.dom j x hx
   .
    rw[show (ek t sig.length ins).next=(aS B0 ins).next from m1] at hj;exact f2.CO j v hj
   .
    by_cases ej:j=0
    .
     subst ej;rw[hM0] at hj;cases hj;exact ⟨i0,c0,s0,bk,hT0,r2,f3a,r4,r5⟩
    rw[hMj j ej] at hj;exact f2.row j q hj
   .
    by_cases ej:j=0
    .
     by_cases ej':j'=0
     .
      omega
     subst ej;rw[hT0] at hx;cases hx;rw[hMj j' ej'] at hj';exact absurd he.symm (hi0 j' q' x' hj' hx' ej')
    rw[hMj j ej] at hj;by_cases ej':j'=0
    .
     subst ej';rw[hT0] at hx';cases hx';exact absurd he (hi0 j q x hj hx ej)
    rw[hMj j' ej'] at hj';exact f2.inj j j' q q' x x' hj hj' hx hx' he
   .
    by_cases ej:j=0
    .
     subst ej;rw[hT0] at hx;cases hx;rw[f4];exact e2.sep id _ _ vZ rfl hρ2
    rw[hMj j ej] at hj;exact f2.sep j q x hj hb hx
   .
    by_cases ej:j=0
    .
     subst ej;rw[hT0] at hx;cases hx;exact e2.lk id _ _ vZ (by rw[e3.Oz];simpa[aa.ku,Nat.ble_eq] using hmay) hρ2
    rw[hMj j ej] at hj;exact f2.lk j q x hj (by rw[f6];exact Nat.zero_le _) hx
   .
    show (ek t sig.length ins).lk<=_;rw[show (ek t sig.length ins).lk=(aS B0 ins).lk from m2,f6];exact Nat.zero_le _
   rw[show (ek t sig.length ins).par=(aS B0 ins).par from m3,f7,show (ek t sig.length ins).next=(aS B0 ins).next from m1];exact f5
  have hFT:T.F=S2.F:=f4
  have hlT:LV T (.ptr 0 0::(cellsIn 1 ins).drop sig.length) (xp::argsE'):=by
   cases hp with
   |
    ptr _ _ ip cp sp hρp =>
    rw[r1] at hρp;cases hρp;exact LV.cons (.ptr 0 0 _ _ _ hT0) f3b
  obtain ⟨vs,M1,cs1,hrun,hM1,ank,hres⟩:=hc ins outs rs hg hol g2';obtain ⟨S1,vE,E',a1,⟨xs,rfl,a2⟩,a3,a4⟩:=hrun T E _ QB (hgl.mono' λi x hx=>by rw[hFT];exact e5.F i x hx) hlT
  have hρ1:S1.ρ 0=some (i0,c0,s0):=(a4.par 0 (by rw[show (ek t sig.length ins).par=(aS B0 ins).par from m3,f7];exact Nat.zero_lt_one)).trans hT0
  have ZS:mR H2 (H3.put id .dead):=g1.trans (mR.dead H3 id)
  have hown:∀i,Own T (ek t sig.length ins) i->ql S2 H2 (H3.put id .dead) i:=λi ⟨j,q,y,k1,k2,k3,k4⟩=>by
   by_cases ej:j=0
   .
    subst ej;rw[hT0] at k3;cases k3;exact ⟨id,_,_,vZ,rfl,hρ2,k4,Iv _ _⟩
   rw[hMj j ej] at k1;obtain ⟨b,_⟩:=f9 j q y (by show 1<=j;omega) k1 k3
   rw[k4] at b;exact b.later (mR.dead H3 id)
  obtain ⟨c1,c2⟩:=D4 e2 hFT ZS hown a3 a4;obtain ⟨i1,c1',s1,bk1,u1,u2,u3,u4,u5⟩:=a3.row 0 _ hM1;rw[hρ1] at u1;cases u1;have ZE:(H3.put id .dead).next=H2.next:=ZS.next
  have BF:∀i,Own T (ek t sig.length ins) i->Own S2 H2 i:=λi ho=>by
   obtain ⟨j,q,z,k1,k2,k3,k4,_⟩:=hown i ho;exact ⟨j,q,z,k1,k2,k3,k4⟩
  obtain ⟨S',d1,d2,d3,d4,d5,d6,d7,d8,d9⟩:=Ni (BB:=λi=>(E.size<=i\/Own T (ek t sig.length ins) i)/\i≠i0) a3 (by rw[a4.Oz];exact m2.trans f6) hres (u3.append a2) c2 rfl (λj q y hq hns hy hro=>by
   have hne:y.1≠i0:=λhe=>by
    have:=a3.inj j 0 q _ y _ hq hM1 hy hρ1 he;exact hns (by simp[this])
   have hor:E.size<=y.1\/Own T (ek t sig.length ins) y.1:=by
    by_cases hy':y.1<E.size
    .
     exact .inr (a4.own y.1 ⟨j,q,y,hq,hro,hy,rfl⟩ hy')
    exact .inl (by omega)
   refine ⟨⟨hor,hne⟩,λzE q2 z Zw hz he=>?_⟩
   have hq2':=ZS.get _ _ Zw;rcases hor with h1|h1
   .
    obtain ⟨b,hb⟩:=e2.old hq2' hz;have:=Mem.bH hb;omega
   obtain ⟨id3,r3',z3,k1,k2,k3,k4,k5⟩:=hown _ h1;have:=e2.inj zE id3 q2 r3' z z3 hq2' k1 hz k3 (by omega)
   subst this;rw[Zw] at k5;cases k5)
  rw[ZE] at d5 d8 d9;have ak0:id<H2.next:=aa.bH vZ
  have hρ':S'.ρ id=some (i0,c0,s0):=((d8 id ak0).2).trans hρ2;have hu3:=u3.1
  have d2a:LV S' ((eu (outs++rs) (H3.put id .dead)).1.take sig.length) bk1.cells:=by
   have:=d2.take sig.length;rwa[List.take_append_of_le_length (l₁:=bk1.cells) (by omega),List.take_of_length_le (l:=bk1.cells) (by omega)] at this
  have d2b:LV S' ((eu (outs++rs) (H3.put id .dead)).1.drop sig.length) xs:=by
   have:=d2.drop sig.length;rwa[List.drop_append_of_le_length (l₁:=bk1.cells) (by omega),List.drop_of_length_le (l:=bk1.cells) (by omega),List.nil_append] at this
  have hfin:=d3.putAt (id:=id) (r:=.cells t ((eu (outs++rs) (H3.put id .dead)).1.take sig.length)) (by omega) rfl (λr' hr'=>by
   cases hr'
   exact ⟨i0,c0,s0,bk1,hρ',u2,d2a,u4,u5⟩) (λy hy=>by
    rw[hρ'] at hy;cases hy;refine ⟨λid' q z hq hne hz he=>?_,by rw[d4];exact a3.sep 0 _ _ hM1 rfl hρ1,a3.lk 0 _ _ hM1 (by rw[a4.Oz,show (ek t sig.length ins).lk=(aS B0 ins).lk from m2,f6];exact Nat.zero_le _) hρ1⟩
    by_cases hlt:id'<H2.next
    .
     rw[(d8 id' hlt).1] at hq;rw[(d8 id' hlt).2] at hz;exact hne (e2.inj id' id q _ z _ (ZS.get _ _ hq) vZ hz hρ2 he)
    exact (d9 id' q z (by omega) hq hz).2 he)
  obtain ⟨p1,p2,p3,p4⟩:=aa.cX (eu (outs++rs) (H3.put id .dead)).2 id (.cells t ((eu (outs++rs) (H3.put id .dead)).1.take sig.length));have S4:S.le S':=Wo.le_trans e1 (Wo.le_trans c1 d1);refine ⟨S',Ev.sX xs,E',a1,S4,FC d2b,hfin,⟨a4.sz,a4.lk,by rw[p2,d6,ZS.lk];exact e3.Oz,by rw[p3,d7,ZS.par];exact e3.A5,S4.F,λi ho hi=>?_,λi hi=>?_,λi hi ho=>a4.keep i hi (λh1=>ho (e3.own i (BF i h1) hi)),λj hj=>?_,?_,λj hj hlv=>?_,λj hj hn=>?_⟩⟩
  .
   obtain ⟨j,q,y,h1,h2,h3,rfl⟩:=ho;refine e3.own _ ?_ hi;rw[p4] at h1;by_cases ej:j=id
   .
    subst ej;rw[hρ'] at h3;cases h3;exact ⟨j,_,_,vZ,rfl,hρ2,rfl⟩
   rw[if_neg ej] at h1;by_cases hlt:j<H2.next
   .
    rw[(d8 j hlt).1] at h1;rw[(d8 j hlt).2] at h3;exact ⟨j,q,y,ZS.get _ _ h1,h2,h3,rfl⟩
   rcases (d9 j q y (by omega) h1 h3).1 with h4|h4
   .
    omega
   exact BF _ h4
  .
   rw[d4] at hi;rcases a4.JM i hi with h1|h1|h1
   .
    rw[hFT] at h1;exact e3.JM i h1
   .
    by_cases hsz:i<E.size
    .
     exact .inr (.inl (e3.own i (BF i h1) hsz))
    exact .inr (.inr (by omega))
   exact .inr (.inr h1)
  .
   rw[(d8 j (by have:=hr.Kv;have:=e3.nx;omega)).2];exact e3.par j hj
  .
   rw[p1];exact Nat.le_trans e3.nx d5
  .
   rw[p4] at hlv;by_cases ej:j=id
   .
    subst ej;exact e3.live j hj (by rw[vZ];simp)
   rw[if_neg ej] at hlv;have hlt:j<H2.next:=by have:=e3.nx;omega
   rw[(d8 j hlt).1] at hlv
   exact e3.live j hj (λhn=>by
    cases hq:(H3.put id .dead).get j with
    |none=>exact hlv hq
    |some q=>rw[ZS.get j q hq] at hn;cases hn)
  rw[(d8 j (by have:=e3.nx;omega)).2];exact e3.rn j hj hn
end
section
variable {X:dF}
def ke:aa->List bP->List AV->Option (List AV×aa)
 |M,[],[]=>some ([],M)
 |
  M,.val _::rs,v::vs=>match v with
  |
   .agg l=>match gA M l with
   |
    some (l',M1)=>match ke M1 rs vs with
    |some (r,M2)=>some (.agg l'::r,M2)
    |none=>none
   |none=>none
  |
   v=>match gA M [v] with
   |
    some ([v'],M1)=>match ke M1 rs vs with
    |some (r,M2)=>some (v'::r,M2)
    |none=>none
   |_=>none
 |
  M,.list _ _ _::rs,v::vs=>match ke M rs vs with
  |some (r,M2)=>some (v::r,M2)
  |none=>none
 |_,_,_=>none
theorem rJ {S0:Wo} {H0:aa} {E0 E:Mem}:∀{rs:List bP} {vs vs':List AV} {M M':aa} {S:Wo} {C:List Value},Rel S M E->CF S0 H0 E0 S M E->LV S vs C->ke M rs vs=some (vs',M')->∃S',Rel S' M' E/\CF S0 H0 E0 S' M' E/\LV S' vs' C/\S.le S'
 |
  [],[],vs',M,M',S,C,hr,hst,hl,h=>by
  simp only[ke,Option.some.injEq,Prod.mk.injEq] at h;obtain ⟨rfl,rfl⟩:=h;exact ⟨S,hr,hst,hl,S.le_refl⟩
 |
  .val w::rs,v::vs,vs',M,M',S,C,hr,hst,hl,h=>by
  obtain ⟨x,C',rfl,h1,h2⟩:=hl.cons_inv;unfold ke at h;split at h
  .
   rename_i l;split at h
   .
    rename_i l' M1 hf;cases h1 with
    |
     agg _ m Zz hm2 =>
     obtain ⟨S1,b1,b2,b3,b4,b5⟩:=kS hr S.le_refl (St.refl S M E) ⟨Zz,hm2⟩ hf;split at h
     .
      rename_i r M2 hg;simp only[Option.some.injEq,Prod.mk.injEq] at h;obtain ⟨rfl,rfl⟩:=h;obtain ⟨S2,c2,c3,c4,c5⟩:=rJ b2 (hst.trans b3.Rq) (h2.mono b5) hg;exact ⟨S2,c2,c3,LV.cons (.agg _ _ (b4.mono c5).1 (b4.mono c5).2) c4,Wo.le_trans b5 c5⟩
     cases h
   cases h
  split at h
  .
   rename_i v' M1 hf;obtain ⟨S1,b1,b2,b3,b4,b5⟩:=kS hr S.le_refl (St.refl S M E) (LV.cons h1 LV.nil) hf;obtain ⟨x',_,e,b6,_⟩:=b4.cons_inv;cases e;split at h
   .
    rename_i r M2 hg;simp only[Option.some.injEq,Prod.mk.injEq] at h;obtain ⟨rfl,rfl⟩:=h;obtain ⟨S2,c2,c3,c4,c5⟩:=rJ b2 (hst.trans b3.Rq) (h2.mono b5) hg;exact ⟨S2,c2,c3,LV.cons (b6.mono c5) c4,Wo.le_trans b5 c5⟩
   cases h
  cases h
 |
  .list t e l::rs,v::vs,vs',M,M',S,C,hr,hst,hl,h=>by
  obtain ⟨x,C',rfl,h1,h2⟩:=hl.cons_inv;unfold ke at h;split at h
  .
   rename_i r M2 hg;simp only[Option.some.injEq,Prod.mk.injEq] at h;obtain ⟨rfl,rfl⟩:=h;obtain ⟨S2,c2,c3,c4,c5⟩:=rJ hr hst h2 hg;exact ⟨S2,c2,c3,LV.cons (h1.mono c5) c4,c5⟩
  cases h
 |[],_::_,_,_,_,_,_,_,_,_,h=>by simp[ke] at h
 |.val _::_,[],_,_,_,_,_,_,_,_,h=>by simp[ke] at h
 |.list _ _ _::_,[],_,_,_,_,_,_,_,_,h=>by simp[ke] at h
theorem ajr {kn:Ev.bQ} {id:FuncId} (hk:∀args,kn id args=none) {call:∀ β,bf β} (hcall:∀ β,aY X (br X kn) (call β)) {an:bI} {rounds:Nat} {args vs vs':List AV} {M M1 M2:aa} {rs:List bP}
 (h:ag X (call (AV×aa)) an rounds id args M (λv H=>some (v,H))=some (kP vs,M1)) (hs:ke M1 rs vs=some (vs',M2)):zf X (br X kn) id args M vs' M2:=by
 obtain ⟨v',M',h1,h2⟩:=fy (nf:=false) (hcall _) (λh=>by cases h) h
 cases h1
 intro S E aC hr hg hl
 obtain ⟨S',vE,E',a1,a2,a3,a4,_⟩:=h2 S E aC hr hg hl
 obtain ⟨xs,rfl,hx⟩:=sG a2
 obtain ⟨S2,b1,b2,b3,b4⟩:=rJ a3 a4 hx hs
 exact ⟨S2,_,E',cI hk a1,⟨xs,rfl,b3⟩,b1,b2⟩
theorem mb {γ:Type} {kn:Ev.bQ} {id:FuncId} (hk:∀args,kn id args=none) {call:bf γ} (hcall:aY X (br X kn) call) {an:bI} {rounds:Nat} {args:List AV} {M:aa} {obs:AV->aa->Option γ} {r:γ}
 (h:ag X call an rounds id args M obs=some r):∃v M1,obs v M1=some r/\∀vs,v=kP vs->zf X (br X kn) id args M vs M1:=by
 obtain ⟨v,M1,h1,h2⟩:=fy (nf:=false) hcall (λh=>by cases h) h
 refine ⟨v,M1,h1,λvs hv=>?_⟩
 subst hv
 intro S E aC hr hg hl
 obtain ⟨S',vE,E',a1,a2,a3,a4,_⟩:=h2 S E aC hr hg hl
 obtain ⟨xs,rfl,hx⟩:=sG a2
 exact ⟨S',_,E',cI hk a1,⟨xs,rfl,hx⟩,a3,a4⟩
theorem zf.ab3 {cf:Nat×Nat->Ev.aX} {id:FuncId} {args vs vs':List AV} {M M1 M2:aa} {rs:List bP} (h:zf X cf id args M vs M1) (hs:ke M1 rs vs=some (vs',M2)):zf X cf id args M vs' M2:=by
 intro S E aC hr hg hl
 obtain ⟨S',vE,E',a1,⟨xs,rfl,a2⟩,a3,a4⟩:=h S E aC hr hg hl
 obtain ⟨S2,b1,b2,b3,b4⟩:=rJ a3 a4 a2 hs
 exact ⟨S2,_,E',a1,⟨xs,rfl,b3⟩,b1,b2⟩
abbrev KTN:=FuncId->Option BC
def S5 (X:dF) (K:W0) (KN:KTN) (inl:FuncId->Bool) (rounds:Nat) (β:Type):Nat->bf β :=
 λn=>Nat.rec (motive:=λ_=>bf β) (λ_ _ _ _=>none)
  (λ_ go id args H k=>pick2 (X.kl id) (DP X args H k) (match K id with
   |some (sig,g)=>sH sig g args H k
   |
    none=>match KN id with
    |some c=>Nj c args H k
    |none=>pick2 (inl id) (ag X go ⟨.none,.none,X.trs id⟩ rounds id args H k) none)) n
theorem S6 {kn:Ev.bQ} {K:W0} {KN:KTN} {inl:FuncId->Bool} (hK:∀id sig g,K id=some (sig,g)->aK X (br X kn) id g) (hN:∀id c,KN id=some c->cu X (br X kn) id c) (hi:∀id,inl id=true->∀args,kn id args=none) (rounds:Nat) (n:Nat) (β:Type) (hkl:agj X kn:=by exact λ_ h=>Bool.noConfusion (show false=true from h)):aY X (br X kn) (S5 X K KN inl rounds β n):=by
 induction n with
 |zero=>exact λf args H k r h=>by cases h
 |
  succ n ih =>
  intro f args H k r h
  have h:pick2 (X.kl f) (DP X args H k) (match K f with
   |some (sig,g)=>sH sig g args H k
   |
    none=>match KN f with
    |some c=>Nj c args H k
    |none=>pick2 (inl f) (ag X (S5 X K KN inl rounds β n) ⟨.none,.none,X.trs f⟩ rounds f args H k) none)=some r:=h
  rw[pick2_eq] at h;split at h
  .
   rename_i hf;exact HT (hkl f hf) h
  split at h
  .
   rename_i sig g hk;exact Bh (hK f sig g hk) h
  split at h
  .
   rename_i c hc;exact S3 (hN f c hc) h
  rw[pick2_eq] at h;split at h
  .
   rename_i hin;obtain ⟨v,H',h1,h2⟩:=fy (nf:=true) ih (λ_=>⟨rfl,rfl⟩) h
   refine ⟨v,H',h1,λS E aC hr hg hl=>?_⟩
   obtain ⟨S',vE,E',a1,a2,a3,a4,a5⟩:=h2 S E aC hr hg hl;exact ⟨S',vE,E',cI (hi f hin) a1,(a5 rfl).1,a2,a3,(a5 rfl).2⟩
  cases h
abbrev kB:=FuncId×BC
def ab4 (l:List kB):KTN:=λf=>List.rec (motive:=λ_=>Option BC) none (λe _ r=>pick2 (Nat.beq f e.1) (some e.2) r) l
def cR (X:dF) (cf:Nat×Nat->Ev.aX) (l:List kB):Prop:=∀id c,ab4 l id=some c->cu X cf id c
theorem cR.nil {cf:Nat×Nat->Ev.aX}:cR X cf []:=λ_ _ h=>by cases h
theorem cR.cons {cf:Nat×Nat->Ev.aX} {f:FuncId} {c:BC} {l:List kB} (h:cu X cf f c) (t:cR X cf l):cR X cf ((f,c)::l):=λid c' hk=>by
 have hk2:pick2 (Nat.beq id f) (some c) (ab4 l id)=some c':=hk
 clear hk
 rw[pick2_eq] at hk2
 split at hk2
 .
  rename_i hf;obtain rfl:=Nat.eq_of_beq_eq_true hf;have Wa:c=c':=Option.some.inj hk2;subst Wa;exact h
 exact t id c' hk2
end
end
end Go.Tv

namespace Go.Tv
open Go.Ev (Tr pick2 Leave Mem Blk alive pick2_eq alive_some)
noncomputable section
def XC:Option Ty->AV->AV
 |some e,.bE=>.bF e []
 |_,v=>v
def wj:List (Option Ty)->List AV->List AV
 |s::sg,v::l=>XC s v::wj sg l
 |_,l=>l
def ace (sg:List (Option Ty)):AV->AV
 |.agg l=>.agg (wj sg l)
 |
  v=>match sg with
  |[s]=>XC s v
  |_=>v
def o6:List (List (Option Ty))->List AV->List AV
 |s::sg,v::l=>ace s v::o6 sg l
 |_,l=>l
theorem Nr {S:Wo} {v:AV} {x:Value} (s:Option Ty) (h:VR S v x):VR S (XC s v) x:=by
 unfold XC
 split
 .
  cases h;exact .bF _ _ _ (.inl ⟨rfl,rfl⟩)
 exact h
theorem BS {S:Wo}:∀(sg:List (Option Ty)) {l:List AV} {m:List Value},LV S l m->LV S (wj sg l) m
 |[],l,m,h=>by cases l<;>exact h
 |s::sg,[],m,h=>h
 |
  s::sg,v::l,m,h=>by
  obtain ⟨x,m',rfl,h1,h2⟩:=h.cons_inv;exact LV.cons (Nr s h1) (BS sg h2)
theorem XD {S:Wo} {v:AV} {x:Value} (sg:List (Option Ty)) (h:VR S v x):VR S (ace sg v) x:=by
 unfold ace
 split
 .
  rename_i l;cases h with
  |
   agg _ m hl hv =>
   obtain ⟨h1,h2⟩:=BS sg (S:=S) (l:=l) (m:=m) ⟨hl,hv⟩;exact .agg _ m h1 h2
 split
 .
  exact Nr _ h
 exact h
theorem wk {S:Wo}:∀(sg:List (List (Option Ty))) {l:List AV} {m:List Value},LV S l m->LV S (o6 sg l) m
 |[],l,m,h=>by cases l<;>exact h
 |s::sg,[],m,h=>h
 |
  s::sg,v::l,m,h=>by
  obtain ⟨x,m',rfl,h1,h2⟩:=h.cons_inv;exact LV.cons (XD s h1) (wk sg h2)
def II:Nat->AV->Option (List AV)
 |1,v=>some [v]
 |_,.cG l=>some l
 |_,_=>none
def mB (sg:List (List (Option Ty))) (v:AV) (H:aa):Option (List AV) :=
 match II sg.length v with
 |
  some vs=>match ke H (sg.map λ_=>.val .jf) vs with
  |some (ws,_)=>some (o6 sg ws)
  |none=>none
 |none=>none
section
variable {X:dF}
theorem uJ {n:Nat} {v:AV} {vs:List AV} (h:II n v=some vs) (hl:vs.length=n):v=kP vs:=by
 unfold II at h
 split at h
 .
  cases h;rfl
 .
  rename_i l _;cases h
  match vs,hl with
  |[],_=>rfl
  |[x],hl=>rename_i hne;exact absurd hl.symm hne
  |x::y::l,_=>rfl
 cases h
theorem sL:∀{rs:List bP} {vs vs':List AV} {M M':aa},ke M rs vs=some (vs',M')->vs.length=rs.length
 |[],[],_,_,_,_=>rfl
 |[],_::_,_,_,_,h=>by simp[ke] at h
 |.val _::_,[],_,_,_,h=>by simp[ke] at h
 |.list _ _ _::_,[],_,_,_,h=>by simp[ke] at h
 |
  .list _ _ _::rs,v::vs,vs',M,M',h=>by
  unfold ke at h;split at h
  .
   rename_i r M2 hs;simp[sL hs]
  cases h
 |
  .val _::rs,v::vs,vs',M,M',h=>by
  unfold ke at h;split at h
  .
   split at h
   .
    split at h
    .
     rename_i r M2 hs;simp[sL hs]
    cases h
   cases h
  split at h
  .
   split at h
   .
    rename_i r M2 hs;simp[sL hs]
   cases h
  cases h
theorem Ec {kn:Ev.bQ} {id:FuncId} (hk:∀args,kn id args=none) {call:bf (List AV)} (hcall:aY X (br X kn) call) {an:bI} {rounds:Nat} {args:List AV} {M:aa} {sg:List (List (Option Ty))} {ws:List AV}
 (h:ag X call an rounds id args M (mB sg)=some ws):∃M1,zf X (br X kn) id args M ws M1:=by
 obtain ⟨v,M1,h1,h2⟩:=mb hk hcall h
 unfold mB at h1
 split at h1
 case h_2=>cases h1
 rename_i vs hu
 split at h1
 case h_2=>cases h1
 rename_i ws1 M2 hs
 cases h1
 have hl:=sL hs
 rw[List.length_map] at hl
 have hrun:=(h2 vs (uJ hu hl)).ab3 hs
 refine ⟨M2,λS E aC hr hg hl=>?_⟩
 obtain ⟨S',vE,E',a1,⟨xs,rfl,a2⟩,a3,a4⟩:=hrun S E aC hr hg hl
 exact ⟨S',_,E',a1,⟨xs,rfl,wk sg a2⟩,a3,a4⟩
theorem rP {M:aa}:∀{ws:List AV} {seen:List Nat},ws.all CV=true->mz M seen ws (ws.map .val)
 |[],_,_=>trivial
 |
  w::ws,seen,h=>by
  simp only[List.all_cons,Bool.and_eq_true] at h;exact ⟨rfl,h.1,rP h.2⟩
theorem Tz {kn:Ev.bQ} {id:FuncId} (hk:∀args,kn id args=none) {call:∀ β,bf β} (hcall:∀ β,aY X (br X kn) (call β)) {sig:List (Option (TypeId×Ty))} {g:List bP->Option (Bool×List bP×List bP)} (sg:List (List (Option Ty)))
 (h:∀ins outs rs,g ins=some (true,outs,rs)->∃an rounds ws,ag X (call (List AV)) an rounds id (cellsIn 0 ins) (aS aa.empty ins) (mB sg)=some ws/\rs=ws.map .val/\ws.all CV=true):cu X (br X kn) id ⟨none,sig,g⟩:=by
 intro ins outs rs hg
 obtain ⟨an,rounds,ws,h1,rfl,h3⟩:=h ins outs rs hg
 intro _
 obtain ⟨M1,h4⟩:=Ec hk (hcall _) h1
 exact ⟨ws,M1,h4,rP h3⟩
def gi (M:aa):List Nat->List (Option (TypeId×Ty))->List AV->Option (List bP×List Nat)
 |_,[],[]=>some ([],[])
 |
  seen,none::sig,a::cs=>pick2 (CV a) (match gi M seen sig cs with
  |some (r,ns)=>some (.val a::r,ns)
  |none=>none) none
 |
  seen,some (t,e)::sig,.bE::cs=>match gi M seen sig cs with
  |some (r,ns)=>some (.list t e []::r,0::ns)
  |none=>none
 |
  seen,some (t,e)::sig,.own id n::cs=>match M.get id with
  |
   some (.list t' e' l _ _ false)=>pick2 (Nat.beq t' t && !seen.any (Nat.beq id)) (match fX e' e l with
   |
    some l'=>match gi M (id::seen) sig cs with
    |some (r,ns)=>some (.list t e l'::r,n::ns)
    |none=>none
   |none=>none) none
  |_=>none
 |_,_,_=>none
def rQ:List bP->List Nat
 |[]=>[]
 |.val _::rs=>rQ rs
 |.list _ _ l::rs=>l.length::rQ rs
theorem rR {M:aa}:∀{sig:List (Option (TypeId×Ty))} {cs:List AV} {seen:List Nat} {rs:List bP} {ns:List Nat},gi M seen sig cs=some (rs,ns)->ns=rQ rs->mz M seen cs rs/\cs.length=sig.length
 |
  [],[],seen,rs,ns,h,_=>by
  simp only[gi,Option.some.injEq,Prod.mk.injEq] at h;obtain ⟨rfl,rfl⟩:=h;exact ⟨trivial,rfl⟩
 |[],_::_,_,_,_,h,_=>by simp[gi] at h
 |none::_,[],_,_,_,h,_=>by simp[gi] at h
 |some _::_,[],_,_,_,h,_=>by simp[gi] at h
 |
  none::sig,a::cs,seen,rs,ns,h,hn=>by
  unfold gi at h;rw[pick2_eq] at h;split at h
  .
   rename_i hf;split at h
   .
    rename_i r ns' ho;cases h;obtain ⟨h1,h2⟩:=rR ho hn;exact ⟨⟨rfl,hf,h1⟩,by simp[h2]⟩
   cases h
  cases h
 |
  some (t,e)::sig,a::cs,seen,rs,ns,h,hn=>by
  unfold gi at h;split at h
  .
   simp at *
  .
   simp at *
  .
   rename_i q1 q2;split at h
   .
    rename_i r ns' ho;cases h;cases q1;cases q2;obtain ⟨h1,h2⟩:=rR ho (List.cons.inj hn).2;exact ⟨.inr ⟨rfl,rfl,h1⟩,by simp[h2]⟩
   cases h
  .
   rename_i id n _ q1 q2;split at h
   .
    rename_i t' e' l cS ex hg;rw[pick2_eq] at h;split at h
    .
     rename_i hc;simp only[Bool.and_eq_true,Bool.not_eq_true'] at hc;obtain ⟨ht,aht⟩:=hc;obtain rfl:=Nat.eq_of_beq_eq_true ht;split at h
     .
      rename_i l' hl;obtain ⟨rfl,qB⟩:=bq hl;have qB:l=l':=qB;subst qB;split at h
      .
       rename_i r ns' ho;cases h;cases q1;cases q2;obtain ⟨h1,h2⟩:=rR ho (List.cons.inj hn).2;have hlen:=(List.cons.inj hn).1;refine ⟨.inl ⟨id,cS,ex,by rw[hlen],hg,λhm=>?_,h1⟩,by simp[h2]⟩
       exact absurd (List.any_eq_true.2 ⟨id,hm,Nat.beq_refl id⟩) (by rw[aht];exact Bool.false_ne_true)
      cases h
     cases h
    cases h
   cases h
  cases h
def acf (t:TypeId) (sig:List (Option (TypeId×Ty))) (oG:List (Option (TypeId×Ty))) (v:AV) (H:aa):Option (List bP×List Nat) :=
 match H.get 0 with
 |
  some (.cells t' cs)=>pick2 (Nat.beq t' t&&Nat.beq cs.length sig.length) (match II oG.length v with
  |some vs=>gi H [0] (sig++oG) (cs++vs)
  |none=>none) none
 |_=>none
theorem XE {kn:Ev.bQ} {id:FuncId} (hk:∀args,kn id args=none) {call:∀ β,bf β} (hcall:∀ β,aY X (br X kn) (call β)) {t:TypeId} {sig CZ oG:List (Option (TypeId×Ty))} {g:List bP->Option (Bool×List bP×List bP)}
 (h:∀ins outs rs,g ins=some (true,outs,rs)->ins.length=(sig++CZ).length->∃an rounds ns,ag X (call _) an rounds id (.ptr 0 0::(cellsIn 1 ins).drop sig.length) (ek t sig.length ins) (acf t sig oG)=some (outs++rs,ns)/\ns=rQ (outs++rs)):cu X (br X kn) id ⟨some (t,sig),CZ,g⟩:=by
 intro ins outs rs hg _ hil
 obtain ⟨an,rounds,ns,h1,h2⟩:=h ins outs rs hg hil
 obtain ⟨v,M1,h3,h4⟩:=mb hk (hcall _) h1
 unfold acf at h3
 split at h3
 case h_2=>cases h3
 rename_i t' cs MN
 rw[pick2_eq] at h3
 split at h3
 case isFalse=>cases h3
 rename_i hc
 rw[Bool.and_eq_true,Nat.beq_eq,Nat.beq_eq] at hc
 obtain ⟨rfl,iQ⟩:=hc
 split at h3
 case h_2=>cases h3
 rename_i vs hu
 obtain ⟨k1,k2⟩:=rR h3 h2
 have hvl:vs.length=oG.length:=by
  simp only[List.length_append] at k2;omega
 exact ⟨vs,M1,cs,h4 vs (uJ hu hvl),MN,iQ,k1⟩
def TA (t:TypeId) (rg:List (Option Ty)) (sig:List (Option (TypeId×Ty))) (oG:List (Option (TypeId×Ty))) (v:AV) (H:aa):Option (List bP×List Nat) :=
 match H.get 0 with
 |
  some (.cells t' cs)=>pick2 (Nat.beq t' t&&Nat.beq (wj rg cs).length sig.length) (match II oG.length v with
  |some vs=>gi H [0] (sig++oG) (wj rg cs++vs)
  |none=>none) none
 |_=>none
theorem Lc {M:aa} {r:Row} {vs:List AV} {rs:List bP}:∀{seen:List Nat},0∈seen->mz M seen vs rs->mz (M.put 0 r) seen vs rs:=by
 induction vs generalizing rs with
 |
  nil =>
  intro seen hs h;cases rs with
  |nil=>trivial
  |cons q rs=>cases q<;>exact h
 |
  cons v vs ih =>
  intro seen hs h;cases rs with
  |nil=>exact h
  |
   cons q rs =>
   cases q with
   |val w=>exact ⟨h.1,h.2.1,ih hs h.2.2⟩
   |
    list t e l =>
    rcases h with ⟨id,cS,ex,h1,h2,h3,h4⟩|⟨h1,h2,h3⟩
    .
     refine .inl ⟨id,cS,ex,h1,?_,h3,ih (List.mem_cons_of_mem _ hs) h4⟩;rw[(aa.cX M 0 r).2.2.2 id,if_neg (λhe=>h3 (by rw[he];exact hs))]
     exact h2
    exact .inr ⟨h1,h2,ih hs h3⟩
theorem zf.ahu {cf:Nat×Nat->Ev.aX} {id:FuncId} {args vs:List AV} {M M1:aa} {t:TypeId} {cs:List AV} (rg:List (Option Ty)) (h:zf X cf id args M vs M1) (hg:M1.get 0=some (.cells t cs)):zf X cf id args M vs (M1.put 0 (.cells t (wj rg cs))):=by
 intro S E aC hr hgl hl
 obtain ⟨S',vE,E',a1,a2,a3,a4⟩:=h S E aC hr hgl hl
 obtain ⟨i,c,s,b,r1,r2,r3,r4,r5⟩:=a3.row 0 _ hg
 obtain ⟨m1,m2⟩:=a3.mod (S':=S') (E':=E') (r':=.cells t (wj rg cs)) hg rfl S'.le_refl rfl (λ_ _ _=>rfl) rfl rfl (λj hj=>rfl) (λj cs h=>.inl h) (λq hq=>by
  cases hq;exact ⟨i,c,s,b,r1,r2,BS rg r3,r4,r5⟩)
 exact ⟨S',vE,E',a1,a2,m1,a4.trans m2.Rq⟩
theorem TB {kn:Ev.bQ} {id:FuncId} (hk:∀args,kn id args=none) {call:∀ β,bf β} (hcall:∀ β,aY X (br X kn) (call β)) {t:TypeId} (rg:List (Option Ty)) {sig CZ oG:List (Option (TypeId×Ty))} {g:List bP->Option (Bool×List bP×List bP)}
 (h:∀ins outs rs,g ins=some (true,outs,rs)->ins.length=(sig++CZ).length->∃an rounds ns,ag X (call _) an rounds id (.ptr 0 0::(cellsIn 1 ins).drop sig.length) (ek t sig.length ins) (TA t rg sig oG)=some (outs++rs,ns)/\ns=rQ (outs++rs)):cu X (br X kn) id ⟨some (t,sig),CZ,g⟩:=by
 intro ins outs rs hg _ hil
 obtain ⟨an,rounds,ns,h1,h2⟩:=h ins outs rs hg hil
 obtain ⟨v,M1,h3,h4⟩:=mb hk (hcall _) h1
 unfold TA at h3
 split at h3
 case h_2=>cases h3
 rename_i t' cs MN
 rw[pick2_eq] at h3
 split at h3
 case isFalse=>cases h3
 rename_i hc
 rw[Bool.and_eq_true,Nat.beq_eq,Nat.beq_eq] at hc
 obtain ⟨rfl,iQ⟩:=hc
 split at h3
 case h_2=>cases h3
 rename_i vs hu
 obtain ⟨k1,k2⟩:=rR h3 h2
 have hvl:vs.length=oG.length:=by
  simp only[List.length_append] at k2;omega
 have hlt:0<M1.next:=by
  rw[aa.get_eq] at MN;split at MN
  .
   assumption
  cases MN
 refine ⟨vs,M1.put 0 (.cells t' (wj rg cs)),wj rg cs,(h4 vs (uJ hu hvl)).ahu rg MN,?_,iQ,Lc (by simp) k1⟩
 rw[(aa.cX M1 0 _).2.2.2 0,if_pos rfl,if_pos hlt];rfl
end
end
end Go.Tv
