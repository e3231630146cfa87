/- Contracts of functions that are handed a pointer to a row of theirs, and hand back lists in lists. What a run is seen to hand back: lists in structs, cells behind a pointer. -/
import Derived.Test.YtpaddkkfefgkfaaGreatDoorLyg

namespace Go.Tv
open Go.Ev (Tr pick2 Leave Mem Blk alive pick2_eq alive_some)
noncomputable section
def Jm:AV->Bool
 |.int _ _=>true
 |.bool _=>true
 |.str _=>true
 |.lg _=>true
 |.bR=>true
 |.jt=>true
 |.bQ _ _=>true
 |_=>false
def Bt:AV->Bool
 |.agg l=>l.all Jm
 |v=>Jm v
inductive bM where
 |val (v:AV)
 |list (t:TypeId) (e:Ty) (l:List e.den)
theorem Qx {S S':Wo} (hF:∀i x,S.F i=some x->S'.F i=some x) {v:AV} {x:Value} (h:Bt v=true) (hv:VR S v x):VR S' v x:=by
 have one:∀{v:AV} {x:Value},Jm v=true->VR S v x->VR S' v x:=λh hv=>by
  cases hv with
  |int=>exact .int _ _
  |bool=>exact .bool _
  |str=>exact .str _
  |lg=>exact .lg _
  |bR=>exact .bR
  |jt=>exact .jt
  |bQ e l _ h=>exact .bQ e l _ (h.mono hF)
  |_=>cases h
 cases hv with
 |agg l m hl hm=>exact .agg l m hl λj a b ha hb=>one (List.all_eq_true.1 h a (List.mem_of_getElem? ha)) (hm j a b ha hb)
 |int k n=>exact one h (.int k n)
 |bool b=>exact one h (.bool b)
 |str s=>exact one h (.str s)
 |lg n=>exact one h (.lg n)
 |bR=>exact .bR
 |jt=>exact .jt
 |bQ e l _ h=>exact .bQ e l _ (h.mono hF)
 |_=>cases h
def dQ:List bM->aa->List AV×aa
 |[],H=>([],H)
 |.val v::rs,H=>(v::(dQ rs H).1,(dQ rs H).2)
 |.list t e l::rs,H=>(.own H.next l.length::(dQ rs (H.push (.list t e l 0 false false))).1,(dQ rs (H.push (.list t e l 0 false false))).2)
def lq (M:aa):List Nat->List AV->List bM->Prop
 |_,[],[]=>True
 |seen,v::vs,.val w::rs=>v=w/\Bt w=true/\lq M seen vs rs
 |seen,v::vs,.list t e l::rs=>(∃id cB ex,v = .own id l.length/\M.get id=some (.list t e l cB ex false)/\id ∉ seen/\lq M (id::seen) vs rs)\/(v = .bR/\l=[]/\lq M seen vs rs)
 |_,_,_=>False
def Wg (S:Wo) (H:aa) (E:Mem) (Aa:Nat->Prop) (rs:List bM) (xs:List Value):Prop :=
 ∃S',S.le S'/\LV S' (dQ rs H).1 xs/\Rel S' (dQ rs H).2 E/\S'.F=S.F/\H.next<=(dQ rs H).2.next/\(dQ rs H).2.lk=H.lk/\(dQ rs H).2.par=H.par /\
  (∀id,id<H.next->(dQ rs H).2.get id=H.get id/\S'.ρ id=S.ρ id)/\(∀id q z,H.next<=id->(dQ rs H).2.get id=some q->S'.ρ id=some z->Aa z.1)
theorem KZ {S1:Wo} {M1:aa} {E:Mem} (Ci:Rel S1 M1 E) (Aa:Nat->Prop) (hlk:M1.lk=0):∀{vs:List AV} {rs:List bM} {seen:List Nat} {xs:List Value} {S:Wo} {H:aa},lq M1 seen vs rs->LV S1 vs xs->Rel S H E->S.F=S1.F ->
 (∀id r y,M1.get id=some r->id ∉ seen->S1.ρ id=some y->r.B7=false->Aa y.1/\∀yf q z,H.get yf=some q->S.ρ yf=some z->z.1≠y.1) ->
 Wg S H E Aa rs xs
 |
  [],[],seen,xs,S,H,_,hl,hr,hF,hown=>by
  rw[hl.dO];exact ⟨S,S.le_refl,LV.nil,hr,rfl,Nat.le_refl _,rfl,rfl,λ_ _=>⟨rfl,rfl⟩,λid q z hid hq _=>absurd (aa.bB hq) (by show ¬id<H.next;omega)⟩
 |
  v::vs,r0::rs,seen,xs,S,H,h,hl,hr,hF,hown=>by
  obtain ⟨x,xs',rfl,h1,h2⟩:=hl.cons_inv;have jN:∀v,S.Γ H.next v=none:=λv=>hr.Bl _ _ (Nat.le_refl _)
  have go:∀(t:TypeId) (e:Ty) (l:List e.den) (seen':List Nat) (y:Option (Nat×Nat×Nat)),r0 = .list t e l->lq M1 seen' vs rs->S.le (S.new H.next y (some ⟨e,l⟩))->Rel (S.new H.next y (some ⟨e,l⟩)) (H.push (.list t e l 0 false false)) E->VR (S.new H.next y (some ⟨e,l⟩)) (.own H.next l.length) x ->
   (∀z,y=some z->Aa z.1/\∃ye y1 r1,ye∈seen'/\S1.ρ ye=some y1/\y1.1=z.1/\M1.get ye=some r1)->(∀id,id∈seen->id∈seen')->Wg S H E Aa (r0::rs) (x::xs'):=λt e l seen' y Oc hres hle hrel XS hy hsub=>by
   subst Oc;obtain ⟨p1,p2,p3,p4⟩:=aa.bt H (.list t e l 0 false false)
   have hown':∀id r y',M1.get id=some r->id ∉ seen'->S1.ρ id=some y'->r.B7=false->Aa y'.1/\∀yf q z,(H.push (.list t e l 0 false false)).get yf=some q->(S.new H.next y (some ⟨e,l⟩)).ρ yf=some z->z.1≠y'.1:=λid r y' hg hns hρ hro=>by
    obtain ⟨k1,k2⟩:=hown id r y' hg (λhm=>hns (hsub _ hm)) hρ hro
    refine ⟨k1,λyf q z hq hz=>?_⟩
    rw[p4] at hq;by_cases hid:yf=H.next
    .
     subst hid;have hz:y=some z:=by rw[<-hz];exact (if_pos rfl).symm
     obtain ⟨_,ye,y1,r1,b1,b2,b3,b4⟩:=hy z hz;intro he;have:=Ci.inj ye id r1 r y1 y' b4 hg b2 hρ (by omega)
     subst this;exact hns b1
    rw[if_neg hid] at hq;have hz:S.ρ yf=some z:=by rw[<-hz];exact (if_neg hid).symm
    exact k2 yf q z hq hz
   obtain ⟨S',a1,a2,a3,a4,a5,a6,a7,a8,a9⟩:=KZ Ci Aa hlk hres h2 hrel hF hown';rw[p1] at a5 a8 a9;rw[p2] at a6;rw[p3] at a7;refine ⟨S',Wo.le_trans hle a1,LV.cons (XS.mono a1) a2,a3,a4,Nat.le_trans (Nat.le_succ _) a5,a6,a7,λid hid=>?_,λid q z hid hq hz=>?_⟩
   .
    obtain ⟨b1,b2⟩:=a8 id (by omega)
    exact ⟨b1.trans (by rw[p4,if_neg (by omega)]),b2.trans (if_neg (by omega))⟩
   by_cases hid':id=H.next
   .
    subst hid';have:S'.ρ H.next=(S.new H.next y (some ⟨e,l⟩)).ρ H.next:=(a8 H.next (by omega)).2
    rw[this] at hz;have hz:y=some z:=by rw[<-hz];exact (if_pos rfl).symm
    exact (hy z hz).1
   exact a9 id q z (by omega) hq hz
  cases r0 with
  |
   val w =>
   obtain ⟨rfl,hs,h⟩:=h;obtain ⟨S',a1,a2,a3,a4⟩:=KZ Ci Aa hlk h h2 hr hF hown;exact ⟨S',a1,LV.cons (Qx (λi x hx=>by rw[a4.1,hF];exact hx) hs h1) a2,a3,a4⟩
  |
   list t e l =>
   rcases h with ⟨id,cB,ex,rfl,hg,hns,h⟩|⟨rfl,rfl,h⟩
   .
    obtain ⟨g1,⟨g0,g,g2,g2'⟩,g3⟩:=Ci.row id _ hg;generalize FH:l.length=n at h1;cases h1 with
    |
     own _ _ i0 gC s0 hρ g' hg' hn' =>
     rcases g3 with ⟨_,g5,_⟩|⟨i',cap,b,mid,post,q1,q2,q3,q4,q5,q6,q7,q8,q9,rU⟩
     .
      rw[hρ] at g5;cases g5
     rw[hρ] at q1;cases q1;subst FH;obtain ⟨f1,f2⟩:=hown id _ _ hg hns hρ rfl
     obtain ⟨b1,b2⟩:=hr.sk (r:=.list t e l 0 false false) (x:=some (i0,gC,e.size)) (g:=some ⟨e,l⟩) (λr' hr'=>by
      cases hr'
      exact eV jN q2 q3 q4 (by rw[hF];exact q5) q6 q7 q8 (λh=>by cases h) (by rw[hF];exact rU.2)) (λy hy=>by
       cases hy;exact ⟨f2,by rw[hF];exact Ci.sep id _ _ hg rfl hρ,Ci.lk id _ _ hg (by omega) hρ⟩)
     refine go t e l (id::seen) _ rfl h b1 b2 (.own _ _ i0 gC e.size (if_pos rfl) ⟨e,l⟩ (if_pos ⟨rfl,rfl⟩) rfl) (λz hz=>?_) (λid hid=>List.mem_cons_of_mem _ hid)
     cases hz;exact ⟨f1,id,_,_,List.mem_cons_self,hρ,rfl,hg⟩
    |
     cT _ g' hg' hn' =>
     have hl0:l=[]:=List.length_eq_zero_iff.1 FH;subst hl0;obtain ⟨b1,b2⟩:=hr.sk (r:=.list t e [] 0 false false) (x:=none) (g:=some ⟨e,[]⟩) (λr' hr'=>by cases hr';exact gR jN) (λy hy=>by cases hy)
     exact go t e [] (id::seen) none rfl h b1 b2 (.cT _ ⟨e,[]⟩ (if_pos ⟨rfl,rfl⟩) rfl) (λz hz=>by cases hz) (λid hid=>List.mem_cons_of_mem _ hid)
   cases h1;obtain ⟨b1,b2⟩:=hr.sk (r:=.list t e [] 0 false false) (x:=none) (g:=some ⟨e,[]⟩) (λr' hr'=>by cases hr';exact gR jN) (λy hy=>by cases hy)
   exact go t e [] seen none rfl h b1 b2 (.cT _ ⟨e,[]⟩ (if_pos ⟨rfl,rfl⟩) rfl) (λz hz=>by cases hz) (λid hid=>hid)
theorem Rel.putAt {S:Wo} {H:aa} {E:Mem} (h:Rel S H E) {id:Nat} {r:Row} (hid:id<H.next) (hro:r.B7=false) (hr:∀r',r.live=some r'->nj S E id r')
 (hx:∀y,S.ρ id=some y->(∀id' q z,H.get id'=some q->id'≠id->S.ρ id'=some z->z.1≠y.1)/\S.F y.1=none/\E.lk<=y.1):Rel S (H.put id r) E:=by
 obtain ⟨p1,p2,p3,p4⟩:=aa.cE H id r
 have iY:∀j q,(H.put id r).get j=some q->(j=id/\r.live=some q)\/(j≠id/\H.get j=some q):=λj q hj=>by
  rw[p4] at hj;by_cases e:j=id
  .
   rw[if_pos e,if_pos hid] at hj;exact .inl ⟨e,hj⟩
  rw[if_neg e] at hj;exact .inr ⟨e,hj⟩
 refine ⟨h.fz,λj y hy=>by rw[p1];exact h.dom j y hy,λj v hj=>by rw[p1] at hj;exact h.Bl j v hj,λj q hj=>?_,λj j' q q' y y' hj hj' hy hy' he=>?_,λj q y hj hb hy=>?_,λj q y hj hl hy=>?_,by rw[p1,p2];exact h.tT,by rw[p1,p3];exact h.IL,h.EJ⟩
 .
  rcases iY j q hj with ⟨rfl,h1⟩|⟨_,h1⟩
  .
   exact hr q h1
  exact h.row j q h1
 .
  rcases iY j q hj with ⟨rfl,h1⟩|⟨e1,h1⟩<;>rcases iY j' q' hj' with ⟨rfl,h2⟩|⟨e2,h2⟩
  .
   rfl
  .
   exact absurd he.symm ((hx y hy).1 j' q' y' h2 e2 hy')
  .
   exact absurd he ((hx y' hy').1 j q y h1 e1 hy)
  exact h.inj j j' q q' y y' h1 h2 hy hy' he
 .
  rcases iY j q hj with ⟨rfl,h1⟩|⟨_,h1⟩
  .
   exact (hx y hy).2.1
  exact h.sep j q y h1 hb hy
 rcases iY j q hj with ⟨rfl,h1⟩|⟨_,h1⟩
 .
  exact (hx y hy).2.2
 rw[p2] at hl;exact h.lk j q y h1 hl hy
def cellsIn:Nat->List bM->List AV
 |_,[]=>[]
 |n,.val v::rs=>v::cellsIn n rs
 |n,.list _ _ l::rs=>.own n l.length::cellsIn (n+1) rs
def aK:aa->List bM->aa
 |M,[]=>M
 |M,.val _::rs=>aK M rs
 |M,.list t e l::rs=>aK (M.push (.list t e l 0 false false)) rs
def dJ (t:TypeId) (n:Nat) (rs:List bM):aa:=aK ⟨1,0,1,(aa.empty.push (.cells t ((cellsIn 1 rs).take n))).t⟩ rs
def cX:aa->List (Option (TypeId×Ty))->List AV->Option (List AV×aa)
 |H,[],[]=>some ([],H)
 |
  H,none::sig,a::cs=>match fY H [a] with
  |
   some ([a'],H1)=>match cX H1 sig cs with
   |some (l,H2)=>some (a'::l,H2)
   |none=>none
  |_=>none
 |
  H,some _::sig,a::cs=>match cX H sig cs with
  |some (l,H2)=>some (a::l,H2)
  |none=>none
 |_,_,_=>none
def cg:aa->List (Option (TypeId×Ty))->List AV->Option (List bM×aa)
 |H,[],[]=>some ([],H)
 |
  H,none::sig,a::cs=>pick2 (Bt a) (match cg H sig cs with
  |some (rs,H')=>some (.val a::rs,H')
  |none=>none) none
 |
  H,some (t,e)::sig,.bR::cs=>match cg H sig cs with
  |some (rs,H')=>some (.list t e []::rs,H')
  |none=>none
 |
  H,some (t,e)::sig,.own id _::cs=>match H.get id with
  |
   some (.list t' e' l _ _ false)=>pick2 (H.jM id&&Nat.beq t' t) (match fX e' e l with
   |
    some l'=>match cg (H.put id .dead) sig cs with
    |some (rs,H')=>some (.list t e l'::rs,H')
    |none=>none
   |none=>none) none
  |_=>none
 |_,_,_=>none
theorem ym {S0:Wo} {H0:aa} {E:Mem}:∀{sig:List (Option (TypeId×Ty))} {cs cs':List AV} {H H':aa} {S:Wo} {C:List Value},Rel S H E->S0.le S->St S0 H0 E S H E->LV S cs C->cX H sig cs=some (cs',H')->∃S',S0.le S'/\Rel S' H' E/\St S0 H0 E S' H' E/\LV S' cs' C/\S.le S'
 |
  [],[],cs',H,H',S,C,hr,hle,hst,hl,h=>by
  simp only[cX,Option.some.injEq,Prod.mk.injEq] at h;obtain ⟨rfl,rfl⟩:=h;exact ⟨S,hle,hr,hst,hl,S.le_refl⟩
 |
  none::sig,a::cs,cs',H,H',S,C,hr,hle,hst,hl,h=>by
  obtain ⟨x,C',rfl,h1,h2⟩:=hl.cons_inv;unfold cX at h;split at h
  .
   rename_i a' H1 hf;obtain ⟨S1,b1,b2,b3,b4,b5⟩:=j6 hr hle hst (LV.cons h1 LV.nil) hf;obtain ⟨x',_,e,b6,_⟩:=b4.cons_inv;cases e;split at h
   .
    rename_i l H2 hg;simp only[Option.some.injEq,Prod.mk.injEq] at h;obtain ⟨rfl,rfl⟩:=h;obtain ⟨S2,c1,c2,c3,c4,c5⟩:=ym b2 b1 b3 (h2.mono b5) hg;exact ⟨S2,c1,c2,c3,LV.cons (b6.mono c5) c4,Wo.le_trans b5 c5⟩
   cases h
  cases h
 |
  some _::sig,a::cs,cs',H,H',S,C,hr,hle,hst,hl,h=>by
  obtain ⟨x,C',rfl,h1,h2⟩:=hl.cons_inv;unfold cX at h;split at h
  .
   rename_i l H2 hg;simp only[Option.some.injEq,Prod.mk.injEq] at h;obtain ⟨rfl,rfl⟩:=h;obtain ⟨S2,c1,c2,c3,c4,c5⟩:=ym hr hle hst h2 hg;exact ⟨S2,c1,c2,c3,LV.cons (h1.mono c5) c4,c5⟩
  cases h
 |[],_::_,_,_,_,_,_,_,_,_,_,h=>by simp[cX] at h
 |none::_,[],_,_,_,_,_,_,_,_,_,h=>by simp[cX] at h
 |some _::_,[],_,_,_,_,_,_,_,_,_,h=>by simp[cX] at h
structure lR (H H':aa):Prop where
 next:H'.next=H.next
 lk:H'.lk=H.lk
 par:H'.par=H.par
 get:∀j r,H'.get j=some r->H.get j=some r
theorem lR.refl (H:aa):lR H H:=⟨rfl,rfl,rfl,λ_ _ h=>h⟩
theorem lR.trans {a b c:aa} (h:lR a b) (k:lR b c):lR a c:=⟨k.next.trans h.next,k.lk.trans h.lk,k.par.trans h.par,λj r hj=>h.get j r (k.get j r hj)⟩
theorem lR.dead (H:aa) (id:Nat):lR H (H.put id .dead):=by
 obtain ⟨p1,p2,p3,p4⟩:=aa.cE H id .dead
 refine ⟨p1,p2,p3,λj r hj=>?_⟩
 rw[p4] at hj
 by_cases e:j=id
 .
  rw[if_pos e] at hj;split at hj<;>cases hj
 rw[if_neg e] at hj;exact hj
theorem Gw (H:aa) (id:Nat):(H.put id .dead).get id=none:=by
 rw[(aa.cE H id .dead).2.2.2,if_pos rfl]
 split<;>rfl
def pH (S:Wo) (H H':aa) (i:Nat):Prop:=∃id r z,H.get id=some r/\r.B7=false/\S.ρ id=some z/\z.1=i/\H'.get id=none
theorem pH.later {S:Wo} {H H' H'':aa} {i:Nat} (h:pH S H H' i) (k:lR H' H''):pH S H H'' i:=by
 obtain ⟨id,r,z,h1,h2,h3,h4,h5⟩:=h
 refine ⟨id,r,z,h1,h2,h3,h4,?_⟩
 cases hg:H''.get id with
 |none=>rfl
 |some q=>rw[k.get id q hg] at h5;cases h5
theorem pH.earlier {S:Wo} {H0 H H':aa} {i:Nat} (h:pH S H H' i) (k:lR H0 H):pH S H0 H' i:=by
 obtain ⟨id,r,z,h1,h2⟩:=h
 exact ⟨id,r,z,k.get _ _ h1,h2⟩
theorem uL {S:Wo} {H0:aa} {E:Mem} (hr:Rel S H0 E):∀{sig:List (Option (TypeId×Ty))} {cs:List AV} {rs:List bM} {H H' M:aa} {S0:Wo} {C:List Value},lR H0 H->cg H sig cs=some (rs,H')->LV S cs C->Rel S0 M E->S0.F=S.F->M.lk=0 ->
 (∀j q y,M.get j=some q->S0.ρ j=some y->∀id q' z,H.get id=some q'->q'.B7=false->(∃t e l v x,q' = .list t e l v x false)->S.ρ id=some z->z.1≠y.1) ->
 lR H H'/\rs.length=cs.length/\rs.length=sig.length/\∃S0',S0.le S0'/\Rel S0' (aK M rs) E/\LV S0' (cellsIn M.next rs) C/\S0'.F=S0.F/\M.next<=(aK M rs).next/\(aK M rs).lk=0/\(aK M rs).par=M.par /\
  (∀j,j<M.next->(aK M rs).get j=M.get j/\S0'.ρ j=S0.ρ j)/\(∀j q y,M.next<=j->(aK M rs).get j=some q->S0'.ρ j=some y->pH S H H' y.1/\(∃t e l v x,q = .list t e l v x false))
 |
  [],[],rs,H,H',M,S0,C,hgo,h,hl,hm,hF,hlk,hown=>by
  simp only[cg,Option.some.injEq,Prod.mk.injEq] at h;obtain ⟨rfl,rfl⟩:=h;rw[hl.dO];exact ⟨lR.refl _,rfl,rfl,S0,S0.le_refl,hm,LV.nil,rfl,Nat.le_refl _,hlk,rfl,λ_ _=>⟨rfl,rfl⟩,λj q y hj hq _=>absurd (aa.bB hq) (by show ¬j<M.next;omega)⟩
 |
  none::sig,a::cs,rs,H,H',M,S0,C,hgo,h,hl,hm,hF,hlk,hown=>by
  obtain ⟨x,C',rfl,h1,h2⟩:=hl.cons_inv;unfold cg at h;rw[pick2_eq] at h;split at h
  .
   rename_i J6;split at h
   .
    rename_i rs' H1 hi;simp only[Option.some.injEq,Prod.mk.injEq] at h;obtain ⟨rfl,rfl⟩:=h;obtain ⟨g1,g2,g2',S0',a1,a2,a3,a4,a5⟩:=uL hr hgo hi h2 hm hF hlk hown;exact ⟨g1,by simp[g2],by simp[g2'],S0',a1,a2,LV.cons (Qx (λi x hx=>by rw[a4,hF];exact hx) J6 h1) a3,a4,a5⟩
   cases h
  cases h
 |
  some (t,e)::sig,a::cs,rs,H,H',M,S0,C,hgo,h,hl,hm,hF,hlk,hown=>by
  obtain ⟨x,C',rfl,h1,h2⟩:=hl.cons_inv;have jN:∀v,S0.Γ M.next v=none:=λv=>hm.Bl _ _ (Nat.le_refl _)
  have go:∀(l:List e.den) (rs':List bM) (H1:aa) (y:Option (Nat×Nat×Nat)),lR H H1->cg H1 sig cs=some (rs',H')->rs = .list t e l::rs'->S0.le (S0.new M.next y (some ⟨e,l⟩))->Rel (S0.new M.next y (some ⟨e,l⟩)) (M.push (.list t e l 0 false false)) E->VR (S0.new M.next y (some ⟨e,l⟩)) (.own M.next l.length) x ->
   (∀z,y=some z->pH S H H1 z.1) ->
   lR H H'/\rs.length=(a::cs).length/\rs.length=(some (t,e)::sig).length/\∃S0',S0.le S0'/\Rel S0' (aK M rs) E/\LV S0' (cellsIn M.next rs) (x::C')/\S0'.F=S0.F/\M.next<=(aK M rs).next/\(aK M rs).lk=0/\(aK M rs).par=M.par /\
    (∀j,j<M.next->(aK M rs).get j=M.get j/\S0'.ρ j=S0.ρ j)/\(∀j q y,M.next<=j->(aK M rs).get j=some q->S0'.ρ j=some y->pH S H H' y.1/\(∃t e l v x,q = .list t e l v x false)):=by
   intro l rs' H1 y hg1 hi H8 hle hrel XS hy;subst H8;obtain ⟨p1,p2,p3,p4⟩:=aa.bt M (.list t e l 0 false false)
   obtain ⟨g1,g2,g2',S0',a1,a2,a3,a4,a5,a6,a7,a8,a9⟩:=uL hr (hgo.trans hg1) hi h2 hrel hF (by rw[p2];exact hlk) (λj q y' hj hy' id q' z hq' hro hls hz=>by
    rw[p4] at hj;by_cases ej:j=M.next
    .
     subst ej;have hz':y=some y':=by rw[<-hy'];exact (if_pos rfl).symm
     obtain ⟨yf,r2,z2,k1,k2,k3,k4,k5⟩:=hy y' hz';intro he;have:=hr.inj id yf q' r2 z z2 (hgo.get _ _ (hg1.get _ _ hq')) (hgo.get _ _ k1) hz k3 (by omega)
     subst this;rw[hq'] at k5;cases k5
    rw[if_neg ej] at hj;have hy'':S0.ρ j=some y':=by rw[<-hy'];exact (if_neg ej).symm
    exact hown j q y' hj hy'' id q' z (hg1.get _ _ hq') hro hls hz)
   rw[p1] at a3 a5 a8 a9;rw[p3] at a7;refine ⟨hg1.trans g1,by simp[g2],by simp[g2'],S0',Wo.le_trans hle a1,a2,LV.cons (XS.mono a1) a3,a4,Nat.le_trans (Nat.le_succ _) a5,a6,a7,λj hj=>?_,λj q y' hj hq hy'=>?_⟩
   .
    obtain ⟨b1,b2⟩:=a8 j (by omega)
    exact ⟨b1.trans (by rw[p4,if_neg (by omega)]),b2.trans (if_neg (by omega))⟩
   by_cases ej:j=M.next
   .
    subst ej;obtain ⟨b1,b2⟩:=a8 M.next (by omega)
    have b2':S0'.ρ M.next=y:=b2.trans (if_pos rfl)
    rw[b2'] at hy'
    have b1':(aK M (.list t e l::rs')).get M.next=some (.list t e l 0 false false):=by
     have:(aK (M.push (.list t e l 0 false false)) rs').get M.next=some (.list t e l 0 false false):=b1.trans (by rw[p4,if_pos rfl];rfl)
     exact this
    rw[b1'] at hq;cases hq;exact ⟨(hy y' hy').later g1,_,_,_,_,_,rfl⟩
   obtain ⟨b1,b2⟩:=a9 j q y' (by omega) hq hy'
   exact ⟨b1.earlier hg1,b2⟩
  cases a with
  |
   bR =>
   unfold cg at h;split at h
   .
    rename_i rs' H1 hi;simp only[Option.some.injEq,Prod.mk.injEq] at h;obtain ⟨rfl,rfl⟩:=h;cases h1;obtain ⟨b1,b2⟩:=hm.sk (r:=.list t e [] 0 false false) (x:=none) (g:=some ⟨e,[]⟩) (λr' hr'=>by cases hr';exact gR jN) (λy hy=>by cases hy)
    exact go [] rs' H none (lR.refl _) hi rfl b1 b2 (.cT _ ⟨e,[]⟩ (if_pos ⟨rfl,rfl⟩) rfl) (λz hz=>by cases hz)
   cases h
  |
   own id n =>
   unfold cg at h;split at h
   .
    rename_i t' e' l cB ex hg;rw[pick2_eq] at h;split at h
    .
     rename_i hmay;simp only[Bool.and_eq_true,Nat.beq_eq] at hmay;obtain ⟨hmay,rfl⟩:=hmay;split at h
     .
      rename_i l' iy;split at h
      .
       rename_i rs' H1 hi;simp only[Option.some.injEq,Prod.mk.injEq] at h;obtain ⟨rfl,rfl⟩:=h;obtain ⟨he,hc⟩:=bh iy;subst he;have hc:l=l':=hc;subst hc;have KE:=hgo.get _ _ hg;obtain ⟨g1,⟨g0,g,g2,g2'⟩,g3⟩:=hr.row id _ KE;cases h1 with
       |
        own _ _ i0 gC s0 hρ g' hg' hn' =>
        rw[g2] at hg';cases hg';rcases g3 with ⟨_,g5,_⟩|⟨i',cap,b,mid,post,q1,q2,q3,q4,q5,q6,q7,q8,q9,rU⟩
        .
         rw[hρ] at g5;cases g5
        rw[hρ] at q1;cases q1;have hn:n=l.length:=by omega
        subst hn
        obtain ⟨b1,b2⟩:=hm.sk (r:=.list t' e' l 0 false false) (x:=some (i0,gC,e'.size)) (g:=some ⟨e',l⟩) (λr' hr'=>by
         cases hr'
         exact eV jN q2 q3 q4 (by rw[hF];exact q5) q6 q7 q8 (λh=>by cases h) (by rw[hF];exact rU.2)) (λy hy=>by
          cases hy;refine ⟨λj q z hj hz he=>hown j q z hj hz id _ _ hg rfl ⟨_,_,_,_,_,rfl⟩ hρ he.symm,by rw[hF];exact hr.sep id _ _ KE rfl hρ,hr.lk id _ _ KE (by have:=hgo.lk;simp only[aa.jM,Nat.ble_eq] at hmay;omega) hρ⟩)
        exact go l rs' (H.put id .dead) _ (lR.dead H id) hi rfl b1 b2 (.own _ _ i0 gC e'.size (if_pos rfl) ⟨e',l⟩ (if_pos ⟨rfl,rfl⟩) rfl) (λz hz=>by
         cases hz;exact ⟨id,_,_,hg,rfl,hρ,rfl,Gw H id⟩)
       |
        cT _ g' hg' hn' =>
        rw[g2] at hg';cases hg';have h0:l=[]:=List.length_eq_zero_iff.1 (by omega)
        subst h0;obtain ⟨b1,b2⟩:=hm.sk (r:=.list t' e' [] 0 false false) (x:=none) (g:=some ⟨e',[]⟩) (λr' hr'=>by cases hr';exact gR jN) (λy hy=>by cases hy)
        exact go [] rs' (H.put id .dead) none (lR.dead H id) hi rfl b1 b2 (.cT _ ⟨e',[]⟩ (if_pos ⟨rfl,rfl⟩) rfl) (λz hz=>by cases hz)
      cases h
     cases h
    cases h
   cases h
  |_=>simp[cg] at h
 |[],_::_,_,_,_,_,_,_,_,h,_,_,_,_,_=>by simp[cg] at h
 |none::_,[],_,_,_,_,_,_,_,h,_,_,_,_,_=>by simp[cg] at h
 |some (_,_)::_,[],_,_,_,_,_,_,_,h,_,_,_,_,_=>by simp[cg] at h
theorem CD {S S0 S1:Wo} {H H3 M0 M1:aa} {E E':Mem} (hr:Rel S H E) (hF:S0.F=S.F) (hgo:lR H H3) (hown:∀i,Own S0 M0 i->pH S H H3 i) (Ci:Rel S1 M1 E') (hst:Bc S0 M0 E S1 M1 E') :
 S.le ⟨S1.F,S.ρ,S.Γ⟩/\Rel ⟨S1.F,S.ρ,S.Γ⟩ H3 E':=by
 have hle:S.le ⟨S1.F,S.ρ,S.Γ⟩:=⟨λi x hx=>hst.F i x (by rw[hF];exact hx),λ_ _ h=>h,λ_ _ _ h=>h⟩
 have far:∀id r y,H3.get id=some r->S.ρ id=some y->¬Own S0 M0 y.1:=λid r y hg hy ho=>by
  obtain ⟨yf,r2,z,k1,k2,k3,k4,k5⟩:=hown _ ho;have:=hr.inj id yf r r2 y z (hgo.get _ _ hg) k1 hy k3 k4.symm;subst this;rw[hg] at k5;cases k5
 have old:∀id r y,H3.get id=some r->S.ρ id=some y->y.1<E.size:=λid r y hg hy=>(let ⟨_,hb⟩:=hr.old (hgo.get _ _ hg) hy;Mem.bB hb)
 refine ⟨hle,⟨Ci.fz,λid x hx=>by rw[hgo.next];exact hr.dom id x hx,λid v hv=>hr.Bl id v (by rw[hgo.next] at hv;exact hv),λid r hg=>?_,λid id' r r' x x' hg hg' hx hx' he=>hr.inj id id' r r' x x' (hgo.get _ _ hg) (hgo.get _ _ hg') hx hx' he,λid r x hg hro hx=>?_,λid r x hg hl hx=>?_,by rw[hgo.lk,hgo.next];exact hr.tT,by rw[hgo.par,hgo.next];exact hr.IL,Ci.EJ⟩⟩
 .
  exact (hr.row id r (hgo.get _ _ hg)).keep hle (λh=>h) (λ_ h=>h) λx hx=>hst.keep _ (old id r x hg hx) (far id r x hg hx)
 .
  show S1.F x.1=none;cases hq:S1.F x.1 with
  |none=>rfl
  |
   some cs =>
   rcases hst.HP x.1 (by rw[hq];simp) with h1|h1|h1
   .
    rw[hF] at h1;exact absurd (hr.sep id r x (hgo.get _ _ hg) hro hx) h1
   .
    exact absurd h1 (far id r x hg hx)
   have:=old id r x hg hx;omega
 rw[hst.lk];exact hr.lk id r x (hgo.get _ _ hg) (by rw[<-hgo.lk];exact hl) hx
structure Bu where
 ptr:Option (TypeId×List (Option (TypeId×Ty)))
 sig:List (Option (TypeId×Ty))
 g:List bM->Option (Bool×List bM×List bM)
def K4 {β:Type} (c:Bu) (args:List AV) (H:aa) (k:AV->aa->Option β):Option β :=
 match c.ptr with
 |
  none=>match cX H c.sig args with
  |
   some (args',H1)=>match cg H1 c.sig args' with
   |
    some (ins,H2)=>match c.g ins with
    |some (cnd,_,rs)=>pick2 cnd (k (iF (dQ rs H2).1) (dQ rs H2).2) none
    |none=>none
   |none=>none
  |none=>none
 |
  some (t,sig)=>match args with
  |
   .ptr id 0::args=>match H.get id with
   |
    some (.cells t' cs)=>match cX H (sig++c.sig) (cs++args) with
    |
     some (cs',H2)=>match cg H2 (sig++c.sig) cs' with
     |
      some (ins,H3)=>pick2 (Nat.beq t t'&&H.jM id&&Nat.beq cs.length sig.length) (match c.g ins with
      |some (cnd,outs,rs)=>pick2 (cnd&&Nat.beq outs.length sig.length)
       (k (iF ((dQ (outs++rs) (H3.put id .dead)).1.drop sig.length)) ((dQ (outs++rs) (H3.put id .dead)).2.put id (.cells t ((dQ (outs++rs) (H3.put id .dead)).1.take sig.length)))) none
      |none=>none) none
     |none=>none
    |none=>none
   |_=>none
  |_=>none
section
variable {X:cR} {cf:Nat×Nat->Ev.aP}
def xS (X:cR) (cf:Nat×Nat->Ev.aP) (f:FuncId) (args:List AV) (M:aa) (vs:List AV) (M':aa):Prop :=
 ∀(S:Wo) (E:Mem) (az:List Value),Rel S M E->bS X S->LV S args az ->
  ∃S' vE E',(∃N,∀n:Nat×Nat,N<=n.1/\N<=n.2->cf n f az E=some (vE,E'))/\(∃xs,vE=Ev.rQ xs/\LV S' vs xs)/\Rel S' M' E'/\Bc S M E S' M' E'
def cA (X:cR) (cf:Nat×Nat->Ev.aP) (f:FuncId) (c:Bu):Prop :=
 ∀ins outs rs,c.g ins=some (true,outs,rs) ->
  match c.ptr with
  |none=>ins.length=c.sig.length->∃vs M1,xS X cf f (cellsIn 0 ins) (aK aa.empty ins) vs M1/\lq M1 [] vs rs
  |some (t,sig)=>outs.length=sig.length->ins.length=(sig++c.sig).length->∃vs M1 cs1,xS X cf f (.ptr 0 0::(cellsIn 1 ins).drop sig.length) (dJ t sig.length ins) vs M1/\M1.get 0=some (.cells t cs1)/\cs1.length=sig.length/\lq M1 [0] (cs1++vs) (outs++rs)
theorem Qy (t:TypeId) (cs:List AV):((⟨1,0,1,(aa.empty.push (.cells t cs)).t⟩:aa).get 0)=some (.cells t cs)/\∀j,j≠0->((⟨1,0,1,(aa.empty.push (.cells t cs)).t⟩:aa).get j)=none:=by
 obtain ⟨p1,p2,p3,p4⟩:=aa.bt aa.empty (.cells t cs)
 have e:∀j,((⟨1,0,1,(aa.empty.push (.cells t cs)).t⟩:aa).get j)=(aa.empty.push (.cells t cs)).get j:=λj=>by
  rw[aa.get_eq,aa.get_eq,p1];rfl
 refine ⟨?_,λj hj=>?_⟩
 .
  rw[e,p4];rfl
 rw[e,p4,if_neg (by show j≠0;exact hj),j7]
theorem tB:∀(rs:List bM) (M M':aa),M'.next=M.next->M'.lk=M.lk->M'.par=M.par->(aK M' rs).next=(aK M rs).next/\(aK M' rs).lk=(aK M rs).lk/\(aK M' rs).par=(aK M rs).par/\M.next<=(aK M rs).next /\
 ∀j,(j<M.next->(aK M' rs).get j=M'.get j/\(aK M rs).get j=M.get j)/\(M.next<=j->(aK M' rs).get j=(aK M rs).get j)
 |[],M,M',h1,h2,h3=>⟨h1,h2,h3,Nat.le_refl _,λj=>⟨λ_=>⟨rfl,rfl⟩,λhj=>by
  have a:M'.get j=none:=by rw[aa.get_eq,if_neg (by omega)]
  have b:M.get j=none:=by rw[aa.get_eq,if_neg (by omega)]
  show M'.get j=M.get j;rw[a,b]⟩⟩
 |.val v::rs,M,M',h1,h2,h3=>tB rs M M' h1 h2 h3
 |
  .list t e l::rs,M,M',h1,h2,h3=>by
  obtain ⟨p1,p2,p3,p4⟩:=aa.bt M (.list t e l 0 false false);obtain ⟨q1,q2,q3,q4⟩:=aa.bt M' (.list t e l 0 false false);obtain ⟨a1,a2,a3,a4,a5⟩:=tB rs (M.push (.list t e l 0 false false)) (M'.push (.list t e l 0 false false)) (by rw[p1,q1,h1]) (by rw[p2,q2,h2]) (by rw[p3,q3,h3])
  refine ⟨a1,a2,a3,by rw[p1] at a4;exact Nat.le_trans (Nat.le_succ _) a4,λj=>⟨λhj=>?_,λhj=>?_⟩⟩
  .
   obtain ⟨b1,b2⟩:=(a5 j).1 (by omega)
   exact ⟨b1.trans (by rw[q4,if_neg (by omega)]),b2.trans (by rw[p4,if_neg (by omega)])⟩
  by_cases e':j=M.next
  .
   obtain ⟨b1,b2⟩:=(a5 j).1 (by omega)
   have c1:(aK M' (.list t e l::rs)).get j=(M'.push (.list t e l 0 false false)).get j:=b1;have c2:(aK M (.list t e l::rs)).get j=(M.push (.list t e l 0 false false)).get j:=b2;rw[c1,c2,q4,p4,h1];simp only[e',if_true]
  exact (a5 j).2 (by omega)
theorem Gx:∀(rs:List bM) (H:aa),(dQ rs H).1.length=rs.length
 |[],_=>rfl
 |.val v::rs,H=>by simp[dQ,Gx rs H]
 |.list t e l::rs,H=>by simp[dQ,Gx rs]
theorem MP {id:Nat} {t:TypeId} {cs:List AV}:∀{sig:List (Option (TypeId×Ty))} {cs0 cs1:List AV} {A B:aa},cX A sig cs0=some (cs1,B)->A.get id=some (.cells t cs)->B.get id=some (.cells t cs):=by
 have one:∀{l l':List AV} {A B:aa},fY A l=some (l',B)->A.get id=some (.cells t cs)->B.get id=some (.cells t cs):=by
  intro l
  induction l with
  |nil=>intro l' A B hf hA;simp only[fY,Option.some.injEq,Prod.mk.injEq] at hf;rw[<-hf.2];exact hA
  |
   cons v l ih =>
   intro l' A B hf hA;cases v with
   |
    own ye n1 =>
    unfold fY at hf;split at hf
    .
     rename_i t1 e1 l1 cB ex ro hgg;split at hf
     .
      rename_i r' H' Dv;simp only[Option.some.injEq,Prod.mk.injEq] at hf;obtain ⟨_,rfl⟩:=hf;refine ih Dv ?_;rw[(aa.cE _ _ _).2.2.2,if_neg (λe=>by subst e;rw[hA] at hgg;cases hgg)]
      exact hA
     cases hf
    cases hf
   |
    _ =>
    simp only[fY] at hf;split at hf
    .
     rename_i r' H' Dv;simp only[Option.some.injEq,Prod.mk.injEq] at hf;obtain ⟨_,rfl⟩:=hf;exact ih Dv hA
    cases hf
 intro sig
 induction sig with
 |
  nil =>
  intro cs0 cs1 A B hf hA;cases cs0 with
  |nil=>simp only[cX,Option.some.injEq,Prod.mk.injEq] at hf;rw[<-hf.2];exact hA
  |cons a l=>simp[cX] at hf
 |
  cons s sig ih =>
  intro cs0 cs1 A B hf hA;cases cs0 with
  |nil=>cases s<;>simp[cX] at hf
  |
   cons a l =>
   cases s with
   |
    none =>
    unfold cX at hf;split at hf
    .
     rename_i a' A1 hf1;split at hf
     .
      rename_i l2 A2 Dv;simp only[Option.some.injEq,Prod.mk.injEq] at hf;obtain ⟨_,rfl⟩:=hf;exact ih Dv (one hf1 hA)
     cases hf
    cases hf
   |
    some q =>
    unfold cX at hf;split at hf
    .
     rename_i l2 A2 Dv;simp only[Option.some.injEq,Prod.mk.injEq] at hf;obtain ⟨_,rfl⟩:=hf;exact ih Dv hA
    cases hf
theorem Qz {id:Nat} {t:TypeId} {cs:List AV}:∀{sig:List (Option (TypeId×Ty))} {l:List AV} {rr:List bM} {A B:aa},cg A sig l=some (rr,B)->A.get id=some (.cells t cs)->B.get id=some (.cells t cs):=by
 intro sig
 induction sig with
 |
  nil =>
  intro l rr A B hf hA;cases l with
  |nil=>simp only[cg,Option.some.injEq,Prod.mk.injEq] at hf;rw[<-hf.2];exact hA
  |cons a l=>simp[cg] at hf
 |
  cons s sig ih =>
  intro l rr A B hf hA;cases l with
  |
   nil=>cases s with
   |none=>simp[cg] at hf
   |some q=>obtain ⟨q1,q2⟩:=q;simp[cg] at hf
  |
   cons a l =>
   cases s with
   |
    none =>
    unfold cg at hf;rw[pick2_eq] at hf;split at hf
    .
     split at hf
     .
      rename_i rr' A2 Dv;simp only[Option.some.injEq,Prod.mk.injEq] at hf;obtain ⟨_,rfl⟩:=hf;exact ih Dv hA
     cases hf
    cases hf
   |
    some q =>
    obtain ⟨q1,q2⟩:=q;cases a with
    |
     bR =>
     unfold cg at hf;split at hf
     .
      rename_i rr' A2 Dv;simp only[Option.some.injEq,Prod.mk.injEq] at hf;obtain ⟨_,rfl⟩:=hf;exact ih Dv hA
     cases hf
    |
     own ye n1 =>
     unfold cg at hf;split at hf
     .
      rename_i t2 e2' l2 v2 x2 hgg;rw[pick2_eq] at hf;split at hf
      .
       split at hf
       .
        split at hf
        .
         rename_i rr' A2 Dv;simp only[Option.some.injEq,Prod.mk.injEq] at hf;obtain ⟨_,rfl⟩:=hf;refine ih Dv ?_;rw[(aa.cE _ _ _).2.2.2,if_neg (λe=>by subst e;rw[hA] at hgg;cases hgg)]
         exact hA
        cases hf
       cases hf
      cases hf
     cases hf
    |_=>simp[cg] at hf
theorem xB:∀(rs:List bM) (n:Nat),(cellsIn n rs).length=rs.length
 |[],_=>rfl
 |.val v::rs,n=>by simp[cellsIn,xB rs n]
 |.list t e l::rs,n=>by simp[cellsIn,xB rs (n+1)]
theorem QA {β:Type} {f:FuncId} {c:Bu} (hc:cA X cf f c) {args:List AV} {H:aa} {k:AV->aa->Option β} {r:β} (h:K4 c args H k=some r):∃v H',k v H'=some r/\IU X cf f args H v H':=by
 unfold K4 at h
 obtain ⟨ptr,ajN,g⟩:=c
 cases ptr with
 |
  none =>
  simp only at h;split at h
  case h_2=>cases h
  rename_i args' H1 hfz;split at h
  case h_2=>cases h
  rename_i ins H2 hin;split at h
  case h_2=>cases h
  rename_i cnd o rs hg;rw[pick2_eq] at h;split at h
  case isFalse=>cases h
  rename_i hcnd;subst hcnd;refine ⟨_,_,h,λS E az hr hgl hl=>?_⟩
  obtain ⟨S2,b1,b2,b3,b4,_⟩:=ym hr S.le_refl (St.refl S H E) hl hfz;have hrB:Rel ⟨S2.F,λ_=>none,λ_ _=>none⟩ aa.empty E:=wg _ E b2.fz b2.EJ
  obtain ⟨g1,g2,g2',T,f1,f2,f3,f4,f5,f6,f7,f8,f9⟩:=uL b2 (lR.refl H1) hin b4 hrB rfl rfl (λj q y hj=>by rw[j7] at hj;cases hj)
  obtain ⟨vs,M1,hrun,hres⟩:=hc ins o rs hg g2';obtain ⟨S1,vE,E',a1,⟨xs,rfl,a2⟩,a3,a4⟩:=hrun T E az f2 (hgl.mono' λi x hx=>by rw[f4];exact b1.F i x hx) f3
  have hown:∀i,Own T (aK aa.empty ins) i->pH S2 H1 H2 i:=λi ⟨j,q,y,k1,k2,k3,k4⟩=>by
   obtain ⟨b,_⟩:=f9 j q y (Nat.zero_le _) k1 k3;rw[k4] at b;exact b
  obtain ⟨c1,c2⟩:=CD b2 f4 g1 hown a3 a4;have V3:H2.next=H1.next:=g1.next
  have Ab:∀i,Own T (aK aa.empty ins) i->Own S2 H1 i:=λi ho=>by
   obtain ⟨j,q,z,k1,k2,k3,k4,_⟩:=hown i ho;exact ⟨j,q,z,k1,k2,k3,k4⟩
  obtain ⟨S',d1,d2,d3,d4,d5,d6,d7,d8,d9⟩:=KZ (Aa:=λi=>E.size<=i\/Own T (aK aa.empty ins) i) a3 (by rw[a4.L4];exact f6) hres a2 c2 rfl (λid q y hq _ hy hro=>by
   have hor:E.size<=y.1\/Own T (aK aa.empty ins) y.1:=by
    by_cases hy':y.1<E.size
    .
     exact .inr (a4.own y.1 ⟨id,q,y,hq,hro,hy,rfl⟩ hy')
    exact .inl (by omega)
   refine ⟨hor,λyf q2 z VV hz he=>?_⟩
   have hq2':=g1.get _ _ VV;rcases hor with h1|h1
   .
    obtain ⟨b,hb⟩:=b2.old hq2' hz;have:=Mem.bB hb;omega
   obtain ⟨id3,r3',z3,k1,k2,k3,k4,k5⟩:=hown _ h1;have:=b2.inj yf id3 q2 r3' z z3 hq2' k1 hz k3 (by omega)
   subst this;rw[VV] at k5;cases k5)
  rw[V3] at d5 d8 d9;have QB:S.le S':=Wo.le_trans b1 (Wo.le_trans c1 d1);refine ⟨S',Ev.rQ xs,E',a1,QB,D2 d2,d3,⟨a4.sz,a4.lk,by rw[d6,g1.lk];exact b3.L4,by rw[d7,g1.par];exact b3.zA,QB.F,λi ho hi=>?_,λi hi=>?_,λi hi ho=>a4.keep i hi (λh1=>ho (b3.own i (Ab i h1) hi)),λid hid=>?_,Nat.le_trans b3.nx d5,λid hid hlv=>?_,λid hid hn=>?_⟩⟩
  .
   obtain ⟨id,q,y,h1,h2,h3,rfl⟩:=ho;by_cases hid:id<H1.next
   .
    rw[(d8 id hid).1] at h1;rw[(d8 id hid).2] at h3;exact b3.own _ ⟨id,q,y,g1.get _ _ h1,h2,h3,rfl⟩ hi
   rcases d9 id q y (by omega) h1 h3 with h4|h4
   .
    omega
   exact b3.own _ (Ab _ h4) hi
  .
   rw[d4] at hi;rcases a4.HP i hi with h1|h1|h1
   .
    rw[f4] at h1;exact b3.HP i h1
   .
    by_cases hsz:i<E.size
    .
     exact .inr (.inl (b3.own i (Ab i h1) hsz))
    exact .inr (.inr (by omega))
   exact .inr (.inr h1)
  .
   rw[(d8 id (by have:=hr.IL;have:=b3.nx;omega)).2];exact b3.par id hid
  .
   have hlt:id<H1.next:=by have:=b3.nx;omega
   rw[(d8 id hlt).1] at hlv
   exact b3.live id hid (λhn=>by
    cases hq:H2.get id with
    |none=>exact hlv hq
    |some q=>rw[g1.get id q hq] at hn;cases hn)
  rw[(d8 id (by have:=b3.nx;omega)).2];exact b3.rn id hid hn
 |
  some p =>
  obtain ⟨t,sig⟩:=p;simp only at h;split at h
  case h_2=>cases h
  rename_i id args;split at h
  case h_2=>cases h
  rename_i t' cs hcell;split at h
  case h_2=>cases h
  rename_i cs' H2 hfz;split at h
  case h_2=>cases h
  rename_i ins H3 hin;rw[pick2_eq] at h;split at h
  case isFalse=>cases h
  rename_i hb;simp only[Bool.and_eq_true,Nat.beq_eq] at hb;obtain ⟨⟨rfl,hmay⟩,iy⟩:=hb;split at h
  case h_2=>cases h
  rename_i cnd outs rs hg;rw[pick2_eq] at h;split at h
  case isFalse=>cases h
  rename_i hcnd;simp only[Bool.and_eq_true,Nat.beq_eq] at hcnd;obtain ⟨rfl,hol⟩:=hcnd;refine ⟨_,_,h,λS E az hr hgl hl=>?_⟩
  obtain ⟨xp,argsE',rfl,hp,hla⟩:=hl.cons_inv
  -- the pointer's row
  obtain ⟨i0,c0,s0,bk,r1,r2,r3,r4,r5⟩:=hr.row id _ hcell;obtain ⟨S2,e1,e2,e3,e4,e5⟩:=ym hr S.le_refl (St.refl S H E) (r3.append hla) hfz;have hρ2:S2.ρ id=some (i0,c0,s0):=e5.ρ _ _ r1;have uM:H2.get id=some (.cells t cs):=MP hfz hcell;have hg3:H3.get id=some (.cells t cs):=Qz hin uM;have ajP:i0<E.size:=fH r2;have tN:bk.cells.length=sig.length:=by rw[<-r3.1,iy]
  -- what the callee sees
  let B0:aa:=⟨1,0,1,.e⟩
  have hB0:∀j,B0.get j=none:=λj=>by
   rw[aa.get_eq];split
   .
    show (Tr.get Tr.e j).bind Row.live=none;rw[Ev.Tr.ER];rfl
   rfl
  let T0:Wo:=⟨S2.F,λj=>if j=0 then some (i0,c0,s0) else none,λ_ _=>none⟩
  have hrB:Rel T0 B0 E:=⟨e2.fz,λj x hx=>(by
   have hx:(if j=0 then some (i0,c0,s0) else none)=some x:=hx;by_cases ej:j=0
   .
    subst ej;exact Nat.zero_lt_one
   rw[if_neg ej] at hx;cases hx),λ_ _ _=>rfl,λj q hj=>(by rw[hB0] at hj;cases hj),λj j' q q' x x' hj=>(by rw[hB0] at hj;cases hj),λj q x hj=>(by rw[hB0] at hj;cases hj),λj q x hj=>(by rw[hB0] at hj;cases hj),Nat.zero_le _,Nat.le_refl _,e2.EJ⟩
  obtain ⟨g1,g2,g2',T,f1,f2,f3,f4,f5,f6,f7,f8,f9⟩:=uL e2 (lR.refl H2) hin e4 hrB rfl rfl (λj q y hj=>by rw[hB0] at hj;cases hj)
  have hT0:T.ρ 0=some (i0,c0,s0):=(f8 0 Nat.zero_lt_one).2;have f3':LV T (cellsIn 1 ins) (bk.cells++argsE'):=f3
  have f3a:LV T ((cellsIn 1 ins).take sig.length) bk.cells:=by
   have:=f3'.take sig.length;rwa[List.take_append_of_le_length (l₁:=bk.cells) (by omega),List.take_of_length_le (l:=bk.cells) (by omega)] at this
  have f3b:LV T ((cellsIn 1 ins).drop sig.length) argsE':=by
   have:=f3'.drop sig.length;rwa[List.drop_append_of_le_length (l₁:=bk.cells) (by omega),List.drop_of_length_le (l:=bk.cells) (by omega),List.nil_append] at this
  have hLI:=tB ins B0 ⟨1,0,1,(aa.empty.push (.cells t ((cellsIn 1 ins).take sig.length))).t⟩ rfl rfl rfl;obtain ⟨m1,m2,m3,m4,m5⟩:=hLI;obtain ⟨Yr,hd2⟩:=Qy t ((cellsIn 1 ins).take sig.length)
  have hM0:(dJ t sig.length ins).get 0=some (.cells t ((cellsIn 1 ins).take sig.length)):=by
   have:=((m5 0).1 Nat.zero_lt_one).1;exact this.trans Yr
  have Yy:∀j,j≠0->(dJ t sig.length ins).get j=(aK B0 ins).get j:=λj hj=>(m5 j).2 (by show 1<=j;omega)
  have hi0:∀j q y,(aK B0 ins).get j=some q->T.ρ j=some y->j≠0->y.1≠i0:=λj q y hq hy hj he=>by
   obtain ⟨⟨yf,r2',z,k1,k2,k3,k4,k5⟩,ty⟩:=f9 j q y (by show 1<=j;omega) hq hy
   have:=e2.inj id yf _ r2' _ z uM k1 hρ2 k3 (by show i0=z.1;omega)
   subst this;rw[hg3] at k5;cases k5
  have Oc:Rel T (dJ t sig.length ins) E:=by
   refine ⟨f2.fz,λj x hx=>?_,λj v hj=>?_,λj q hj=>?_,λj j' q q' x x' hj hj' hx hx' he=>?_,λj q x hj hb hx=>?_,λj q x hj _ hx=>?_,?_,?_,f2.EJ⟩
   .
    show j<(dJ t sig.length ins).next
    rw[show (dJ t sig.length ins).next=(aK B0 ins).next from m1];exact f2.dom j x hx
   .
    rw[show (dJ t sig.length ins).next=(aK B0 ins).next from m1] at hj;exact f2.Bl j v hj
   .
    by_cases ej:j=0
    .
     subst ej;rw[hM0] at hj;cases hj;exact ⟨i0,c0,s0,bk,hT0,r2,f3a,r4,r5⟩
    rw[Yy j ej] at hj;exact f2.row j q hj
   .
    by_cases ej:j=0
    .
     by_cases ej':j'=0
     .
      omega
     subst ej;rw[hT0] at hx;cases hx;rw[Yy j' ej'] at hj';exact absurd he.symm (hi0 j' q' x' hj' hx' ej')
    rw[Yy j ej] at hj;by_cases ej':j'=0
    .
     subst ej';rw[hT0] at hx';cases hx';exact absurd he (hi0 j q x hj hx ej)
    rw[Yy j' ej'] at hj';exact f2.inj j j' q q' x x' hj hj' hx hx' he
   .
    by_cases ej:j=0
    .
     subst ej;rw[hT0] at hx;cases hx;rw[f4];exact e2.sep id _ _ uM rfl hρ2
    rw[Yy j ej] at hj;exact f2.sep j q x hj hb hx
   .
    by_cases ej:j=0
    .
     subst ej;rw[hT0] at hx;cases hx;exact e2.lk id _ _ uM (by rw[e3.L4];simpa[aa.jM,Nat.ble_eq] using hmay) hρ2
    rw[Yy j ej] at hj;exact f2.lk j q x hj (by rw[f6];exact Nat.zero_le _) hx
   .
    show (dJ t sig.length ins).lk<=_;rw[show (dJ t sig.length ins).lk=(aK B0 ins).lk from m2,f6];exact Nat.zero_le _
   rw[show (dJ t sig.length ins).par=(aK B0 ins).par from m3,f7,show (dJ t sig.length ins).next=(aK B0 ins).next from m1];exact f5
  have hFT:T.F=S2.F:=f4
  have hlT:LV T (.ptr 0 0::(cellsIn 1 ins).drop sig.length) (xp::argsE'):=by
   cases hp with
   |
    ptr _ _ ip cp sp hρp =>
    rw[r1] at hρp;cases hρp;exact LV.cons (.ptr 0 0 _ _ _ hT0) f3b
  obtain ⟨vs,M1,cs1,hrun,hM1,ah7,hres⟩:=hc ins outs rs hg hol g2';obtain ⟨S1,vE,E',a1,⟨xs,rfl,a2⟩,a3,a4⟩:=hrun T E _ Oc (hgl.mono' λi x hx=>by rw[hFT];exact e5.F i x hx) hlT
  have hρ1:S1.ρ 0=some (i0,c0,s0):=(a4.par 0 (by rw[show (dJ t sig.length ins).par=(aK B0 ins).par from m3,f7];exact Nat.zero_lt_one)).trans hT0
  have Wh:lR H2 (H3.put id .dead):=g1.trans (lR.dead H3 id)
  have hown:∀i,Own T (dJ t sig.length ins) i->pH S2 H2 (H3.put id .dead) i:=λi ⟨j,q,y,k1,k2,k3,k4⟩=>by
   by_cases ej:j=0
   .
    subst ej;rw[hT0] at k3;cases k3;exact ⟨id,_,_,uM,rfl,hρ2,k4,Gw _ _⟩
   rw[Yy j ej] at k1;obtain ⟨b,_⟩:=f9 j q y (by show 1<=j;omega) k1 k3
   rw[k4] at b;exact b.later (lR.dead H3 id)
  obtain ⟨c1,c2⟩:=CD e2 hFT Wh hown a3 a4;obtain ⟨i1,c1',s1,bk1,u1,u2,u3,u4,u5⟩:=a3.row 0 _ hM1;rw[hρ1] at u1;cases u1;have V3:(H3.put id .dead).next=H2.next:=Wh.next
  have Ab:∀i,Own T (dJ t sig.length ins) i->Own S2 H2 i:=λi ho=>by
   obtain ⟨j,q,z,k1,k2,k3,k4,_⟩:=hown i ho;exact ⟨j,q,z,k1,k2,k3,k4⟩
  obtain ⟨S',d1,d2,d3,d4,d5,d6,d7,d8,d9⟩:=KZ (Aa:=λi=>(E.size<=i\/Own T (dJ t sig.length ins) i)/\i≠i0) a3 (by rw[a4.L4];exact m2.trans f6) hres (u3.append a2) c2 rfl (λj q y hq hns hy hro=>by
   have hne:y.1≠i0:=λhe=>by
    have:=a3.inj j 0 q _ y _ hq hM1 hy hρ1 he;exact hns (by simp[this])
   have hor:E.size<=y.1\/Own T (dJ t sig.length ins) y.1:=by
    by_cases hy':y.1<E.size
    .
     exact .inr (a4.own y.1 ⟨j,q,y,hq,hro,hy,rfl⟩ hy')
    exact .inl (by omega)
   refine ⟨⟨hor,hne⟩,λyf q2 z VV hz he=>?_⟩
   have hq2':=Wh.get _ _ VV;rcases hor with h1|h1
   .
    obtain ⟨b,hb⟩:=e2.old hq2' hz;have:=Mem.bB hb;omega
   obtain ⟨id3,r3',z3,k1,k2,k3,k4,k5⟩:=hown _ h1;have:=e2.inj yf id3 q2 r3' z z3 hq2' k1 hz k3 (by omega)
   subst this;rw[VV] at k5;cases k5)
  rw[V3] at d5 d8 d9;have agp:id<H2.next:=aa.bB uM
  have hρ':S'.ρ id=some (i0,c0,s0):=((d8 id agp).2).trans hρ2;have hu3:=u3.1
  have d2a:LV S' ((dQ (outs++rs) (H3.put id .dead)).1.take sig.length) bk1.cells:=by
   have:=d2.take sig.length;rwa[List.take_append_of_le_length (l₁:=bk1.cells) (by omega),List.take_of_length_le (l:=bk1.cells) (by omega)] at this
  have d2b:LV S' ((dQ (outs++rs) (H3.put id .dead)).1.drop sig.length) xs:=by
   have:=d2.drop sig.length;rwa[List.drop_append_of_le_length (l₁:=bk1.cells) (by omega),List.drop_of_length_le (l:=bk1.cells) (by omega),List.nil_append] at this
  have hfin:=d3.putAt (id:=id) (r:=.cells t ((dQ (outs++rs) (H3.put id .dead)).1.take sig.length)) (by omega) rfl (λr' hr'=>by
   cases hr'
   exact ⟨i0,c0,s0,bk1,hρ',u2,d2a,u4,u5⟩) (λy hy=>by
    rw[hρ'] at hy;cases hy;refine ⟨λid' q z hq hne hz he=>?_,by rw[d4];exact a3.sep 0 _ _ hM1 rfl hρ1,a3.lk 0 _ _ hM1 (by rw[a4.L4,show (dJ t sig.length ins).lk=(aK B0 ins).lk from m2,f6];exact Nat.zero_le _) hρ1⟩
    by_cases hlt:id'<H2.next
    .
     rw[(d8 id' hlt).1] at hq;rw[(d8 id' hlt).2] at hz;exact hne (e2.inj id' id q _ z _ (Wh.get _ _ hq) uM hz hρ2 he)
    exact (d9 id' q z (by omega) hq hz).2 he)
  obtain ⟨p1,p2,p3,p4⟩:=aa.cE (dQ (outs++rs) (H3.put id .dead)).2 id (.cells t ((dQ (outs++rs) (H3.put id .dead)).1.take sig.length));have QB:S.le S':=Wo.le_trans e1 (Wo.le_trans c1 d1);refine ⟨S',Ev.rQ xs,E',a1,QB,D2 d2b,hfin,⟨a4.sz,a4.lk,by rw[p2,d6,Wh.lk];exact e3.L4,by rw[p3,d7,Wh.par];exact e3.zA,QB.F,λi ho hi=>?_,λi hi=>?_,λi hi ho=>a4.keep i hi (λh1=>ho (e3.own i (Ab i h1) hi)),λj hj=>?_,?_,λj hj hlv=>?_,λj hj hn=>?_⟩⟩
  .
   obtain ⟨j,q,y,h1,h2,h3,rfl⟩:=ho;refine e3.own _ ?_ hi;rw[p4] at h1;by_cases ej:j=id
   .
    subst ej;rw[hρ'] at h3;cases h3;exact ⟨j,_,_,uM,rfl,hρ2,rfl⟩
   rw[if_neg ej] at h1;by_cases hlt:j<H2.next
   .
    rw[(d8 j hlt).1] at h1;rw[(d8 j hlt).2] at h3;exact ⟨j,q,y,Wh.get _ _ h1,h2,h3,rfl⟩
   rcases (d9 j q y (by omega) h1 h3).1 with h4|h4
   .
    omega
   exact Ab _ h4
  .
   rw[d4] at hi;rcases a4.HP i hi with h1|h1|h1
   .
    rw[hFT] at h1;exact e3.HP i h1
   .
    by_cases hsz:i<E.size
    .
     exact .inr (.inl (e3.own i (Ab i h1) hsz))
    exact .inr (.inr (by omega))
   exact .inr (.inr h1)
  .
   rw[(d8 j (by have:=hr.IL;have:=e3.nx;omega)).2];exact e3.par j hj
  .
   rw[p1];exact Nat.le_trans e3.nx d5
  .
   rw[p4] at hlv;by_cases ej:j=id
   .
    subst ej;exact e3.live j hj (by rw[uM];simp)
   rw[if_neg ej] at hlv;have hlt:j<H2.next:=by have:=e3.nx;omega
   rw[(d8 j hlt).1] at hlv
   exact e3.live j hj (λhn=>by
    cases hq:(H3.put id .dead).get j with
    |none=>exact hlv hq
    |some q=>rw[Wh.get j q hq] at hn;cases hn)
  rw[(d8 j (by have:=e3.nx;omega)).2];exact e3.rn j hj hn
end
section
variable {X:cR}
def jG:aa->List bM->List AV->Option (List AV×aa)
 |M,[],[]=>some ([],M)
 |
  M,.val _::rs,v::vs=>match v with
  |
   .agg l=>match fY M l with
   |
    some (l',M1)=>match jG M1 rs vs with
    |some (r,M2)=>some (.agg l'::r,M2)
    |none=>none
   |none=>none
  |
   v=>match fY M [v] with
   |
    some ([v'],M1)=>match jG M1 rs vs with
    |some (r,M2)=>some (v'::r,M2)
    |none=>none
   |_=>none
 |
  M,.list _ _ _::rs,v::vs=>match jG M rs vs with
  |some (r,M2)=>some (v::r,M2)
  |none=>none
 |_,_,_=>none
theorem qI {S0:Wo} {H0:aa} {E0 E:Mem}:∀{rs:List bM} {vs vs':List AV} {M M':aa} {S:Wo} {C:List Value},Rel S M E->Bc S0 H0 E0 S M E->LV S vs C->jG M rs vs=some (vs',M')->∃S',Rel S' M' E/\Bc S0 H0 E0 S' M' E/\LV S' vs' C/\S.le S'
 |
  [],[],vs',M,M',S,C,hr,hst,hl,h=>by
  simp only[jG,Option.some.injEq,Prod.mk.injEq] at h;obtain ⟨rfl,rfl⟩:=h;exact ⟨S,hr,hst,hl,S.le_refl⟩
 |
  .val w::rs,v::vs,vs',M,M',S,C,hr,hst,hl,h=>by
  obtain ⟨x,C',rfl,h1,h2⟩:=hl.cons_inv;unfold jG at h;split at h
  .
   rename_i l;split at h
   .
    rename_i l' M1 hf;cases h1 with
    |
     agg _ m VY hm2 =>
     obtain ⟨S1,b1,b2,b3,b4,b5⟩:=j6 hr S.le_refl (St.refl S M E) ⟨VY,hm2⟩ hf;split at h
     .
      rename_i r M2 hg;simp only[Option.some.injEq,Prod.mk.injEq] at h;obtain ⟨rfl,rfl⟩:=h;obtain ⟨S2,c2,c3,c4,c5⟩:=qI b2 (hst.trans b3.OV) (h2.mono b5) hg;exact ⟨S2,c2,c3,LV.cons (.agg _ _ (b4.mono c5).1 (b4.mono c5).2) c4,Wo.le_trans b5 c5⟩
     cases h
   cases h
  split at h
  .
   rename_i v' M1 hf;obtain ⟨S1,b1,b2,b3,b4,b5⟩:=j6 hr S.le_refl (St.refl S M E) (LV.cons h1 LV.nil) hf;obtain ⟨x',_,e,b6,_⟩:=b4.cons_inv;cases e;split at h
   .
    rename_i r M2 hg;simp only[Option.some.injEq,Prod.mk.injEq] at h;obtain ⟨rfl,rfl⟩:=h;obtain ⟨S2,c2,c3,c4,c5⟩:=qI b2 (hst.trans b3.OV) (h2.mono b5) hg;exact ⟨S2,c2,c3,LV.cons (b6.mono c5) c4,Wo.le_trans b5 c5⟩
   cases h
  cases h
 |
  .list t e l::rs,v::vs,vs',M,M',S,C,hr,hst,hl,h=>by
  obtain ⟨x,C',rfl,h1,h2⟩:=hl.cons_inv;unfold jG at h;split at h
  .
   rename_i r M2 hg;simp only[Option.some.injEq,Prod.mk.injEq] at h;obtain ⟨rfl,rfl⟩:=h;obtain ⟨S2,c2,c3,c4,c5⟩:=qI hr hst h2 hg;exact ⟨S2,c2,c3,LV.cons (h1.mono c5) c4,c5⟩
  cases h
 |[],_::_,_,_,_,_,_,_,_,_,h=>by simp[jG] at h
 |.val _::_,[],_,_,_,_,_,_,_,_,h=>by simp[jG] at h
 |.list _ _ _::_,[],_,_,_,_,_,_,_,_,h=>by simp[jG] at h
theorem aeT {kn:Ev.bK} {id:FuncId} (hk:∀args,kn id args=none) {call:∀ β,aY β} (hcall:∀ β,aQ X (bg X kn) (call β)) {an:bO} {rounds:Nat} {args vs vs':List AV} {M M1 M2:aa} {rs:List bM}
 (h:ag X (call (AV×aa)) an rounds id args M (λv H=>some (v,H))=some (iF vs,M1)) (hs:jG M1 rs vs=some (vs',M2)):xS X (bg X kn) id args M vs' M2:=by
 obtain ⟨v',M',h1,h2⟩:=eS (nf:=false) (hcall _) (λh=>by cases h) h
 cases h1
 intro S E az hr hg hl
 obtain ⟨S',vE,E',a1,a2,a3,a4,_⟩:=h2 S E az hr hg hl
 obtain ⟨xs,rfl,hx⟩:=rH a2
 obtain ⟨S2,b1,b2,b3,b4⟩:=qI a3 a4 hx hs
 exact ⟨S2,_,E',cn hk a1,⟨xs,rfl,b3⟩,b1,b2⟩
theorem oy {γ:Type} {kn:Ev.bK} {id:FuncId} (hk:∀args,kn id args=none) {call:aY γ} (hcall:aQ X (bg X kn) call) {an:bO} {rounds:Nat} {args:List AV} {M:aa} {obs:AV->aa->Option γ} {r:γ}
 (h:ag X call an rounds id args M obs=some r):∃v M1,obs v M1=some r/\∀vs,v=iF vs->xS X (bg X kn) id args M vs M1:=by
 obtain ⟨v,M1,h1,h2⟩:=eS (nf:=false) hcall (λh=>by cases h) h
 refine ⟨v,M1,h1,λvs hv=>?_⟩
 subst hv
 intro S E az hr hg hl
 obtain ⟨S',vE,E',a1,a2,a3,a4,_⟩:=h2 S E az hr hg hl
 obtain ⟨xs,rfl,hx⟩:=rH a2
 exact ⟨S',_,E',cn hk a1,⟨xs,rfl,hx⟩,a3,a4⟩
theorem xS.Yz {cf:Nat×Nat->Ev.aP} {id:FuncId} {args vs vs':List AV} {M M1 M2:aa} {rs:List bM} (h:xS X cf id args M vs M1) (hs:jG M1 rs vs=some (vs',M2)):xS X cf id args M vs' M2:=by
 intro S E az hr hg hl
 obtain ⟨S',vE,E',a1,⟨xs,rfl,a2⟩,a3,a4⟩:=h S E az hr hg hl
 obtain ⟨S2,b1,b2,b3,b4⟩:=qI a3 a4 a2 hs
 exact ⟨S2,_,E',a1,⟨xs,rfl,b3⟩,b1,b2⟩
abbrev KTN:=FuncId->Option Bu
def QC (X:cR) (K:T4) (KN:KTN) (inl:FuncId->Bool) (rounds:Nat) (β:Type):Nat->aY β :=
 λn=>Nat.rec (motive:=λ_=>aY β) (λ_ _ _ _=>none)
  (λ_ go id args H k=>pick2 (X.kl id) (Cn X args H k) (match K id with
   |some (sig,g)=>rI sig g args H k
   |
    none=>match KN id with
    |some c=>K4 c args H k
    |none=>pick2 (inl id) (ag X go ⟨.none,.none,X.trs id⟩ rounds id args H k) none)) n
theorem QD {kn:Ev.bK} {K:T4} {KN:KTN} {inl:FuncId->Bool} (hK:∀id sig g,K id=some (sig,g)->aT X (bg X kn) id g) (hN:∀id c,KN id=some c->cA X (bg X kn) id c) (hi:∀id,inl id=true->∀args,kn id args=none) (rounds:Nat) (n:Nat) (β:Type) (hkl:ab4 X kn:=by exact λ_ h=>Bool.noConfusion (show false=true from h)):aQ X (bg X kn) (QC X K KN inl rounds β n):=by
 induction n with
 |zero=>exact λf args H k r h=>by cases h
 |
  succ n ih =>
  intro f args H k r h
  have h:pick2 (X.kl f) (Cn X args H k) (match K f with
   |some (sig,g)=>rI sig g args H k
   |
    none=>match KN f with
    |some c=>K4 c args H k
    |none=>pick2 (inl f) (ag X (QC X K KN inl rounds β n) ⟨.none,.none,X.trs f⟩ rounds f args H k) none)=some r:=h
  rw[pick2_eq] at h;split at h
  .
   rename_i hf;exact F2 (hkl f hf) h
  split at h
  .
   rename_i sig g hk;exact zM (hK f sig g hk) h
  split at h
  .
   rename_i c hc;exact QA (hN f c hc) h
  rw[pick2_eq] at h;split at h
  .
   rename_i hin;obtain ⟨v,H',h1,h2⟩:=eS (nf:=true) ih (λ_=>⟨rfl,rfl⟩) h
   refine ⟨v,H',h1,λS E az hr hg hl=>?_⟩
   obtain ⟨S',vE,E',a1,a2,a3,a4,a5⟩:=h2 S E az hr hg hl;exact ⟨S',vE,E',cn (hi f hin) a1,(a5 rfl).1,a2,a3,(a5 rfl).2⟩
  cases h
abbrev lS:=FuncId×Bu
def YA (l:List lS):KTN:=λf=>List.rec (motive:=λ_=>Option Bu) none (λe _ r=>pick2 (Nat.beq f e.1) (some e.2) r) l
def dD (X:cR) (cf:Nat×Nat->Ev.aP) (l:List lS):Prop:=∀id c,YA l id=some c->cA X cf id c
theorem dD.nil {cf:Nat×Nat->Ev.aP}:dD X cf []:=λ_ _ h=>by cases h
theorem dD.cons {cf:Nat×Nat->Ev.aP} {f:FuncId} {c:Bu} {l:List lS} (h:cA X cf f c) (t:dD X cf l):dD X cf ((f,c)::l):=λid c' hk=>by
 have hk2:pick2 (Nat.beq id f) (some c) (YA l id)=some c':=hk
 clear hk
 rw[pick2_eq] at hk2
 split at hk2
 .
  rename_i hf;obtain rfl:=Nat.eq_of_beq_eq_true hf;have S9:c=c':=Option.some.inj hk2;subst S9;exact h
 exact t id c' hk2
end
end
end Go.Tv

namespace Go.Tv
open Go.Ev (Tr pick2 Leave Mem Blk alive pick2_eq alive_some)
noncomputable section
def UD:Option Ty->AV->AV
 |some e,.bR=>.bQ e []
 |_,v=>v
def uR:List (Option Ty)->List AV->List AV
 |s::sg,v::l=>UD s v::uR sg l
 |_,l=>l
def YI (sg:List (Option Ty)):AV->AV
 |.agg l=>.agg (uR sg l)
 |
  v=>match sg with
  |[s]=>UD s v
  |_=>v
def sx:List (List (Option Ty))->List AV->List AV
 |s::sg,v::l=>YI s v::sx sg l
 |_,l=>l
theorem Lb {S:Wo} {v:AV} {x:Value} (s:Option Ty) (h:VR S v x):VR S (UD s v) x:=by
 unfold UD
 split
 .
  cases h;exact .bQ _ _ _ (.inl ⟨rfl,rfl⟩)
 exact h
theorem Ao {S:Wo}:∀(sg:List (Option Ty)) {l:List AV} {m:List Value},LV S l m->LV S (uR sg l) m
 |[],l,m,h=>by cases l<;>exact h
 |s::sg,[],m,h=>h
 |
  s::sg,v::l,m,h=>by
  obtain ⟨x,m',rfl,h1,h2⟩:=h.cons_inv;exact LV.cons (Lb s h1) (Ao sg h2)
theorem UE {S:Wo} {v:AV} {x:Value} (sg:List (Option Ty)) (h:VR S v x):VR S (YI sg v) x:=by
 unfold YI
 split
 .
  rename_i l;cases h with
  |
   agg _ m hl hv =>
   obtain ⟨h1,h2⟩:=Ao sg (S:=S) (l:=l) (m:=m) ⟨hl,hv⟩;exact .agg _ m h1 h2
 split
 .
  exact Lb _ h
 exact h
theorem uS {S:Wo}:∀(sg:List (List (Option Ty))) {l:List AV} {m:List Value},LV S l m->LV S (sx sg l) m
 |[],l,m,h=>by cases l<;>exact h
 |s::sg,[],m,h=>h
 |
  s::sg,v::l,m,h=>by
  obtain ⟨x,m',rfl,h1,h2⟩:=h.cons_inv;exact LV.cons (UE s h1) (uS sg h2)
def GK:Nat->AV->Option (List AV)
 |1,v=>some [v]
 |_,.cO l=>some l
 |_,_=>none
def oz (sg:List (List (Option Ty))) (v:AV) (H:aa):Option (List AV) :=
 match GK sg.length v with
 |
  some vs=>match jG H (sg.map λ_=>.val .iO) vs with
  |some (ws,_)=>some (sx sg ws)
  |none=>none
 |none=>none
section
variable {X:cR}
theorem tE {n:Nat} {v:AV} {vs:List AV} (h:GK n v=some vs) (hl:vs.length=n):v=iF vs:=by
 unfold GK at h
 split at h
 .
  cases h;rfl
 .
  rename_i l _;cases h
  match vs,hl with
  |[],_=>rfl
  |[x],hl=>rename_i hne;exact absurd hl.symm hne
  |x::y::l,_=>rfl
 cases h
theorem rM:∀{rs:List bM} {vs vs':List AV} {M M':aa},jG M rs vs=some (vs',M')->vs.length=rs.length
 |[],[],_,_,_,_=>rfl
 |[],_::_,_,_,_,h=>by simp[jG] at h
 |.val _::_,[],_,_,_,h=>by simp[jG] at h
 |.list _ _ _::_,[],_,_,_,h=>by simp[jG] at h
 |
  .list _ _ _::rs,v::vs,vs',M,M',h=>by
  unfold jG at h;split at h
  .
   rename_i r M2 hs;simp[rM hs]
  cases h
 |
  .val _::rs,v::vs,vs',M,M',h=>by
  unfold jG at h;split at h
  .
   split at h
   .
    split at h
    .
     rename_i r M2 hs;simp[rM hs]
    cases h
   cases h
  split at h
  .
   split at h
   .
    rename_i r M2 hs;simp[rM hs]
   cases h
  cases h
theorem CL {kn:Ev.bK} {id:FuncId} (hk:∀args,kn id args=none) {call:aY (List AV)} (hcall:aQ X (bg X kn) call) {an:bO} {rounds:Nat} {args:List AV} {M:aa} {sg:List (List (Option Ty))} {ws:List AV}
 (h:ag X call an rounds id args M (oz sg)=some ws):∃M1,xS X (bg X kn) id args M ws M1:=by
 obtain ⟨v,M1,h1,h2⟩:=oy hk hcall h
 unfold oz at h1
 split at h1
 case h_2=>cases h1
 rename_i vs hu
 split at h1
 case h_2=>cases h1
 rename_i ws1 M2 hs
 cases h1
 have hl:=rM hs
 rw[List.length_map] at hl
 have hrun:=(h2 vs (tE hu hl)).Yz hs
 refine ⟨M2,λS E az hr hg hl=>?_⟩
 obtain ⟨S',vE,E',a1,⟨xs,rfl,a2⟩,a3,a4⟩:=hrun S E az hr hg hl
 exact ⟨S',_,E',a1,⟨xs,rfl,uS sg a2⟩,a3,a4⟩
theorem qM {M:aa}:∀{ws:List AV} {seen:List Nat},ws.all Bt=true->lq M seen ws (ws.map .val)
 |[],_,_=>trivial
 |
  w::ws,seen,h=>by
  simp only[List.all_cons,Bool.and_eq_true] at h;exact ⟨rfl,h.1,qM h.2⟩
theorem Q9 {kn:Ev.bK} {id:FuncId} (hk:∀args,kn id args=none) {call:∀ β,aY β} (hcall:∀ β,aQ X (bg X kn) (call β)) {sig:List (Option (TypeId×Ty))} {g:List bM->Option (Bool×List bM×List bM)} (sg:List (List (Option Ty)))
 (h:∀ins outs rs,g ins=some (true,outs,rs)->∃an rounds ws,ag X (call (List AV)) an rounds id (cellsIn 0 ins) (aK aa.empty ins) (oz sg)=some ws/\rs=ws.map .val/\ws.all Bt=true):cA X (bg X kn) id ⟨none,sig,g⟩:=by
 intro ins outs rs hg
 obtain ⟨an,rounds,ws,h1,rfl,h3⟩:=h ins outs rs hg
 intro _
 obtain ⟨M1,h4⟩:=CL hk (hcall _) h1
 exact ⟨ws,M1,h4,qM h3⟩
def fM (M:aa):List Nat->List (Option (TypeId×Ty))->List AV->Option (List bM×List Nat)
 |_,[],[]=>some ([],[])
 |
  seen,none::sig,a::cs=>pick2 (Bt a) (match fM M seen sig cs with
  |some (r,ns)=>some (.val a::r,ns)
  |none=>none) none
 |
  seen,some (t,e)::sig,.bR::cs=>match fM M seen sig cs with
  |some (r,ns)=>some (.list t e []::r,0::ns)
  |none=>none
 |
  seen,some (t,e)::sig,.own id n::cs=>match M.get id with
  |
   some (.list t' e' l _ _ false)=>pick2 (Nat.beq t' t && !seen.any (Nat.beq id)) (match fX e' e l with
   |
    some l'=>match fM M (id::seen) sig cs with
    |some (r,ns)=>some (.list t e l'::r,n::ns)
    |none=>none
   |none=>none) none
  |_=>none
 |_,_,_=>none
def qN:List bM->List Nat
 |[]=>[]
 |.val _::rs=>qN rs
 |.list _ _ l::rs=>l.length::qN rs
theorem qO {M:aa}:∀{sig:List (Option (TypeId×Ty))} {cs:List AV} {seen:List Nat} {rs:List bM} {ns:List Nat},fM M seen sig cs=some (rs,ns)->ns=qN rs->lq M seen cs rs/\cs.length=sig.length
 |
  [],[],seen,rs,ns,h,_=>by
  simp only[fM,Option.some.injEq,Prod.mk.injEq] at h;obtain ⟨rfl,rfl⟩:=h;exact ⟨trivial,rfl⟩
 |[],_::_,_,_,_,h,_=>by simp[fM] at h
 |none::_,[],_,_,_,h,_=>by simp[fM] at h
 |some _::_,[],_,_,_,h,_=>by simp[fM] at h
 |
  none::sig,a::cs,seen,rs,ns,h,hn=>by
  unfold fM at h;rw[pick2_eq] at h;split at h
  .
   rename_i hf;split at h
   .
    rename_i r ns' ho;cases h;obtain ⟨h1,h2⟩:=qO ho hn;exact ⟨⟨rfl,hf,h1⟩,by simp[h2]⟩
   cases h
  cases h
 |
  some (t,e)::sig,a::cs,seen,rs,ns,h,hn=>by
  unfold fM at h;split at h
  .
   simp at *
  .
   simp at *
  .
   rename_i q1 q2;split at h
   .
    rename_i r ns' ho;cases h;cases q1;cases q2;obtain ⟨h1,h2⟩:=qO ho (List.cons.inj hn).2;exact ⟨.inr ⟨rfl,rfl,h1⟩,by simp[h2]⟩
   cases h
  .
   rename_i id n _ q1 q2;split at h
   .
    rename_i t' e' l cB ex hg;rw[pick2_eq] at h;split at h
    .
     rename_i hc;simp only[Bool.and_eq_true,Bool.not_eq_true'] at hc;obtain ⟨ht,ado⟩:=hc;obtain rfl:=Nat.eq_of_beq_eq_true ht;split at h
     .
      rename_i l' hl;obtain ⟨rfl,vo⟩:=bh hl;have vo:l=l':=vo;subst vo;split at h
      .
       rename_i r ns' ho;cases h;cases q1;cases q2;obtain ⟨h1,h2⟩:=qO ho (List.cons.inj hn).2;have hlen:=(List.cons.inj hn).1;refine ⟨.inl ⟨id,cB,ex,by rw[hlen],hg,λhm=>?_,h1⟩,by simp[h2]⟩
       exact absurd (List.any_eq_true.2 ⟨id,hm,Nat.beq_refl id⟩) (by rw[ado];exact Bool.false_ne_true)
      cases h
     cases h
    cases h
   cases h
  cases h
def YJ (t:TypeId) (sig:List (Option (TypeId×Ty))) (nM:List (Option (TypeId×Ty))) (v:AV) (H:aa):Option (List bM×List Nat) :=
 match H.get 0 with
 |
  some (.cells t' cs)=>pick2 (Nat.beq t' t&&Nat.beq cs.length sig.length) (match GK nM.length v with
  |some vs=>fM H [0] (sig++nM) (cs++vs)
  |none=>none) none
 |_=>none
theorem UF {kn:Ev.bK} {id:FuncId} (hk:∀args,kn id args=none) {call:∀ β,aY β} (hcall:∀ β,aQ X (bg X kn) (call β)) {t:TypeId} {sig Bz nM:List (Option (TypeId×Ty))} {g:List bM->Option (Bool×List bM×List bM)}
 (h:∀ins outs rs,g ins=some (true,outs,rs)->ins.length=(sig++Bz).length->∃an rounds ns,ag X (call _) an rounds id (.ptr 0 0::(cellsIn 1 ins).drop sig.length) (dJ t sig.length ins) (YJ t sig nM)=some (outs++rs,ns)/\ns=qN (outs++rs)):cA X (bg X kn) id ⟨some (t,sig),Bz,g⟩:=by
 intro ins outs rs hg _ hil
 obtain ⟨an,rounds,ns,h1,h2⟩:=h ins outs rs hg hil
 obtain ⟨v,M1,h3,h4⟩:=oy hk (hcall _) h1
 unfold YJ at h3
 split at h3
 case h_2=>cases h3
 rename_i t' cs KE
 rw[pick2_eq] at h3
 split at h3
 case isFalse=>cases h3
 rename_i hc
 rw[Bool.and_eq_true,Nat.beq_eq,Nat.beq_eq] at hc
 obtain ⟨rfl,iy⟩:=hc
 split at h3
 case h_2=>cases h3
 rename_i vs hu
 obtain ⟨k1,k2⟩:=qO h3 h2
 have hvl:vs.length=nM.length:=by
  simp only[List.length_append] at k2;omega
 exact ⟨vs,M1,cs,h4 vs (tE hu hvl),KE,iy,k1⟩
def Ra (t:TypeId) (rg:List (Option Ty)) (sig:List (Option (TypeId×Ty))) (nM:List (Option (TypeId×Ty))) (v:AV) (H:aa):Option (List bM×List Nat) :=
 match H.get 0 with
 |
  some (.cells t' cs)=>pick2 (Nat.beq t' t&&Nat.beq (uR rg cs).length sig.length) (match GK nM.length v with
  |some vs=>fM H [0] (sig++nM) (uR rg cs++vs)
  |none=>none) none
 |_=>none
theorem Jr {M:aa} {r:Row} {vs:List AV} {rs:List bM}:∀{seen:List Nat},0∈seen->lq M seen vs rs->lq (M.put 0 r) seen vs rs:=by
 induction vs generalizing rs with
 |
  nil =>
  intro seen hs h;cases rs with
  |nil=>trivial
  |cons q rs=>cases q<;>exact h
 |
  cons v vs ih =>
  intro seen hs h;cases rs with
  |nil=>exact h
  |
   cons q rs =>
   cases q with
   |val w=>exact ⟨h.1,h.2.1,ih hs h.2.2⟩
   |
    list t e l =>
    rcases h with ⟨id,cB,ex,h1,h2,h3,h4⟩|⟨h1,h2,h3⟩
    .
     refine .inl ⟨id,cB,ex,h1,?_,h3,ih (List.mem_cons_of_mem _ hs) h4⟩;rw[(aa.cE M 0 r).2.2.2 id,if_neg (λhe=>h3 (by rw[he];exact hs))]
     exact h2
    exact .inr ⟨h1,h2,ih hs h3⟩
theorem xS.adp {cf:Nat×Nat->Ev.aP} {id:FuncId} {args vs:List AV} {M M1:aa} {t:TypeId} {cs:List AV} (rg:List (Option Ty)) (h:xS X cf id args M vs M1) (hg:M1.get 0=some (.cells t cs)):xS X cf id args M vs (M1.put 0 (.cells t (uR rg cs))):=by
 intro S E az hr hgl hl
 obtain ⟨S',vE,E',a1,a2,a3,a4⟩:=h S E az hr hgl hl
 obtain ⟨i,c,s,b,r1,r2,r3,r4,r5⟩:=a3.row 0 _ hg
 obtain ⟨m1,m2⟩:=a3.mod (S':=S') (E':=E') (r':=.cells t (uR rg cs)) hg rfl S'.le_refl rfl (λ_ _ _=>rfl) rfl rfl (λj hj=>rfl) (λj cs h=>.inl h) (λq hq=>by
  cases hq;exact ⟨i,c,s,b,r1,r2,Ao rg r3,r4,r5⟩)
 exact ⟨S',vE,E',a1,a2,m1,a4.trans m2.OV⟩
theorem Rb {kn:Ev.bK} {id:FuncId} (hk:∀args,kn id args=none) {call:∀ β,aY β} (hcall:∀ β,aQ X (bg X kn) (call β)) {t:TypeId} (rg:List (Option Ty)) {sig Bz nM:List (Option (TypeId×Ty))} {g:List bM->Option (Bool×List bM×List bM)}
 (h:∀ins outs rs,g ins=some (true,outs,rs)->ins.length=(sig++Bz).length->∃an rounds ns,ag X (call _) an rounds id (.ptr 0 0::(cellsIn 1 ins).drop sig.length) (dJ t sig.length ins) (Ra t rg sig nM)=some (outs++rs,ns)/\ns=qN (outs++rs)):cA X (bg X kn) id ⟨some (t,sig),Bz,g⟩:=by
 intro ins outs rs hg _ hil
 obtain ⟨an,rounds,ns,h1,h2⟩:=h ins outs rs hg hil
 obtain ⟨v,M1,h3,h4⟩:=oy hk (hcall _) h1
 unfold Ra at h3
 split at h3
 case h_2=>cases h3
 rename_i t' cs KE
 rw[pick2_eq] at h3
 split at h3
 case isFalse=>cases h3
 rename_i hc
 rw[Bool.and_eq_true,Nat.beq_eq,Nat.beq_eq] at hc
 obtain ⟨rfl,iy⟩:=hc
 split at h3
 case h_2=>cases h3
 rename_i vs hu
 obtain ⟨k1,k2⟩:=qO h3 h2
 have hvl:vs.length=nM.length:=by
  simp only[List.length_append] at k2;omega
 have hlt:0<M1.next:=by
  rw[aa.get_eq] at KE;split at KE
  .
   assumption
  cases KE
 refine ⟨vs,M1.put 0 (.cells t' (uR rg cs)),uR rg cs,(h4 vs (tE hu hvl)).adp rg KE,?_,iy,Jr (by simp) k1⟩
 rw[(aa.cE M1 0 _).2.2.2 0,if_pos rfl,if_pos hlt];rfl
end
end
end Go.Tv
