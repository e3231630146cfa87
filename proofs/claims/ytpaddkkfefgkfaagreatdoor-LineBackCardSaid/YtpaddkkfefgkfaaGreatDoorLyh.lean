/- Contracts of functions that are handed a pointer to a row of theirs, and hand back lists in lists. What a run is seen to hand back: lists in structs, cells behind a pointer. Plain data with lists in it that came in. -/
import Derived.Test.YtpaddkkfefgkfaaGreatDoorLyg
set_option linter.unusedVariables false
set_option linter.unusedSimpArgs false

namespace Go.Tv
open Go.Ev (Tr pick2 Leave Mem Blk alive pick2_eq alive_some)
noncomputable section
def IP:AV->Bool
 |.int _ _=>true
 |.bool _=>true
 |.str _=>true
 |.kV _=>true
 |.bK=>true
 |.je=>true
 |.bF _ _=>true
 |.fn _ [] []=>true
 |_=>false
def A8:AV->Bool
 |.agg l=>l.all IP
 |v=>IP v
inductive bu where
 |val (v:AV)
 |list (t:TypeId) (e:Ty) (l:List e.den)
theorem P7 {S S':Wo} (hF:∀i x,S.F i=some x->S'.F i=some x) {v:AV} {x:Value} (h:A8 v=true) (hv:VR S v x):VR S' v x:=by
 have one:∀{v:AV} {x:Value},IP v=true->VR S v x->VR S' v x:=λh hv=>by
  cases hv with
  |int=>exact .int _ _
  |bool=>exact .bool _
  |str=>exact .str _
  |kV=>exact .kV _
  |bK=>exact .bK
  |je=>exact .je
  |bF e l _ h=>exact .bF e l _ (h.mono hF)
  |
   fn f a b a' b' ha hb va vb =>
   match a,b,h with
   |[],[],_=>exact .fn f [] [] a' b' ha hb (λj x y hx=>by cases hx) (λj x y hx=>by cases hx)
  |_=>cases h
 cases hv with
 |fn f a b a' b' ha hb va vb=>exact one h (.fn f a b a' b' ha hb va vb)
 |agg l m hl hm=>exact .agg l m hl λj a b ha hb=>one (List.all_eq_true.1 h a (List.mem_of_getElem? ha)) (hm j a b ha hb)
 |int k n=>exact one h (.int k n)
 |bool b=>exact one h (.bool b)
 |str s=>exact one h (.str s)
 |kV n=>exact one h (.kV n)
 |bK=>exact .bK
 |je=>exact .je
 |bF e l _ h=>exact .bF e l _ (h.mono hF)
 |_=>cases h
def dY:List bu->aa->List AV×aa
 |[],H=>([],H)
 |.val v::rs,H=>(v::(dY rs H).1,(dY rs H).2)
 |.list t e l::rs,H=>(.own H.next l.length::(dY rs (H.push (.list t e l 0 false false))).1,(dY rs (H.push (.list t e l 0 false false))).2)
def kK (M:aa):List Nat->List AV->List bu->Prop
 |_,[],[]=>True
 |seen,v::vs,.val w::rs=>v=w/\A8 w=true/\kK M seen vs rs
 |seen,v::vs,.list t e l::rs=>(∃id cw ex,v = .own id l.length/\M.get id=some (.list t e l cw ex false)/\id ∉ seen/\kK M (id::seen) vs rs)\/(v = .bK/\l=[]/\kK M seen vs rs)
 |_,_,_=>False
def Wf (S:Wo) (H:aa) (E:Mem) (zI:Nat->Prop) (rs:List bu) (xs:List Value):Prop :=
 ∃S',S.le S'/\LV S' (dY rs H).1 xs/\Rel S' (dY rs H).2 E/\S'.F=S.F/\H.next<=(dY rs H).2.next/\(dY rs H).2.lk=H.lk/\(dY rs H).2.par=H.par /\
  (∀id,id<H.next->(dY rs H).2.get id=H.get id/\S'.ρ id=S.ρ id)/\(∀id q z,H.next<=id->(dY rs H).2.get id=some q->S'.ρ id=some z->zI z.1)
theorem KE {S1:Wo} {M1:aa} {E:Mem} (BV:Rel S1 M1 E) (zI:Nat->Prop) (hlk:M1.lk=0):∀{vs:List AV} {rs:List bu} {seen:List Nat} {xs:List Value} {S:Wo} {H:aa},kK M1 seen vs rs->LV S1 vs xs->Rel S H E->S.F=S1.F ->
 (∀id r y,M1.get id=some r->id ∉ seen->S1.ρ id=some y->r.BJ=false->zI y.1/\∀xY q z,H.get xY=some q->S.ρ xY=some z->z.1≠y.1) ->
 Wf S H E zI rs xs
 |
  [],[],seen,xs,S,H,_,hl,hr,hF,hown=>by
  rw[hl.dM];exact ⟨S,S.le_refl,LV.nil,hr,rfl,Nat.le_refl _,rfl,rfl,λ_ _=>⟨rfl,rfl⟩,λid q z hid hq _=>absurd (aa.bI hq) (by show ¬id<H.next;omega)⟩
 |
  v::vs,r0::rs,seen,xs,S,H,h,hl,hr,hF,hown=>by
  obtain ⟨x,xs',rfl,h1,h2⟩:=hl.cons_inv;have jv:∀v,S.Γ H.next v=none:=λv=>hr.A0 _ _ (Nat.le_refl _)
  have go:∀(t:TypeId) (e:Ty) (l:List e.den) (seen':List Nat) (y:Option (Nat×Nat×Nat)),r0 = .list t e l->kK M1 seen' vs rs->S.le (S.new H.next y (some ⟨e,l⟩))->Rel (S.new H.next y (some ⟨e,l⟩)) (H.push (.list t e l 0 false false)) E->VR (S.new H.next y (some ⟨e,l⟩)) (.own H.next l.length) x ->
   (∀z,y=some z->zI z.1/\∃xX y1 r1,xX∈seen'/\S1.ρ xX=some y1/\y1.1=z.1/\M1.get xX=some r1)->(∀id,id∈seen->id∈seen')->Wf S H E zI (r0::rs) (x::xs'):=λt e l seen' y NK hres hle hrel XW hy hsub=>by
   subst NK;obtain ⟨p1,p2,p3,p4⟩:=aa.bf H (.list t e l 0 false false)
   have hown':∀id r y',M1.get id=some r->id ∉ seen'->S1.ρ id=some y'->r.BJ=false->zI y'.1/\∀xY q z,(H.push (.list t e l 0 false false)).get xY=some q->(S.new H.next y (some ⟨e,l⟩)).ρ xY=some z->z.1≠y'.1:=λid r y' hg hns hρ hro=>by
    obtain ⟨k1,k2⟩:=hown id r y' hg (λhm=>hns (hsub _ hm)) hρ hro
    refine ⟨k1,λxY q z hq hz=>?_⟩
    rw[p4] at hq;by_cases hid:xY=H.next
    .
     subst hid;have hz:y=some z:=by rw[<-hz];exact (if_pos rfl).symm
     obtain ⟨_,xX,y1,r1,b1,b2,b3,b4⟩:=hy z hz;intro he;have:=BV.inj xX id r1 r y1 y' b4 hg b2 hρ (by omega)
     subst this;exact hns b1
    rw[if_neg hid] at hq;have hz:S.ρ xY=some z:=by rw[<-hz];exact (if_neg hid).symm
    exact k2 xY q z hq hz
   obtain ⟨S',a1,a2,a3,a4,a5,a6,a7,a8,a9⟩:=KE BV zI hlk hres h2 hrel hF hown';rw[p1] at a5 a8 a9;rw[p2] at a6;rw[p3] at a7;refine ⟨S',Wo.le_trans hle a1,LV.cons (XW.mono a1) a2,a3,a4,Nat.le_trans (Nat.le_succ _) a5,a6,a7,λid hid=>?_,λid q z hid hq hz=>?_⟩
   .
    obtain ⟨b1,b2⟩:=a8 id (by omega)
    exact ⟨b1.trans (by rw[p4,if_neg (by omega)]),b2.trans (if_neg (by omega))⟩
   by_cases hid':id=H.next
   .
    subst hid';have:S'.ρ H.next=(S.new H.next y (some ⟨e,l⟩)).ρ H.next:=(a8 H.next (by omega)).2
    rw[this] at hz;have hz:y=some z:=by rw[<-hz];exact (if_pos rfl).symm
    exact (hy z hz).1
   exact a9 id q z (by omega) hq hz
  cases r0 with
  |
   val w =>
   obtain ⟨rfl,hs,h⟩:=h;obtain ⟨S',a1,a2,a3,a4⟩:=KE BV zI hlk h h2 hr hF hown;exact ⟨S',a1,LV.cons (P7 (λi x hx=>by rw[a4.1,hF];exact hx) hs h1) a2,a3,a4⟩
  |
   list t e l =>
   rcases h with ⟨id,cw,ex,rfl,hg,hns,h⟩|⟨rfl,rfl,h⟩
   .
    obtain ⟨g1,⟨g0,g,g2,g2'⟩,g3⟩:=BV.row id _ hg;generalize Fw:l.length=n at h1;cases h1 with
    |
     own _ _ i0 jJ s0 hρ g' hg' hn' =>
     rcases g3 with ⟨_,g5,_⟩|⟨i',cap,b,mid,post,q1,q2,q3,q4,q5,q6,q7,q8,q9,rD⟩
     .
      rw[hρ] at g5;cases g5
     rw[hρ] at q1;cases q1;subst Fw;obtain ⟨f1,f2⟩:=hown id _ _ hg hns hρ rfl
     obtain ⟨b1,b2⟩:=hr.rP (r:=.list t e l 0 false false) (x:=some (i0,jJ,e.size)) (g:=some ⟨e,l⟩) (λr' hr'=>by
      cases hr'
      exact eF jv q2 q3 q4 (by rw[hF];exact q5) q6 q7 q8 (λh=>by cases h) (by rw[hF];exact rD.2)) (λy hy=>by
       cases hy;exact ⟨f2,by rw[hF];exact BV.sep id _ _ hg rfl hρ,BV.lk id _ _ hg (by omega) hρ⟩)
     refine go t e l (id::seen) _ rfl h b1 b2 (.own _ _ i0 jJ e.size (if_pos rfl) ⟨e,l⟩ (if_pos ⟨rfl,rfl⟩) rfl) (λz hz=>?_) (λid hid=>List.mem_cons_of_mem _ hid)
     cases hz;exact ⟨f1,id,_,_,List.mem_cons_self,hρ,rfl,hg⟩
    |
     cQ _ g' hg' hn' =>
     have X3:l=[]:=List.length_eq_zero_iff.1 Fw;subst X3;obtain ⟨b1,b2⟩:=hr.rP (r:=.list t e [] 0 false false) (x:=none) (g:=some ⟨e,[]⟩) (λr' hr'=>by cases hr';exact gF jv) (λy hy=>by cases hy)
     exact go t e [] (id::seen) none rfl h b1 b2 (.cQ _ ⟨e,[]⟩ (if_pos ⟨rfl,rfl⟩) rfl) (λz hz=>by cases hz) (λid hid=>List.mem_cons_of_mem _ hid)
   cases h1;obtain ⟨b1,b2⟩:=hr.rP (r:=.list t e [] 0 false false) (x:=none) (g:=some ⟨e,[]⟩) (λr' hr'=>by cases hr';exact gF jv) (λy hy=>by cases hy)
   exact go t e [] seen none rfl h b1 b2 (.cQ _ ⟨e,[]⟩ (if_pos ⟨rfl,rfl⟩) rfl) (λz hz=>by cases hz) (λid hid=>hid)
theorem Rel.putAt {S:Wo} {H:aa} {E:Mem} (h:Rel S H E) {id:Nat} {r:Row} (hid:id<H.next) (hro:r.BJ=false) (hr:∀r',r.live=some r'->mS S E id r')
 (hx:∀y,S.ρ id=some y->(∀id' q z,H.get id'=some q->id'≠id->S.ρ id'=some z->z.1≠y.1)/\S.F y.1=none/\E.lk<=y.1):Rel S (H.put id r) E:=by
 obtain ⟨p1,p2,p3,p4⟩:=aa.cy H id r
 have iJ:∀j q,(H.put id r).get j=some q->(j=id/\r.live=some q)\/(j≠id/\H.get j=some q):=λj q hj=>by
  rw[p4] at hj;by_cases e:j=id
  .
   rw[if_pos e,if_pos hid] at hj;exact .inl ⟨e,hj⟩
  rw[if_neg e] at hj;exact .inr ⟨e,hj⟩
 refine ⟨h.fz,λj y hy=>by rw[p1];exact h.dom j y hy,λj v hj=>by rw[p1] at hj;exact h.A0 j v hj,λj q hj=>?_,λj j' q q' y y' hj hj' hy hy' he=>?_,λj q y hj hb hy=>?_,λj q y hj hl hy=>?_,by rw[p1,p2];exact h.tw,by rw[p1,p3];exact h.Ia,h.Eu⟩
 .
  rcases iJ j q hj with ⟨rfl,h1⟩|⟨_,h1⟩
  .
   exact hr q h1
  exact h.row j q h1
 .
  rcases iJ j q hj with ⟨rfl,h1⟩|⟨e1,h1⟩<;>rcases iJ j' q' hj' with ⟨rfl,h2⟩|⟨e2,h2⟩
  .
   rfl
  .
   exact absurd he.symm ((hx y hy).1 j' q' y' h2 e2 hy')
  .
   exact absurd he ((hx y' hy').1 j q y h1 e1 hy)
  exact h.inj j j' q q' y y' h1 h2 hy hy' he
 .
  rcases iJ j q hj with ⟨rfl,h1⟩|⟨_,h1⟩
  .
   exact (hx y hy).2.1
  exact h.sep j q y h1 hb hy
 rcases iJ j q hj with ⟨rfl,h1⟩|⟨_,h1⟩
 .
  exact (hx y hy).2.2
 rw[p2] at hl;exact h.lk j q y h1 hl hy
def cellsIn:Nat->List bu->List AV
 |_,[]=>[]
 |n,.val v::rs=>v::cellsIn n rs
 |n,.list _ _ l::rs=>.own n l.length::cellsIn (n+1) rs
def aK:aa->List bu->aa
 |M,[]=>M
 |M,.val _::rs=>aK M rs
 |M,.list t e l::rs=>aK (M.push (.list t e l 0 false false)) rs
def ct (t:TypeId) (n:Nat) (rs:List bu):aa:=aK ⟨1,0,1,(aa.empty.push (.cells t ((cellsIn 1 rs).take n))).t⟩ rs
def cS:aa->List (Option (TypeId×Ty))->List AV->Option (List AV×aa)
 |H,[],[]=>some ([],H)
 |
  H,none::sig,a::cs=>match fM H [a] with
  |
   some ([a'],H1)=>match cS H1 sig cs with
   |some (l,H2)=>some (a'::l,H2)
   |none=>none
  |_=>none
 |
  H,some _::sig,a::cs=>match cS H sig cs with
  |some (l,H2)=>some (a::l,H2)
  |none=>none
 |_,_,_=>none
def bZ:aa->List (Option (TypeId×Ty))->List AV->Option (List bu×aa)
 |H,[],[]=>some ([],H)
 |
  H,none::sig,a::cs=>pick2 (A8 a) (match bZ H sig cs with
  |some (rs,H')=>some (.val a::rs,H')
  |none=>none) none
 |
  H,some (t,e)::sig,.bK::cs=>match bZ H sig cs with
  |some (rs,H')=>some (.list t e []::rs,H')
  |none=>none
 |
  H,some (t,e)::sig,.own id _::cs=>match H.get id with
  |
   some (.list t' e' l _ _ false)=>pick2 (H.ju id&&Nat.beq t' t) (match eP e' e l with
   |
    some l'=>match bZ (H.put id .dead) sig cs with
    |some (rs,H')=>some (.list t e l'::rs,H')
    |none=>none
   |none=>none) none
  |_=>none
 |_,_,_=>none
theorem x8 {S0:Wo} {H0:aa} {E:Mem}:∀{sig:List (Option (TypeId×Ty))} {cs cs':List AV} {H H':aa} {S:Wo} {C:List Value},Rel S H E->S0.le S->St S0 H0 E S H E->LV S cs C->cS H sig cs=some (cs',H')->∃S',S0.le S'/\Rel S' H' E/\St S0 H0 E S' H' E/\LV S' cs' C/\S.le S'
 |
  [],[],cs',H,H',S,C,hr,hle,hst,hl,h=>by
  simp only[cS,Option.some.injEq,Prod.mk.injEq] at h;obtain ⟨rfl,rfl⟩:=h;exact ⟨S,hle,hr,hst,hl,S.le_refl⟩
 |
  none::sig,a::cs,cs',H,H',S,C,hr,hle,hst,hl,h=>by
  obtain ⟨x,C',rfl,h1,h2⟩:=hl.cons_inv;unfold cS at h;split at h
  .
   rename_i a' H1 hf;obtain ⟨S1,b1,b2,b3,b4,b5⟩:=jL hr hle hst (LV.cons h1 LV.nil) hf;obtain ⟨x',_,e,b6,_⟩:=b4.cons_inv;cases e;split at h
   .
    rename_i l H2 hg;simp only[Option.some.injEq,Prod.mk.injEq] at h;obtain ⟨rfl,rfl⟩:=h;obtain ⟨S2,c1,c2,c3,c4,c5⟩:=x8 b2 b1 b3 (h2.mono b5) hg;exact ⟨S2,c1,c2,c3,LV.cons (b6.mono c5) c4,Wo.le_trans b5 c5⟩
   cases h
  cases h
 |
  some _::sig,a::cs,cs',H,H',S,C,hr,hle,hst,hl,h=>by
  obtain ⟨x,C',rfl,h1,h2⟩:=hl.cons_inv;unfold cS at h;split at h
  .
   rename_i l H2 hg;simp only[Option.some.injEq,Prod.mk.injEq] at h;obtain ⟨rfl,rfl⟩:=h;obtain ⟨S2,c1,c2,c3,c4,c5⟩:=x8 hr hle hst h2 hg;exact ⟨S2,c1,c2,c3,LV.cons (h1.mono c5) c4,c5⟩
  cases h
 |[],_::_,_,_,_,_,_,_,_,_,_,h=>by simp[cS] at h
 |none::_,[],_,_,_,_,_,_,_,_,_,h=>by simp[cS] at h
 |some _::_,[],_,_,_,_,_,_,_,_,_,h=>by simp[cS] at h
structure lF (H H':aa):Prop where
 next:H'.next=H.next
 lk:H'.lk=H.lk
 par:H'.par=H.par
 get:∀j r,H'.get j=some r->H.get j=some r
theorem lF.refl (H:aa):lF H H:=⟨rfl,rfl,rfl,λ_ _ h=>h⟩
theorem lF.trans {a b c:aa} (h:lF a b) (k:lF b c):lF a c:=⟨k.next.trans h.next,k.lk.trans h.lk,k.par.trans h.par,λj r hj=>h.get j r (k.get j r hj)⟩
theorem lF.dead (H:aa) (id:Nat):lF H (H.put id .dead):=by
 obtain ⟨p1,p2,p3,p4⟩:=aa.cy H id .dead
 refine ⟨p1,p2,p3,λj r hj=>?_⟩
 rw[p4] at hj
 by_cases e:j=id
 .
  rw[if_pos e] at hj;split at hj<;>cases hj
 rw[if_neg e] at hj;exact hj
theorem Gn (H:aa) (id:Nat):(H.put id .dead).get id=none:=by
 rw[(aa.cy H id .dead).2.2.2,if_pos rfl]
 split<;>rfl
def o8 (S:Wo) (H H':aa) (i:Nat):Prop:=∃id r z,H.get id=some r/\r.BJ=false/\S.ρ id=some z/\z.1=i/\H'.get id=none
theorem o8.later {S:Wo} {H H' H'':aa} {i:Nat} (h:o8 S H H' i) (k:lF H' H''):o8 S H H'' i:=by
 obtain ⟨id,r,z,h1,h2,h3,h4,h5⟩:=h
 refine ⟨id,r,z,h1,h2,h3,h4,?_⟩
 cases hg:H''.get id with
 |none=>rfl
 |some q=>rw[k.get id q hg] at h5;cases h5
theorem o8.earlier {S:Wo} {H0 H H':aa} {i:Nat} (h:o8 S H H' i) (k:lF H0 H):o8 S H0 H' i:=by
 obtain ⟨id,r,z,h1,h2⟩:=h
 exact ⟨id,r,z,k.get _ _ h1,h2⟩
theorem uo {S:Wo} {H0:aa} {E:Mem} (hr:Rel S H0 E):∀{sig:List (Option (TypeId×Ty))} {cs:List AV} {rs:List bu} {H H' M:aa} {S0:Wo} {C:List Value},lF H0 H->bZ H sig cs=some (rs,H')->LV S cs C->Rel S0 M E->S0.F=S.F->M.lk=0 ->
 (∀j q y,M.get j=some q->S0.ρ j=some y->∀id q' z,H.get id=some q'->q'.BJ=false->(∃t e l v x,q' = .list t e l v x false)->S.ρ id=some z->z.1≠y.1) ->
 lF H H'/\rs.length=cs.length/\rs.length=sig.length/\∃S0',S0.le S0'/\Rel S0' (aK M rs) E/\LV S0' (cellsIn M.next rs) C/\S0'.F=S0.F/\M.next<=(aK M rs).next/\(aK M rs).lk=0/\(aK M rs).par=M.par /\
  (∀j,j<M.next->(aK M rs).get j=M.get j/\S0'.ρ j=S0.ρ j)/\(∀j q y,M.next<=j->(aK M rs).get j=some q->S0'.ρ j=some y->o8 S H H' y.1/\(∃t e l v x,q = .list t e l v x false))
 |
  [],[],rs,H,H',M,S0,C,hgo,h,hl,hm,hF,hlk,hown=>by
  simp only[bZ,Option.some.injEq,Prod.mk.injEq] at h;obtain ⟨rfl,rfl⟩:=h;rw[hl.dM];exact ⟨lF.refl _,rfl,rfl,S0,S0.le_refl,hm,LV.nil,rfl,Nat.le_refl _,hlk,rfl,λ_ _=>⟨rfl,rfl⟩,λj q y hj hq _=>absurd (aa.bI hq) (by show ¬j<M.next;omega)⟩
 |
  none::sig,a::cs,rs,H,H',M,S0,C,hgo,h,hl,hm,hF,hlk,hown=>by
  obtain ⟨x,C',rfl,h1,h2⟩:=hl.cons_inv;unfold bZ at h;rw[pick2_eq] at h;split at h
  .
   rename_i JP;split at h
   .
    rename_i rs' H1 hi;simp only[Option.some.injEq,Prod.mk.injEq] at h;obtain ⟨rfl,rfl⟩:=h;obtain ⟨g1,g2,g2',S0',a1,a2,a3,a4,a5⟩:=uo hr hgo hi h2 hm hF hlk hown;exact ⟨g1,by simp[g2],by simp[g2'],S0',a1,a2,LV.cons (P7 (λi x hx=>by rw[a4,hF];exact hx) JP h1) a3,a4,a5⟩
   cases h
  cases h
 |
  some (t,e)::sig,a::cs,rs,H,H',M,S0,C,hgo,h,hl,hm,hF,hlk,hown=>by
  obtain ⟨x,C',rfl,h1,h2⟩:=hl.cons_inv;have jv:∀v,S0.Γ M.next v=none:=λv=>hm.A0 _ _ (Nat.le_refl _)
  have go:∀(l:List e.den) (rs':List bu) (H1:aa) (y:Option (Nat×Nat×Nat)),lF H H1->bZ H1 sig cs=some (rs',H')->rs = .list t e l::rs'->S0.le (S0.new M.next y (some ⟨e,l⟩))->Rel (S0.new M.next y (some ⟨e,l⟩)) (M.push (.list t e l 0 false false)) E->VR (S0.new M.next y (some ⟨e,l⟩)) (.own M.next l.length) x ->
   (∀z,y=some z->o8 S H H1 z.1) ->
   lF H H'/\rs.length=(a::cs).length/\rs.length=(some (t,e)::sig).length/\∃S0',S0.le S0'/\Rel S0' (aK M rs) E/\LV S0' (cellsIn M.next rs) (x::C')/\S0'.F=S0.F/\M.next<=(aK M rs).next/\(aK M rs).lk=0/\(aK M rs).par=M.par /\
    (∀j,j<M.next->(aK M rs).get j=M.get j/\S0'.ρ j=S0.ρ j)/\(∀j q y,M.next<=j->(aK M rs).get j=some q->S0'.ρ j=some y->o8 S H H' y.1/\(∃t e l v x,q = .list t e l v x false)):=by
   intro l rs' H1 y hg1 hi Hy hle hrel XW hy;subst Hy;obtain ⟨p1,p2,p3,p4⟩:=aa.bf M (.list t e l 0 false false)
   obtain ⟨g1,g2,g2',S0',a1,a2,a3,a4,a5,a6,a7,a8,a9⟩:=uo hr (hgo.trans hg1) hi h2 hrel hF (by rw[p2];exact hlk) (λj q y' hj hy' id q' z hq' hro hls hz=>by
    rw[p4] at hj;by_cases ej:j=M.next
    .
     subst ej;have hz':y=some y':=by rw[<-hy'];exact (if_pos rfl).symm
     obtain ⟨xY,r2,z2,k1,k2,k3,k4,k5⟩:=hy y' hz';intro he;have:=hr.inj id xY q' r2 z z2 (hgo.get _ _ (hg1.get _ _ hq')) (hgo.get _ _ k1) hz k3 (by omega)
     subst this;rw[hq'] at k5;cases k5
    rw[if_neg ej] at hj;have hy'':S0.ρ j=some y':=by rw[<-hy'];exact (if_neg ej).symm
    exact hown j q y' hj hy'' id q' z (hg1.get _ _ hq') hro hls hz)
   rw[p1] at a3 a5 a8 a9;rw[p3] at a7;refine ⟨hg1.trans g1,by simp[g2],by simp[g2'],S0',Wo.le_trans hle a1,a2,LV.cons (XW.mono a1) a3,a4,Nat.le_trans (Nat.le_succ _) a5,a6,a7,λj hj=>?_,λj q y' hj hq hy'=>?_⟩
   .
    obtain ⟨b1,b2⟩:=a8 j (by omega)
    exact ⟨b1.trans (by rw[p4,if_neg (by omega)]),b2.trans (if_neg (by omega))⟩
   by_cases ej:j=M.next
   .
    subst ej;obtain ⟨b1,b2⟩:=a8 M.next (by omega)
    have b2':S0'.ρ M.next=y:=b2.trans (if_pos rfl)
    rw[b2'] at hy'
    have b1':(aK M (.list t e l::rs')).get M.next=some (.list t e l 0 false false):=by
     have:(aK (M.push (.list t e l 0 false false)) rs').get M.next=some (.list t e l 0 false false):=b1.trans (by rw[p4,if_pos rfl];rfl)
     exact this
    rw[b1'] at hq;cases hq;exact ⟨(hy y' hy').later g1,_,_,_,_,_,rfl⟩
   obtain ⟨b1,b2⟩:=a9 j q y' (by omega) hq hy'
   exact ⟨b1.earlier hg1,b2⟩
  cases a with
  |
   bK =>
   unfold bZ at h;split at h
   .
    rename_i rs' H1 hi;simp only[Option.some.injEq,Prod.mk.injEq] at h;obtain ⟨rfl,rfl⟩:=h;cases h1;obtain ⟨b1,b2⟩:=hm.rP (r:=.list t e [] 0 false false) (x:=none) (g:=some ⟨e,[]⟩) (λr' hr'=>by cases hr';exact gF jv) (λy hy=>by cases hy)
    exact go [] rs' H none (lF.refl _) hi rfl b1 b2 (.cQ _ ⟨e,[]⟩ (if_pos ⟨rfl,rfl⟩) rfl) (λz hz=>by cases hz)
   cases h
  |
   own id n =>
   unfold bZ at h;split at h
   .
    rename_i t' e' l cw ex hg;rw[pick2_eq] at h;split at h
    .
     rename_i hmay;simp only[Bool.and_eq_true,Nat.beq_eq] at hmay;obtain ⟨hmay,rfl⟩:=hmay;split at h
     .
      rename_i l' ia;split at h
      .
       rename_i rs' H1 hi;simp only[Option.some.injEq,Prod.mk.injEq] at h;obtain ⟨rfl,rfl⟩:=h;obtain ⟨he,hc⟩:=aS ia;subst he;have hc:l=l':=hc;subst hc;have Km:=hgo.get _ _ hg;obtain ⟨g1,⟨g0,g,g2,g2'⟩,g3⟩:=hr.row id _ Km;cases h1 with
       |
        own _ _ i0 jJ s0 hρ g' hg' hn' =>
        rw[g2] at hg';cases hg';rcases g3 with ⟨_,g5,_⟩|⟨i',cap,b,mid,post,q1,q2,q3,q4,q5,q6,q7,q8,q9,rD⟩
        .
         rw[hρ] at g5;cases g5
        rw[hρ] at q1;cases q1;have hn:n=l.length:=by omega
        subst hn
        obtain ⟨b1,b2⟩:=hm.rP (r:=.list t' e' l 0 false false) (x:=some (i0,jJ,e'.size)) (g:=some ⟨e',l⟩) (λr' hr'=>by
         cases hr'
         exact eF jv q2 q3 q4 (by rw[hF];exact q5) q6 q7 q8 (λh=>by cases h) (by rw[hF];exact rD.2)) (λy hy=>by
          cases hy;refine ⟨λj q z hj hz he=>hown j q z hj hz id _ _ hg rfl ⟨_,_,_,_,_,rfl⟩ hρ he.symm,by rw[hF];exact hr.sep id _ _ Km rfl hρ,hr.lk id _ _ Km (by have:=hgo.lk;simp only[aa.ju,Nat.ble_eq] at hmay;omega) hρ⟩)
        exact go l rs' (H.put id .dead) _ (lF.dead H id) hi rfl b1 b2 (.own _ _ i0 jJ e'.size (if_pos rfl) ⟨e',l⟩ (if_pos ⟨rfl,rfl⟩) rfl) (λz hz=>by
         cases hz;exact ⟨id,_,_,hg,rfl,hρ,rfl,Gn H id⟩)
       |
        cQ _ g' hg' hn' =>
        rw[g2] at hg';cases hg';have h0:l=[]:=List.length_eq_zero_iff.1 (by omega)
        subst h0;obtain ⟨b1,b2⟩:=hm.rP (r:=.list t' e' [] 0 false false) (x:=none) (g:=some ⟨e',[]⟩) (λr' hr'=>by cases hr';exact gF jv) (λy hy=>by cases hy)
        exact go [] rs' (H.put id .dead) none (lF.dead H id) hi rfl b1 b2 (.cQ _ ⟨e',[]⟩ (if_pos ⟨rfl,rfl⟩) rfl) (λz hz=>by cases hz)
      cases h
     cases h
    cases h
   cases h
  |_=>simp[bZ] at h
 |[],_::_,_,_,_,_,_,_,_,h,_,_,_,_,_=>by simp[bZ] at h
 |none::_,[],_,_,_,_,_,_,_,h,_,_,_,_,_=>by simp[bZ] at h
 |some (_,_)::_,[],_,_,_,_,_,_,_,h,_,_,_,_,_=>by simp[bZ] at h
theorem Ci {S S0 S1:Wo} {H H3 M0 M1:aa} {E E':Mem} (hr:Rel S H E) (hF:S0.F=S.F) (hgo:lF H H3) (hown:∀i,Own S0 M0 i->o8 S H H3 i) (BV:Rel S1 M1 E') (hst:AJ S0 M0 E S1 M1 E') :
 S.le ⟨S1.F,S.ρ,S.Γ⟩/\Rel ⟨S1.F,S.ρ,S.Γ⟩ H3 E':=by
 have hle:S.le ⟨S1.F,S.ρ,S.Γ⟩:=⟨λi x hx=>hst.F i x (by rw[hF];exact hx),λ_ _ h=>h,λ_ _ _ h=>h⟩
 have far:∀id r y,H3.get id=some r->S.ρ id=some y->¬Own S0 M0 y.1:=λid r y hg hy ho=>by
  obtain ⟨xY,r2,z,k1,k2,k3,k4,k5⟩:=hown _ ho;have:=hr.inj id xY r r2 y z (hgo.get _ _ hg) k1 hy k3 k4.symm;subst this;rw[hg] at k5;cases k5
 have old:∀id r y,H3.get id=some r->S.ρ id=some y->y.1<E.size:=λid r y hg hy=>(let ⟨_,hb⟩:=hr.old (hgo.get _ _ hg) hy;Mem.bI hb)
 refine ⟨hle,⟨BV.fz,λid x hx=>by rw[hgo.next];exact hr.dom id x hx,λid v hv=>hr.A0 id v (by rw[hgo.next] at hv;exact hv),λid r hg=>?_,λid id' r r' x x' hg hg' hx hx' he=>hr.inj id id' r r' x x' (hgo.get _ _ hg) (hgo.get _ _ hg') hx hx' he,λid r x hg hro hx=>?_,λid r x hg hl hx=>?_,by rw[hgo.lk,hgo.next];exact hr.tw,by rw[hgo.par,hgo.next];exact hr.Ia,BV.Eu⟩⟩
 .
  exact (hr.row id r (hgo.get _ _ hg)).keep hle (λh=>h) (λ_ h=>h) λx hx=>hst.keep _ (old id r x hg hx) (far id r x hg hx)
 .
  show S1.F x.1=none;cases hq:S1.F x.1 with
  |none=>rfl
  |
   some cs =>
   rcases hst.Ho x.1 (by rw[hq];simp) with h1|h1|h1
   .
    rw[hF] at h1;exact absurd (hr.sep id r x (hgo.get _ _ hg) hro hx) h1
   .
    exact absurd h1 (far id r x hg hx)
   have:=old id r x hg hx;omega
 rw[hst.lk];exact hr.lk id r x (hgo.get _ _ hg) (by rw[<-hgo.lk];exact hl) hx
structure xE where
 ptr:Option (TypeId×List (Option (TypeId×Ty)))
 sig:List (Option (TypeId×Ty))
 g:List bu->Option (Bool×List bu×List bu)
def KF {β:Type} (c:xE) (args:List AV) (H:aa) (k:AV->aa->Option β):Option β :=
 match c.ptr with
 |
  none=>match cS H c.sig args with
  |
   some (args',H1)=>match bZ H1 c.sig args' with
   |
    some (ins,H2)=>match c.g ins with
    |some (cnd,_,rs)=>pick2 cnd (k (mh (dY rs H2).1) (dY rs H2).2) none
    |none=>none
   |none=>none
  |none=>none
 |
  some (t,sig)=>match args with
  |
   .ptr id 0::args=>match H.get id with
   |
    some (.cells t' cs)=>match cS H (sig++c.sig) (cs++args) with
    |
     some (cs',H2)=>match bZ H2 (sig++c.sig) cs' with
     |
      some (ins,H3)=>pick2 (Nat.beq t t'&&H.ju id&&Nat.beq cs.length sig.length) (match c.g ins with
      |some (cnd,outs,rs)=>pick2 (cnd&&Nat.beq outs.length sig.length)
       (k (mh ((dY (outs++rs) (H3.put id .dead)).1.drop sig.length)) ((dY (outs++rs) (H3.put id .dead)).2.put id (.cells t ((dY (outs++rs) (H3.put id .dead)).1.take sig.length)))) none
      |none=>none) none
     |none=>none
    |none=>none
   |_=>none
  |_=>none
section
variable {X:cI} {cf:Nat×Nat->Ev.aN}
def zJ (X:cI) (cf:Nat×Nat->Ev.aN) (f:FuncId) (args:List AV) (M:aa) (vs:List AV) (M':aa):Prop :=
 ∀(S:Wo) (E:Mem) (ax:List Value),Rel S M E->bN X S->LV S args ax ->
  ∃S' vE E',(∃N,∀n:Nat×Nat,N<=n.1/\N<=n.2->cf n f ax E=some (vE,E'))/\(∃xs,vE=Ev.rz xs/\LV S' vs xs)/\Rel S' M' E'/\AJ S M E S' M' E'
def bh (X:cI) (cf:Nat×Nat->Ev.aN) (f:FuncId) (c:xE):Prop :=
 ∀ins outs rs,c.g ins=some (true,outs,rs) ->
  match c.ptr with
  |none=>ins.length=c.sig.length->∃vs M1,zJ X cf f (cellsIn 0 ins) (aK aa.empty ins) vs M1/\kK M1 [] vs rs
  |some (t,sig)=>outs.length=sig.length->ins.length=(sig++c.sig).length->∃vs M1 cs1,zJ X cf f (.ptr 0 0::(cellsIn 1 ins).drop sig.length) (ct t sig.length ins) vs M1/\M1.get 0=some (.cells t cs1)/\cs1.length=sig.length/\kK M1 [0] (cs1++vs) (outs++rs)
theorem P8 (t:TypeId) (cs:List AV):((⟨1,0,1,(aa.empty.push (.cells t cs)).t⟩:aa).get 0)=some (.cells t cs)/\∀j,j≠0->((⟨1,0,1,(aa.empty.push (.cells t cs)).t⟩:aa).get j)=none:=by
 obtain ⟨p1,p2,p3,p4⟩:=aa.bf aa.empty (.cells t cs)
 have e:∀j,((⟨1,0,1,(aa.empty.push (.cells t cs)).t⟩:aa).get j)=(aa.empty.push (.cells t cs)).get j:=λj=>by
  rw[aa.get_eq,aa.get_eq,p1];rfl
 refine ⟨?_,λj hj=>?_⟩
 .
  rw[e,p4];rfl
 rw[e,p4,if_neg (by show j≠0;exact hj),jM]
theorem sU:∀(rs:List bu) (M M':aa),M'.next=M.next->M'.lk=M.lk->M'.par=M.par->(aK M' rs).next=(aK M rs).next/\(aK M' rs).lk=(aK M rs).lk/\(aK M' rs).par=(aK M rs).par/\M.next<=(aK M rs).next /\
 ∀j,(j<M.next->(aK M' rs).get j=M'.get j/\(aK M rs).get j=M.get j)/\(M.next<=j->(aK M' rs).get j=(aK M rs).get j)
 |[],M,M',h1,h2,h3=>⟨h1,h2,h3,Nat.le_refl _,λj=>⟨λ_=>⟨rfl,rfl⟩,λhj=>by
  have a:M'.get j=none:=by rw[aa.get_eq,if_neg (by omega)]
  have b:M.get j=none:=by rw[aa.get_eq,if_neg (by omega)]
  show M'.get j=M.get j;rw[a,b]⟩⟩
 |.val v::rs,M,M',h1,h2,h3=>sU rs M M' h1 h2 h3
 |
  .list t e l::rs,M,M',h1,h2,h3=>by
  obtain ⟨p1,p2,p3,p4⟩:=aa.bf M (.list t e l 0 false false);obtain ⟨q1,q2,q3,q4⟩:=aa.bf M' (.list t e l 0 false false);obtain ⟨a1,a2,a3,a4,a5⟩:=sU rs (M.push (.list t e l 0 false false)) (M'.push (.list t e l 0 false false)) (by rw[p1,q1,h1]) (by rw[p2,q2,h2]) (by rw[p3,q3,h3])
  refine ⟨a1,a2,a3,by rw[p1] at a4;exact Nat.le_trans (Nat.le_succ _) a4,λj=>⟨λhj=>?_,λhj=>?_⟩⟩
  .
   obtain ⟨b1,b2⟩:=(a5 j).1 (by omega)
   exact ⟨b1.trans (by rw[q4,if_neg (by omega)]),b2.trans (by rw[p4,if_neg (by omega)])⟩
  by_cases e':j=M.next
  .
   obtain ⟨b1,b2⟩:=(a5 j).1 (by omega)
   have c1:(aK M' (.list t e l::rs)).get j=(M'.push (.list t e l 0 false false)).get j:=b1;have c2:(aK M (.list t e l::rs)).get j=(M.push (.list t e l 0 false false)).get j:=b2;rw[c1,c2,q4,p4,h1];simp only[e',if_true]
  exact (a5 j).2 (by omega)
theorem Mw {id:Nat} {t:TypeId} {cs:List AV}:∀{sig:List (Option (TypeId×Ty))} {cs0 cs1:List AV} {A B:aa},cS A sig cs0=some (cs1,B)->A.get id=some (.cells t cs)->B.get id=some (.cells t cs):=by
 have one:∀{l l':List AV} {A B:aa},fM A l=some (l',B)->A.get id=some (.cells t cs)->B.get id=some (.cells t cs):=by
  intro l
  induction l with
  |nil=>intro l' A B hf hA;simp only[fM,Option.some.injEq,Prod.mk.injEq] at hf;rw[<-hf.2];exact hA
  |
   cons v l ih =>
   intro l' A B hf hA;cases v with
   |
    own xX n1 =>
    unfold fM at hf;split at hf
    .
     rename_i t1 e1 l1 cw ex ro hgg;split at hf
     .
      rename_i r' H' C6;simp only[Option.some.injEq,Prod.mk.injEq] at hf;obtain ⟨_,rfl⟩:=hf;refine ih C6 ?_;rw[(aa.cy _ _ _).2.2.2,if_neg (λe=>by subst e;rw[hA] at hgg;cases hgg)]
      exact hA
     cases hf
    cases hf
   |
    _ =>
    simp only[fM] at hf;split at hf
    .
     rename_i r' H' C6;simp only[Option.some.injEq,Prod.mk.injEq] at hf;obtain ⟨_,rfl⟩:=hf;exact ih C6 hA
    cases hf
 intro sig
 induction sig with
 |
  nil =>
  intro cs0 cs1 A B hf hA;cases cs0 with
  |nil=>simp only[cS,Option.some.injEq,Prod.mk.injEq] at hf;rw[<-hf.2];exact hA
  |cons a l=>simp[cS] at hf
 |
  cons s sig ih =>
  intro cs0 cs1 A B hf hA;cases cs0 with
  |nil=>cases s<;>simp[cS] at hf
  |
   cons a l =>
   cases s with
   |
    none =>
    unfold cS at hf;split at hf
    .
     rename_i a' A1 hf1;split at hf
     .
      rename_i l2 A2 C6;simp only[Option.some.injEq,Prod.mk.injEq] at hf;obtain ⟨_,rfl⟩:=hf;exact ih C6 (one hf1 hA)
     cases hf
    cases hf
   |
    some q =>
    unfold cS at hf;split at hf
    .
     rename_i l2 A2 C6;simp only[Option.some.injEq,Prod.mk.injEq] at hf;obtain ⟨_,rfl⟩:=hf;exact ih C6 hA
    cases hf
theorem P9 {id:Nat} {t:TypeId} {cs:List AV}:∀{sig:List (Option (TypeId×Ty))} {l:List AV} {rr:List bu} {A B:aa},bZ A sig l=some (rr,B)->A.get id=some (.cells t cs)->B.get id=some (.cells t cs):=by
 intro sig
 induction sig with
 |
  nil =>
  intro l rr A B hf hA;cases l with
  |nil=>simp only[bZ,Option.some.injEq,Prod.mk.injEq] at hf;rw[<-hf.2];exact hA
  |cons a l=>simp[bZ] at hf
 |
  cons s sig ih =>
  intro l rr A B hf hA;cases l with
  |
   nil=>cases s with
   |none=>simp[bZ] at hf
   |some q=>obtain ⟨q1,q2⟩:=q;simp[bZ] at hf
  |
   cons a l =>
   cases s with
   |
    none =>
    unfold bZ at hf;rw[pick2_eq] at hf;split at hf
    .
     split at hf
     .
      rename_i rr' A2 C6;simp only[Option.some.injEq,Prod.mk.injEq] at hf;obtain ⟨_,rfl⟩:=hf;exact ih C6 hA
     cases hf
    cases hf
   |
    some q =>
    obtain ⟨q1,q2⟩:=q;cases a with
    |
     bK =>
     unfold bZ at hf;split at hf
     .
      rename_i rr' A2 C6;simp only[Option.some.injEq,Prod.mk.injEq] at hf;obtain ⟨_,rfl⟩:=hf;exact ih C6 hA
     cases hf
    |
     own xX n1 =>
     unfold bZ at hf;split at hf
     .
      rename_i t2 e2' l2 v2 x2 hgg;rw[pick2_eq] at hf;split at hf
      .
       split at hf
       .
        split at hf
        .
         rename_i rr' A2 C6;simp only[Option.some.injEq,Prod.mk.injEq] at hf;obtain ⟨_,rfl⟩:=hf;refine ih C6 ?_;rw[(aa.cy _ _ _).2.2.2,if_neg (λe=>by subst e;rw[hA] at hgg;cases hgg)]
         exact hA
        cases hf
       cases hf
      cases hf
     cases hf
    |_=>simp[bZ] at hf
theorem Qa {β:Type} {f:FuncId} {c:xE} (hc:bh X cf f c) {args:List AV} {H:aa} {k:AV->aa->Option β} {r:β} (h:KF c args H k=some r):∃v H',k v H'=some r/\L4 X cf f args H v H':=by
 unfold KF at h
 obtain ⟨ptr,akN,g⟩:=c
 cases ptr with
 |
  none =>
  simp only at h;split at h
  case h_2=>cases h
  rename_i args' H1 hfz;split at h
  case h_2=>cases h
  rename_i ins H2 hin;split at h
  case h_2=>cases h
  rename_i cnd o rs hg;rw[pick2_eq] at h;split at h
  case isFalse=>cases h
  rename_i hcnd;subst hcnd;refine ⟨_,_,h,λS E ax hr hgl hl=>?_⟩
  obtain ⟨S2,b1,b2,b3,b4,_⟩:=x8 hr S.le_refl (St.refl S H E) hl hfz;have hrB:Rel ⟨S2.F,λ_=>none,λ_ _=>none⟩ aa.empty E:=vJ _ E b2.fz b2.Eu
  obtain ⟨g1,g2,g2',T,f1,f2,f3,f4,f5,f6,f7,f8,f9⟩:=uo b2 (lF.refl H1) hin b4 hrB rfl rfl (λj q y hj=>by rw[jM] at hj;cases hj)
  obtain ⟨vs,M1,hrun,hres⟩:=hc ins o rs hg g2';obtain ⟨S1,vE,E',a1,⟨xs,rfl,a2⟩,a3,a4⟩:=hrun T E ax f2 (hgl.mono' λi x hx=>by rw[f4];exact b1.F i x hx) f3
  have hown:∀i,Own T (aK aa.empty ins) i->o8 S2 H1 H2 i:=λi ⟨j,q,y,k1,k2,k3,k4⟩=>by
   obtain ⟨b,_⟩:=f9 j q y (Nat.zero_le _) k1 k3;rw[k4] at b;exact b
  obtain ⟨c1,c2⟩:=Ci b2 f4 g1 hown a3 a4;have V2:H2.next=H1.next:=g1.next
  have zK:∀i,Own T (aK aa.empty ins) i->Own S2 H1 i:=λi ho=>by
   obtain ⟨j,q,z,k1,k2,k3,k4,_⟩:=hown i ho;exact ⟨j,q,z,k1,k2,k3,k4⟩
  obtain ⟨S',d1,d2,d3,d4,d5,d6,d7,d8,d9⟩:=KE (zI:=λi=>E.size<=i\/Own T (aK aa.empty ins) i) a3 (by rw[a4.LD];exact f6) hres a2 c2 rfl (λid q y hq _ hy hro=>by
   have hor:E.size<=y.1\/Own T (aK aa.empty ins) y.1:=by
    by_cases hy':y.1<E.size
    .
     exact .inr (a4.own y.1 ⟨id,q,y,hq,hro,hy,rfl⟩ hy')
    exact .inl (by omega)
   refine ⟨hor,λxY q2 z VS hz he=>?_⟩
   have hq2':=g1.get _ _ VS;rcases hor with h1|h1
   .
    obtain ⟨b,hb⟩:=b2.old hq2' hz;have:=Mem.bI hb;omega
   obtain ⟨id3,r3',z3,k1,k2,k3,k4,k5⟩:=hown _ h1;have:=b2.inj xY id3 q2 r3' z z3 hq2' k1 hz k3 (by omega)
   subst this;rw[VS] at k5;cases k5)
  rw[V2] at d5 d8 d9;have Qb:S.le S':=Wo.le_trans b1 (Wo.le_trans c1 d1);refine ⟨S',Ev.rz xs,E',a1,Qb,DG d2,d3,⟨a4.sz,a4.lk,by rw[d6,g1.lk];exact b3.LD,by rw[d7,g1.par];exact b3.y6,Qb.F,λi ho hi=>?_,λi hi=>?_,λi hi ho=>a4.keep i hi (λh1=>ho (b3.own i (zK i h1) hi)),λid hid=>?_,Nat.le_trans b3.nx d5,λid hid hlv=>?_,λid hid hn=>?_⟩⟩
  .
   obtain ⟨id,q,y,h1,h2,h3,rfl⟩:=ho;by_cases hid:id<H1.next
   .
    rw[(d8 id hid).1] at h1;rw[(d8 id hid).2] at h3;exact b3.own _ ⟨id,q,y,g1.get _ _ h1,h2,h3,rfl⟩ hi
   rcases d9 id q y (by omega) h1 h3 with h4|h4
   .
    omega
   exact b3.own _ (zK _ h4) hi
  .
   rw[d4] at hi;rcases a4.Ho i hi with h1|h1|h1
   .
    rw[f4] at h1;exact b3.Ho i h1
   .
    by_cases hsz:i<E.size
    .
     exact .inr (.inl (b3.own i (zK i h1) hsz))
    exact .inr (.inr (by omega))
   exact .inr (.inr h1)
  .
   rw[(d8 id (by have:=hr.Ia;have:=b3.nx;omega)).2];exact b3.par id hid
  .
   have hlt:id<H1.next:=by have:=b3.nx;omega
   rw[(d8 id hlt).1] at hlv
   exact b3.live id hid (λhn=>by
    cases hq:H2.get id with
    |none=>exact hlv hq
    |some q=>rw[g1.get id q hq] at hn;cases hn)
  rw[(d8 id (by have:=b3.nx;omega)).2];exact b3.rn id hid hn
 |
  some p =>
  obtain ⟨t,sig⟩:=p;simp only at h;split at h
  case h_2=>cases h
  rename_i id args;split at h
  case h_2=>cases h
  rename_i t' cs hcell;split at h
  case h_2=>cases h
  rename_i cs' H2 hfz;split at h
  case h_2=>cases h
  rename_i ins H3 hin;rw[pick2_eq] at h;split at h
  case isFalse=>cases h
  rename_i hb;simp only[Bool.and_eq_true,Nat.beq_eq] at hb;obtain ⟨⟨rfl,hmay⟩,ia⟩:=hb;split at h
  case h_2=>cases h
  rename_i cnd outs rs hg;rw[pick2_eq] at h;split at h
  case isFalse=>cases h
  rename_i hcnd;simp only[Bool.and_eq_true,Nat.beq_eq] at hcnd;obtain ⟨rfl,hol⟩:=hcnd;refine ⟨_,_,h,λS E ax hr hgl hl=>?_⟩
  obtain ⟨xp,argsE',rfl,hp,hla⟩:=hl.cons_inv
  -- the pointer's row
  obtain ⟨i0,c0,s0,bk,r1,r2,r3,r4,r5⟩:=hr.row id _ hcell;obtain ⟨S2,e1,e2,e3,e4,e5⟩:=x8 hr S.le_refl (St.refl S H E) (r3.append hla) hfz;have hρ2:S2.ρ id=some (i0,c0,s0):=e5.ρ _ _ r1;have uq:H2.get id=some (.cells t cs):=Mw hfz hcell;have hg3:H3.get id=some (.cells t cs):=P9 hin uq;have akP:i0<E.size:=fy r2;have OK:bk.cells.length=sig.length:=by rw[<-r3.1,ia]
  -- what the callee sees
  let B0:aa:=⟨1,0,1,.e⟩
  have hB0:∀j,B0.get j=none:=λj=>by
   rw[aa.get_eq];split
   .
    show (Tr.get Tr.e j).bind Row.live=none;rw[Ev.Tr.EC];rfl
   rfl
  let T0:Wo:=⟨S2.F,λj=>if j=0 then some (i0,c0,s0) else none,λ_ _=>none⟩
  have hrB:Rel T0 B0 E:=⟨e2.fz,λj x hx=>(by
   have hx:(if j=0 then some (i0,c0,s0) else none)=some x:=hx;by_cases ej:j=0
   .
    subst ej;exact Nat.zero_lt_one
   rw[if_neg ej] at hx;cases hx),λ_ _ _=>rfl,λj q hj=>(by rw[hB0] at hj;cases hj),λj j' q q' x x' hj=>(by rw[hB0] at hj;cases hj),λj q x hj=>(by rw[hB0] at hj;cases hj),λj q x hj=>(by rw[hB0] at hj;cases hj),Nat.zero_le _,Nat.le_refl _,e2.Eu⟩
  obtain ⟨g1,g2,g2',T,f1,f2,f3,f4,f5,f6,f7,f8,f9⟩:=uo e2 (lF.refl H2) hin e4 hrB rfl rfl (λj q y hj=>by rw[hB0] at hj;cases hj)
  have hT0:T.ρ 0=some (i0,c0,s0):=(f8 0 Nat.zero_lt_one).2;have f3':LV T (cellsIn 1 ins) (bk.cells++argsE'):=f3
  have f3a:LV T ((cellsIn 1 ins).take sig.length) bk.cells:=by
   have:=f3'.take sig.length;rwa[List.take_append_of_le_length (l₁:=bk.cells) (by omega),List.take_of_length_le (l:=bk.cells) (by omega)] at this
  have f3b:LV T ((cellsIn 1 ins).drop sig.length) argsE':=by
   have:=f3'.drop sig.length;rwa[List.drop_append_of_le_length (l₁:=bk.cells) (by omega),List.drop_of_length_le (l:=bk.cells) (by omega),List.nil_append] at this
  have hLI:=sU ins B0 ⟨1,0,1,(aa.empty.push (.cells t ((cellsIn 1 ins).take sig.length))).t⟩ rfl rfl rfl;obtain ⟨m1,m2,m3,m4,m5⟩:=hLI;obtain ⟨Yw,hd2⟩:=P8 t ((cellsIn 1 ins).take sig.length)
  have hM0:(ct t sig.length ins).get 0=some (.cells t ((cellsIn 1 ins).take sig.length)):=by
   have:=((m5 0).1 Nat.zero_lt_one).1;exact this.trans Yw
  have YE:∀j,j≠0->(ct t sig.length ins).get j=(aK B0 ins).get j:=λj hj=>(m5 j).2 (by show 1<=j;omega)
  have hi0:∀j q y,(aK B0 ins).get j=some q->T.ρ j=some y->j≠0->y.1≠i0:=λj q y hq hy hj he=>by
   obtain ⟨⟨xY,r2',z,k1,k2,k3,k4,k5⟩,ty⟩:=f9 j q y (by show 1<=j;omega) hq hy
   have:=e2.inj id xY _ r2' _ z uq k1 hρ2 k3 (by show i0=z.1;omega)
   subst this;rw[hg3] at k5;cases k5
  have NK:Rel T (ct t sig.length ins) E:=by
   refine ⟨f2.fz,λj x hx=>?_,λj v hj=>?_,λj q hj=>?_,λj j' q q' x x' hj hj' hx hx' he=>?_,λj q x hj hb hx=>?_,λj q x hj _ hx=>?_,?_,?_,f2.Eu⟩
   .
    show j<(ct t sig.length ins).next
    rw[show (ct t sig.length ins).next=(aK B0 ins).next from m1];exact f2.dom j x hx
   .
    rw[show (ct t sig.length ins).next=(aK B0 ins).next from m1] at hj;exact f2.A0 j v hj
   .
    by_cases ej:j=0
    .
     subst ej;rw[hM0] at hj;cases hj;exact ⟨i0,c0,s0,bk,hT0,r2,f3a,r4,r5⟩
    rw[YE j ej] at hj;exact f2.row j q hj
   .
    by_cases ej:j=0
    .
     by_cases ej':j'=0
     .
      omega
     subst ej;rw[hT0] at hx;cases hx;rw[YE j' ej'] at hj';exact absurd he.symm (hi0 j' q' x' hj' hx' ej')
    rw[YE j ej] at hj;by_cases ej':j'=0
    .
     subst ej';rw[hT0] at hx';cases hx';exact absurd he (hi0 j q x hj hx ej)
    rw[YE j' ej'] at hj';exact f2.inj j j' q q' x x' hj hj' hx hx' he
   .
    by_cases ej:j=0
    .
     subst ej;rw[hT0] at hx;cases hx;rw[f4];exact e2.sep id _ _ uq rfl hρ2
    rw[YE j ej] at hj;exact f2.sep j q x hj hb hx
   .
    by_cases ej:j=0
    .
     subst ej;rw[hT0] at hx;cases hx;exact e2.lk id _ _ uq (by rw[e3.LD];simpa[aa.ju,Nat.ble_eq] using hmay) hρ2
    rw[YE j ej] at hj;exact f2.lk j q x hj (by rw[f6];exact Nat.zero_le _) hx
   .
    show (ct t sig.length ins).lk<=_;rw[show (ct t sig.length ins).lk=(aK B0 ins).lk from m2,f6];exact Nat.zero_le _
   rw[show (ct t sig.length ins).par=(aK B0 ins).par from m3,f7,show (ct t sig.length ins).next=(aK B0 ins).next from m1];exact f5
  have hFT:T.F=S2.F:=f4
  have hlT:LV T (.ptr 0 0::(cellsIn 1 ins).drop sig.length) (xp::argsE'):=by
   cases hp with
   |
    ptr _ _ ip cp sp hρp =>
    rw[r1] at hρp;cases hρp;exact LV.cons (.ptr 0 0 _ _ _ hT0) f3b
  obtain ⟨vs,M1,cs1,hrun,hM1,ai3,hres⟩:=hc ins outs rs hg hol g2';obtain ⟨S1,vE,E',a1,⟨xs,rfl,a2⟩,a3,a4⟩:=hrun T E _ NK (hgl.mono' λi x hx=>by rw[hFT];exact e5.F i x hx) hlT
  have hρ1:S1.ρ 0=some (i0,c0,s0):=(a4.par 0 (by rw[show (ct t sig.length ins).par=(aK B0 ins).par from m3,f7];exact Nat.zero_lt_one)).trans hT0
  have Wg:lF H2 (H3.put id .dead):=g1.trans (lF.dead H3 id)
  have hown:∀i,Own T (ct t sig.length ins) i->o8 S2 H2 (H3.put id .dead) i:=λi ⟨j,q,y,k1,k2,k3,k4⟩=>by
   by_cases ej:j=0
   .
    subst ej;rw[hT0] at k3;cases k3;exact ⟨id,_,_,uq,rfl,hρ2,k4,Gn _ _⟩
   rw[YE j ej] at k1;obtain ⟨b,_⟩:=f9 j q y (by show 1<=j;omega) k1 k3
   rw[k4] at b;exact b.later (lF.dead H3 id)
  obtain ⟨c1,c2⟩:=Ci e2 hFT Wg hown a3 a4;obtain ⟨i1,c1',s1,bk1,u1,u2,u3,u4,u5⟩:=a3.row 0 _ hM1;rw[hρ1] at u1;cases u1;have V2:(H3.put id .dead).next=H2.next:=Wg.next
  have zK:∀i,Own T (ct t sig.length ins) i->Own S2 H2 i:=λi ho=>by
   obtain ⟨j,q,z,k1,k2,k3,k4,_⟩:=hown i ho;exact ⟨j,q,z,k1,k2,k3,k4⟩
  obtain ⟨S',d1,d2,d3,d4,d5,d6,d7,d8,d9⟩:=KE (zI:=λi=>(E.size<=i\/Own T (ct t sig.length ins) i)/\i≠i0) a3 (by rw[a4.LD];exact m2.trans f6) hres (u3.append a2) c2 rfl (λj q y hq hns hy hro=>by
   have hne:y.1≠i0:=λhe=>by
    have:=a3.inj j 0 q _ y _ hq hM1 hy hρ1 he;exact hns (by simp[this])
   have hor:E.size<=y.1\/Own T (ct t sig.length ins) y.1:=by
    by_cases hy':y.1<E.size
    .
     exact .inr (a4.own y.1 ⟨j,q,y,hq,hro,hy,rfl⟩ hy')
    exact .inl (by omega)
   refine ⟨⟨hor,hne⟩,λxY q2 z VS hz he=>?_⟩
   have hq2':=Wg.get _ _ VS;rcases hor with h1|h1
   .
    obtain ⟨b,hb⟩:=e2.old hq2' hz;have:=Mem.bI hb;omega
   obtain ⟨id3,r3',z3,k1,k2,k3,k4,k5⟩:=hown _ h1;have:=e2.inj xY id3 q2 r3' z z3 hq2' k1 hz k3 (by omega)
   subst this;rw[VS] at k5;cases k5)
  rw[V2] at d5 d8 d9;have ahf:id<H2.next:=aa.bI uq
  have hρ':S'.ρ id=some (i0,c0,s0):=((d8 id ahf).2).trans hρ2;have hu3:=u3.1
  have d2a:LV S' ((dY (outs++rs) (H3.put id .dead)).1.take sig.length) bk1.cells:=by
   have:=d2.take sig.length;rwa[List.take_append_of_le_length (l₁:=bk1.cells) (by omega),List.take_of_length_le (l:=bk1.cells) (by omega)] at this
  have d2b:LV S' ((dY (outs++rs) (H3.put id .dead)).1.drop sig.length) xs:=by
   have:=d2.drop sig.length;rwa[List.drop_append_of_le_length (l₁:=bk1.cells) (by omega),List.drop_of_length_le (l:=bk1.cells) (by omega),List.nil_append] at this
  have hfin:=d3.putAt (id:=id) (r:=.cells t ((dY (outs++rs) (H3.put id .dead)).1.take sig.length)) (by omega) rfl (λr' hr'=>by
   cases hr'
   exact ⟨i0,c0,s0,bk1,hρ',u2,d2a,u4,u5⟩) (λy hy=>by
    rw[hρ'] at hy;cases hy;refine ⟨λid' q z hq hne hz he=>?_,by rw[d4];exact a3.sep 0 _ _ hM1 rfl hρ1,a3.lk 0 _ _ hM1 (by rw[a4.LD,show (ct t sig.length ins).lk=(aK B0 ins).lk from m2,f6];exact Nat.zero_le _) hρ1⟩
    by_cases hlt:id'<H2.next
    .
     rw[(d8 id' hlt).1] at hq;rw[(d8 id' hlt).2] at hz;exact hne (e2.inj id' id q _ z _ (Wg.get _ _ hq) uq hz hρ2 he)
    exact (d9 id' q z (by omega) hq hz).2 he)
  obtain ⟨p1,p2,p3,p4⟩:=aa.cy (dY (outs++rs) (H3.put id .dead)).2 id (.cells t ((dY (outs++rs) (H3.put id .dead)).1.take sig.length));have Qb:S.le S':=Wo.le_trans e1 (Wo.le_trans c1 d1);refine ⟨S',Ev.rz xs,E',a1,Qb,DG d2b,hfin,⟨a4.sz,a4.lk,by rw[p2,d6,Wg.lk];exact e3.LD,by rw[p3,d7,Wg.par];exact e3.y6,Qb.F,λi ho hi=>?_,λi hi=>?_,λi hi ho=>a4.keep i hi (λh1=>ho (e3.own i (zK i h1) hi)),λj hj=>?_,?_,λj hj hlv=>?_,λj hj hn=>?_⟩⟩
  .
   obtain ⟨j,q,y,h1,h2,h3,rfl⟩:=ho;refine e3.own _ ?_ hi;rw[p4] at h1;by_cases ej:j=id
   .
    subst ej;rw[hρ'] at h3;cases h3;exact ⟨j,_,_,uq,rfl,hρ2,rfl⟩
   rw[if_neg ej] at h1;by_cases hlt:j<H2.next
   .
    rw[(d8 j hlt).1] at h1;rw[(d8 j hlt).2] at h3;exact ⟨j,q,y,Wg.get _ _ h1,h2,h3,rfl⟩
   rcases (d9 j q y (by omega) h1 h3).1 with h4|h4
   .
    omega
   exact zK _ h4
  .
   rw[d4] at hi;rcases a4.Ho i hi with h1|h1|h1
   .
    rw[hFT] at h1;exact e3.Ho i h1
   .
    by_cases hsz:i<E.size
    .
     exact .inr (.inl (e3.own i (zK i h1) hsz))
    exact .inr (.inr (by omega))
   exact .inr (.inr h1)
  .
   rw[(d8 j (by have:=hr.Ia;have:=e3.nx;omega)).2];exact e3.par j hj
  .
   rw[p1];exact Nat.le_trans e3.nx d5
  .
   rw[p4] at hlv;by_cases ej:j=id
   .
    subst ej;exact e3.live j hj (by rw[uq];simp)
   rw[if_neg ej] at hlv;have hlt:j<H2.next:=by have:=e3.nx;omega
   rw[(d8 j hlt).1] at hlv
   exact e3.live j hj (λhn=>by
    cases hq:(H3.put id .dead).get j with
    |none=>exact hlv hq
    |some q=>rw[Wg.get j q hq] at hn;cases hn)
  rw[(d8 j (by have:=e3.nx;omega)).2];exact e3.rn j hj hn
end
section
variable {X:cI}
def jy:aa->List bu->List AV->Option (List AV×aa)
 |M,[],[]=>some ([],M)
 |
  M,.val _::rs,v::vs=>match v with
  |
   .agg l=>match fM M l with
   |
    some (l',M1)=>match jy M1 rs vs with
    |some (r,M2)=>some (.agg l'::r,M2)
    |none=>none
   |none=>none
  |
   v=>match fM M [v] with
   |
    some ([v'],M1)=>match jy M1 rs vs with
    |some (r,M2)=>some (v'::r,M2)
    |none=>none
   |_=>none
 |
  M,.list _ _ _::rs,v::vs=>match jy M rs vs with
  |some (r,M2)=>some (v::r,M2)
  |none=>none
 |_,_,_=>none
theorem ur {S0:Wo} {H0:aa} {E0 E:Mem}:∀{rs:List bu} {vs vs':List AV} {M M':aa} {S:Wo} {C:List Value},Rel S M E->AJ S0 H0 E0 S M E->LV S vs C->jy M rs vs=some (vs',M')->∃S',Rel S' M' E/\AJ S0 H0 E0 S' M' E/\LV S' vs' C/\S.le S'
 |
  [],[],vs',M,M',S,C,hr,hst,hl,h=>by
  simp only[jy,Option.some.injEq,Prod.mk.injEq] at h;obtain ⟨rfl,rfl⟩:=h;exact ⟨S,hr,hst,hl,S.le_refl⟩
 |
  .val w::rs,v::vs,vs',M,M',S,C,hr,hst,hl,h=>by
  obtain ⟨x,C',rfl,h1,h2⟩:=hl.cons_inv;unfold jy at h;split at h
  .
   rename_i l;split at h
   .
    rename_i l' M1 hf;cases h1 with
    |
     agg _ m VV hm2 =>
     obtain ⟨S1,b1,b2,b3,b4,b5⟩:=jL hr S.le_refl (St.refl S M E) ⟨VV,hm2⟩ hf;split at h
     .
      rename_i r M2 hg;simp only[Option.some.injEq,Prod.mk.injEq] at h;obtain ⟨rfl,rfl⟩:=h;obtain ⟨S2,c2,c3,c4,c5⟩:=ur b2 (hst.trans b3.Oz) (h2.mono b5) hg;exact ⟨S2,c2,c3,LV.cons (.agg _ _ (b4.mono c5).1 (b4.mono c5).2) c4,Wo.le_trans b5 c5⟩
     cases h
   cases h
  split at h
  .
   rename_i v' M1 hf;obtain ⟨S1,b1,b2,b3,b4,b5⟩:=jL hr S.le_refl (St.refl S M E) (LV.cons h1 LV.nil) hf;obtain ⟨x',_,e,b6,_⟩:=b4.cons_inv;cases e;split at h
   .
    rename_i r M2 hg;simp only[Option.some.injEq,Prod.mk.injEq] at h;obtain ⟨rfl,rfl⟩:=h;obtain ⟨S2,c2,c3,c4,c5⟩:=ur b2 (hst.trans b3.Oz) (h2.mono b5) hg;exact ⟨S2,c2,c3,LV.cons (b6.mono c5) c4,Wo.le_trans b5 c5⟩
   cases h
  cases h
 |
  .list t e l::rs,v::vs,vs',M,M',S,C,hr,hst,hl,h=>by
  obtain ⟨x,C',rfl,h1,h2⟩:=hl.cons_inv;unfold jy at h;split at h
  .
   rename_i r M2 hg;simp only[Option.some.injEq,Prod.mk.injEq] at h;obtain ⟨rfl,rfl⟩:=h;obtain ⟨S2,c2,c3,c4,c5⟩:=ur hr hst h2 hg;exact ⟨S2,c2,c3,LV.cons (h1.mono c5) c4,c5⟩
  cases h
 |[],_::_,_,_,_,_,_,_,_,_,h=>by simp[jy] at h
 |.val _::_,[],_,_,_,_,_,_,_,_,h=>by simp[jy] at h
 |.list _ _ _::_,[],_,_,_,_,_,_,_,_,h=>by simp[jy] at h
theorem kH {γ:Type} {kn:Ev.bP} {id:FuncId} (hk:∀args,kn id args=none) {call:aT γ} (hcall:aV X (aY X kn) call) {an:bG} {rounds:Nat} {args:List AV} {M:aa} {obs:AV->aa->Option γ} {r:γ}
 (h:ag X call an rounds id args M obs=some r):∃v M1,obs v M1=some r/\∀vs,v=mh vs->zJ X (aY X kn) id args M vs M1:=by
 obtain ⟨v,M1,h1,h2⟩:=iy (nf:=false) hcall (λh=>by cases h) h
 refine ⟨v,M1,h1,λvs hv=>?_⟩
 subst hv
 intro S E ax hr hg hl
 obtain ⟨S',vE,E',a1,a2,a3,a4,_⟩:=h2 S E ax hr hg hl
 obtain ⟨xs,rfl,hx⟩:=xZ a2
 exact ⟨S',_,E',dX hk a1,⟨xs,rfl,hx⟩,a3,a4⟩
theorem zJ.YF {cf:Nat×Nat->Ev.aN} {id:FuncId} {args vs vs':List AV} {M M1 M2:aa} {rs:List bu} (h:zJ X cf id args M vs M1) (hs:jy M1 rs vs=some (vs',M2)):zJ X cf id args M vs' M2:=by
 intro S E ax hr hg hl
 obtain ⟨S',vE,E',a1,⟨xs,rfl,a2⟩,a3,a4⟩:=h S E ax hr hg hl
 obtain ⟨S2,b1,b2,b3,b4⟩:=ur a3 a4 a2 hs
 exact ⟨S2,_,E',a1,⟨xs,rfl,b3⟩,b1,b2⟩
abbrev KTN:=FuncId->Option xE
def Qc (X:cI) (K:TD) (KN:KTN) (inl:FuncId->Bool) (rounds:Nat) (β:Type):Nat->aT β :=
 λn=>Nat.rec (motive:=λ_=>aT β) (λ_ _ _ _=>none)
  (λ_ go id args H k=>pick2 (X.kl id) (B2 X args H k) (match K id with
   |some (sig,g)=>qV sig g args H k
   |
    none=>match KN id with
    |some c=>KF c args H k
    |none=>pick2 (inl id) (ag X go ⟨.none,.none,X.trs id⟩ rounds id args H k) none)) n
theorem Qd {kn:Ev.bP} {K:TD} {KN:KTN} {inl:FuncId->Bool} (hK:∀id sig g,K id=some (sig,g)->aO X (aY X kn) id g) (hN:∀id c,KN id=some c->bh X (aY X kn) id c) (hi:∀id,inl id=true->∀args,kn id args=none) (rounds:Nat) (n:Nat) (β:Type) (hkl:acJ X kn:=by exact λ_ h=>Bool.noConfusion (show false=true from h)):aV X (aY X kn) (Qc X K KN inl rounds β n):=by
 induction n with
 |zero=>exact λf args H k r h=>by cases h
 |
  succ n ih =>
  intro f args H k r h
  have h:pick2 (X.kl f) (B2 X args H k) (match K f with
   |some (sig,g)=>qV sig g args H k
   |
    none=>match KN f with
    |some c=>KF c args H k
    |none=>pick2 (inl f) (ag X (Qc X K KN inl rounds β n) ⟨.none,.none,X.trs f⟩ rounds f args H k) none)=some r:=h
  rw[pick2_eq] at h;split at h
  .
   rename_i hf;exact FU (hkl f hf) h
  split at h
  .
   rename_i sig g hk;exact zk (hK f sig g hk) h
  split at h
  .
   rename_i c hc;exact Qa (hN f c hc) h
  rw[pick2_eq] at h;split at h
  .
   rename_i hin;obtain ⟨v,H',h1,h2⟩:=iy (nf:=true) ih (λ_=>⟨rfl,rfl⟩) h
   refine ⟨v,H',h1,λS E ax hr hg hl=>?_⟩
   obtain ⟨S',vE,E',a1,a2,a3,a4,a5⟩:=h2 S E ax hr hg hl;exact ⟨S',vE,E',dX (hi f hin) a1,(a5 rfl).1,a2,a3,(a5 rfl).2⟩
  cases h
abbrev gJ:=FuncId×xE
def YG (l:List gJ):KTN:=λf=>List.rec (motive:=λ_=>Option xE) none (λe _ r=>pick2 (Nat.beq f e.1) (some e.2) r) l
def bS (X:cI) (cf:Nat×Nat->Ev.aN) (l:List gJ):Prop:=∀id c,YG l id=some c->bh X cf id c
theorem bS.nil {cf:Nat×Nat->Ev.aN}:bS X cf []:=λ_ _ h=>by cases h
theorem bS.cons {cf:Nat×Nat->Ev.aN} {f:FuncId} {c:xE} {l:List gJ} (h:bh X cf f c) (t:bS X cf l):bS X cf ((f,c)::l):=λid c' hk=>by
 have hk2:pick2 (Nat.beq id f) (some c) (YG l id)=some c':=hk
 clear hk
 rw[pick2_eq] at hk2
 split at hk2
 .
  rename_i hf;obtain rfl:=Nat.eq_of_beq_eq_true hf;have SF:c=c':=Option.some.inj hk2;subst SF;exact h
 exact t id c' hk2
end
end
end Go.Tv

namespace Go.Tv
open Go.Ev (Tr pick2 Leave Mem Blk alive pick2_eq alive_some)
noncomputable section
def Uj:Option Ty->AV->AV
 |some e,.bK=>.bF e []
 |_,v=>v
def uz:List (Option Ty)->List AV->List AV
 |s::sg,v::l=>Uj s v::uz sg l
 |_,l=>l
def YR (sg:List (Option Ty)):AV->AV
 |.agg l=>.agg (uz sg l)
 |
  v=>match sg with
  |[s]=>Uj s v
  |_=>v
def og:List (List (Option Ty))->List AV->List AV
 |s::sg,v::l=>YR s v::og sg l
 |_,l=>l
theorem KO {S:Wo} {v:AV} {x:Value} (s:Option Ty) (h:VR S v x):VR S (Uj s v) x:=by
 unfold Uj
 split
 .
  cases h;exact .bF _ _ _ (.inl ⟨rfl,.inl rfl⟩)
 exact h
theorem zZ {S:Wo}:∀(sg:List (Option Ty)) {l:List AV} {m:List Value},LV S l m->LV S (uz sg l) m
 |[],l,m,h=>by cases l<;>exact h
 |s::sg,[],m,h=>h
 |
  s::sg,v::l,m,h=>by
  obtain ⟨x,m',rfl,h1,h2⟩:=h.cons_inv;exact LV.cons (KO s h1) (zZ sg h2)
theorem Uk {S:Wo} {v:AV} {x:Value} (sg:List (Option Ty)) (h:VR S v x):VR S (YR sg v) x:=by
 unfold YR
 split
 .
  rename_i l;cases h with
  |
   agg _ m hl hv =>
   obtain ⟨h1,h2⟩:=zZ sg (S:=S) (l:=l) (m:=m) ⟨hl,hv⟩;exact .agg _ m h1 h2
 split
 .
  exact KO _ h
 exact h
theorem z6 {S:Wo}:∀(sg:List (List (Option Ty))) {l:List AV} {m:List Value},LV S l m->LV S (og sg l) m
 |[],l,m,h=>by cases l<;>exact h
 |s::sg,[],m,h=>h
 |
  s::sg,v::l,m,h=>by
  obtain ⟨x,m',rfl,h1,h2⟩:=h.cons_inv;exact LV.cons (Uk s h1) (z6 sg h2)
def Gw:Nat->AV->Option (List AV)
 |1,v=>some [v]
 |_,.cB l=>some l
 |_,_=>none
def gM (sg:List (List (Option Ty))) (v:AV) (H:aa):Option (List AV) :=
 match Gw sg.length v with
 |
  some vs=>match jy H (sg.map λ_=>.val .iC) vs with
  |some (ws,_)=>some (og sg ws)
  |none=>none
 |none=>none
section
variable {X:cI}
theorem sY {n:Nat} {v:AV} {vs:List AV} (h:Gw n v=some vs) (hl:vs.length=n):v=mh vs:=by
 unfold Gw at h
 split at h
 .
  cases h;rfl
 .
  rename_i l _;cases h
  match vs,hl with
  |[],_=>rfl
  |[x],hl=>rename_i hne;exact absurd hl.symm hne
  |x::y::l,_=>rfl
 cases h
theorem qZ:∀{rs:List bu} {vs vs':List AV} {M M':aa},jy M rs vs=some (vs',M')->vs.length=rs.length
 |[],[],_,_,_,_=>rfl
 |[],_::_,_,_,_,h=>by simp[jy] at h
 |.val _::_,[],_,_,_,h=>by simp[jy] at h
 |.list _ _ _::_,[],_,_,_,h=>by simp[jy] at h
 |
  .list _ _ _::rs,v::vs,vs',M,M',h=>by
  unfold jy at h;split at h
  .
   rename_i r M2 hs;simp[qZ hs]
  cases h
 |
  .val _::rs,v::vs,vs',M,M',h=>by
  unfold jy at h;split at h
  .
   split at h
   .
    split at h
    .
     rename_i r M2 hs;simp[qZ hs]
    cases h
   cases h
  split at h
  .
   split at h
   .
    rename_i r M2 hs;simp[qZ hs]
   cases h
  cases h
theorem Cq {kn:Ev.bP} {id:FuncId} (hk:∀args,kn id args=none) {call:aT (List AV)} (hcall:aV X (aY X kn) call) {an:bG} {rounds:Nat} {args:List AV} {M:aa} {sg:List (List (Option Ty))} {ws:List AV}
 (h:ag X call an rounds id args M (gM sg)=some ws):∃M1,zJ X (aY X kn) id args M ws M1:=by
 obtain ⟨v,M1,h1,h2⟩:=kH hk hcall h
 unfold gM at h1
 split at h1
 case h_2=>cases h1
 rename_i vs hu
 split at h1
 case h_2=>cases h1
 rename_i ws1 M2 hs
 cases h1
 have hl:=qZ hs
 rw[List.length_map] at hl
 have hrun:=(h2 vs (sY hu hl)).YF hs
 refine ⟨M2,λS E ax hr hg hl=>?_⟩
 obtain ⟨S',vE,E',a1,⟨xs,rfl,a2⟩,a3,a4⟩:=hrun S E ax hr hg hl
 exact ⟨S',_,E',a1,⟨xs,rfl,z6 sg a2⟩,a3,a4⟩
theorem qx {M:aa}:∀{ws:List AV} {seen:List Nat},ws.all A8=true->kK M seen ws (ws.map .val)
 |[],_,_=>trivial
 |
  w::ws,seen,h=>by
  simp only[List.all_cons,Bool.and_eq_true] at h;exact ⟨rfl,h.1,qx h.2⟩
theorem QG {kn:Ev.bP} {id:FuncId} (hk:∀args,kn id args=none) {call:∀ β,aT β} (hcall:∀ β,aV X (aY X kn) (call β)) {sig:List (Option (TypeId×Ty))} {g:List bu->Option (Bool×List bu×List bu)} (sg:List (List (Option Ty)))
 (h:∀ins outs rs,g ins=some (true,outs,rs)->∃an rounds ws,ag X (call (List AV)) an rounds id (cellsIn 0 ins) (aK aa.empty ins) (gM sg)=some ws/\rs=ws.map .val/\ws.all A8=true):bh X (aY X kn) id ⟨none,sig,g⟩:=by
 intro ins outs rs hg
 obtain ⟨an,rounds,ws,h1,rfl,h3⟩:=h ins outs rs hg
 intro _
 obtain ⟨M1,h4⟩:=Cq hk (hcall _) h1
 exact ⟨ws,M1,h4,qx h3⟩
def fD (M:aa):List Nat->List (Option (TypeId×Ty))->List AV->Option (List bu×List Nat)
 |_,[],[]=>some ([],[])
 |
  seen,none::sig,a::cs=>pick2 (A8 a) (match fD M seen sig cs with
  |some (r,ns)=>some (.val a::r,ns)
  |none=>none) none
 |
  seen,some (t,e)::sig,.bK::cs=>match fD M seen sig cs with
  |some (r,ns)=>some (.list t e []::r,0::ns)
  |none=>none
 |
  seen,some (t,e)::sig,.own id n::cs=>match M.get id with
  |
   some (.list t' e' l _ _ false)=>pick2 (Nat.beq t' t && !seen.any (Nat.beq id)) (match eP e' e l with
   |
    some l'=>match fD M (id::seen) sig cs with
    |some (r,ns)=>some (.list t e l'::r,n::ns)
    |none=>none
   |none=>none) none
  |_=>none
 |_,_,_=>none
def qy:List bu->List Nat
 |[]=>[]
 |.val _::rs=>qy rs
 |.list _ _ l::rs=>l.length::qy rs
theorem qz {M:aa}:∀{sig:List (Option (TypeId×Ty))} {cs:List AV} {seen:List Nat} {rs:List bu} {ns:List Nat},fD M seen sig cs=some (rs,ns)->ns=qy rs->kK M seen cs rs/\cs.length=sig.length
 |
  [],[],seen,rs,ns,h,_=>by
  simp only[fD,Option.some.injEq,Prod.mk.injEq] at h;obtain ⟨rfl,rfl⟩:=h;exact ⟨trivial,rfl⟩
 |[],_::_,_,_,_,h,_=>by simp[fD] at h
 |none::_,[],_,_,_,h,_=>by simp[fD] at h
 |some _::_,[],_,_,_,h,_=>by simp[fD] at h
 |
  none::sig,a::cs,seen,rs,ns,h,hn=>by
  unfold fD at h;rw[pick2_eq] at h;split at h
  .
   rename_i hf;split at h
   .
    rename_i r ns' ho;cases h;obtain ⟨h1,h2⟩:=qz ho hn;exact ⟨⟨rfl,hf,h1⟩,by simp[h2]⟩
   cases h
  cases h
 |
  some (t,e)::sig,a::cs,seen,rs,ns,h,hn=>by
  unfold fD at h;split at h
  .
   simp at *
  .
   simp at *
  .
   rename_i q1 q2;split at h
   .
    rename_i r ns' ho;cases h;cases q1;cases q2;obtain ⟨h1,h2⟩:=qz ho (List.cons.inj hn).2;exact ⟨.inr ⟨rfl,rfl,h1⟩,by simp[h2]⟩
   cases h
  .
   rename_i id n _ q1 q2;split at h
   .
    rename_i t' e' l cw ex hg;rw[pick2_eq] at h;split at h
    .
     rename_i hc;simp only[Bool.and_eq_true,Bool.not_eq_true'] at hc;obtain ⟨ht,ad3⟩:=hc;obtain rfl:=Nat.eq_of_beq_eq_true ht;split at h
     .
      rename_i l' hl;obtain ⟨rfl,AF⟩:=aS hl;have AF:l=l':=AF;subst AF;split at h
      .
       rename_i r ns' ho;cases h;cases q1;cases q2;obtain ⟨h1,h2⟩:=qz ho (List.cons.inj hn).2;have hlen:=(List.cons.inj hn).1;refine ⟨.inl ⟨id,cw,ex,by rw[hlen],hg,λhm=>?_,h1⟩,by simp[h2]⟩
       exact absurd (List.any_eq_true.2 ⟨id,hm,Nat.beq_refl id⟩) (by rw[ad3];exact Bool.false_ne_true)
      cases h
     cases h
    cases h
   cases h
  cases h
def YS (t:TypeId) (sig:List (Option (TypeId×Ty))) (mK:List (Option (TypeId×Ty))) (v:AV) (H:aa):Option (List bu×List Nat) :=
 match H.get 0 with
 |
  some (.cells t' cs)=>pick2 (Nat.beq t' t&&Nat.beq cs.length sig.length) (match Gw mK.length v with
  |some vs=>fD H [0] (sig++mK) (cs++vs)
  |none=>none) none
 |_=>none
theorem Ul {kn:Ev.bP} {id:FuncId} (hk:∀args,kn id args=none) {call:∀ β,aT β} (hcall:∀ β,aV X (aY X kn) (call β)) {t:TypeId} {sig Bb mK:List (Option (TypeId×Ty))} {g:List bu->Option (Bool×List bu×List bu)}
 (h:∀ins outs rs,g ins=some (true,outs,rs)->ins.length=(sig++Bb).length->∃an rounds ns,ag X (call _) an rounds id (.ptr 0 0::(cellsIn 1 ins).drop sig.length) (ct t sig.length ins) (YS t sig mK)=some (outs++rs,ns)/\ns=qy (outs++rs)):bh X (aY X kn) id ⟨some (t,sig),Bb,g⟩:=by
 intro ins outs rs hg _ hil
 obtain ⟨an,rounds,ns,h1,h2⟩:=h ins outs rs hg hil
 obtain ⟨v,M1,h3,h4⟩:=kH hk (hcall _) h1
 unfold YS at h3
 split at h3
 case h_2=>cases h3
 rename_i t' cs Km
 rw[pick2_eq] at h3
 split at h3
 case isFalse=>cases h3
 rename_i hc
 rw[Bool.and_eq_true,Nat.beq_eq,Nat.beq_eq] at hc
 obtain ⟨rfl,ia⟩:=hc
 split at h3
 case h_2=>cases h3
 rename_i vs hu
 obtain ⟨k1,k2⟩:=qz h3 h2
 have hvl:vs.length=mK.length:=by
  simp only[List.length_append] at k2;omega
 exact ⟨vs,M1,cs,h4 vs (sY hu hvl),Km,ia,k1⟩
def KP (t:TypeId) (rg:List (Option Ty)) (sig:List (Option (TypeId×Ty))) (mK:List (Option (TypeId×Ty))) (v:AV) (H:aa):Option (List bu×List Nat) :=
 match H.get 0 with
 |
  some (.cells t' cs)=>pick2 (Nat.beq t' t&&Nat.beq (uz rg cs).length sig.length) (match Gw mK.length v with
  |some vs=>fD H [0] (sig++mK) (uz rg cs++vs)
  |none=>none) none
 |_=>none
theorem I5 {M:aa} {r:Row} {vs:List AV} {rs:List bu}:∀{seen:List Nat},0∈seen->kK M seen vs rs->kK (M.put 0 r) seen vs rs:=by
 induction vs generalizing rs with
 |
  nil =>
  intro seen hs h;cases rs with
  |nil=>trivial
  |cons q rs=>cases q<;>exact h
 |
  cons v vs ih =>
  intro seen hs h;cases rs with
  |nil=>exact h
  |
   cons q rs =>
   cases q with
   |val w=>exact ⟨h.1,h.2.1,ih hs h.2.2⟩
   |
    list t e l =>
    rcases h with ⟨id,cw,ex,h1,h2,h3,h4⟩|⟨h1,h2,h3⟩
    .
     refine .inl ⟨id,cw,ex,h1,?_,h3,ih (List.mem_cons_of_mem _ hs) h4⟩;rw[(aa.cy M 0 r).2.2.2 id,if_neg (λhe=>h3 (by rw[he];exact hs))]
     exact h2
    exact .inr ⟨h1,h2,ih hs h3⟩
theorem zJ.ad4 {cf:Nat×Nat->Ev.aN} {id:FuncId} {args vs:List AV} {M M1:aa} {t:TypeId} {cs:List AV} (rg:List (Option Ty)) (h:zJ X cf id args M vs M1) (hg:M1.get 0=some (.cells t cs)):zJ X cf id args M vs (M1.put 0 (.cells t (uz rg cs))):=by
 intro S E ax hr hgl hl
 obtain ⟨S',vE,E',a1,a2,a3,a4⟩:=h S E ax hr hgl hl
 obtain ⟨i,c,s,b,r1,r2,r3,r4,r5⟩:=a3.row 0 _ hg
 obtain ⟨m1,m2⟩:=a3.mod (S':=S') (E':=E') (r':=.cells t (uz rg cs)) hg rfl S'.le_refl rfl (λ_ _ _=>rfl) rfl rfl (λj hj=>rfl) (λj cs h=>.inl h) (λq hq=>by
  cases hq;exact ⟨i,c,s,b,r1,r2,zZ rg r3,r4,r5⟩)
 exact ⟨S',vE,E',a1,a2,m1,a4.trans m2.Oz⟩
theorem Gx {kn:Ev.bP} {id:FuncId} (hk:∀args,kn id args=none) {call:∀ β,aT β} (hcall:∀ β,aV X (aY X kn) (call β)) {t:TypeId} (rg:List (Option Ty)) {sig Bb mK:List (Option (TypeId×Ty))} {g:List bu->Option (Bool×List bu×List bu)}
 (h:∀ins outs rs,g ins=some (true,outs,rs)->ins.length=(sig++Bb).length->∃an rounds ns,ag X (call _) an rounds id (.ptr 0 0::(cellsIn 1 ins).drop sig.length) (ct t sig.length ins) (KP t rg sig mK)=some (outs++rs,ns)/\ns=qy (outs++rs)):bh X (aY X kn) id ⟨some (t,sig),Bb,g⟩:=by
 intro ins outs rs hg _ hil
 obtain ⟨an,rounds,ns,h1,h2⟩:=h ins outs rs hg hil
 obtain ⟨v,M1,h3,h4⟩:=kH hk (hcall _) h1
 unfold KP at h3
 split at h3
 case h_2=>cases h3
 rename_i t' cs Km
 rw[pick2_eq] at h3
 split at h3
 case isFalse=>cases h3
 rename_i hc
 rw[Bool.and_eq_true,Nat.beq_eq,Nat.beq_eq] at hc
 obtain ⟨rfl,ia⟩:=hc
 split at h3
 case h_2=>cases h3
 rename_i vs hu
 obtain ⟨k1,k2⟩:=qz h3 h2
 have hvl:vs.length=mK.length:=by
  simp only[List.length_append] at k2;omega
 have hlt:0<M1.next:=by
  rw[aa.get_eq] at Km;split at Km
  .
   assumption
  cases Km
 refine ⟨vs,M1.put 0 (.cells t' (uz rg cs)),uz rg cs,(h4 vs (sY hu hvl)).ad4 rg Km,?_,ia,I5 (by simp) k1⟩
 rw[(aa.cy M1 0 _).2.2.2 0,if_pos rfl,if_pos hlt];rfl
end
end
end Go.Tv

namespace Go.Tv
open Go.Ev (VRel)
open Go.WideShapes Go.Deep Go.RowKit
def sv:Value->Value
 |.slice (some _) 0 0=>Ev.vd
 |v=>v
theorem Eo {v:Value} (h:∀a,v ≠ .slice (some a) 0 0):sv v=v:=by
 unfold sv
 split
 .
  exact absurd rfl (h _)
 rfl
def Gc (w:World) (v:Value):Prop:=VRel (FQ w.heap.size) v v\/∃a,v = .slice (some a) 0 0
theorem Gc.rel {w:World} {v:Value} (h:Gc w v):VRel (FQ w.heap.size) (sv v) v:=by
 by_cases hv:∃a,v = .slice (some a) 0 0
 .
  obtain ⟨a,rfl⟩:=hv;exact .void a
 rcases h with h|h
 .
  rw[Eo λa e=>hv ⟨a,e⟩];exact h
 exact absurd h hv
theorem VH {w:World} {i:Nat} {C:Array Value} {t:TypeId} {fr:Nat×Nat} (h:w.heap[i]? = some (.cells C t fr)):∃cs,(iL w).F i=some cs/\cs.length=C.size/\∀(j:Nat) v,C[j]? = some v->Gc w v->cs[j]? = some (sv v):=by
 obtain ⟨cs,h1,h2,h3,h4⟩:=Ik h
 refine ⟨cs,h1,h2,λj v hv hg=>?_⟩
 by_cases hn:∃a,v = .slice (some a) 0 0
 .
  obtain ⟨a,rfl⟩:=hn;exact h4 j a hv
 rw[Eo λa e=>hn ⟨a,e⟩]
 rcases hg with hg|hg
 .
  exact h3 j v hv hg λa e=>hn ⟨a,e⟩
 exact absurd hg hn
def aff (P:Program) (g:Ty->Bool) (u:TypeId):Ty->Bool
 |.sl e=>Nat.beq (P.cellsOf u) e.size&&Nat.ble 1 e.size&&g e
 |_=>false
def th (P:Program):Nat->TypeId->Ty->Bool
 |0,_,_=>false
 |
  d+1,t,e=>match P.underlying t with
  |some (.int k)=>IQ k e
  |some .bool=>DT e
  |some .string=>IU e
  |some (.struct fs)=>Nat.beq (P.cellsOf t) e.size&&qq P (th P d) 0 fs.toList e
  |some (.slice u)=>aff P (th P d u) u e
  |_=>false
def uO:(e:Ty)->e.den->Prop
 |.int k,n=>(Lit.int k n).wf=true
 |.str,s=>List.length s<=maxLen
 |.pair a b,x=>uO a x.1/\uO b x.2
 |.sl e,l=>List.length l<=maxLen/\∀y∈l,uO e y
 |.bool,_=>True
 |.kV,_=>True
 |.unit,_=>True
variable {H:Type} {enc:TypeId×Value->H} {P:Program} {w:World} {base:Nat} {held:Bool}
theorem JL {F:Nat->Option (List Value)} {fuel:Nat} {g:TypeId->Ty->Bool} {Q:Value->Prop} (hg:∀t e cs x,g t e=true->DataW.trod enc P w base (λ_=>true) held fuel t cs=some x->∃y,CR F e y (cs.map sv)/\uO e y/\∀v∈cs,Q v) {cs:List Value} :
 ∀(fs:List Field) (off:Nat) (e:Ty),qq P g off fs e=true->(∀f∈fs,∃x,DataW.trod enc P w base (λ_=>true) held fuel f.type ((cs.drop f.offset).take (P.cellsOf f.type))=some x)->cs.length=off+e.size ->
 ∃y,CR F e y ((cs.drop off).map sv)/\uO e y/\∀v∈cs.drop off,Q v:=by
 intro fs
 induction fs with
 |nil=>intro off e h;cases e<;>cases h
 |
  cons f fs ih =>
  intro off e h hx hl
  match fs,e,h with
  |
   [],e,h =>
   have h:(Nat.beq f.offset off&&Nat.beq (P.cellsOf f.type) e.size&&g f.type e)=true:=by cases e<;>exact h
   simp only[Bool.and_eq_true,Nat.beq_eq] at h;obtain ⟨⟨h1,h2⟩,h3⟩:=h;obtain ⟨x,h4⟩:=hx f (List.mem_cons_self ..);rw[h1,h2,List.take_of_length_le (by rw[List.length_drop];omega)] at h4
   exact hg _ _ _ _ h3 h4
  |
   f'::fs,.pair a b,h =>
   have h:(Nat.beq f.offset off&&Nat.beq (P.cellsOf f.type) a.size&&g f.type a&&qq P g (off+a.size) (f'::fs) b)=true:=h;simp only[Bool.and_eq_true,Nat.beq_eq] at h;obtain ⟨⟨⟨h1,h2⟩,h3⟩,h5⟩:=h;obtain ⟨x,h4⟩:=hx f (List.mem_cons_self ..);rw[h1,h2] at h4;obtain ⟨y,k1,k2,k0⟩:=hg _ _ _ _ h3 h4;have hs:(Ty.pair a b).size=a.size+b.size:=rfl;obtain ⟨z,k3,k4,k5⟩:=ih (off+a.size) b h5 (λf hf=>hx f (List.mem_cons_of_mem _ hf)) (by omega)
   have hsp:(cs.drop off).take a.size++cs.drop (off+a.size)=cs.drop off:=by rw[<-List.drop_drop,List.take_append_drop]
   refine ⟨(y,z),⟨((cs.drop off).take a.size).map sv,(cs.drop (off+a.size)).map sv,?_,k1,k3⟩,⟨k2,k4⟩,λv hv=>?_⟩
   .
    rw[<-List.map_append,hsp]
   rw[<-hsp] at hv;exact (List.mem_append.1 hv).elim (k0 v) (k5 v)
  |_::_,.int _,h=>cases h
  |_::_,.bool,h=>cases h
  |_::_,.str,h=>cases h
  |_::_,.kV,h=>cases h
  |_::_,.unit,h=>cases h
  |_::_,.sl _,h=>cases h
theorem Hh {F:Nat->Option (List Value)} {e:Ty} {s:Nat}:∀(len:Nat) (cells:List Value),cells.length=len*s->(∀i,i<len->∃y,CR F e y ((cells.drop (i*s)).take s)/\uO e y) ->
 ∃l:List e.den,l.length=len/\fN (CR F e) l cells/\∀y∈l,uO e y
 |0,cells,hl,_=>⟨[],rfl,List.length_eq_zero_iff.1 (by simpa using hl),λy hy=>by cases hy⟩
 |
  len+1,cells,hl,h=>by
  obtain ⟨y,h1,h2⟩:=h 0 (Nat.succ_pos _);rw[Nat.zero_mul,List.drop_zero] at h1
  obtain ⟨l,k1,k2,k3⟩:=Hh (F:=F) (e:=e) (s:=s) len (cells.drop s) (by rw[List.length_drop,hl,Nat.succ_mul];omega) (λi hi=>by
   have:=h (i+1) (by omega)
   rw[List.drop_drop];rw[Nat.succ_mul,Nat.add_comm] at this;exact this)
  refine ⟨y::l,by rw[List.length_cons,k1],⟨_,_,(List.take_append_drop s cells).symm,h1,k2⟩,λz hz=>?_⟩
  rcases List.mem_cons.1 hz with rfl|hz
  .
   exact h2
  exact k3 z hz
theorem Ep:∀(d:Nat) (fuel:Nat) (t:TypeId) (e:Ty) (cs:List Value) (x:DataW H×List MemPlace),th P d t e=true->DataW.trod enc P w base (λ_=>true) held fuel t cs=some x->∃y,CR (iL w).F e y (cs.map sv)/\uO e y/\∀v∈cs,Gc w v
 |0,_,_,_,_,_,h,_=>by cases h
 |
  d+1,fuel,t,e,cs,x,h,hx=>by
  have one:∀{u:Value},VRel (FQ w.heap.size) u u->∀v∈[u],Gc w v:=λhu v hv=>by rw[List.mem_singleton.1 hv];exact .inl hu
  rw[th] at h;split at h
  .
   rename_i k hk;obtain rfl:=Gp h;obtain ⟨n,rfl,_,hw⟩:=DataW.trod_int hk hx;exact ⟨n,rfl,hw,one (.int _ _)⟩
  .
   rename_i hk;obtain rfl:=DU h;obtain ⟨b,rfl,_⟩:=DataW.trod_bool hk hx;exact ⟨b,rfl,trivial,one (.bool _)⟩
  .
   rename_i hk;obtain rfl:=Gq h;obtain ⟨s,rfl,_,hw⟩:=DataW.trod_string hk hx;refine ⟨s.data.toList,?_,?_,one (.string _)⟩
   .
    show [Value.string s]=[.string ⟨s.data.toList.toArray⟩];obtain ⟨a⟩:=s;simp
   show s.data.toList.length<=maxLen
   simpa using hw
  .
   rename_i fs hk;simp only[Bool.and_eq_true,Nat.beq_eq] at h;obtain ⟨xs,n,_,_,hl,hlx,hm⟩:=DataW.trod_struct hk hx
   have hm:∀f∈fs.toList,∃x,DataW.trod enc P w base (λ_=>true) held n f.type ((cs.drop f.offset).take (P.cellsOf f.type))=some x:=λf hf=>by
    obtain ⟨i,hi⟩:=List.getElem?_of_mem hf;have hi':fs[i]? = some f:=by simpa using hi
    have hlt:i<xs.length:=by rw[hlx];exact (Array.getElem?_eq_some_iff.1 hi').1
    exact ⟨xs[i],(hm i f hi').trans (List.getElem?_eq_getElem hlt)⟩
   obtain ⟨y,h1,h2,h3⟩:=JL (F:=(iL w).F) (g:=th P d) (Q:=Gc w) (λt e cs x h hx=>Ep d n t e cs x h hx) fs.toList 0 e h.2 hm (by omega)
   exact ⟨y,by simpa using h1,h2,by simpa using h3⟩
  .
   rename_i u hk
   match e,h with
   |
    .sl ty,h =>
    have h:(Nat.beq (P.cellsOf u) ty.size&&Nat.ble 1 ty.size&&th P d u ty)=true:=h;simp only[Bool.and_eq_true,Nat.beq_eq] at h;obtain ⟨⟨hs,hp1⟩,hd⟩:=h;have hp1:=Nat.le_of_ble_eq_true hp1;rcases open_slice hk hx with ⟨rfl,_⟩|⟨a,len,cap,m,n,D,Pl,rfl,_,hl,hm,hmm,_,hx⟩
    .
     exact ⟨[],⟨_,rfl,.inl ⟨rfl,.inl rfl⟩⟩,⟨Nat.zero_le _,λy hy=>by cases hy⟩,one (.eB _ _)⟩
    have hmm:m=cap:=hmm;rcases Nat.eq_zero_or_pos cap with h0|hp
    .
     have X3:len=0:=by omega
     subst h0;subst X3;exact ⟨[],⟨_,rfl,.inl ⟨rfl,.inr rfl⟩⟩,⟨Nat.zero_le _,λy hy=>by cases hy⟩,λv hv=>by rw[List.mem_singleton.1 hv];exact .inr ⟨a,rfl⟩⟩
    have hcell:∃v,w.cell? a=some v:=by
     obtain ⟨cs',k1,_⟩:=hx 0 (by omega)
     obtain ⟨_,k2,k3⟩:=World.cells?_some k1;have k4:=k3 0 (by omega)
     have e0:(a.add (0*P.cellsOf u)).add 0=a:=by unfold Addr.add;simp
     rw[e0] at k4;exact ⟨cs'[0]'(by omega),by rw[k4];exact List.getElem?_eq_getElem _⟩
    obtain ⟨v0,hv0⟩:=hcell;unfold World.cell? at hv0;split at hv0
    case h_2=>cases hv0
    rename_i C te fr hC;split at hv0
    .
     cases hv0
    rename_i hsp;have hsp:a.spot=none:=by simpa using hsp
    have hoff:a.off<C.size:=(Array.getElem?_eq_some_iff.1 hv0).1;have aiv:a.block<w.heap.size:=(Array.getElem?_eq_some_iff.1 hC).1;obtain ⟨cs,h1,h2,h3⟩:=VH hC
    have hel:∀i,i<len->(cs.drop (a.off+i*ty.size)).length>=ty.size/\∃y,CR (iL w).F ty y ((cs.drop (a.off+i*ty.size)).take ty.size)/\uO ty y:=by
     intro i hi;obtain ⟨cs',k1,k5⟩:=hx i (by omega)
     obtain ⟨_,k2,k3⟩:=World.cells?_some k1;obtain ⟨y,k6,k7,k8⟩:=Ep d n u ty cs' _ hd k5
     have cH:∀j,j<ty.size->cs[a.off+i*ty.size+j]? = (cs'.map sv)[j]? := by
      intro j hj;have k4:=k3 j (by omega)
      have e1:(a.add (i*P.cellsOf u)).add j=⟨a.block,a.off+i*ty.size+j,none⟩:=by
       obtain ⟨ab,ao,as⟩:=a;cases hsp;unfold Addr.add;rw[hs]
       repeat' split
       all_goals simp_all
      rw[e1] at k4;unfold World.cell? at k4;simp only[hC,Option.isSome_none,Bool.false_eq_true,if_false] at k4;have hjl:j<cs'.length:=by omega
      rw[List.getElem?_eq_getElem hjl] at k4;rw[List.getElem?_map,List.getElem?_eq_getElem hjl];exact h3 _ _ k4 (k8 _ (List.getElem_mem hjl))
     have hlen:(cs.drop (a.off+i*ty.size)).length>=ty.size:=by
      rw[List.length_drop];have:=cH (ty.size-1) (by omega)
      rw[List.getElem?_map,List.getElem?_eq_getElem (show ty.size-1<cs'.length by omega)] at this
      have:=(List.getElem?_eq_some_iff.1 this).1;omega
     refine ⟨hlen,y,?_,k7⟩
     have:(cs.drop (a.off+i*ty.size)).take ty.size=cs'.map sv:=by
      apply List.ext_getElem?;intro j;by_cases hj:j<ty.size
      .
       rw[List.getElem?_take_of_lt hj,List.getElem?_drop,cH j hj]
      rw[List.getElem?_eq_none (by simp;omega),List.getElem?_eq_none (by simp;omega)]
     rw[this];exact k6
    have EG:len*ty.size<=(cs.drop a.off).length:=by
     rw[List.length_drop];rcases Nat.eq_zero_or_pos len with rfl|hp
     .
      simp
     obtain ⟨hlen,_⟩:=hel (len-1) (by omega)
     rw[List.length_drop] at hlen
     have e2:len*ty.size=(len-1)*ty.size+ty.size:=by
      obtain ⟨k,rfl⟩:∃k,len=k+1:=⟨len-1,by omega⟩
      rw[Nat.succ_mul];rfl
     omega
    obtain ⟨l,g1,g2,g3⟩:=Hh (F:=(iL w).F) (e:=ty) (s:=ty.size) len ((cs.drop a.off).take (len*ty.size)) (by rw[List.length_take];omega) (λi hi=>by
     obtain ⟨_,y,q1,q2⟩:=hel i hi;refine ⟨y,?_,q2⟩;have e3:(i+1)*ty.size<=len*ty.size:=Nat.mul_le_mul_right _ (by omega)
     rw[Nat.succ_mul] at e3;rw[List.drop_take,List.take_take,List.drop_drop,Nat.min_eq_left (by omega)]
     exact q1)
    refine ⟨l,⟨.slice (some a) len cap,?_,.inr ⟨a.block,cs.take a.off,(cs.drop a.off).take (len*ty.size),(cs.drop a.off).drop (len*ty.size),cap,?_,?_,g2,by omega⟩⟩,⟨by omega,g3⟩,one ?_⟩
    .
     show [sv _]=_;rw[Eo λa' e=>by cases e;omega]
    .
     have:(cs.take a.off).length=a.off:=by simp;omega
     rw[this,g1];obtain ⟨xb,xo,xs⟩:=a;cases hsp;rfl
    .
     rw[List.take_append_drop,List.take_append_drop];exact h1
    obtain ⟨xb,xo,xs⟩:=a;cases hsp;exact .slice xb xo len cap xb 0 (if_pos aiv)
  cases h
theorem Ss {t:TypeId} {fs:Array Field} {e:Ty} {d:Nat} {v:Value} {x:DataW H} {p:List MemPlace} {r:Reach} {b0:Nat} (ht:P.underlying t=some (.struct fs)) (hf:th P d t e=true) (hok:Value.okWide P w r b0 t v)
 (h:DataW.Trod enc P w base (λ_=>true) held t v x p):∃(y:e.den) (cs:List Value),v = .agg cs.toArray/\VR (iL w) (.agg (flat e y)) (.agg (cs.map sv).toArray)/\VRel (FQ w.heap.size) (.agg (cs.map sv).toArray) v/\uO e y:=by
 obtain ⟨fuel,h⟩:=h
 obtain ⟨cs,rfl⟩:∃cs,v = .agg cs:=by
  unfold Value.okWide at hok;rw[ht] at hok;obtain ⟨cs,hv,_⟩:=hok;exact ⟨cs,hv⟩
 obtain ⟨y,h1,h2,h3⟩:=Ep d fuel t e _ _ hf h
 have h1:CR (iL w).F e y (cs.toList.map sv):=h1
 have hL:=CR.flat e y _ h1
 refine ⟨y,cs.toList,by simp,.agg _ _ hL.1 hL.2,?_,h2⟩
 refine .agg _ _ (by simp) λi a b ha hb=>?_
 have hb':cs.toList[i]? = some b:=by simpa using hb
 have ha':a=sv b:=by
  have:(cs.toList.map sv)[i]? = some a:=by simpa using ha
  rw[List.getElem?_map,hb'] at this;exact (Option.some.inj this).symm
 rw[ha']
 exact (h3 b (List.mem_of_getElem? hb')).rel
theorem VI {X:cI} (hno:Ev.cP X.P) (hm:X.P.follows .mixedOrders=true) {kn:Ev.bP} {GR:List Ev.Blk} (hK:Ev.dP X.P GR kn) {f:FuncId} {args:List AV} {v:AV} {vE:Value} (hv:∀S x,VR S v x->x=vE) (hfree:Ev.addrFree vE=true)
 (h:∀(S:Wo) (E:Ev.Mem) (ax:List Value),Rel S aa.empty E->bN X S->LV S args ax->∃S' vE E',(∃N,∀n:Nat×Nat,N<=n.1/\N<=n.2->aY X kn n f ax E=some (vE,E'))/\VR S' v vE)
 {w:World} (Ig:Ev.dV GR w) (hG:X.G<=w.heap.size) (hg:bN X (iL w)) {ax args':List Value} (hargs:LV (iL w) args ax) (hrel:Ev.LR (VRel (FQ w.heap.size)) ax args') :
 Calls X.P f args'.toArray w λe w'=>e = .returned vE/\Below w.heap.size w w':=by
 obtain ⟨S',vE',E',⟨N,h1⟩,h2⟩:=h (iL w) (snap w) ax (FT w) hg hargs
 have hvE:=hv S' vE' h2
 subst hvE
 have hc:=h1 (N,N) ⟨Nat.le_refl _,Nat.le_refl _⟩
 refine (Ev.Dm hno hm hK hc (.inr (by first|assumption|exact hfree)) (c:=⟨X.P,w.heap.size,w.heap.size,X.G,w,λ_=>none⟩) rfl ⟨rfl,Ig,Ig.1⟩ (FR X.P w X.G hG) hrel).mono ?_
 rintro e w' ⟨ρ',v',rfl,k1,k2,k3⟩
 exact ⟨by rw[Ev.dU k2 hfree],k3.below⟩
end Go.Tv
