/- The evaluator's operations, fourth part: all of them. Maps: the evaluator's beside the machine's. The evaluator's operations together; regions, bodies and calls. The evaluator's steps, over slots as the machine has them. -/
import Derived.Test.YtbeckacfibledaaGreatDoorLya
import Derived.MapKept
import Derived.Tactics
set_option linter.unusedVariables false
set_option linter.unusedSimpArgs false

namespace Go.Ev
open Go.RowKit
section
variable {c:Cx} {P:Program} {w:World} {ρ:Ren} {H:Mem}
theorem ZJ (he:ef c ρ H w){dt ty:TypeId}{d d' x x' v:Value}{H':Mem}{at_:Array TypeId}{as:Array Value}
 (yl:at_[0]? = some dt) (wG:as[0]? = some d') (ym:as[1]? = some x')
 (hd:bG ρ d d') (hx:bG ρ x x') (h:Gn c.P H dt d x=some (v,H')) :
 ∃w' v',ef c ρ H' w'/\bG ρ v v'/\(Builtin.copy_ at_ ty as).run c.P w = .ok v' w':=by
 unfold Gn at h;split at h
 .rename_i e base dLen _ n hu hn;have hlen:=UF (P:=c.P) hx hn w;split at h
  .rename_i s hs;split at h
   .rename_i cs hf;obtain⟨cs',hr',hl'⟩:=zN he hx hf;split at h
    .simp only[aL]at h;obtain⟨H1,hw1,heq⟩:=h;cases heq;cases hd with
     |slice i off _ _ r y hr =>
      obtain⟨w',hst,aeB,_⟩:=DW he hr hl' hw1;refine⟨w',_,aeB,.int _ _,?_⟩;simp[Builtin.copy_,yl,wG,ym,run_underlying hu,hlen,gS hs,hr',hst,goInt]
    .cases h;cases hd;refine⟨w,_,he,.int _ _,?_⟩;simp[Builtin.copy_,yl,wG,ym,run_underlying hu,hlen,gS hs,hr',goInt]
    cases h
   cases h
  cases h
 cases h
theorem KE:∀(l:List Value) (acc s:ByteArray),sv l acc=some s->∃ns:List Int,l=ns.map (Value.int .u8)/\s=ns.foldl (λr n=>r.push (UInt8.ofNat n.toNat)) acc
 |[],acc,s,h=>by simp only[sv,aq]at h;exact⟨[],rfl,h.symm⟩
 |v::l,acc,s,h=>by
  simp only[sv]at h;split at h
  .rename_i b hb;obtain⟨ns,h1,h2⟩:=KE l _ s h;unfold De at hb;split at hb
   .rename_i n;cases hb;exact⟨n::ns,by rw[h1];rfl,by rw[h2];rfl⟩
   cases hb
  cases h
theorem LR.ints {ns:List Int}{k:IntKind}{l':List Value}(h:LR (bG ρ) (ns.map (Value.int k)) l'):l'=ns.map (Value.int k):=by
 apply kf;intro i;by_cases hi:i<l'.length
 .have hi':i<(ns.map (Value.int k)).length:=by rw[h.1];exact hi
  have hr:=h.2 i _ _ (aP hi') (aP hi);rw[aP hi',aP hi];simp only[List.getElem_map]at hr ⊢;generalize l'[i]=q at hr ⊢;cases hr with
  |int=>rfl
 rw[dK (eZ hi),dK (by rw[h.1];exact eZ hi)]
theorem nN (w:World)(a:Addr)(n k:Nat)(h:k≠a.block):(w.freeze a n).heap[k]? = w.heap[k]? := by
 unfold World.freeze;split
 .rfl
 simp only[kA];rw[aa (λe=>h e.symm)]
theorem Co (w:World)(a:Addr)(n:Nat):(w.freeze a n).heap.size=w.heap.size:=by
 unfold World.freeze;split
 .rfl
 simp
theorem KF {w:World}{r n:Nat}{C:Array Value}{t:TypeId}{lo hi:Nat}(h:w.heap[r]? = some (.cells C t (lo,hi))) :
 (w.freeze ⟨r,n,none⟩ 1).heap[r]? = some (.cells C t (if lo==hi then (n,n+1) else (min lo n,max hi (n+1)))):=by
 unfold World.freeze;rw[aa (by decide)];simp only[kA,fF,h,bK]
theorem ef.mark {c:Cx}{ρ:Ren}{H:Mem}{w:World}(he:ef c ρ H w){i r x:Nat}{b:jJ}(hi:alive H i=some b)(hlk:c.L<=i)(hr:ρ i=some (r,x)){C:Array Value}{t:TypeId}{fr:Nat×Nat}(hC:w.heap[r]? = some (.cells C t fr)):ef c ρ H (w.freeze ⟨r,C.size,none⟩ 1):=by
 obtain⟨hg,hl⟩:=dF hi;have hB:c.own r:=by
  obtain⟨r',x',C,fr,s,h1,h2,_⟩:=he.blk i b hg hl;rw[hr]at h1;cases h1;rcases h2 with h2|h2
  .omega
  exact h2
 refine⟨he.stay.Kx hB (Lib.below_freeze (Below.refl _ _) (p:=⟨r,C.size,none⟩) hB.1 1) (λk hk=>nN _ _ _ _ hk),by rw[Co];exact he.base,he.dom,he.lk,he.zF,he.ju,λj b' hj hl'=>?_,he.inj,λj b' hj hm=>(he.maps j b' hj hm).heap λq es clock hh=>by
  rw[nN _ _ _ _ (λe=>by subst e;rw[hC]at hh;cases hh)];exact hh,he.vX⟩
 obtain⟨r',x',C',fr',s,h1,h2,h3,h4,h5⟩:=he.blk j b' hj hl';by_cases hrr:r'=r
 .subst hrr;have hji:=he.inj j i b' b r' x' x hj hl' hg hl h1 hr;subst hji;rw[hC]at h3;cases h3;obtain⟨lo,hi'⟩:=fr;refine⟨r',x',C,_,s,h1,h2,KF hC,.inr ?_,h5⟩;rcases h4 with h4|⟨u1,u2⟩
  .omega
  simp only at u1 u2;by_cases e:lo=hi'
  .subst e;simp only[nW,fF];exact⟨by simp,λj hj=>by simp;omega⟩
  have hlo:C.size<=lo:=by
   rcases Nat.lt_or_ge lo C.size with hlt|hge
   .exact absurd ⟨aC _,by omega⟩ (u2 lo hlt)
   exact hge
  rw[aa (by simpa using e)];exact⟨by simp;omega,λj hj=>by simp;omega⟩
 exact⟨r',x',C',fr',s,h1,h2,by rw[nN _ _ _ _ hrr];exact h3,h4,h5⟩
theorem N5 (he:ef c ρ H w){src dst:TypeId}{x x' v:Value}{H':Mem}(hx:bG ρ x x')(h:jk c.P H src dst x=some (v,H')) :
 ∃ ρ' w' v',ρ.le ρ'/\ef c ρ' H' w'/\bG ρ' v v'/\(convert src dst x').run c.P w = .ok v' w':=by
 unfold jk at h;split at h
 .rename_i e a len cap hs hd;split at h
  .rename_i b off ID;split at h
   .rename_i cs hr;simp only[aL]at h;obtain⟨s,hb,heq⟩:=h;cases heq;cases hx with
    |slice _ _ _ _ r y hry =>
     obtain⟨l',h1,h2,h3⟩:=he.read hry hr;obtain⟨ns,rfl,hsn⟩:=KE _ _ _ hb;rw[h1.ints]at h3;have hrun:=run_loadCells_list (P:=c.P) w _ _ h3;rw[h2]at hrun;refine⟨ρ,w,_,Ren.le_refl _,he,.string _,?_⟩;rw[run_convert_bytes_string w src dst e _ len (cap+y) hs ID hd,run_bytesToString w _ len (cap+y) ns hrun,hsn]
   cases h
  .rename_i ID;cases h;cases hx;refine⟨ρ,w,_,Ren.le_refl _,he,.string _,?_⟩;rw[run_convert_bytes_string w src dst e _ len _ hs ID hd];simp[Conv.bytesToString]
  .rename_i ID;cases h;cases hx with
   |void a' =>
    have hrun:=run_loadCells_list (P:=c.P) w a' [] (λj v hj=>by cases hj);refine⟨ρ,w,_,Ren.le_refl _,he,.string _,?_⟩;rw[run_convert_bytes_string w src dst e _ 0 0 hs ID hd,run_bytesToString w a' 0 0 [] hrun];rfl
  cases h
 .rename_i e s hs hd;split at h
  .rename_i ID hsz;obtain⟨hp',rfl⟩:=ov h;cases hx;have hrun:=run_bytes_of_string (P:=c.P) w src dst e s hs hd ID;have hg:=KC w s.size 0 e;refine⟨_,_,_,he.wD (aC _) (w.heap.size,grownCap w s.size 0 e-s.size),?_,?_,hrun⟩
   .refine he.drew.new hp' hsz ?_ ?_ ?_ (λh=>by cases h) ⟨λj v hj hv=>.inr ⟨ID,by
     unfold bytesRow at hv;rw[fY]at hv;split at hv
     .rename_i hlt;simp at hlt hj;omega
     .rw[Array.getElem?_replicate]at hv;split at hv
      .cases hv;rfl
      cases hv⟩,by
     by_cases NY:s.size<9223372036854775808
     .refine .inr (.inl λs' hs'=>?_);rw[hsz]at hs';cases hs';have h1:=KB w s.size 0 e NY;simp[bytesRow];omega
     refine .inr (.inr ?_);simp;omega⟩
    .have hl:LR (bG ρ) (s.data.toList.map λb=>Value.int .u8 b.toNat) (s.data.toList.map λb=>Value.int .u8 b.toNat):=⟨rfl,λi x y hx hy=>by
      rw[hx]at hy;cases hy;obtain⟨b,_,rfl⟩:=bW.1 (bh hx);exact .int _ _⟩
     have:=hl.yB (Array.replicate (grownCap w s.size 0 e-s.size) (.int .u8 0));have e1:bytesRow s (grownCap w s.size 0 e)=(s.data.toList.map λb=>Value.int .u8 b.toNat).toArray++Array.replicate (grownCap w s.size 0 e-s.size) (.int .u8 0):=by
      unfold bytesRow;congr 1;apply jC;simp
     rw[e1];exact this
    .simp[bytesRow]
    exact⟨by simp,λj hj=>by simp;omega⟩
   have:=bG.slice (ρ:=ρ.put H.size (w.heap.size,grownCap w s.size 0 e-s.size)) H.size 0 s.size s.size w.heap.size _ (Ren.mg _ _ _);rw[js hg]at this;exact this
  cases h
 .rename_i e1 e i off l cp hs hd;split at h
  .rename_i b hb ID;rw[ax]at h;split at h
   .rename_i hc;cases h;simp only[ak,zL,aV,aO]at hc;obtain⟨hlk,rfl⟩:=hc;have hd':=hd;rw[hs]at hd';cases hd';cases hx with
    |slice _ _ _ _ r y hr =>
     obtain⟨hg,hl⟩:=dF hb;obtain⟨r',y',C,fr,s,k1,k2,k3,k4,k5,k6,k7⟩:=he.blk i b hg hl;rw[hr]at k1;cases k1;refine⟨ρ,_,_,Ren.le_refl _,he.mark hb (br he.lk hlk) hr k3,.slice i off l cp r y hr,?_⟩;simp[convert,run_underlying hs,run_underlying ID,run_underlying hd,markStringish,World.shape?,k3]
   cases h
  cases h
 .rename_i t i hs hd;split at h
  .rename_i b n hb hn;rw[ax]at h;split at h
   .rename_i hc;cases h;cases hx with
    |ptr _ _ r y hr =>
     obtain⟨hg,hl⟩:=dF hb;obtain⟨r',y',C,fr,s,k1,k2,k3,k4,k5,k6,k7⟩:=he.blk i b hg hl;rw[hr]at k1;cases k1;simp only[ak,zL,aV]at hc;obtain⟨inf,hi,hsz⟩:=aL.1 hn;refine⟨ρ,w,_,Ren.le_refl _,he,.ptr i 0 r y hr,?_⟩;exact Lib.run_to_unsafe w ⟨r,0,none⟩ hs hd hi (by omega) (e:=b.elem) (cells:=C.size) (by simp[World.shape?,k3]) (by show 0<C.size;omega)
   cases h
  cases h
 .rename_i u i hs hd;split at h
  .rename_i b n hb hn;rw[ax]at h;split at h
   .rename_i hc;cases h;cases hx with
    |ptr _ _ r y hr =>
     obtain⟨hg,hl⟩:=dF hb;obtain⟨r',y',C,fr,s,k1,k2,k3,k4,k5,k6,k7⟩:=he.blk i b hg hl;rw[hr]at k1;cases k1;simp only[ak]at hc;obtain⟨inf,hi,hsz⟩:=aL.1 hn;have hy:=k5.2 hc.1;subst hy;have hC:C.size=b.cells.length:=by simpa using k6
     refine⟨ρ,w,_,Ren.le_refl _,he,.ptr i 0 r 0 hr,?_⟩;exact Lib.run_from_unsafe w ⟨r,0,none⟩ hs hd hi (e:=b.elem) (cells:=C.size) (by simp[World.shape?,k3]) (by rw[hC];exact hc.2)
   cases h
  cases h
 cases h
theorem Bg {i:Int}{len m:Nat}(h:R6 i len=some m):i=(m:Int)/\m<len:=by
 unfold R6 at h;split at h
 .rename_i k;rw[ax,nj]at h;split at h
  .rename_i hk;cases h;exact⟨rfl,by simpa using hk⟩
  cases h
 cases h
theorem aeD {t:TypeId}{x x' i i' v:Value}(hx:bG ρ x x')(hi:bG ρ i i')(h:Ii P t x i=some v)(w:World) :
 ∃v',(Instr.indexAt t x' i').run P w = .ok v' w/\bG ρ v v':=by
 unfold Ii at h;split at h
 .rename_i e b off len cap k n hu;cases hi;cases hx with
  |slice _ _ _ _ r y hr =>
   split at h
   .rename_i s m hs hm;cases h;obtain⟨rfl,hlt⟩:=Bg hm;refine⟨.pointer (some ⟨r,off+m*s,none⟩),?_,.ptr _ _ _ _ hr⟩;have h2:(m:Int)<(len:Int):=by omega
    simp[Instr.indexAt,asIntOf,run_underlying hu,hlt,gS hs,qI]
   cases h
 .rename_i len e b off k n hu;cases hi;cases hx with
  |ptr _ _ r y hr =>
   split at h
   .rename_i s m hs hm;cases h;obtain⟨rfl,hlt⟩:=Bg hm;refine⟨.pointer (some ⟨r,off+m*s,none⟩),?_,.ptr _ _ _ _ hr⟩;simp[Instr.indexAt,asIntOf,run_underlying hu,Instr.sureAddr,hlt,gS hs,qI]
   cases h
 cases h
theorem IE {s:TypeId}{f:Nat}{x x' v:Value}(hx:bG ρ x x')(h:yQ P s x f=some v)(w:World) :
 ∃v',(Instr.fieldAt s x' f).run P w = .ok v' w/\bG ρ v v':=by
 unfold yQ at h;split at h
 .rename_i fs b off hu;cases hx with
  |ptr _ _ r y hr =>
   split at h
   .rename_i fd UH;split at h
    .rename_i n hn;split at h
     .cases h
     rename_i hn0;cases h;exact⟨_,by simp[Instr.fieldAt,run_underlying hu,UH,Instr.sureAddr,fieldPlace,gS hn,hn0,qI],.ptr _ _ _ _ hr⟩
    cases h
   cases h
 cases h
inductive OR (R:Value->Value->Prop):Option Value->Option Value->Prop where
 |none:OR R .none .none
 |some {v v':Value} (h:R v v'):OR R (.some v) (.some v')
theorem zP {x x':Value}{y n:Nat}{c:BoundsCode}(hx:bG ρ x x')(h:nX x y=some n)(w:World):(Instr.sliceBound x' y c).run P w = .ok n w/\n<=y:=by
 unfold nX at h;split at h
 .split at h
  .rename_i hb;cases h;cases hx;exact⟨by simp[Instr.sliceBound,asIntOf,hb.1,hb.2],by omega⟩
  cases h
 cases h
theorem KH {c:Cx}{H:Mem}{w:World}(he:ef c ρ H w){t:TypeId}{x x' v:Value}{lo lo' hi hi':Option Value}(hx:bG ρ x x')(hlo:OR (bG ρ) lo lo')(hhi:OR (bG ρ) hi hi')(h:qF c.P H t x lo hi=some v) :
 ∃v',(Instr.sliceAt t x' lo' hi' none).run c.P w = .ok v' w/\bG ρ v v':=by
 unfold qF at h;split at h
 .rename_i n e b off hu;split at h
  .rename_i hN hh;split at h
   .rename_i lN hl;have UI:(match hi' with|some v=>Instr.sliceBound v n .sliceAlen|none=>pure n:Sem Nat).run c.P w = .ok hN w:=by
     cases hhi with
     |none=>simp at hh;subst hh;rfl
     |some hv=>exact(zP hv hh w).1
    have hlr:(match lo' with|some v=>Instr.sliceBound v hN .sliceB|none=>pure 0:Sem Nat).run c.P w = .ok lN w/\lN<=hN:=by
     cases hlo with
     |none=>simp at hl;subst hl;exact⟨rfl,ct _⟩
     |some hv=>exact zP hv hl w
    have h1:(Instr.sliceBounds false n n lo' hi' none).run c.P w = .ok (lN,hN,n) w:=by
     cases hhi with
     |none =>
      simp only[Sem.run_pure,Result.ok.injEq]at UI;cases hlo with
      |none =>
       have:=hlr.1;simp only[Sem.run_pure,Result.ok.injEq]at this;simp[Instr.sliceBounds,UI.1,this.1]
      |some hv=>simp[Instr.sliceBounds,UI.1];have:=hlr.1;simp[this]
     |some hv' =>
      cases hlo with
      |none =>
       have:=hlr.1;simp only[Sem.run_pure,Result.ok.injEq]at this;simp[Instr.sliceBounds,UI,this.1]
      |some hv=>simp[Instr.sliceBounds,UI];have:=hlr.1;simp[this]
    split at h
    .rename_i k s hk hs;rw[ax]at h;split at h
     .rename_i Qn;cases h;cases hx with
      |ptr _ _ r y hr =>
       obtain⟨ha,hb⟩:=dF hk;obtain⟨r',y',C,fr,s',k1,_,_,_,k5,_⟩:=he.blk b k ha hb;rw[hr]at k1;cases k1;obtain rfl:=k5.2 Qn;refine⟨.slice (some ⟨r,if n=lN then off else off+lN*s,none⟩) (hN-lN) (n-lN+0),?_,?_⟩
       .by_cases hm:n=lN
        .subst hm;simp[Instr.sliceAt,Instr.sureAddr,run_underlying hu,h1,gS hs]
        simp[Instr.sliceAt,Instr.sureAddr,run_underlying hu,h1,gS hs,hm,qI]
       have e2:ah (Nat.beq n lN) off (Nat.add off (Nat.mul lN s))=if n=lN then off else off+lN*s:=by
        rw[ax];by_cases hm:n=lN
        .rw[ag (by rw[aO];exact hm),ag hm]
        rw[aa (by rw[aO];exact hm),aa hm];rfl
       rw[e2];exact .slice _ _ _ _ _ _ hr
     cases h
    cases h
   cases h
  cases h
 cases h
theorem UJ {t:TypeId}{x x' v:Value}{lo lo' hi hi':Option Value}(hx:bG ρ x x')(hlo:OR (bG ρ) lo lo')(hhi:OR (bG ρ) hi hi')(h:kV P t x lo hi=some v)(w:World) :
 ∃v',(Instr.sliceAt t x' lo' hi' none).run P w = .ok v' w/\bG ρ v v':=by
 unfold kV at h;split at h
 .rename_i e a len cap hu;split at h
  .rename_i hN hh;split at h
   .rename_i lN hl;have hbounds:∀R9,cap<=R9->(Instr.sliceBounds true len R9 lo' hi' none).run P w = .ok (lN,hN,R9) w/\lN<=hN:=by
     intro R9 hc;have UI:(match hi' with|some v=>Instr.sliceBound v R9 .sliceAcap|none=>pure len:Sem Nat).run P w = .ok hN w:=by
      cases hhi with
      |none=>simp at hh;subst hh;rfl
      |some hv =>
       rename_i u u';simp only at hh ⊢;have hh2:nX u R9=some hN:=by
        unfold nX at hh ⊢;split at hh
        .split at hh
         .rename_i hb;cases hh;rw[ag ⟨hb.1,by omega⟩]
         cases hh
        cases hh
       exact(zP hv hh2 w).1
     have hlr:(match lo' with|some v=>Instr.sliceBound v hN .sliceB|none=>pure 0:Sem Nat).run P w = .ok lN w/\lN<=hN:=by
      cases hlo with
      |none=>simp at hl;subst hl;exact⟨rfl,ct _⟩
      |some hv=>exact zP hv hl w
     refine⟨?_,hlr.2⟩;cases hhi with
     |none =>
      simp only[Sem.run_pure,Result.ok.injEq]at UI;cases hlo with
      |none =>
       have:=hlr.1;simp only[Sem.run_pure,Result.ok.injEq]at this;simp[Instr.sliceBounds,UI.1,this.1]
      |some hv=>simp[Instr.sliceBounds,UI.1];have:=hlr.1;simp[this]
     |some hv' =>
      cases hlo with
      |none =>
       have:=hlr.1;simp only[Sem.run_pure,Result.ok.injEq]at this;simp[Instr.sliceBounds,UI,this.1]
      |some hv=>simp[Instr.sliceBounds,UI];have:=hlr.1;simp[this]
    split at h
    .rename_i b off s hs;split at h
     .cases h
     rename_i hc;cases h;simp only[kQ]at hc;cases hx with
     |slice _ _ _ _ r y hr =>
      obtain⟨h1,h2⟩:=hbounds (cap+y) (by omega);refine⟨.slice (some ⟨r,off+lN*s,none⟩) (hN-lN) (cap-lN+y),?_,.slice _ _ _ _ _ _ hr⟩;have e1:cap+y-lN=cap-lN+y:=by omega
      by_cases hm:cap+y=lN
      .have:lN=0:=by omega
       subst this;obtain rfl:cap=0:=by omega
       obtain rfl:y=0:=by omega
       simp at h1;simp[Instr.sliceAt,Instr.slice,run_underlying hu,h1,gS hs]
      simp[Instr.sliceAt,Instr.slice,run_underlying hu,h1,gS hs,hm,qI,e1]
    .rename_i s hs;cases h;cases hx;obtain⟨h1,h2⟩:=hbounds cap (aC _);exact⟨_,by simp[Instr.sliceAt,Instr.slice,run_underlying hu,h1,gS hs],.me _ _⟩
    .rename_i b off q s hs;split at h;case isFalse=>cases h
     rename_i h0;cases h;subst h0;cases hx with
     |void a' =>
      obtain⟨h1,h2⟩:=hbounds 0 (aC _);obtain rfl:lN=0:=by omega
      refine⟨.slice (some a') 0 0,?_,.void _⟩;simp[Instr.sliceAt,Instr.slice,run_underlying hu,h1,gS hs]
    cases h
   cases h
  cases h
 cases h
theorem Qp {t:TypeId}{cs cs':Array Value}{off:Nat}{v:Value}(hc:AR (bG ρ) cs cs')(h:DJ P t cs off=some v)(w:World) :
 ∃v',(part t cs' off).run P w = .ok v' w/\bG ρ v v':=by
 unfold DJ at h;split at h
 .rename_i n ha hs;cases h;refine⟨.agg (cs'.extract off (off+n)),by simp[part,xU ha,gS hs],.agg _ _ (by simp[hc.1]) λi x y hx hy=>?_⟩;rw[Array.getElem?_extract]at hx hy;split at hx
  .split at hy
   .exact hc.2 _ x y hx hy
   cases hy
  cases hx
 .rename_i ha;have hlt:off<cs.size:=(aB.1 h).1;have hlt':off<cs'.size:=hc.1 ▸ hlt;exact⟨cs'[off],by simp[part,xU ha,hlt'],hc.2 off v _ h (by simp[hlt'])⟩
 cases h
theorem Sa {t:TypeId}{x x' v:Value}{f:Nat}(hx:bG ρ x x')(h:zH P t x f=some v)(w:World):∃v',(Instr.field t x' f).run P w = .ok v' w/\bG ρ v v':=by
 unfold zH at h;split at h
 .rename_i fs cs hu;split at h
  .rename_i fd UH;cases hx with
   |agg _ cs' sa ha =>
    obtain⟨v',h1,h2⟩:=Qp ⟨sa,ha⟩ h w;exact⟨v',by simp[Instr.field,run_underlying hu,UH,asAgg,h1],h2⟩
  cases h
 cases h
theorem Sb {t:TypeId}{x x' i i' v:Value}(hx:bG ρ x x')(hi:bG ρ i i')(h:xR P t x i=some v)(w:World):∃v',(Instr.index t x' i').run P w = .ok v' w/\bG ρ v v':=by
 unfold xR at h;split at h
 .rename_i len e cs k n hu;split at h
  .rename_i s m hs hm;obtain⟨rfl,hlt⟩:=Bg hm;cases hi;cases hx with
   |agg _ cs' sa ha =>
    obtain⟨v',h1,h2⟩:=Qp ⟨sa,ha⟩ h w;have h1':(part e cs' (m*s)).run P w = .ok v' w:=h1;exact⟨v',by simp[Instr.index,asIntOf,run_underlying hu,hlt,gS hs,h1'],h2⟩
  cases h
 cases h
theorem KK {t:TypeId}{x x' i i' v:Value}(hx:bG ρ x x')(hi:bG ρ i i')(h:qE P t x i=some v)(w:World):∃v',(Instr.index t x' i').run P w = .ok v' w/\bG ρ v v':=by
 unfold qE at h;split at h
 .rename_i s k m hu;split at h
  .rename_i b hb;cases h;cases hx;cases hi;refine⟨.int .u8 b.toNat,?_,.int _ _⟩;have hlt:m<s.size:=by
    have:=(bx.1 hb).1;simpa using this
   have hb':s[m]? = some b:=by
    have h2:=(bx.1 hb).2;simp only[Array.getElem_toList]at h2;rw[getElem?_pos s m hlt];exact cr some h2
   have h0:(0:Int)<=Int.ofNat m:=Int.natCast_nonneg m;simp[Instr.index,asIntOf,run_underlying hu,hb']
  cases h
 cases h
theorem oY {α:Type}:∀(s:Sem α) {v:α},bF P s=some v->∀w,s.run P w = .ok v w
 |.pure a,v,h,w=>by simp only[bF,aq]at h;subst h;rfl
 |.program k,v,h,w=>by simp only[bF]at h;exact oY (k P) h w
 |.mark _ k,v,h,w=>by simp only[bF]at h;exact oY k h w
 |.load ..,_,h,_=>by simp[bF]at h
 |.store ..,_,h,_=>by simp[bF]at h
 |.new ..,_,h,_=>by simp[bF]at h
 |.shape ..,_,h,_=>by simp[bF]at h
 |.freeze ..,_,h,_=>by simp[bF]at h
 |.frozen ..,_,h,_=>by simp[bF]at h
 |.getObj ..,_,h,_=>by simp[bF]at h
 |.setObj ..,_,h,_=>by simp[bF]at h
 |.choose ..,_,h,_=>by simp[bF]at h
 |.sys ..,_,h,_=>by simp[bF]at h
 |.halt ..,_,h,_=>by simp[bF]at h
theorem pure_ok {o:Oper}{ev ev':Operand->Value}{v:Value}(ck:∀x∈o.op.operands,bG ρ (ev x) (ev' x))(h:gR P ev o=some v)(w:World) :
 (execOp ev' o).run P w = .ok (.value v) w/\bG ρ v v:=by
 unfold gR at h;split at h
 .cases h
 rename_i hsel;split at h
 .rename_i hfree;split at h
  .rename_i u hu;split at h
   .rename_i hf;cases h;refine⟨?_,dB _ hf⟩;have hc:execOp ev' o=execOp ev o:=execOp_congr o (λcs b hb=>hsel cs b hb) λx hx=>by
     refine lS (ck x hx) ?_;have:=aK.1 hfree x (by simpa using hx);exact this
    rw[hc];exact oY _ hu w
   cases h
  cases h
 cases h
end
end Go.Ev
namespace Go.Ev
open Go.RowKit Go.MapKept
section
variable {c:Cx} {P:Program} {w:World} {ρ:Ren} {H:Mem}
theorem u9 {H:Mem}{i:Nat}{b:jJ}(h:mapOf H i=some b):H.get i=some b/\iS b=true:=by
 unfold mapOf at h;split at h
 .rename_i b' hb';rw[ax]at h;split at h
  .cases h;exact⟨hb',by assumption⟩
  cases h
 cases h
theorem lV:∀a b:List UInt8,oI a b=decide (a=b)
 |[],[]=>by simp[oI]
 |[],_::_=>by simp[oI]
 |_::_,[]=>by simp[oI]
 |a::l,b::m=>by
  rw[oI,ax,lV l m];by_cases h:a.toNat=b.toNat
  .rw[ag (by simpa[aO] using h),jO.1 h];simp
  rw[aa (by simpa[aO] using h)];have:a≠b:=λe=>h (by rw[e])
  simp[this]
theorem eqI_spec' (a b:Int):bI a b=(a==b):=by
 unfold bI;split
 .rename_i m n;rw[bO];simp[aO];omega
 .rename_i m n;rw[bO];simp[aO]
 rename_i h1 h2;cases a<;>cases b<;>first|(exact absurd rfl (h1 _ _ rfl))|(exact absurd rfl (h2 _ _ rfl))|simp_all
theorem Qq {d:TypeDesc}{k q k' q':Value}{r:Bool}(hk:bG ρ k k')(hq:bG ρ q q')(h:Ks d k q=some r) :
 Instr.sameNow d k' q'=some r/\(r=true->k'=q')/\IsKey d k':=by
 unfold Ks at h;split at h
 .cases hk;cases hq;rw[ax]at h;split at h
  .rename_i hkk;simp only[ak,aV]at hkk;obtain⟨rfl,rfl⟩:=hkk;cases h;rw[eqI_spec'];refine⟨by simp[Instr.sameNow],λe=>by simp at e;rw[e],rfl⟩
  cases h
 .cases hk;cases hq;cases h;rw[lV];refine⟨?_,λe=>?_,trivial⟩
  .rename_i a b;simp only[Instr.sameNow,aq];rw[bO,bytes_beq];simp only[aV];constructor
   .rintro rfl;rfl
   intro e;obtain⟨⟨x⟩⟩:=a;obtain⟨⟨y⟩⟩:=b;simp at e;rw[e]
  rename_i a b;simp only[aV]at e;obtain⟨⟨x⟩⟩:=a;obtain⟨⟨y⟩⟩:=b;simp at e;rw[e]
 cases h
theorem zQ {d:TypeDesc}{k k':Value}(hk:bG ρ k k'):∀(cs:List Value) (es:List MapEntry) (i:Nat) {r:Option (Nat×Value)},LR (bG ρ) cs (turns es)->sy d k cs i=some r ->
 (r=none/\Instr.findNow d k' es i=some none)\/∃j v e,r=some (i+j,v)/\Instr.findNow d k' es i=some (some (i+j,e.val))/\bG ρ v e.val/\es[j]? = some e/\e.key=k'/\IsKey d k'
 |[],[],i,r,_,h=>by cases h;exact .inl ⟨rfl,rfl⟩
 |[],e::es,i,r,hl,_=>by have:=hl.1;simp[turns]at this
 |[q],es,i,r,_,h=>by cases h
 |q::v::cs,[],i,r,hl,_=>by have:=hl.1;simp[turns]at this
 |q::v::cs,e::es,i,r,hl,h=>by
  have hl':LR (bG ρ) (q::v::cs) (e.key::e.val::turns es):=hl;obtain⟨q',t1,e1,hq,hl1⟩:=hl'.wB;cases e1;obtain⟨v',t2,e2,hv,A6⟩:=hl1.wB;cases e2;unfold sy at h;split at h
  .rename_i hs;cases h;obtain⟨h1,h2,h3⟩:=Qq hk hq hs;exact .inr ⟨0,v,e,rfl,by simp[Instr.findNow,h1],hv,rfl,(h2 rfl).symm,h3⟩
  .rename_i hs;obtain⟨h1,_,_⟩:=Qq hk hq hs;rcases zQ hk cs es (i+1) A6 h with⟨rfl,h2⟩|⟨j,v1,e1,rfl,h2,h3,h4,h5,h6⟩
   .exact .inl ⟨rfl,by simp[Instr.findNow,h1,h2]⟩
   exact .inr ⟨j+1,v1,e1,by rw[show i+1+j=i+(j+1) by omega],by simp[Instr.findNow,h1,h2];omega,h3,by simpa using h4,h5,h6⟩
  cases h
theorem uq {kt:TypeId}{d:TypeDesc}(hd:P.underlying kt=some d)(hk:tn d=true)(k:Value)(e:Bool)(n:Nat)(w:World):(Instr.checkKey e (n+1) kt k).run P w = .ok () w:=by
 unfold Instr.checkKey;simp only[Sem.run_bind,run_underlying hd,Result.andThen];cases d<;>first|(cases k<;>rfl)|(simp[tn]at hk;done)
theorem N6 (he:ef c ρ H w){x x':Value}{cs:List Value}(hx:bG ρ x x')(h:pK H x=some cs) :
 (x' = .map none/\cs=[])\/∃r es clock,x' = .map (some r)/\w.heap[r]? = some (.map es clock)/\LR (bG ρ) cs (turns es.toList):=by
 unfold pK at h;split at h
 .cases h;cases hx;exact .inl ⟨rfl,rfl⟩
 .rename_i i;split at h
  .rename_i b hb;cases h;obtain⟨h1,h2⟩:=u9 hb;obtain⟨r,es,clock,k1,k2,k3,k4⟩:=he.maps i b h1 h2;cases hx with
   |map _ r' x hr =>
    rw[k1]at hr;cases hr;exact .inr ⟨r,es,clock,rfl,k3,k4⟩
  cases h
 cases h
theorem look_ok (he:ef c ρ H w){t:TypeId}{x x' k k' v:Value}{ok:Bool}(hx:bG ρ x x')(hk:bG ρ k k')(h:vN c.P H t x k ok=some v) :
 ∃v',(Instr.lookup t x' k' ok).run c.P w = .ok v' w/\bG ρ v v':=by
 unfold vN at h;split at h
 .rename_i kt e ht;split at h
  .rename_i d z cs hd hz hcs;obtain⟨hz1,hz2,_⟩:=nr hz w;rw[ax]at h;split at h
   .rename_i Qr;have pair:∀{v v':Value} {b:Bool},bG ρ v v'->bG ρ (ah ok (.tuple #[v,.bool b]) v) (if ok then .tuple #[v',.bool b] else v'):=by
     intro v v' b hv;cases ok with
     |false=>exact hv
     |true =>
      refine .tuple _ _ rfl ?_;intro i x y h1 h2;rcases i with _|_|i
      .simp at h1 h2;subst h1 h2;exact hv
      .simp at h1 h2;subst h1 h2;exact .bool _
      simp at h1
    have run:∀{es:Array MapEntry} {clock:Nat} (hes:LR (bG ρ) cs (turns es.toList)) (hget:x' = .map none/\es = #[]\/∃r,x' = .map (some r)/\w.heap[r]? = some (.map es clock)),
     ∃v',(Instr.lookup t x' k' ok).run c.P w = .ok v' w/\bG ρ v v':=by
     intro es clock hes hget;split at h
     .rename_i j u hf;rcases zQ hk cs es.toList 0 hes hf with⟨h0,_⟩|⟨j',u',e',h0,h1,h2,h3,h4,h5⟩
      .cases h0
      cases h0;cases h;refine⟨_,?_,pair h2⟩;rcases hget with⟨rfl,rfl⟩|⟨r,rfl,hr⟩
      .simp at h3
      simp only[Instr.lookup,Sem.run_bind,run_underlying ht,gk hr,uq hd Qr,run_findKey hd h1,Sem.run_pure,Result.andThen]
     .rename_i hf;rcases zQ hk cs es.toList 0 hes hf with⟨_,h1⟩|⟨j',u',e',h0,_⟩
      .cases h;refine⟨_,?_,pair (dB z hz2)⟩;rcases hget with⟨rfl,rfl⟩|⟨r,rfl,hr⟩
       .simp only[Instr.lookup,Sem.run_bind,run_underlying ht,uq hd Qr,run_findKey hd h1,Sem.run_pure,Result.andThen,hz1]
       simp only[Instr.lookup,Sem.run_bind,run_underlying ht,gk hr,uq hd Qr,run_findKey hd h1,Sem.run_pure,Result.andThen,hz1]
      cases h0
     cases h
    rcases N6 he hx hcs with⟨rfl,rfl⟩|⟨r,es,clock,rfl,hr,hes⟩
    .exact run (es := #[]) (clock:=0) .nil (.inl ⟨rfl,rfl⟩)
    exact run hes (.inr ⟨r,rfl,hr⟩)
   cases h
  cases h
 cases h
theorem ef.aeE (he:ef c ρ H w){t:TypeId}{H':Mem}(hp:H.push ⟨[],t,false,true⟩=some H'):ef c (ρ.put H.size (w.heap.size,0)) H' (w.alloc (.map #[] 0)):=by
 have hle:=he.wD (aC H.size) (w.heap.size,0);obtain⟨q1,q2,q3⟩:=Mem.dN hp;have Uy:∀{i:Nat} {b:jJ},H'.get i=some b->(i<H.size/\H.get i=some b)\/(i=H.size/\b=⟨[],t,false,true⟩):=by
  intro i b hi;rw[q3]at hi;by_cases h1:i=H.size
  .rw[ag h1]at hi;cases hi;exact .inr ⟨h1,rfl⟩
  rw[aa h1]at hi;exact .inl ⟨Mem.eL hi,hi⟩
 have lt:∀{r:Nat} {o:Obj},w.heap[r]? = some o->r<w.heap.size:=λh=>(aB.1 h).1
 have atL:∀{i:Nat} {b:jJ},H'.get i=some b->b.live=true->i<H.size/\H.get i=some b:=by
  intro i b hi hl;rcases Uy hi with h1|⟨_,rfl⟩
  .exact h1
  cases hl
 refine⟨he.stay.alloc he.base _,br he.base (by simp),?_,by rw[q2];exact he.lk,by rw[q1];have:=he.zF;omega,λg hg=>hle _ _ (he.ju g hg),?_,?_,?_,?_⟩
 .intro i y hy;rw[q1];by_cases hi:i=H.size
  .omega
  rw[Ren.nL ρ _ hi]at hy;have:=he.dom i y hy;omega
 .intro i b hi hl;obtain⟨r',y,D,gr,s',h1,h2,h3,h4,h5,h6,h7⟩:=he.blk i b (atL hi hl).2 hl;exact⟨r',y,D,gr,s',hle _ _ h1,h2,by rw[Below.heap_alloc _ _ _ (lt h3)];exact h3,h4,h5,h6,h7.1.mono λ_ _=>bG.mono hle,h7.2⟩
 .intro i j bi bj q y z hi Bc hj uo hr hr';obtain⟨k1,k2⟩:=atL hi Bc;obtain⟨k3,k4⟩:=atL hj uo;rw[Ren.nL ρ _ (by omega)]at hr hr';exact he.inj i j bi bj q y z k2 Bc k4 uo hr hr'
 .intro i b hi hm;rcases Uy hi with⟨hlt,hi'⟩|⟨rfl,rfl⟩
  .exact ((he.maps i b hi' hm).heap λr es clock hh=>by rw[Below.heap_alloc _ _ _ (lt hh)];exact hh).mono hle
  exact⟨w.heap.size,#[],0,Ren.mg _ _ _,he.stay.fresh he.base,by show (w.heap.push _)[w.heap.size]? = _;simp,.nil⟩
 intro i j bi bj q y z hi hmi hj Uz hr hr';have old:∀{i:Nat} {b:jJ} {q y:Nat},i<H.size->H.get i=some b->iS b=true->(ρ.put H.size (w.heap.size,0)) i=some (q,y)->ρ i=some (q,y)/\q<w.heap.size:=by
  intro i b q y hlt hg hm hr;rw[Ren.nL ρ _ (by omega)]at hr;obtain⟨r',es,clock,e1,e2,e3,_⟩:=he.maps i b hg hm;rw[hr]at e1;cases e1;exact⟨hr,lt e3⟩
 rcases Uy hi with⟨hlt,hi'⟩|⟨rfl,rfl⟩
 .obtain ⟨o1,o2⟩:=old hlt hi' hmi hr;rcases Uy hj with⟨hlt',hj'⟩|⟨rfl,rfl⟩
  .obtain ⟨o3,_⟩:=old hlt' hj' Uz hr';exact he.vX i j bi bj q y z hi' hmi hj' Uz o1 o3
  rw[Ren.mg]at hr';cases hr';omega
 rcases Uy hj with⟨hlt',hj'⟩|⟨rfl,rfl⟩
 .obtain ⟨_,o2⟩:=old hlt' hj' Uz hr';rw[Ren.mg]at hr;cases hr;omega
 rfl
theorem N7 (he:ef c ρ H w){t:TypeId}{r r':Option Value}{v:Value}{H':Mem}(hr:OR (bG ρ) r r')(h:nI c.P t r H=some (v,H')) :
 ∃ ρ' w' v',ρ.le ρ'/\ef c ρ' H' w'/\bG ρ' v v'/\(Instr.makeMap t r').run c.P w = .ok v' w':=by
 have fin:∀{H1:Mem},H.push ⟨[],t,false,true⟩=some H1->v = .map (some H.size)->H1=H'->(Instr.makeMap t r').run c.P w = .ok (.map (some w.heap.size)) (w.alloc (.map #[] 0)) ->
  ∃ ρ' w' v',ρ.le ρ'/\ef c ρ' H' w'/\bG ρ' v v'/\(Instr.makeMap t r').run c.P w = .ok v' w':=by
  rintro H1 hp rfl rfl hrun;exact⟨_,_,_,he.wD (aC _) _,he.aeE hp,.map _ _ _ (Ren.mg _ _ _),hrun⟩
 unfold nI at h;split at h
 .cases hr;split at h
  .rename_i H1 hp;cases h;exact fin hp rfl rfl (by simp[Instr.makeMap,Result.andThen])
  cases h
 .rename_i a b k n hu;cases hr with
  |some hv =>
   cases hv;split at h
   .rename_i H1 hp;cases h;exact fin hp rfl rfl (by simp[Instr.makeMap,run_underlying hu,asInt,asIntOf,Result.andThen])
   cases h
 cases h
theorem IG (a b:List MapEntry):turns (a++b)=turns a++turns b:=by simp[turns]
theorem zR:∀(l:List MapEntry) (j:Nat) (f:MapEntry->MapEntry) (x:Value),(∀e,l[j]? = some e->(f e).key=e.key/\(f e).val=x)->turns (l.modify j f)=(turns l).set (2*j+1) x
 |[],j,f,x,_=>by simp[turns]
 |e::l,0,f,x,h=>by
  obtain⟨h1,h2⟩:=h e rfl;simp[turns,h1,h2]
 |e::l,j+1,f,x,h=>by
  have ih:=zR l j f x (λe' he'=>h e' (by simpa using he'));have e1:turns (e::l.modify j f)=e.key::e.val::turns (l.modify j f):=rfl;have e2:turns (e::l)=e.key::e.val::turns l:=rfl;rw[List.modify_succ_cons,e1,e2,ih,show 2*(j+1)+1=(2*j+1)+1+1 by omega,jY,jY]
theorem ef.UK (he:ef c ρ H w){i:Nat}{b:jJ}(hi:mapOf H i=some b){cs:List Value}{H':Mem} (DV:H.set i { b with cells:=cs }=some H') {r:Nat} {es es':Array MapEntry} {clock clock':Nat}
 (hr:ρ i=some (r,0)) (hB:c.own r) (hw:w.heap[r]? = some (.map es clock)) (hl:LR (bG ρ) cs (turns es'.toList)):ef c ρ H' (gI w r (.map es' clock')):=by
 obtain⟨g1,g2⟩:=u9 hi;obtain⟨e1,e2,e3,e4,e5⟩:=Mem.kY DV;have Ky:r<w.heap.size:=(aB.1 hw).1;have bl:b.live=false:=by unfold iS at g2;cases hl:b.live with|true=>rw[hl]at g2;cases g2|false=>rfl
 have atL:∀{j:Nat} {bj:jJ},H'.get j=some bj->bj.live=true->H.get j=some bj:=by
  intro j bj hj uo;rw[e5]at hj;by_cases hij:j=i
  .rw[ag hij]at hj;cases hj;simp only at uo;rw[bl]at uo;cases uo
  rw[aa hij]at hj;exact hj
 have atM:∀{j:Nat} {bj:jJ},H'.get j=some bj->iS bj=true->∃b',H.get j=some b'/\iS b'=true/\(j≠i->b'=bj):=by
  intro j bj hj hm;rw[e5]at hj;by_cases hij:j=i
  .subst hij;exact⟨b,g1,g2,λh=>absurd rfl h⟩
  rw[aa hij]at hj;exact⟨bj,hj,hm,λ_=>rfl⟩
 refine⟨he.stay.Kx hB ⟨rfl,rfl,rfl,by simp[gI],λk hk=>gq _ _ _ _ (by have:=hB.1;omega)⟩ (λk hk=>gq _ _ _ _ hk),by simpa[gI] using he.base,λj y hy=>by rw[e3];exact he.dom j y hy,by rw[e4];exact he.lk,by rw[e3];exact he.zF,he.ju,?_,?_,?_,?_⟩
 .intro j bj hj uo;obtain⟨q,y,E,er,s',m1,m2,m3,m4⟩:=he.blk j bj (atL hj uo) uo;exact⟨q,y,E,er,s',m1,m2,by rw[gq _ _ _ _ (λe=>by subst e;rw[hw]at m3;cases m3)];exact m3,m4⟩
 .intro j k bj bk q y z hj uo hk hlk hq hq';exact he.inj j k bj bk q y z (atL hj uo) uo (atL hk hlk) hlk hq hq'
 .intro j bj hj hm;obtain⟨b',h1,h2,h3⟩:=atM hj hm;by_cases hij:j=i
  .subst hij;rw[e5,ag rfl]at hj;cases hj;exact⟨r,es',clock',hr,hB,rL _ _ _ Ky,hl⟩
  obtain rfl:=h3 hij;obtain⟨q,es2,aeG,m1,m2,m3,m4⟩:=he.maps j b' h1 h2;exact⟨q,es2,aeG,m1,m2,by rw[gq _ _ _ _ (λe=>by subst e;exact hij (he.vX j i b' b _ _ _ h1 h2 g1 g2 m1 hr))];exact m3,m4⟩
 intro j k bj bk q y z hj Uz hk hmk hq hq';obtain⟨b1,h1,h2,_⟩:=atM hj Uz;obtain⟨b2,h3,h4,_⟩:=atM hk hmk;exact he.vX j k b1 b2 q y z h1 h2 h3 h4 hq hq'
theorem Gt (he:ef c ρ H w){t:TypeId}{m m' k k' x x' v:Value}{H':Mem}(hm:bG ρ m m')(hk:bG ρ k k')(hx:bG ρ x x')(h:pL c.P t m k x H=some (v,H')) :
 ∃w',ef c ρ H' w'/\(Instr.mapUpdate t m' k' x').run c.P w = .ok () w'/\v=undef:=by
 unfold pL at h;split at h
 .rename_i kt e i ht;split at h
  .rename_i d b hd hb;rw[ax]at h;split at h
   .rename_i Qr;simp only[ak]at Qr;obtain⟨Qr,hkf⟩:=Qr;have hk':=lS hk hkf;subst hk';obtain⟨g1,g2⟩:=u9 hb;obtain⟨r,es,clock,k1,k2,k3,k4⟩:=he.maps i b g1 g2;cases hm with
    |map _ r' y hr =>
     rw[k1]at hr;cases hr;split at h
     .rename_i j u hf;split at h
      .rename_i H1 DV;cases h;rcases zQ hk b.cells es.toList 0 k4 hf with⟨h0,_⟩|⟨j',u',e',h0,h1,h2,h3,h4,h5⟩
       .cases h0
       rw[bX]at h0 h1;cases h0;have hj:es[j]? = some e':=by simpa using h3
       refine⟨_,he.UK hb DV k1 k2 k3 (es':=es.modify j λe=>{ e with key:=k',val:=x' }) (clock':=clock) ?_,?_,rfl⟩
       .rw[Array.toList_modify,zR es.toList j _ x' (λe1 UL=>by rw[h3]at UL;cases UL;exact⟨h4.symm,rfl⟩)];exact k4.set _ hx
       simp[Instr.mapUpdate,run_underlying ht,gk k3,uq hd Qr,run_findKey hd h1,hj,h4,run_keyThatStays h5,run_setObj_map _ k3,Result.andThen,gI]
      cases h
     .rename_i hf;split at h
      .rename_i H1 DV;cases h;rcases zQ hk b.cells es.toList 0 k4 hf with⟨_,h1⟩|⟨j',u',e',h0,_⟩
       .refine ⟨_,he.UK hb DV k1 k2 k3 (es':=es.push { key:=k',val:=x',born:=clock }) (clock':=clock+1) ?_,?_,rfl⟩
        .rw[Array.toList_push,IG];exact k4.append (.cons hk (.cons hx .nil))
        simp[Instr.mapUpdate,run_underlying ht,gk k3,uq hd Qr,run_findKey hd h1,run_setObj_map _ k3,Result.andThen,gI]
       cases h0
      cases h
     cases h
   cases h
  cases h
 cases h
theorem DZ {t:TypeId}{r:Option Value}{v:Value}{H':Mem}(h:nI P t r H=some (v,H')):∃b,H.push b=some H':=by
 unfold nI at h;split at h
 .split at h
  .rename_i hp;cases h;exact⟨_,hp⟩
  cases h
 .split at h
  .rename_i hp;cases h;exact⟨_,hp⟩
  cases h
 cases h
theorem yC {t:TypeId}{m k x v:Value}{H':Mem}(h:pL P t m k x H=some (v,H')):∃i b,H.set i b=some H':=by
 unfold pL at h;split at h
 .split at h
  .rw[ax]at h;split at h
   .split at h
    .split at h
     .rename_i hp;cases h;exact⟨_,_,hp⟩
     cases h
    .split at h
     .rename_i hp;cases h;exact⟨_,_,hp⟩
     cases h
    cases h
   cases h
  cases h
 cases h
end
end Go.Ev
namespace Go.Ev
open Go.RowKit
section
variable {c:Cx} {P:Program} {w:World} {ρ:Ren} {H:Mem}
def UM (c:Cx)(ρ:Ren)(o:Oper)(ev:Operand->Value)(w:World)(v:Value)(H':Mem):Prop :=
 ∃ ρ' w' v',ρ.le ρ'/\ef c ρ' H' w'/\bG ρ' v v'/\((execOp ev o).run c.P w = .ok (.value v') w'\/((execOp ev o).run c.P w = .ok .skip w'/\v'=undef))
abbrev EvR (ρ:Ren)(ev ev':Operand->Value)(o:Op):Prop:=∀x∈o.operands,bG ρ (ev x) (ev' x)
theorem PR.parts {ev ev':Operand->Value}:∀(l:List (Nat×Operand)),(∀q∈l,bG ρ (ev q.2) (ev' q.2))->PR (bG ρ) (l.map λq=>(q.1,ev q.2)) (l.map λq=>(q.1,ev' q.2))
 |[],_=>trivial
 |q::l,h=>⟨rfl,h q (by simp),PR.parts l λx hx=>h x (by simp[hx])⟩
theorem D0 {ev ev':Operand->Value}(x:Option Operand)(h:∀y,x=some y->bG ρ (ev y) (ev' y)):OR (bG ρ) (x.map ev) (x.map ev'):=by
 cases x with
 |none=>exact .none
 |some y=>exact .some (h y rfl)
theorem AR.map {ev ev':Operand->Value}(xs:Array Operand)(h:∀y∈xs,bG ρ (ev y) (ev' y)):AR (bG ρ) (xs.map ev) (xs.map ev') :=
 ⟨by simp,λi x y hx hy=>by
  simp only[Array.getElem?_map,aL]at hx hy;obtain⟨q,h1,rfl⟩:=hx;obtain⟨q',h2,rfl⟩:=hy;rw[h1]at h2;cases h2;exact h q (aY h1)⟩
theorem bP {H H':Mem}{x:Option Value}{v:Value}(h:cE H x=some (v,H')):x=some v/\H'=H:=by
 cases x with
 |none=>cases h
 |some u =>
  have h':some (u,H)=some (v,H'):=h;cases h';exact⟨rfl,rfl⟩
theorem nu {x y:Option Value}{v:Value}(h:orElse x y=some v):x=some v\/(x=none/\y=some v):=by
 cases x with
 |none=>exact .inr ⟨rfl,h⟩
 |some u=>exact .inl h
theorem cD (a b:Int):bC a b=decide (a<b):=by
 unfold bC;split
 .rw[nj];rw[fc];simp only[dU];omega
 .simp only[dU,mO];symm;simp;omega
 .simp only[dU,mO];symm;simp;omega
 rw[nj];rw[fc];simp only[mO];omega
theorem eF (a b:Int):bI a b=(a==b):=by
 unfold bI;split
 .rename_i m n;rw[bO];simp[aO];omega
 .rename_i m n;rw[bO];simp[aO]
 rename_i h1 h2;cases a<;>cases b
 .exact absurd rfl (h1 _ _ rfl)
 .rfl
 .rfl
 exact absurd rfl (h2 _ _ rfl)
theorem yT {n:Int}(h:Kr n=true):IntKind.i64.wrap n=n:=by
 refine IntWalk.i64_in n ?_;unfold Kr at h;split at h
 .simp only[Nat.blt_eq]at h;simp only[dU];omega
 simp only[Nat.blt_eq]at h;simp only[mO];omega
theorem Gu (n:Int):forced n=n:=by
 unfold forced;split<;>rfl
theorem KL {k k':IntKind}(h:NM k k'=true):k=k':=by
 cases k<;>cases k'<;>first|rfl|(simp[NM]at h)
theorem KM {op:BinOp}{x y v:Value}(h:DL op x y=some v)(t:TypeId)(p q:Operand)(w:World) :
 (do eqGuard op t p q x y;binOp op t x y:Sem Value).run P w = .ok v w/\aZ v=true/\aZ x=true/\aZ y=true:=by
 unfold DL at h;split at h
 .rename_i k a k' b;rw[ax]at h;split at h
  .rename_i hk;have:=KL hk;subst this;have hg:(eqGuard op t p q (.int k a) (.int k b)).run P w = .ok () w:=by
    unfold eqGuard;cases op<;>rfl
   refine⟨?_,?_,rfl,rfl⟩
   .simp only[Sem.run_bind,hg,Result.andThen_ok];split at h
    .rename_i u hu;cases h;unfold Qk at hu;have n1:∀a b:Int,(!decide (b<a))=decide (a<=b):=λa b=>by
      rw[bO];simp
     cases op<;>cases hu<;>simp[binOp,Op.intCmp,cD,eF,bne,n1]
    split at h
    .rename_i n hn;cases h;unfold Ql at hn;split at hn
     .rw[ax]at hn;split at hn
      .rename_i hr;cases hn;have e:IntKind.i64.wrap (a+b)=a+b:=yT hr;have e2:Int.add a b=a+b:=rfl;simp[binOp,Op.intArith,Gu,e]
      cases hn
     .rw[ax]at hn;split at hn
      .rename_i hr;cases hn;have e:IntKind.i64.wrap (a-b)=a-b:=yT hr;have e2:Int.sub a b=a-b:=rfl;simp[binOp,Op.intArith,Gu,e,e2]
      cases hn
     cases hn
    cases h
   split at h
   .cases h;rfl
   split at h
   .cases h;rfl
   cases h
  cases h
 cases h
theorem rf {t:TypeId}{x y:Value}{b:Bool}{op:BinOp}{v:Value}(p q:Operand)(w:World)(hg:∀op,(eqGuard op t p q x y).run P w = .ok () w)(he:(Op.equalIn 10000 t x y).run P w = .ok b w)
 (h1:binOp .eql t x y=do pure (.bool (<- Op.equal t x y))) (h2:binOp .neq t x y=do pure (.bool (!(<- Op.equal t x y))))
 (h:(op = .eql/\v = .bool b)\/(op = .neq/\v = .bool !b)):(do eqGuard op t p q x y;binOp op t x y:Sem Value).run P w = .ok v w:=by
 have he':(Op.equal t x y).run P w = .ok b w:=he;rcases h with⟨rfl,rfl⟩|⟨rfl,rfl⟩
 .simp only[Sem.run_bind,hg,Result.andThen_ok,h1,he',Sem.run_pure]
 simp only[Sem.run_bind,hg,Result.andThen_ok,h2,he',Sem.run_pure]
theorem ZK {op:BinOp}{x y v x' y':Value}{t:TypeId}(hx:bG ρ x x')(hy:bG ρ y y')(h:ue P op t x y=some v)(p q:Operand)(w:World) :
 (do eqGuard op t p q x' y';binOp op t x' y':Sem Value).run P w = .ok v w/\aZ v=true:=by
 unfold ue at h;split at h
 .rename_i a b hu;cases hx;cases hy;have e:(Op.equalIn (9999+1) t (.bool a) (.bool b)).run P w = .ok (a==b) w:=by
   unfold Op.equalIn;simp[run_underlying hu]
  have hg:∀op,(eqGuard op t p q (.bool a) (.bool b)).run P w = .ok () w:=λop=>by unfold eqGuard;cases op<;>rfl
  split at h
  .cases h;refine⟨rf p q w hg e rfl rfl (.inl ⟨rfl,?_⟩),rfl⟩;cases a<;>cases b<;>rfl
  .cases h;refine⟨rf p q w hg e rfl rfl (.inr ⟨rfl,?_⟩),rfl⟩;cases a<;>cases b<;>rfl
  cases h
 .rename_i l cc l2 c2 hu;cases hx with
  |void a' =>
   cases hy with
   |me _ _ =>
    have e:(Op.equalIn (9999+1) t (.slice (some a') 0 0) (.slice none l2 c2)).run P w = .ok false w:=by
     unfold Op.equalIn;simp[run_underlying hu]
    have hg:∀op,(eqGuard op t p q (.slice (some a') 0 0) (.slice none l2 c2)).run P w = .ok () w:=λop=>by unfold eqGuard;cases op<;>rfl
    split at h
    .cases h;exact⟨rf p q w hg e rfl rfl (.inl ⟨rfl,rfl⟩),rfl⟩
    .cases h;exact⟨rf p q w hg e rfl rfl (.inr ⟨rfl,rfl⟩),rfl⟩
    cases h
  |slice i off _ _ r y2 hr =>
   cases hy with
   |me _ _ =>
    have e:(Op.equalIn (9999+1) t (.slice (some ⟨r,off,none⟩) l (cc+y2)) (.slice none l2 c2)).run P w = .ok false w:=by
     unfold Op.equalIn;simp[run_underlying hu]
    have hg:∀op,(eqGuard op t p q (.slice (some ⟨r,off,none⟩) l (cc+y2)) (.slice none l2 c2)).run P w = .ok () w:=λop=>by unfold eqGuard;cases op<;>rfl
    split at h
    .cases h;exact⟨rf p q w hg e rfl rfl (.inl ⟨rfl,rfl⟩),rfl⟩
    .cases h;exact⟨rf p q w hg e rfl rfl (.inr ⟨rfl,rfl⟩),rfl⟩
    cases h
 .rename_i hu;cases hx with
  |ptr i off r y2 hr =>
   cases hy with
   |wA =>
    have e:(Op.equalIn (9999+1) t (.pointer (some ⟨r,off,none⟩)) (.pointer none)).run P w = .ok false w:=by
     unfold Op.equalIn;simp[run_underlying hu]
    have hg:∀op,(eqGuard op t p q (.pointer (some ⟨r,off,none⟩)) (.pointer none)).run P w = .ok () w:=λop=>by unfold eqGuard;cases op<;>rfl
    split at h
    .cases h;exact⟨rf p q w hg e rfl rfl (.inl ⟨rfl,rfl⟩),rfl⟩
    .cases h;exact⟨rf p q w hg e rfl rfl (.inr ⟨rfl,rfl⟩),rfl⟩
    cases h
 .rename_i te i a j b hu;rw[ax]at h;split at h
  .rename_i hc;simp only[ak,aO]at hc;obtain⟨⟨rfl,rfl⟩,hsz⟩:=hc;cases hx with
   |ptr _ _ r y hr =>
    cases hy with
    |ptr _ _ r2 y2 Zs =>
     rw[hr]at Zs;cases Zs;have e:(Op.equalIn (9999+1) t (.pointer (some ⟨r,a,none⟩)) (.pointer (some ⟨r,a,none⟩))).run P w = .ok true w:=by
      obtain⟨n,hn⟩:=bV.1 hsz;obtain⟨inf,hi,_⟩:=aL.1 hn;unfold Op.equalIn;simp[run_underlying hu,sizeOf,typeInfo,hi,run_sameAddr_same]
     have hg:∀op,(eqGuard op t p q (.pointer (some ⟨r,a,none⟩)) (.pointer (some ⟨r,a,none⟩))).run P w = .ok () w:=λop=>by unfold eqGuard;cases op<;>rfl
     split at h
     .cases h;exact⟨rf p q w hg e rfl rfl (.inl ⟨rfl,rfl⟩),rfl⟩
     .cases h;exact⟨rf p q w hg e rfl rfl (.inr ⟨rfl,rfl⟩),rfl⟩
     cases h
  cases h
 .rename_i hu;cases hx;cases hy;have e:(Op.equalIn (9999+1) t (.pointer none) (.pointer none)).run P w = .ok true w:=by
   unfold Op.equalIn;simp[run_underlying hu]
  have hg:∀op,(eqGuard op t p q (.pointer none) (.pointer none)).run P w = .ok () w:=λop=>by unfold eqGuard;cases op<;>rfl
  split at h
  .cases h;exact⟨rf p q w hg e rfl rfl (.inl ⟨rfl,rfl⟩),rfl⟩
  .cases h;exact⟨rf p q w hg e rfl rfl (.inr ⟨rfl,rfl⟩),rfl⟩
  cases h
 cases h
theorem Gv {d:TypeId}{x x' v:Value}(hx:bG ρ x x')(h:nZ P d x=some v)(s:TypeId)(hs:∃q,P.underlying s=some q)(w:World):(convert s d x').run P w = .ok v w/\aZ v=true:=by
 obtain⟨q,hq⟩:=hs;unfold nZ at h;split at h
 .rename_i n hu;cases hx;rw[ax]at h;split at h
  .rename_i hn;cases h;refine⟨?_,rfl⟩;have hn':n<=255:=by simpa[bu] using hn
   have e:IntKind.i64.wrap (n:Int)=n:=IntWalk.i64_in _ (by omega);simp[convert,run_underlying hq,run_underlying hu,Conv.intToInt,e]
  cases h
 .rename_i n hu;cases hx;rw[ax]at h;split at h
  .rename_i hn;cases h;refine⟨?_,rfl⟩;simp[convert,run_underlying hq,run_underlying hu,Conv.intToInt,yT hn]
  cases h
 cases h
theorem ajK:Extern.allNextRows.lookup "internal/abi.NoEscape" = none:=by kernel_rfl
theorem adn:Extern.allNextRows.lookup "" = none:=by kernel_rfl
theorem aoc:Extern.allGenericRows.lookup "internal/abi.NoEscape" = none:=by kernel_rfl
theorem aod:Extern.allTypedRows.lookup "internal/abi.NoEscape" = none:=by kernel_rfl
theorem aoe:Extern.allRows.lookup "internal/abi.NoEscape" = some Extern.AbiNoEscape.same:=by kernel_rfl
theorem D1 {o:Oper} {ev':Operand->Value} {f y:Operand} {ats:Array TypeId} {id:FuncId} {fn:Func} (hop:o.op = .call { callee:=.value f,args := #[y],argTypes:=ats }) (hg:ev' f = .func (.func id) #[] #[]) (hfn:c.P.funcs[id]? = some fn) (hb:¬fn.body.isSome=true) (hname:fn.name = "internal/abi.NoEscape") (UN:fn.origin = "") (w:World) :
 (execOp ev' o).run c.P w = .ok (.value (ev' y)) w:=by
 have hb':fn.body.isNone=true:=by simpa using hb
 have e1:Extern.findNext fn=none:=by
  simp only[Extern.findNext,hname,UN];rw[ajK,adn];rfl
 have e2:Extern.find fn=some Extern.AbiNoEscape.same:=by
  simp only[Extern.find,hname,UN];rw[aoc,aod,aoe];rfl
 have hn:¬(fn.name = "runtime.NumGoroutine"):=by rw[hname];decide
 have Kk:fn.body=none:=by simpa using hb'
 simp only[execOp,hop,resolve,Deferred.ofValue,hg,invoke,callFunc];have e3:Extern.AbiNoEscape.same #[ev' y]=pure (ev' y):=rfl;simp[hfn,hn,Kk,e1,e2,e3]
set_option maxHeartbeats 1000000 in
theorem ef.freeze {c:Cx}{ρ:Ren}{H H':Mem}{w:World}(he:ef c ρ H w){i r x n:Nat}{b:jJ}(hi:alive H i=some b)(hk:Ev.kill H i=some H')(hr:ρ i=some (r,x)):ef c ρ H' (w.freeze ⟨r,0,none⟩ n):=by
 have hk2:=he.kill hk;obtain⟨k1,k2,k3,k4⟩:=nM hk;obtain⟨hg,hl⟩:=dF hi;have hB:c.own r:=by
  obtain⟨r',x',C,fr,s,h1,h2,_⟩:=he.blk i b hg hl;rw[hr]at h1;cases h1;rcases h2 with h2|h2
  .exfalso;unfold Ev.kill at hk;rw[hg]at hk;obtain⟨_,h3,_⟩:=Mem.kY hk;have:=he.lk;omega
  exact h2
 refine⟨hk2.stay.Kx hB (Lib.below_freeze (Below.refl _ _) (p:=⟨r,0,none⟩) hB.1 n) (λk hk=>nN _ _ _ _ hk),by rw[Co];exact hk2.base,hk2.dom,hk2.lk,hk2.zF,hk2.ju,λj b' hj hl'=>?_,hk2.inj,λj b' hj hm=>(hk2.maps j b' hj hm).heap λq es clock hh=>by
  obtain⟨r',x',C,fr,s,h1,h2,h3,_⟩:=he.blk i b hg hl;rw[hr]at h1;cases h1;rw[nN _ _ _ _ (λe=>by subst e;rw[h3]at hh;cases hh)];exact hh,hk2.vX⟩
 obtain⟨r',x',C,fr,s,h1,h2,h3,h4⟩:=hk2.blk j b' hj hl';obtain⟨hj0,hne⟩:=k3 j b' hj (.inl hl');have hrr:r'≠r:=λe=>hne (by subst e;exact he.inj j i b' b r' x' x hj0 hl' hg hl h1 hr)
 exact⟨r',x',C,fr,s,h1,h2,by rw[nN _ _ _ _ hrr];exact h3,h4⟩
theorem Gw:∀{cs:List Value} {acc s:ByteArray},cs.all zJ=true->sv cs acc=some s->∃l:List UInt8,cs=l.map (λb=>Value.int .u8 b.toNat)/\s.data.toList=acc.data.toList++l
 |[],acc,s,_,h=>by cases h;exact⟨[],rfl,by simp⟩
 |v::cs,acc,s,ha,h=>by
  simp only[bY,ak]at ha;obtain⟨h1,h2⟩:=ha;unfold zJ at h1;split at h1
  .rename_i n;have hn:n<=255:=az h1;simp only[sv,De]at h;obtain⟨l,e1,e2⟩:=Gw h2 h;refine⟨UInt8.ofNat n::l,?_,?_⟩
   .rw[e1];simp only[cP,List.cons.injEq,Value.int.injEq,jF,and_true];have:(UInt8.ofNat n).toNat=n:=by simp[UInt8.toNat_ofNat'];omega
    rw[this];rfl
   rw[e2];simp
  cases h1
theorem ZL {c:Cx}{ρ:Ren}{H H':Mem}{w:World}(he:ef c ρ H w){pt:TypeId}{p p' n n' v:Value}(hp:bG ρ p p')(hn:bG ρ n n')(h:DP c.P H pt p n=some (v,H'))(it ty:TypeId) :
 ∃w' v',ef c ρ H' w'/\bG ρ v v'/\(Builtin.unsafeString_ #[pt,it] ty #[p',n']).run c.P w = .ok v' w':=by
 unfold DP at h;split at h
 .rename_i a;cases h;cases hn;have hp':∃a',p' = .pointer a':=by cases hp<;>exact⟨_,rfl⟩
  obtain⟨a',rfl⟩:=hp';exact⟨w,_,he,.string _,Lib.run_unsafeString_none w pt it ty a'⟩
 .rename_i i m e hu;split at h
  .rename_i b cs hb hcs;rw[ax]at h;split at h
   .rename_i hc;simp only[ak,aO,eK]at hc;obtain⟨⟨⟨hel,hce⟩,hm⟩,hall⟩:=hc;have hm:=az hm;split at h
    .rename_i s H1 hs hk;cases h;cases hn;cases hp with
     |ptr _ _ r y hr =>
      obtain⟨l',h1,h2,h3⟩:=he.read hr hcs;obtain⟨l,e1,e2⟩:=Gw hall hs;have hlen:l.length=m+1:=by
       have:cs.length=m+1:=h2;rw[e1]at this;simpa using this
      obtain⟨hg,hl⟩:=dF hb;obtain⟨r',y',C,fr,sz,k1,k2,k3,k4,k5,k6,k7⟩:=he.blk i b hg hl;rw[hr]at k1;cases k1;have hsl:s=⟨l.toArray⟩:=by
       cases s with
       |mk d =>
        have:d.toList=l:=by simpa using e2
        rw[<-this]
      refine⟨w.freeze ⟨r,0,none⟩ (m+1),_,he.freeze hb hk hr,.string _,?_⟩;have hlc:l.length<=C.size:=by
       unfold fW at hcs;rw[hb]at hcs;simp only at hcs;split at hcs
       .rename_i hle;omega
       cases hcs
      have hrun:=Lib.run_unsafeString_row (P:=c.P) w pt it ty e hu hce r C.size (by simp[World.shape?,k3,hel]) l (by intro h0;rw[h0]at hlen;simp at hlen) hlc (by omega) (λj x hx=>by
       have hj:cs[j]? = some (.int .u8 x.toNat):=by rw[e1];simp[hx]
       obtain⟨z,hz,hzr⟩:=h1.get hj;cases hzr;have:=h3 j _ hz;exact this)
      rw[hlen]at hrun;rw[hsl];exact hrun
    cases h
   cases h
  cases h
 cases h
theorem aeH (he:ef c ρ H w){call:cH}{o:Oper}{ev ev':Operand->Value}(ck:EvR ρ ev ev' o.op)(hnc:∀cl,o.op = .call cl->∀f,cl.callee = .value f->qc c.P call (ev f) (cl.args.toList.map ev) H=none){v:Value}{H':Mem}(h:jt c.P call ev o H=some (v,H')) :
 UM c ρ o ev' w v H':=by
 have hpure:∀{v:Value},gR c.P ev o=some v->UM c ρ o ev' w v H:=by
  intro v hu;obtain⟨h1,h2⟩:=pure_ok (P:=c.P) ck hu w;exact⟨ρ,w,_,Ren.le_refl _,he,h2,.inl h1⟩
 have same:∀{v v':Value},bG ρ v v'->(execOp ev' o).run c.P w = .ok (.value v') w->UM c ρ o ev' w v H:=λh1 h2=>⟨ρ,w,_,Ren.le_refl _,he,h1,.inl h2⟩
 unfold jt at h;split at h;case h_1 x hop =>
  cases h;exact same (ck x (by simp[hop,Op.operands])) (by simp[execOp,hop])
 case h_2 x hop =>
  cases h;exact same (ck x (by simp[hop,Op.operands])) (by simp[execOp,hop])
 case h_3 cc x y hop =>
  unfold DM at h;split at h
  .rename_i t hc;cases h;have hcc:=ck cc (by simp[hop,Op.operands]);rw[hc]at hcc;generalize hq:ev' cc=q at hcc;cases hcc;refine same (v':=if t then ev' x else ev' y) ?_ (by simp[execOp,hop,hq,asBool]);cases t
   .exact ck y (by simp[hop,Op.operands])
   exact ck x (by simp[hop,Op.operands])
  cases h
 case h_4 op t x y yt hop =>
  unfold wk at h;obtain⟨zS,rfl⟩:=bP h;have hx:=ck x (by simp[hop,Op.operands]);have hy:=ck y (by simp[hop,Op.operands]);rcases nu zS with h|⟨_,h⟩
  .obtain ⟨h1,h2,h3,h4⟩:=KM (P:=c.P) h t x y w;rw[<-lS hx h3,<-lS hy h4]at h1;refine same (dB _ h2) ?_;simp only[execOp,hop];rw[Sem.run_bind,h1];rfl
  rcases nu h with h|⟨_,h⟩
  .obtain ⟨h1,h2⟩:=ZK (P:=c.P) hx hy h x y w;refine same (dB _ h2) ?_;simp only[execOp,hop];rw[Sem.run_bind,h1];rfl
  exact hpure h
 case h_5 t hop =>
  obtain⟨ρ',w',v',h1,h2,h3,h4⟩:=UC he h;exact⟨ρ',w',v',h1,h2,h3,.inl (by simp[execOp,hop,h4])⟩
 case h_6 t x hop =>
  obtain⟨ρ',w',v',h1,h2,h3,h4⟩:=aey he (ck x (by simp[hop,Op.operands])) h;exact⟨ρ',w',v',h1,h2,h3,.inl (by simp[execOp,hop,h4])⟩
 case h_7 t ps hop =>
  obtain⟨hu,rfl⟩:=bP h;have hp:=PR.parts (ev:=ev) (ev':=ev') ps.toList λq hq=>ck q.2 (by simp[hop,Op.operands];exact⟨q.1,by simpa using hq⟩)
  obtain⟨v',h1,h2⟩:=UD hp hu w;refine same h2 ?_;have e1:(ps.map λq=>(q.1,ev' q.2))=(ps.toList.map λq=>(q.1,ev' q.2)).toArray:=by apply jC;simp
  simp only[execOp,hop];simp only[Sem.run_bind];have:(Instr.build t (ps.map λ(i,x)=>(i,ev' x))).run c.P w = .ok v' w:=by
   rw[<-h1,<-e1]
  rw[this];rfl
 case h_8 t len ps hop =>
  have hp:=PR.parts (ev:=ev) (ev':=ev') ps.toList λq hq=>ck q.2 (by simp[hop,Op.operands];exact⟨q.1,by simpa using hq⟩)
  obtain⟨ρ',w',v',h1,h2,h3,h4⟩:=F9 he hp h;refine⟨ρ',w',v',h1,h2,h3,.inl ?_⟩;have e1:(ps.map λq=>(q.1,ev' q.2))=(ps.toList.map λq=>(q.1,ev' q.2)).toArray:=by apply jC;simp
  simp only[execOp,hop];simp only[Sem.run_bind];have:(Instr.buildSlice t len (ps.map λ(i,x)=>(i,ev' x))).run c.P w = .ok v' w':=by
   rw[<-h4,<-e1]
  rw[this];rfl
 case h_9 t x hop =>
  obtain⟨hu,rfl⟩:=bP h;obtain⟨v',h1,h2⟩:=Qo he (ck x (by simp[hop,Op.operands])) hu;exact same h2 (by simp[execOp,hop,h1])
 case h_10 t x y hop =>
  unfold qt at h;split at h
  .rename_i H1 hu;cases h;obtain⟨w',h1,h2⟩:=UB he (ck x (by simp[hop,Op.operands])) (ck y (by simp[hop,Op.operands])) hu;exact⟨ρ,w',undef,Ren.le_refl _,h2,.undef,.inr ⟨by simp[execOp,hop,h1],rfl⟩⟩
  cases h
 case h_11 x hop =>
  have hx:=ck x (by simp[hop,Op.operands]);unfold sw at h;split at h
  .rename_i q hq;cases h;rw[hq]at hx;generalize hq':ev' x=q' at hx;cases hx with
   |ptr i off r y hr=>exact same (.ptr _ _ _ _ hr) (by simp[execOp,hop,hq'])
  .rename_i f p1 p2 hq;cases h;rw[hq]at hx;generalize hq':ev' x=q' at hx;cases hx with
   |func _ _ a' _ b' sa ha sb hb=>exact same (.func _ _ a' _ b' sa ha sb hb) (by simp[execOp,hop,hq'])
  cases h
 case h_12 s x f hop =>
  obtain⟨hu,rfl⟩:=bP h;obtain⟨v',h1,h2⟩:=IE (P:=c.P) (ck x (by simp[hop,Op.operands])) hu w;exact same h2 (by simp[execOp,hop,h1])
 case h_13 t x ix hop =>
  obtain⟨hu,rfl⟩:=bP h;obtain⟨v',h1,h2⟩:=aeD (P:=c.P) (ck x (by simp[hop,Op.operands])) (ck ix (by simp[hop,Op.operands])) hu w;exact same h2 (by simp[execOp,hop,h1])
 case h_14 x k hop =>
  have hx:=ck x (by simp[hop,Op.operands]);unfold r7 at h;split at h
  .rename_i vs hq;obtain⟨hu,rfl⟩:=bP h;rw[hq]at hx;generalize hq':ev' x=q' at hx;cases hx with
   |tuple _ vs' sa ha =>
    have hu':vs[k]? = some v:=by simpa using hu
    have hlt:k<vs.size:=(aB.1 hu').1;have hlt':k<vs'.size:=sa ▸ hlt;exact same (v':=vs'[k]) (ha k _ _ hu' (by simp[hlt'])) (by simp[execOp,hop,hq',Instr.extract,hlt'])
  cases h
 case h_15 t l cp hop =>
  obtain⟨ρ',w',v',h1,h2,h3,h4⟩:=IB he (ck l (by simp[hop,Op.operands])) (ck cp (by simp[hop,Op.operands])) h;exact⟨ρ',w',v',h1,h2,h3,.inl (by simp[execOp,hop,h4])⟩
 case h_16 fn first captured hop =>
  cases h;have h1:=AR.map (ev:=ev) (ev':=ev') first λy hy=>ck y (by simp[hop,Op.operands,hy])
  have h2:=AR.map (ev:=ev) (ev':=ev') captured λy hy=>ck y (by simp[hop,Op.operands,hy])
  exact same (.func fn _ _ _ _ h1.1 h1.2 h2.1 h2.2) (by simp[execOp,hop,Instr.makeFunc])
 case h_17 t x lo hi hop =>
  unfold pJ at h;rw[ax]at h;split at h
  .obtain ⟨zS,rfl⟩:=bP h;have hlo:=D0 (ev:=ev) (ev':=ev') lo λy hy=>ck y (by simp[hop,Op.operands,hy])
   have hhi:=D0 (ev:=ev) (ev':=ev') hi λy hy=>ck y (by simp[hop,Op.operands,hy])
   obtain⟨v',h1,h2⟩:=KH he (ck x (by simp[hop,Op.operands])) hlo hhi zS;exact same h2 (by simp[execOp,hop,h1])
  obtain⟨zS,rfl⟩:=bP h;rcases nu zS with h|⟨_,h⟩
  .have hlo:=D0 (ev:=ev) (ev':=ev') lo λy hy=>ck y (by simp[hop,Op.operands,hy])
   have hhi:=D0 (ev:=ev) (ev':=ev') hi λy hy=>ck y (by simp[hop,Op.operands,hy])
   obtain⟨v',h1,h2⟩:=UJ (P:=c.P) (ck x (by simp[hop,Op.operands])) hlo hhi h w;exact same h2 (by simp[execOp,hop,h1])
  exact hpure h
 case h_18 t x f hop =>
  obtain⟨hu,rfl⟩:=bP h;obtain⟨v',h1,h2⟩:=Sa (P:=c.P) (ck x (by simp[hop,Op.operands])) hu w;exact same h2 (by simp[execOp,hop,h1])
 case h_19 t x ix hop =>
  unfold Ij at h;obtain⟨zS,rfl⟩:=bP h;rcases nu zS with h|⟨_,h⟩
  .obtain ⟨v',h1,h2⟩:=KK (P:=c.P) (ck x (by simp[hop,Op.operands])) (ck ix (by simp[hop,Op.operands])) h w;exact same h2 (by simp[execOp,hop,h1])
  rcases nu h with h|⟨_,h⟩
  .obtain ⟨v',h1,h2⟩:=Sb (P:=c.P) (ck x (by simp[hop,Op.operands])) (ck ix (by simp[hop,Op.operands])) h w;exact same h2 (by simp[execOp,hop,h1])
  exact hpure h
 case h_20 s d x hop =>
  unfold kW at h;split at h
  .rename_i u hu;cases h;rcases nu hu with hu|⟨_,hu⟩
   .split at hu
    .rename_i q hq;obtain⟨h1,h2⟩:=Gv (P:=c.P) (ck x (by simp[hop,Op.operands])) hu s ⟨q,hq⟩ w;exact same (dB _ h2) (by simp[execOp,hop,h1])
    cases hu
   exact hpure hu
  obtain⟨ρ',w',v',h1,h2,h3,h4⟩:=N5 he (ck x (by simp[hop,Op.operands])) h;exact⟨ρ',w',v',h1,h2,h3,.inl (by simp[execOp,hop,h4])⟩
 case h_21 cl hop =>
  unfold ez at h;split at h
  .rename_i f hf;rw[hnc cl hop f hf]at h;simp only at h;have hfr:=ck f (by simp[hop,hf,Op.operands,Call.operands]);obtain⟨callee,args,ats⟩:=cl;simp only at hf h;subst hf;unfold DN at h;split at h
   .rename_i x hx;rw[ax]at h;split at h
    .rename_i hsame;simp only[aq,ay]at h;obtain⟨hvx,rfl⟩:=h;obtain⟨y,hy,rfl⟩:∃y,args = #[y]/\ev y=v:=by
      have:args.toList.length=1:=by have:=cr List.length hx;simpa using this
      match hl:args.toList,this with
      |[y],_ =>
       rw[hl]at hx;exact⟨y,by rw[<-fu (xs:=args),hl],by rw[<-hvx];simpa using hx⟩
     subst hy;unfold wo at hsame;split at hsame
     .rename_i id Zt;split at hsame
      .rename_i fn hfn;rw[ax]at hsame;split at hsame
       .cases hsame
       rename_i hb;rw[Zt]at hfr;generalize hg':ev' f=g' at hfr;cases hfr with
       |func _ _ first' _ captured' s1 _ s2 _ =>
        have e1:first' = #[]:=eX (by simpa using s1.symm)
        have e2:captured' = #[]:=eX (by simpa using s2.symm);subst e1 e2;have hname:fn.name = "internal/abi.NoEscape" /\ fn.origin = "" := by simpa using hsame
        refine same (ck y (by simp[hop,Op.operands,Call.operands])) ?_;exact D1 hop hg' hfn hb hname.1 hname.2 w
      cases hsame
     cases hsame
    obtain⟨hu,rfl⟩:=bP h;exact hpure hu
   obtain⟨hu,rfl⟩:=bP h;exact hpure hu
  .rename_i b hb;obtain⟨callee,args,ats⟩:=cl;simp only at hb;subst hb;have ow:∀x∈args,bG ρ (ev x) (ev' x):=λx hx=>ck x (by simp[hop,Op.operands,Call.operands];exact hx)
   unfold r8 at h;split at h
   .unfold zI at h;split at h
    .rename_i x t hx0 Zu;simp only at hx0 Zu;obtain⟨zS,rfl⟩:=bP h;rcases nu zS with h|⟨_,h⟩
     .have hx:=ow x (aY hx0);unfold tQ at h;split at h
      .rename_i e q n cc hu hq;cases h;rw[hq]at hx;have hlen:∃q' c',ev' x = .slice q' n c':=by
        generalize ev' x=z at hx;cases hx<;>exact⟨_,_,rfl⟩
       obtain⟨q',c',hq'⟩:=hlen;exact same (.int _ _) (by simp[execOp,hop,resolve,invoke,builtin,Builtin.len_,Zu,hx0,run_underlying hu,hq',goInt])
      .rename_i s hu hq;cases h;rw[hq]at hx;have hq':ev' x = .string s:=by
        generalize ev' x=z at hx;cases hx;rfl
       exact same (.int _ _) (by simp[execOp,hop,resolve,invoke,builtin,Builtin.len_,Zu,hx0,run_underlying hu,hq',goInt])
      cases h
     exact hpure h
    cases h
   .unfold sx at h;split at h
    .rename_i s x st xt hs0 hx0 hst NG;have h1:=ow s (aY hs0);have h2:=ow x (aY hx0);obtain⟨ρ',w',v',k1,k2,k3,k4⟩:=R8 (ty:=o.type) (as:=args.map ev') he hst NG (by simp[hs0]) (by simp[hx0]) h1 h2 h;exact⟨ρ',w',v',k1,k2,k3,.inl (by simp[execOp,hop,resolve,invoke,builtin,k4])⟩
    cases h
   .unfold A9 at h;split at h
    .rename_i d x dt hd0 hx0 hdt;have h1:=ow d (aY hd0);have h2:=ow x (aY hx0);obtain⟨w',v',k2,k3,k4⟩:=ZJ (ty:=o.type) (as:=args.map ev') he hdt (by simp[hd0]) (by simp[hx0]) h1 h2 h;exact⟨ρ,w',v',Ren.le_refl _,k2,k3,.inl (by simp[execOp,hop,resolve,invoke,builtin,k4])⟩
    cases h
   .unfold uf at h;split at h
    .rename_i x t hx0 Zu;simp only at hx0 Zu;obtain⟨zS,rfl⟩:=bP h;have hx:=ow x (aY hx0);unfold CT at zS;split at zS
     .rename_i e i off n cc hu hq;split at zS
      .rename_i b hb;rw[ax]at zS;split at zS
       .rename_i KO;cases zS;rw[hq]at hx;have hlen:∃q',ev' x = .slice q' n cc:=by
         generalize ev' x=z at hx;cases hx with
         |slice _ _ _ _ r y hr =>
          obtain⟨hg,hl⟩:=dF hb;obtain⟨r',y',C,fr,s,k1,k2,k3,k4,⟨k5,k6⟩,k7⟩:=he.blk i b hg hl;rw[hr]at k1;cases k1;have:=k6 KO;subst this;exact⟨_,rfl⟩
        obtain⟨q',hq'⟩:=hlen;exact same (.int _ _) (by simp[execOp,hop,resolve,invoke,builtin,Builtin.cap_,Zu,hx0,run_underlying hu,hq',goInt])
       cases zS
      cases zS
     .rename_i e n cc hu hq;cases zS;rw[hq]at hx;have hq':ev' x = .slice none n cc:=by
       generalize ev' x=z at hx;cases hx;rfl
      exact same (.int _ _) (by simp[execOp,hop,resolve,invoke,builtin,Builtin.cap_,Zu,hx0,run_underlying hu,hq',goInt])
     cases zS
    cases h
   .unfold oV at h;split at h
    .rename_i x hx0;obtain⟨zS,rfl⟩:=bP h;have hargs:args = #[x]:=by rw[<-fu (xs:=args),hx0]
     subst hargs;have hx:=ow x (by simp);unfold uX at zS;split at zS
     .rename_i a n cc hq;rw[ax]at zS;split at zS
      .cases zS
      rename_i hc0;cases zS;rw[hq]at hx;generalize hz:ev' x=z at hx;cases hx with
      |void a'=>exact absurd rfl hc0
      |slice i off _ _ r y hr =>
       have hc1:cc+y≠0:=by
        have:cc≠0:=λh0=>hc0 (by rw[h0];rfl)
        omega
       exact same (.ptr i off r y hr) (by simp[execOp,hop,resolve,invoke,builtin,hz,Lib.run_unsafeSliceData_row w _ _ _ _ _ hc1])
     .rename_i n cc hq;cases zS;rw[hq]at hx;generalize hz:ev' x=z at hx;cases hx;exact same .wA (by simp[execOp,hop,resolve,invoke,builtin,hz,Lib.run_unsafeSliceData_nil w])
     cases zS
    cases h
   .unfold Ba at h;split at h
    .rename_i p n pt it hx0 Zu;have hargs:args = #[p,n]:=by rw[<-fu (xs:=args),hx0]
     have aog:ats = #[pt,it]:=by rw[<-fu (xs:=ats),Zu]
     subst hargs aog;obtain⟨w',v',k1,k2,k3⟩:=ZL he (ow p (by simp)) (ow n (by simp)) h it o.type;exact⟨ρ,w',v',Ren.le_refl _,k1,k2,.inl (by simp[execOp,hop,resolve,invoke,builtin,k3])⟩
    cases h
   obtain⟨hu,rfl⟩:=bP h;exact hpure hu
  cases h
 case h_22 t r hop =>
  have hr:=D0 (ev:=ev) (ev':=ev') r λy hy=>ck y (by simp[hop,Op.operands,hy])
  obtain⟨ρ',w',v',h1,h2,h3,h4⟩:=N7 he hr h;exact⟨ρ',w',v',h1,h2,h3,.inl (by simp[execOp,hop,h4])⟩
 case h_23 t x k ok hop =>
  obtain⟨hu,rfl⟩:=bP h;obtain⟨v',h1,h2⟩:=look_ok he (ck x (by simp[hop,Op.operands])) (ck k (by simp[hop,Op.operands])) hu;exact same h2 (by simp[execOp,hop,h1])
 case h_24 t m k x hop =>
  obtain⟨w',h1,h2,rfl⟩:=Gt he (ck m (by simp[hop,Op.operands])) (ck k (by simp[hop,Op.operands])) (ck x (by simp[hop,Op.operands])) h;exact⟨ρ,w',undef,Ren.le_refl _,h1,.undef,.inr ⟨by simp[execOp,hop,h2],rfl⟩⟩
 case h_25 t m k x hop =>
  obtain⟨w',h1,h2,rfl⟩:=Gt he (ck m (by simp[hop,Op.operands])) (ck k (by simp[hop,Op.operands])) (ck x (by simp[hop,Op.operands])) h;exact⟨ρ,w',undef,Ren.le_refl _,h1,.undef,.inr ⟨by simp[execOp,hop,h2],rfl⟩⟩
 case h_26 =>
  obtain⟨hu,rfl⟩:=bP h;exact hpure hu
theorem zT {x x':Value}{a:Option Nat}(h:CU x=some a)(hx:bG ρ x x'):∃n,x' = .float .f64 n/\NF a n:=by
 unfold CU at h;split at h
 .cases h;cases hx;exact⟨_,rfl,rfl⟩
 .cases h;cases hx with
  |nan m hm=>exact⟨m,rfl,hm⟩
 cases h
theorem II {a:Option Nat}{n:Nat}(h:NF a n):bG ρ (NN a) (.float .f64 n):=by
 cases a with
 |none=>exact .nan n h
 |some m=>cases h;exact .float _ _
theorem zU (a:Option Nat):uY (DQ a)=a:=by cases a<;>rfl
theorem Gx (b:Nat):∀(a f:Nat),a<f->vO f (ug a b)=(a,b)
 |0,f+1,_=>by
  have e:ug 0 b=2*b+1:=by simp[ug]
  have h1:(2*b+1)%2=1:=by omega
  have h2:(2*b+1)/2=b:=by omega
  show ah (Nat.beq (ug 0 b%2) 0) _ (0,ug 0 b/2)=_;rw[e,h1,h2];rfl
 |a+1,f+1,h=>by
  have e:ug (a+1) b=2*ug a b:=by
   unfold ug;rw[Nat.pow_succ,Nat.mul_comm (2 ^ a) 2,Nat.mul_assoc]
  have h1:(2*ug a b)%2=0:=by omega
  have h2:(2*ug a b)/2=ug a b:=by omega
  show ah (Nat.beq (ug (a+1) b%2) 0) ((vO f (ug (a+1) b/2)).1+1,(vO f (ug (a+1) b/2)).2) _=_;rw[e,h1,h2,Gx b a f (by omega)];rfl
theorem yU (a b:Nat):vO (ug a b) (ug a b)=(a,b):=by
 refine Gx b a _ ?_;have h1:a<2 ^ a:=Nat.lt_two_pow_self;have h2:2 ^ a*1<=2 ^ a*(2*b+1):=Nat.mul_le_mul_left _ (by omega);unfold ug;omega
theorem ZM {a b:Option Nat}{x y:Nat}(hx:NF a x)(hy:NF b y):bG ρ (cxV a b) (.complex .f64 x y):=by
 have code:bG ρ (.chan (some (ug (DQ a) (DQ b)+2))) (.complex .f64 x y):=.cpx _ _ _ (by rw[yU,zU];exact hx) (by rw[yU,zU];exact hy);cases a with
 |none=>exact code
 |some a=>cases b with
  |none=>exact code
  |some b=>cases hx;cases hy;exact .complex _ _ _
theorem KQ {x x':Value}{q:Option Nat×Option Nat}(h:Il x=some q)(hx:bG ρ x x'):∃m n,x' = .complex .f64 m n/\NF q.1 m/\NF q.2 n:=by
 unfold Il at h;split at h
 .cases h;cases hx;exact⟨_,_,rfl,rfl,rfl⟩
 .cases h;cases hx with
  |cpx k x y h1 h2=>exact⟨x,y,rfl,h1,h2⟩
 cases h
theorem qJ {m:Nat}(h:Ir m):∃s f,Ieee.double.read m = .nan s f:=by
 unfold Ir Ieee.Datum.isNaN at h;split at h
 .rename_i s f he;exact⟨s,f,he⟩
 cases h
theorem Qs (d:Ieee.Datum)(s:Bool)(f:Nat):d.sum (.nan s f)=none:=by cases d<;>rfl
theorem KR (d:Ieee.Datum)(s:Bool)(f:Nat):d.product (.nan s f)=none:=by cases d<;>rfl
theorem ZN {a b:Option Nat}{x y:Nat}(hx:NF a x)(hy:NF b y):Ieee.double.add x y=NT .add a b:=by
 unfold Ieee.Format.add;cases a with
 |none=>obtain⟨s,f,he⟩:=qJ hx;rw[he];rfl
 |some a=>cases b with
  |none=>obtain⟨s,f,he⟩:=qJ hy;rw[he,Qs];rfl
  |some b=>cases hx;cases hy;rfl
theorem ZO {a b:Option Nat}{x y:Nat}(hx:NF a x)(hy:NF b y):Ieee.double.sub x y=NT .sub a b:=by
 unfold Ieee.Format.sub;cases a with
 |none=>obtain⟨s,f,he⟩:=qJ hx;rw[he];rfl
 |some a=>cases b with
  |none =>
   obtain⟨s,f,he⟩:=qJ hy;rw[he];show Option.map _ (Ieee.Datum.sum _ (.nan (!s) f))=_;rw[Qs];rfl
  |some b=>cases hx;cases hy;rfl
theorem ZP {a b:Option Nat}{x y:Nat}(hx:NF a x)(hy:NF b y):Ieee.double.mul x y=NT .mul a b:=by
 unfold Ieee.Format.mul;cases a with
 |none=>obtain⟨s,f,he⟩:=qJ hx;rw[he];rfl
 |some a=>cases b with
  |none=>obtain⟨s,f,he⟩:=qJ hy;rw[he,KR];rfl
  |some b=>cases hx;cases hy;rfl
theorem Sc {x y:Nat}(h:Ir x\/Ir y):Ieee.double.order x y=none:=by
 unfold Ieee.Format.order;rcases h with h|h
 .obtain ⟨s,f,he⟩:=qJ h;rw[he];rfl
 obtain⟨s,f,he⟩:=qJ h;rw[he];cases Ieee.double.read x<;>rfl
theorem ZQ (x y t:Nat):Ir ((Question.nanBits .f64 x y).cut t):=by
 show Ir ((t%2)*2 ^ 63+0x7ff0000000000000+1+(t/2)%(2 ^ 52-1));have h1:(t/2)%(2 ^ 52-1)<2 ^ 52-1:=Nat.mod_lt _ (by decide);generalize (t/2)%(2 ^ 52-1)=r at *;have h2:((t%2)*2 ^ 63+0x7ff0000000000000+1+r)%9223372036854775808=0x7ff0000000000001+r:=by omega
 unfold Ir Ieee.Format.read;have e1:Ieee.double.signWeight=9223372036854775808:=by decide
 have e2:Ieee.double.binade=4503599627370496:=by decide
 have e3:Ieee.double.infRung=9218868437227405312:=by decide
 simp only[e1,e2,e3,h2];rw[aa (by omega),aa (by omega),aa (by omega)];rfl
theorem KS {α:Type}(P:Program)(w:World)(x y:Nat)(k:Nat->Sem α):(Sem.choose (.nanBits .f64 x y) k).run P w=(k ((Question.nanBits .f64 x y).cut (w.tape w.drawn (.nanBits .f64 x y)))).run P w.drew:=rfl
theorem Bh {op:BinOp}{f:Nat->Nat->Option Nat}(hop:∀x y,Op.floatArith op .f64 x y=(match f x y with|some r=>pure (.float .f64 r)|none=>(do pure (.float .f64 (<- choose (.nanBits .f64 x y))):Sem Value))){a:Option Nat}{x y:Nat}(h:f x y=a)(he:ef c ρ H w) :
 ∃n w',(Op.floatArith op .f64 x y).run c.P w = .ok (.float .f64 n) w'/\NF a n/\ef c ρ H w':=by
 rw[hop,h];cases a with
 |some r=>exact⟨r,w,rfl,rfl,he⟩
 |none=>exact⟨_,_,KS _ _ _ _ _,ZQ _ _ _,he.drew⟩
theorem aoh:Extern.allNextRows.lookup "math.Float64bits" = none:=by kernel_rfl
theorem aoi:Extern.allGenericRows.lookup "math.Float64bits" = none:=by kernel_rfl
theorem aoj:Extern.allTypedRows.lookup "math.Float64bits" = none:=by kernel_rfl
theorem aok:Extern.allRows.lookup "math.Float64bits" = some Extern.MathFloatBits.float64bits:=by kernel_rfl
theorem UO {o:Oper} {ev':Operand->Value} {f y:Operand} {ats:Array TypeId} {id:FuncId} {fn:Func} (hop:o.op = .call { callee:=.value f,args := #[y],argTypes:=ats }) (hg:ev' f = .func (.func id) #[] #[]) (hfn:c.P.funcs[id]? = some fn) (hb:¬fn.body.isSome=true) (hname:fn.name = "math.Float64bits") (UN:fn.origin = "") {n:Nat} (hy:ev' y = .float .f64 n) (w:World) :
 (execOp ev' o).run c.P w = .ok (.value (.int .u64 n)) w:=by
 have hb':fn.body.isNone=true:=by simpa using hb
 have e1:Extern.findNext fn=none:=by
  simp only[Extern.findNext,hname,UN];rw[aoh,adn];rfl
 have e2:Extern.find fn=some Extern.MathFloatBits.float64bits:=by
  simp only[Extern.find,hname,UN];rw[aoi,aoj,aok];rfl
 have hn:¬(fn.name = "runtime.NumGoroutine"):=by rw[hname];decide
 have Kk:fn.body=none:=by simpa using hb'
 simp only[execOp,hop,resolve,Deferred.ofValue,hg,invoke,callFunc];have e3:Extern.MathFloatBits.float64bits #[ev' y]=pure (.int .u64 n):=by rw[hy];rfl
 simp[hfn,hn,Kk,e1,e2,e3]
theorem Dg {o:Oper}{ev':Operand->Value}{op:BinOp}{t yt:TypeId}{x y:Operand}{m n:Nat}(hop:o.op = .binOp op t x y yt)(hx:ev' x = .float .f64 m)(hy:ev' y = .float .f64 n){s:Sem Value}(hs:binOp op t (.float .f64 m) (.float .f64 n)=s){v:Value}{w w':World}(h:s.run c.P w = .ok v w') :
 (execOp ev' o).run c.P w = .ok (.value v) w':=by
 subst hs;have hg:eqGuard op t x y (.float .f64 m) (.float .f64 n)=pure ():=by cases op<;>rfl
 simp only[execOp,hop,hx,hy,hg];simp[h]
theorem D2 (ats:Array TypeId)(t:TypeId)(m n:Nat):Builtin.complex_ ats t #[.float .f64 m,.float .f64 n]=pure (.complex .f64 m n):=rfl
theorem Qt (ats:Array TypeId)(t:TypeId)(m n:Nat):Builtin.real_ ats t #[.complex .f64 m n]=pure (.float .f64 m):=rfl
theorem Qu (ats:Array TypeId)(t:TypeId)(m n:Nat):Builtin.imag_ ats t #[.complex .f64 m n]=pure (.float .f64 n):=rfl
theorem aeJ (he:ef c ρ H w){o:Oper}{ev ev':Operand->Value}(ck:EvR ρ ev ev' o.op){v:Value}(h:F7 c.P ev o=some v):UM c ρ o ev' w v H:=by
 unfold F7 at h;split at h
 .rename_i op t x y yt hop;have hx:=ck x (by simp[hop,Op.operands]);have hy:=ck y (by simp[hop,Op.operands]);unfold Ik at h;split at h;case h_2=>cases h
  rename_i a b ha hb;obtain⟨m,em,hm⟩:=zT ha hx;obtain⟨n,en,hn⟩:=zT hb hy;have ari:∀{q:Option Nat},(∃r w',(binOp op t (.float .f64 m) (.float .f64 n)).run c.P w = .ok (.float .f64 r) w'/\NF q r/\ef c ρ H w')->UM c ρ o ev' w (NN q) H:=by
   rintro q ⟨r,w',h1,h2,h3⟩;exact⟨ρ,w',_,Ren.le_refl _,h3,II h2,.inl (Dg hop em en rfl h1)⟩
  split at h
  .cases h;exact ari (Bh (op:=.add) (λx y=>by rfl) (ZN hm hn) he)
  .cases h;exact ari (Bh (op:=.sub) (λx y=>by rfl) (ZO hm hn) he)
  .cases h;exact ari (Bh (op:=.mul) (λx y=>by rfl) (ZP hm hn) he)
  .split at h
   .cases h
   rename_i hno;cases h;have ho:Ieee.double.order m n=none:=by
    refine Sc ?_;cases a with
    |none=>exact .inl hm
    |some a=>cases b with
     |none=>exact .inr hn
     |some b=>exact absurd rfl (hno a b rfl)
   refine⟨ρ,w,_,Ren.le_refl _,he,.bool true,.inl (Dg hop em en rfl ?_)⟩;show (Op.floatCmp .neq .f64 m n).run c.P w=_;have:Op.floatCmp .neq .f64 m n=pure (.bool (Ieee.double.order m n != some .eq)):=rfl;rw[this,ho];rfl
  cases h
 .rename_i cl hop;obtain⟨callee,args,ats⟩:=cl;have ow:∀x∈args,bG ρ (ev x) (ev' x):=λx hx=>ck x (by simp[hop,Op.operands,Call.operands];exact .inr hx)
  have one:∀{v:Value},args.toList.map ev=[v]->∃p,args = #[p]/\ev p=v:=λh=>by
   obtain⟨l⟩:=args
   match l,h with
   |[p],h=>exact⟨p,rfl,by simpa using h⟩
  have two:∀{v u:Value},args.toList.map ev=[v,u]->∃p q,args = #[p,q]/\ev p=v/\ev q=u:=λh=>by
   obtain⟨l⟩:=args
   match l,h with
   |[p,q],h=>exact⟨p,q,rfl,by simpa using h⟩
  simp only at h;split at h
  .rename_i x y hl;obtain⟨p,q,rfl,rfl,rfl⟩:=two hl;split at h
   .rename_i a b ha hb;cases h;obtain⟨m,em,hm⟩:=zT ha (ow p (by simp));obtain⟨n,en,hn⟩:=zT hb (ow q (by simp));exact⟨ρ,w,_,Ren.le_refl _,he,ZM hm hn,.inl (by simp[execOp,hop,resolve,em,en,invoke,builtin,D2])⟩
   cases h
  .rename_i x hl;obtain⟨p,rfl,rfl⟩:=one hl;split at h
   .rename_i q hq;cases h;obtain⟨m,n,em,h1,h2⟩:=KQ hq (ow p (by simp));exact⟨ρ,w,_,Ren.le_refl _,he,II h1,.inl (by simp[execOp,hop,resolve,em,invoke,builtin,Qt])⟩
   cases h
  .rename_i x hl;obtain⟨p,rfl,rfl⟩:=one hl;split at h
   .rename_i q hq;cases h;obtain⟨m,n,em,h1,h2⟩:=KQ hq (ow p (by simp));exact⟨ρ,w,_,Ren.le_refl _,he,II h2,.inl (by simp[execOp,hop,resolve,em,invoke,builtin,Qu])⟩
   cases h
  .rename_i f hl;obtain⟨p,rfl,hp⟩:=one hl;rw[ax]at h;split at h
   .rename_i hb;cases h;have hf:=ck f (by simp[hop,Op.operands,Call.operands]);have hx:=ow p (by simp);rw[hp]at hx;generalize hq:ev' p=q at hx;cases hx with
    |nan m hm =>
     unfold Im at hb;split at hb
     .rename_i id hg;rw[hg]at hf;generalize hg':ev' f=g at hf;cases hf with
      |func fn a a' b b' sa ha sb Kk =>
       obtain rfl:a' = #[]:=eX (by simpa using sa.symm);obtain rfl:b' = #[]:=eX (by simpa using sb.symm);split at hb
       .rename_i fn hfn;rw[ax]at hb;split at hb
        .cases hb
        rename_i hbody;simp only[ak,eK]at hb;exact⟨ρ,w,_,Ren.le_refl _,he,.R7 _ _,.inl (UO hop hg' hfn hbody hb.1 hb.2 hq w)⟩
       cases hb
     cases hb
   cases h
  cases h
 cases h
end
section
variable {P:Program} {H:Mem}
theorem Bi {o:Oper}{ev:Operand->Value}{u:Value}(h:gR P ev o=some u):dg ev o.op=true/\∀w,(execOp ev o).run P w = .ok (.value u) w:=by
 unfold gR at h;split at h
 .cases h
 split at h
 .rename_i hfree;split at h
  .rename_i u' hu;split at h
   .cases h;exact⟨hfree,oY _ hu⟩
   cases h
  cases h
 cases h
theorem xV {x:Value}{a:Option Nat}(h:CU x=some a)(hf:aZ x=true):∃n,x = .float .f64 n/\a=some n:=by
 unfold CU at h;split at h
 .cases h;exact⟨_,rfl,rfl⟩
 .simp[aZ]at hf
 cases h
theorem Gy {x:Value}{q:Option Nat×Option Nat}(h:Il x=some q)(hf:aZ x=true):∃m n,x = .complex .f64 m n/\q=(some m,some n):=by
 unfold Il at h;split at h
 .cases h;exact⟨_,_,rfl,rfl⟩
 .simp[aZ]at hf
 cases h
theorem ZR (w:World):w.drew≠w:=λh=>by
 have:w.drawn+1=w.drawn:=cr World.drawn h;omega
theorem aeL {call:cH}{o:Oper}{ev:Operand->Value}{v u:Value}{H':Mem}(h:F7 P ev o=some v)(h2:jt P call ev o H=some (u,H')):u=v/\H'=H:=by
 unfold F7 at h;split at h
 .rename_i op t x y yt hop;unfold jt at h2;rw[hop]at h2;have h2:wk P ev o op t (ev x) (ev y) H=some (u,H'):=h2;unfold wk at h2;obtain⟨h3,e0⟩:=bP h2;refine⟨?_,e0⟩;unfold Ik at h;split at h;case h_2=>cases h
  rename_i a b ha hb;have e1:DL op (ev x) (ev y)=none:=by
   unfold CU at ha;split at ha
   .rename_i n hx;rw[hx];cases ev y<;>rfl
   .rename_i hx;rw[hx];cases ev y<;>rfl
   cases ha
  have e2:ue P op t (ev x) (ev y)=none:=by
   unfold CU at ha;split at ha
   .rename_i n hx;rw[hx];unfold ue;split<;>first|rfl|(rename_i h1 h2 h3;cases h2)|rfl
   .rename_i hx;rw[hx];unfold ue;split<;>first|rfl|(rename_i h1 h2 h3;cases h2)|rfl
   cases ha
  rw[e1,e2]at h3;have h3:gR P ev o=some u:=h3;obtain⟨hf,hrun⟩:=Bi h3;have Qn:∀z∈o.op.operands,aZ (ev z)=true:=λz hz=>aK.1 hf z (by simpa using hz)
  obtain⟨m,em,rfl⟩:=xV ha (Qn x (by simp[hop,Op.operands]));obtain⟨n,en,rfl⟩:=xV hb (Qn y (by simp[hop,Op.operands]));have same:∀{r:Value} {w':World},(execOp ev o).run P default = .ok (.value r) w'->u=r/\w'=default:=λh4=>by
   have h5:=(hrun default).symm.trans h4;simp only[Result.ok.injEq,Next.value.injEq]at h5;exact⟨h5.1,h5.2.symm⟩
  have ari:∀{op':BinOp} {f:Nat->Nat->Option Nat} {q:Option Nat},binOp op t (.float .f64 m) (.float .f64 n)=Op.floatArith op' .f64 m n ->
   (∀x y,Op.floatArith op' .f64 x y=(match f x y with|some r=>pure (.float .f64 r)|none=>(do pure (.float .f64 (<- choose (.nanBits .f64 x y))):Sem Value)))->f m n=q->u=NN q:=λ{op' f q} hb hop' hq=>by
   cases q with
   |some r =>
    exact(same (Dg (c:=⟨P,0,0,0,default,λ_=>none⟩) hop em en hb (v:=.float .f64 r) (w':=default) (by rw[hop',hq];rfl))).1
   |none =>
    have:=(same (Dg (c:=⟨P,0,0,0,default,λ_=>none⟩) (w:=default) hop em en hb (w':=World.drew default) (by rw[hop',hq];exact KS _ _ _ _ _))).2;exact absurd this (ZR _)
  split at h
  .cases h;exact ari (op':=.add) rfl (λx y=>by rfl) rfl
  .cases h;exact ari (op':=.sub) rfl (λx y=>by rfl) rfl
  .cases h;exact ari (op':=.mul) rfl (λx y=>by rfl) rfl
  .cases h
  cases h
 .rename_i cl hop;obtain⟨callee,args,ats⟩:=cl;have one:∀{v:Value},args.toList.map ev=[v]->∃p,args = #[p]/\ev p=v:=λh=>by
   obtain⟨l⟩:=args
   match l,h with
   |[p],h=>exact⟨p,rfl,by simpa using h⟩
  have two:∀{v u:Value},args.toList.map ev=[v,u]->∃p q,args = #[p,q]/\ev p=v/\ev q=u:=λh=>by
   obtain⟨l⟩:=args
   match l,h with
   |[p,q],h=>exact⟨p,q,rfl,by simpa using h⟩
  unfold jt at h2;rw[hop]at h2;simp only at h h2;have pur:∀{r:Value},cE H (gR P ev o)=some (u,H')->(∀(_:dg ev o.op=true),(execOp ev o).run P default = .ok (.value r) default)->u=r/\H'=H:=λh3 hr=>by
   obtain⟨h4,e0⟩:=bP h3;obtain⟨hf,hrun⟩:=Bi h4;have h5:=(hrun default).symm.trans (hr hf);simp only[Result.ok.injEq,Next.value.injEq]at h5;exact⟨h5.1,e0⟩
  have fr:∀z∈args,dg ev o.op=true->aZ (ev z)=true:=λz hz hf=>aK.1 hf z (by rw[hop];simp[Op.operands,Call.operands];exact .inr hz)
  split at h
  .rename_i x y hl;obtain⟨p,q,rfl,rfl,rfl⟩:=two hl;split at h
   .rename_i a b ha hb;cases h;refine pur h2 λhf=>?_
    obtain⟨m,em,rfl⟩:=xV ha (fr p (by simp) hf);obtain⟨n,en,rfl⟩:=xV hb (fr q (by simp) hf);simp[execOp,hop,resolve,em,en,invoke,builtin,D2,cxV]
   cases h
  .rename_i x hl;obtain⟨p,rfl,rfl⟩:=one hl;split at h
   .rename_i q hq;cases h;refine pur h2 λhf=>?_
    obtain⟨m,n,em,rfl⟩:=Gy hq (fr p (by simp) hf);simp[execOp,hop,resolve,em,invoke,builtin,Qt,NN]
   cases h
  .rename_i x hl;obtain⟨p,rfl,rfl⟩:=one hl;split at h
   .rename_i q hq;cases h;refine pur h2 λhf=>?_
    obtain⟨m,n,em,rfl⟩:=Gy hq (fr p (by simp) hf);simp[execOp,hop,resolve,em,invoke,builtin,Qu,NN]
   cases h
  .rename_i f hl;obtain⟨p,rfl,hp⟩:=one hl;rw[ax]at h;split at h
   .rename_i hb;cases h;exfalso;unfold Im at hb;split at hb
    .rename_i id hg;split at hb
     .rename_i fn hfn;rw[ax]at hb;split at hb
      .cases hb
      rename_i hbody;simp only[ak,eK]at hb;have hc:qc P call (ev f) (#[p].toList.map ev) H=none:=by
       unfold qc;simp only[hg,hfn];rw[ax,aa hbody]
      have hs:wo P (ev f)=false:=by
       unfold wo;simp only[hg,hfn];rw[ax,aa hbody,hb.1];rfl
      unfold ez at h2;simp only[hc]at h2;have h2:ah (wo P (ev f)) (some (ev p,H)) (cE H (gR P ev o))=some (u,H'):=h2;rw[hs]at h2;obtain⟨h4,e0⟩:=bP (show cE H (gR P ev o)=some (u,H') from h2);have:=fr p (by simp) (Bi h4).1;rw[hp]at this;simp[aZ]at this
     cases hb
    cases hb
   cases h
  cases h
 cases h
end
end Go.Ev
namespace Go.Ev
open Go.RowKit
section
variable {P:Program} {call:cH} {ops:Array Oper} {GR:List jJ}
def lg (rows:List jJ)(w:World):Prop:=rows.length<=w.heap.size/\∀(i:Nat) b,rows[i]? = some b->b.live=true->∃fr,w.heap[i]? = some (.cells b.cells.toArray b.elem fr)/\qH b.cells.toArray fr
structure Cx.At (c:Cx)(G:Nat)(GR:List jJ):Prop where
 g:c.G=G
 rows:lg GR c.w0
 len:GR.length<=c.B
theorem lg.nil (w:World):lg [] w:=⟨ct _,λi b h=>by simp at h⟩
theorem ef.IJ {c:Cx}{ρ:Ren}{H:Mem}{w:World}{G:Nat}{GR:List jJ}(he:ef c ρ H w)(h:c.At G GR):lg GR w :=
 ⟨br h.len he.base,λi b hi hl=>by
  obtain⟨fr,h1,h2⟩:=h.rows.2 i b hi hl;exact⟨fr,(he.below.block i (cw (bx.1 hi).1 h.len)).trans h1,h2⟩⟩
def qe (P:Program)(G:Nat)(GR:List jJ)(call:cH):Prop :=
 ∀f args H v H',call f args H=some (v,H')->(P.funcs[f]? ≠ none\/aZ v=true)->∀(c:Cx),c.P=P->c.At G GR->∀ ρ w args',ef c ρ H w->LR (bG ρ) args args' ->
  Calls P f args'.toArray w λe w'=>∃ ρ' v',e = .returned v'/\ρ.le ρ'/\bG ρ' v v'/\ef c ρ' H' w'
def gU (H H':Mem):Prop:=H.size<=H'.size/\H'.lk=H.lk/\∀i,i<H.lk->i<H.size->H'.get i=H.get i
theorem gU.refl (H:Mem):gU H H:=⟨aC _,rfl,λ_ _ _=>rfl⟩
theorem gU.trans {a b c:Mem}(h:gU a b)(k:gU b c):gU a c :=
 ⟨br h.1 k.1,k.2.1.trans h.2.1,λi hi hs=>(k.2.2 i (by rw[h.2.1];exact hi) (cw hs h.1)).trans (h.2.2 i hi hs)⟩
theorem gU.push {H H':Mem}{b:jJ}(h:H.push b=some H'):gU H H':=by
 obtain⟨h1,h2,h3⟩:=Mem.dN h;exact⟨by omega,h2,λi _ hs=>by rw[h3,aa (by omega)]⟩
theorem gU.set {H H':Mem}{i:Nat}{b:jJ}(h:H.set i b=some H'):gU H H':=by
 obtain⟨h1,h2,h3,h4,h5⟩:=Mem.kY h;exact⟨by omega,h4,λj hj _=>by rw[h5,aa (by omega)]⟩
def fy (call:cH):Prop:=∀f args H v H',call f args H=some (v,H')->gU H H'
theorem qf {H H':Mem}{i off:Nat}{vs:List Value}(h:iH H i off vs=some H'):gU H H':=by
 unfold iH at h;split at h
 .cases h;exact .refl _
 split at h
 .split at h
  .exact .set h
  cases h
 cases h
theorem zV {H H':Mem}{t:TypeId}{cs:List Value}{v:Value}(h:uU H t cs=some (v,H')):gU H H':=.push (tu h).1
theorem sB {H H':Mem}{t:TypeId}{cs:List Value}{len cap:Nat}{v:Value}(h:kU H t cs len cap=some (v,H')):gU H H':=.push (ov h).1
theorem yD {H H':Mem}{t:TypeId}{cs:List Value}{len cap:Nat}{v:Value}(h:uV H t cs len cap=some (v,H')):gU H H':=.push (rM h).1
theorem dY {H H':Mem}{x:Option Value}{v:Value}(h:cE H x=some (v,H')):gU H H':=by
 obtain⟨_,rfl⟩:=bP h;exact .refl _
theorem Bj (hk:fy call){ev:Operand->Value}{o:Oper}{H H':Mem}{v:Value}(h:jt P call ev o H=some (v,H')):gU H H':=by
 unfold jt at h;split at h;case h_1=>cases h;exact .refl _
 case h_2=>cases h;exact .refl _
 case h_3=>unfold DM at h;split at h<;>cases h;exact .refl _
 case h_4=>exact dY h
 case h_5 =>
  unfold rI at h;split at h
  .exact zV h
  cases h
 case h_6 =>
  unfold Gp at h;split at h
  .exact zV h
  cases h
 case h_7=>exact dY h
 case h_8 =>
  unfold ng at h;split at h
  .split at h
   .split at h
    .cases h
    split at h
    .exact yD h
    cases h
   cases h
  cases h
 case h_9=>exact dY h
 case h_10 =>
  unfold qt at h;split at h
  .rename_i hu;cases h;unfold su at hu;split at hu
   .split at hu
    .exact qf hu
    cases hu
   cases hu
  cases h
 case h_11=>unfold sw at h;split at h<;>cases h<;>exact .refl _
 case h_12=>exact dY h
 case h_13=>exact dY h
 case h_14 =>
  unfold r7 at h;split at h
  .exact dY h
  cases h
 case h_15 =>
  unfold qb at h;split at h
  .split at h
   .split at h
    .exact yD h
    cases h
   cases h
  cases h
 case h_16=>cases h;exact .refl _
 case h_17 =>
  unfold pJ at h;rw[ax]at h;split at h
  .exact dY h
  exact dY h
 case h_18=>exact dY h
 case h_19=>exact dY h
 case h_20 =>
  unfold kW at h;split at h
  .cases h;exact .refl _
  unfold jk at h;split at h
  .split at h
   .split at h
    .simp only[aL]at h;obtain⟨u,_,heq⟩:=h;cases heq;exact .refl _
    cases h
   .cases h;exact .refl _
   .cases h;exact .refl _
   cases h
  .split at h
   .exact sB h
   cases h
  .split at h
   .rw[ax]at h;split at h
    .cases h;exact .refl _
    cases h
   cases h
  .split at h
   .rw[ax]at h;split at h
    .cases h;exact .refl _
    cases h
   cases h
  .split at h
   .rw[ax]at h;split at h
    .cases h;exact .refl _
    cases h
   cases h
  cases h
 case h_21 =>
  unfold ez at h;split at h
  .split at h
   .rename_i r hr;cases h;unfold qc at hr;split at hr
    .split at hr
     .rename_i fn _;rw[ax]at hr;split at hr
      .exact hk _ _ _ _ _ hr
      cases hr
     cases hr
    cases hr
   unfold DN at h;split at h
   .rw[ax]at h;split at h
    .cases h;exact .refl _
    obtain⟨_,rfl⟩:=bP h;exact .refl _
   obtain⟨_,rfl⟩:=bP h;exact .refl _
  .unfold r8 at h;split at h
   .unfold zI at h;split at h
    .exact dY h
    cases h
   .unfold sx at h;split at h
    .unfold rH at h;split at h
     .split at h
      .split at h
       .split at h
        .cases h
        split at h
        .split at h
         .simp only[aL]at h;obtain⟨u,hu,heq⟩:=h;cases heq;exact qf hu
         .split at h
          .cases h;exact .refl _
          cases h
         cases h
        split at h
        .split at h
         .split at h
          .rename_i H1 fh;refine gU.trans ?_ (sB h);unfold kill at fh;split at fh
           .exact .set fh
           cases fh
          cases h
         cases h
        .exact sB h
        cases h
       cases h
      cases h
     cases h
    cases h
   .unfold A9 at h;split at h
    .unfold Gn at h;split at h
     .split at h
      .split at h
       .split at h
        .simp only[aL]at h;obtain⟨u,hu,heq⟩:=h;cases heq;exact qf hu
        .cases h;exact .refl _
        cases h
       cases h
      cases h
     cases h
    cases h
   .unfold uf at h;split at h
    .exact dY h
    cases h
   .unfold oV at h;split at h
    .exact dY h
    cases h
   .unfold Ba at h;split at h
    .unfold DP at h;split at h
     .cases h;exact .refl _
     .split at h
      .rw[ax]at h;split at h
       .split at h
        .rename_i H1 fh;cases h;unfold kill at fh;split at fh
         .exact .set fh
         cases fh
        cases h
       cases h
      cases h
     cases h
    cases h
   exact dY h
  cases h
 case h_22=>obtain⟨b,hb⟩:=DZ h;exact .push hb
 case h_23=>exact dY h
 case h_24=>obtain⟨i,b,hb⟩:=yC h;exact .set hb
 case h_25=>obtain⟨i,b,hb⟩:=yC h;exact .set hb
 case h_26=>exact dY h
noncomputable def jl (P:Program)(call:cH)(ops:Array Oper)(o:Oper)(a:Act)(H:Mem):Option (Act×Mem) :=
 if Region.wanted o (yielded ops a.tmps) then (jt P call a.eval o H).map λr=>(a.put o.dst r.1,r.2) else some (a.put o.dst undef,H)
noncomputable def og (P:Program)(call:cH)(ops:Array Oper)(R:Option (List Nat))(lk:Bool)(o:Oper)(a:Act)(H:Mem):Option (Act×Mem) :=
 if lk then (match kJ o.op with
  |some s=>if tV R (a.eval s) then jl P call ops o a H else none
  |none=>if iI R a.eval o then jl P call ops o a H else (jl P call ops o a { H with lk:=H.size }).map λr=>(r.1,{ r.2 with lk:=H.lk })) else jl P call ops o a H
theorem rN {P:Program}{call:cH}{ops:Array Oper}{R:Option (List Nat)}{lk:Bool}{o:Oper}{a:Act}{H:Mem}{r:Act×Mem}(h:og P call ops R lk o a H=some r) :
 (jl P call ops o a H=some r/\(lk=true->∃s,(kJ o.op=some s\/mG o.op=some s)/\tV R (a.eval s)=true))\/(lk=true/\∃u,jl P call ops o a { H with lk:=H.size }=some u/\r=(u.1,{ u.2 with lk:=H.lk })):=by
 unfold og at h;split at h
 .rename_i hl;split at h
  .rename_i s hs;split at h
   .rename_i hc;exact .inl ⟨h,λ_=>⟨s,.inl hs,hc⟩⟩
   cases h
  split at h
  .rename_i hc;unfold iI at hc;split at hc
   .rename_i s hs;exact .inl ⟨h,λ_=>⟨s,.inr hs,hc⟩⟩
   cases hc
  simp only[aL]at h;obtain⟨u,hu,rfl⟩:=h;exact .inr ⟨hl,u,hu,rfl⟩
 rename_i hl;exact .inl ⟨h,λh=>absurd h hl⟩
structure Dh (f:Fr)(a:Act):Prop where
 n:f.n=a.tmps.size
 get:∀i,f.get i=a.tmps.getD i undef
theorem Fr.get_eq (f:Fr)(i:Nat):f.get i=if i<f.n then (f.t.get i).getD undef else undef:=by
 unfold Fr.get;rw[ax,nj];cases f.t.get i<;>simp
theorem Fr.gB {f f':Fr}{dst:Option Tmp}{v:Value}(h:f.put dst v=some f'):f'.n=f.n/\∀i,f'.get i=if dst=some i/\i<f.n then v else f.get i:=by
 cases dst with
 |none =>
  have h':some f=some f':=h;cases h';exact⟨rfl,λi=>by simp⟩
 |some d =>
  have h':ah (Nat.ble (Nat.succ d) f.n) (Option.rec (motive:=λ_=>Option Fr) none (λt=>some ⟨f.n,t⟩) (f.t.set d v)) (some f)=some f':=h;rw[ax,nj]at h';split at h'
  .rename_i hd;simp only[aV]at hd;cases hs:f.t.set d v with
   |none=>rw[hs]at h';cases h'
   |some t =>
    rw[hs]at h';have h2:some (Fr.mk f.n t)=some f':=h';cases h2;refine⟨rfl,λi=>?_⟩;rw[Fr.get_eq,Fr.get_eq];simp only[Tr.xT hs];by_cases hi:i=d
    .subst hi;simp[hd]
    simp[hi,jM hi]
  rename_i hd;simp only[aV]at hd;cases h';exact⟨rfl,λi=>by
   rw[aa];rintro⟨h1,h2⟩;cases h1;exact hd h2⟩
theorem Dh.put {f f':Fr}{a:Act}(h:Dh f a){dst:Option Tmp}{v:Value}(hp:f.put dst v=some f'):Dh f' (a.put dst v):=by
 obtain⟨h1,h2⟩:=Fr.gB hp;cases dst with
 |none=>exact⟨by rw[h1];exact h.n,λi=>by rw[h2];simp[h.get,Act.put]⟩
 |some d =>
  refine⟨by rw[h1,h.n];simp[Act.put],λi=>?_⟩;rw[h2,h.get,h.n];simp only[Act.put,aq];by_cases hd:d=i
  .subst hd;by_cases hlt:d<a.tmps.size
   .simp[hlt]
   simp[hlt]
  simp[hd]
theorem Dh.eval {f:Fr}{a:Act}(h:Dh f a):f.eval=a.eval:=by
 funext x
 cases x with
 |tmp t=>exact h.get t
 |const v=>rfl
 |global g=>rfl
 |func f=>rfl
theorem Dh.wanted {f:Fr}{a:Act}(h:Dh f a)(o:Oper):nJ o ops.toList f=Region.wanted o (yielded ops a.tmps):=by
 unfold nJ Region.wanted;split
 .rename_i hg;simp[hg]
 rename_i j want hg;simp only[hg];have:wu ops.toList f j=yielded ops a.tmps j:=by
  unfold wu yielded;simp only[Array.getElem?_toList];cases ho:ops[j]? with
  |none=>simp
  |some o' =>
   cases hd:o'.dst with
   |none=>simp[hd]
   |some d =>
    simp only[aW,hd,h.get];by_cases hlt:d<a.tmps.size
    .have e1:a.tmps.getD d undef=a.tmps[d]:=by simp[hlt]
     rw[e1,bN hlt];generalize a.tmps[d]=q;cases q<;>rfl
    simp[hlt,undef]
 rw[this];cases yielded ops a.tmps j with
 |none=>simp
 |some b=>cases b<;>cases want<;>rfl
theorem ur {f f':Fr}{a:Act}{o:Oper}{H H':Mem}(hr:Dh f a)(h:iA P call ops.toList o f H=some (f',H')):∃a',jl P call ops o a H=some (a',H')/\Dh f' a':=by
 unfold iA at h;rw[hr.wanted,hr.eval,ax]at h;unfold jl;split at h
 .rename_i hw;unfold uh at h;split at h
  .rename_i v H1 hop;split at h
   .rename_i f1 hf;cases h;exact⟨a.put o.dst v,by rw[ag hw,hop];rfl,hr.put hf⟩
   cases h
  cases h
 rename_i hw;unfold uh at h;simp only at h;split at h
 .rename_i f1 hf;cases h;exact⟨a.put o.dst undef,by rw[aa hw],hr.put hf⟩
 cases h
theorem Sd {f f':Fr}{a:Act}{o:Oper}{R:Option (List Nat)}{lk:Bool}{H H':Mem}(hr:Dh f a)(h:qG P call ops.toList R lk o f H=some (f',H')):∃a',og P call ops R lk o a H=some (a',H')/\Dh f' a':=by
 unfold qG at h;unfold og;rw[ax]at h;split at h
 .rename_i hl;cases hb:kJ o.op with
  |some s =>
   rw[hb]at h;simp only[ax]at h;split at h
   .rename_i hc;obtain⟨a',h2,h3⟩:=ur hr h;rw[hr.eval]at hc;exact⟨a',by rw[ag hl];simp only[ag hc];exact h2,h3⟩
   cases h
  |none =>
   rw[hb]at h;simp only at h;rw[ax]at h;split at h
   .rename_i hc;obtain⟨a',h2,h3⟩:=ur hr h;rw[hr.eval]at hc;exact⟨a',by rw[ag hl];simp only[ag hc];exact h2,h3⟩
   rename_i hc;split at h
   .rename_i f1 H1 h1;cases h;obtain⟨a',h2,h3⟩:=ur hr h1;rw[hr.eval]at hc;exact⟨a',by rw[ag hl];simp only[aa hc,h2];rfl,h3⟩
   cases h
 rename_i hl;obtain⟨a',h2,h3⟩:=ur hr h;exact⟨a',by rw[aa hl];exact h2,h3⟩
theorem KU (hk:fy call){o:Oper}{a a':Act}{H H':Mem}(h:jl P call ops o a H=some (a',H')):gU H H':=by
 unfold jl at h;split at h
 .simp only[aL]at h;obtain⟨u,hu,heq⟩:=h;cases heq;exact Bj hk hu
 cases h;exact .refl _
theorem KV {ρ:Ren}{a ar:Act}(hs:A5 ρ a ar)(j:Nat):yielded ops ar.tmps j=yielded ops a.tmps j:=by
 unfold yielded;cases hd:(ops[j]?).bind (·.dst) with
 |none=>rfl
 |some d =>
  simp only[aW];by_cases hlt:d<a.tmps.size
  .have hlt':d<ar.tmps.size:=hs.tmps.1 ▸ hlt;have hr:=hs.tmps.2 d _ _ (bN hlt) (bN hlt');rw[bN hlt,bN hlt'];generalize a.tmps[d]=x at hr;generalize ar.tmps[d]=y at hr;cases hr<;>rfl
  rw[eR (eZ hlt),eR (eZ (hs.tmps.1 ▸ hlt))]
theorem D3 {ρ:Ren}{a ar:Act}(hs:A5 ρ a ar)(o:Oper):Region.wanted o (yielded ops ar.tmps)=Region.wanted o (yielded ops a.tmps):=by
 unfold Region.wanted;split
 .rfl
 rw[KV hs]
def jd (P:Program):Prop:=∀(id:FuncId) fn,P.funcs[id]? = some fn->¬(fn.name = "runtime.NumGoroutine")
theorem UP (hno:jd P){ρ:Ren}{ev ev':Operand->Value}{o:Oper}{cl:Call}{g:Operand}(hop:o.op = .call cl)(hg:cl.callee = .value g)(ck:EvR ρ ev ev' o.op){H H':Mem}{v:Value}
 (h:qc P call (ev g) (cl.args.toList.map ev) H=some (v,H')) (w:World) :
 ∃f args args',LR (bG ρ) args args'/\call f args H=some (v,H')/\P.funcs[f]? ≠ none/\(execOp ev' o).run P w = .ok (.enter f args'.toArray) w:=by
 unfold qc at h;split at h
 .rename_i id first captured hf
  split at h
  .rename_i fn hfn;rw[ax]at h;split at h
   .rename_i hb;have hgr:=ck g (by simp[hop,hg,Op.operands,Call.operands]);rw[hf]at hgr;generalize hg':ev' g=g' at hgr;cases hgr with
    |func _ _ first' _ captured' s1 h1 s2 h2 =>
     have hargs:=AR.map (ev:=ev) (ev':=ev') cl.args λy hy=>ck y (by simp[hop,hg,Op.operands,Call.operands,hy])
     refine⟨id,_,first'.toList++((cl.args.map ev').toList++captured'.toList),?_,h,(by rw[hfn];simp),?_⟩
     .have:=(AR.list ⟨s1,h1⟩).append (hargs.list.append (AR.list ⟨s2,h2⟩));simpa using this
     obtain⟨cb,hb'⟩:=bV.1 hb;have hname:=hno id fn hfn;obtain⟨callee,args,ats⟩:=cl;simp only at hg;subst hg;simp[execOp,hop,resolve,Deferred.ofValue,hg',invoke,callFunc,hfn,hname,hb']
   cases h
  cases h
 cases h
theorem D4 (hno:jd P){G:Nat}(hcall:qe P G GR call){o:Oper}{a a' ar:Act}{H H':Mem}(hok:o.op.operands.toList.all (dW G)=true)(h:jl P call ops o a H=some (a',H')){c:Cx}(je:c.P=P)(iG:c.At G GR){w:World}{ρ:Ren}(hs:A5 ρ a ar)(he:ef c ρ H w)
 {Q:Exit->Act->World->Prop} {K:Act->World->Prop} (hK:∀ ρ' ar' w',ρ.le ρ'->A5 ρ' a' ar'->ef c ρ' H' w'->K ar' w') :
 if Region.wanted o (yielded ops ar.tmps) then o.wp P ar w K Q\/(o.asks P ar w/\LetsOut Q) else K (ar.put o.dst undef) w:=by
 subst je;have hG0:=iG.g;subst hG0;have ck:EvR ρ a.eval ar.eval o.op:=λx hx=>hs.eval he.ju (aK.1 hok x (by simpa using hx))
 rw[D3 hs];unfold jl at h;split at h
 .rename_i hw;rw[ag hw];simp only[aL]at h;obtain⟨u,hu,heq⟩:=h;cases heq;refine .inl ?_;unfold Oper.wp;by_cases ot:∃cl g r,o.op = .call cl/\cl.callee = .value g/\qc c.P call (a.eval g) (cl.args.toList.map a.eval) H=some r
  .obtain ⟨cl,g,r,hop,hg,hcr⟩:=ot;have hur:some r=some u:=by
    rw[<-hu];unfold jt;rw[hop];simp only[ez,hg,hcr]
   cases hur;obtain⟨f,args,args',hargs,hc,aon,hrun⟩:=UP hno hop hg ck hcr w;rw[hrun];refine(hcall _ _ _ _ _ hc (.inl aon) c rfl iG ρ w args' he hargs).mono ?_;rintro e w' ⟨ρ',v',rfl,h1,h2,h3⟩;exact hK ρ' _ _ h1 ((hs.mono h1).put o.dst h2) h3
  obtain⟨ρ',w',v',h1,h2,h3,h4⟩:=aeH he ck (λcl hop f hf=>by
   cases hcr:qc c.P call (a.eval f) (cl.args.toList.map a.eval) H with
   |none=>rfl
   |some r=>exact absurd ⟨cl,f,r,hop,hf,hcr⟩ ot) hu
  rcases h4 with h4|⟨h4,rfl⟩
  .rw[h4];exact hK ρ' _ _ h1 ((hs.mono h1).put o.dst h3) h2
  rw[h4];exact hK ρ' _ _ h1 ((hs.mono h1).put o.dst h3) h2
 rename_i hw;rw[aa hw];cases h;exact hK ρ _ _ (Ren.le_refl _) (hs.put o.dst .undef) he
theorem Se (hno:jd P){G:Nat}(hcall:qe P G GR call)(_hk:fy call){o:Oper}{R:Option (List Nat)}{lk:Bool}{a a' ar:Act}{H H':Mem}(hok:o.op.operands.toList.all (dW G)=true)(h:og P call ops R lk o a H=some (a',H')){c:Cx}(je:c.P=P)(iG:c.At G GR){w:World}{ρ:Ren}(hs:A5 ρ a ar)(he:ef c ρ H w)
 {Q:Exit->Act->World->Prop} {K:Act->World->Prop} (hK:∀ ρ' ar' w',ρ.le ρ'->A5 ρ' a' ar'->ef c ρ' H' w'->K ar' w') :
 if Region.wanted o (yielded ops ar.tmps) then o.wp P ar w K Q\/(o.asks P ar w/\LetsOut Q) else K (ar.put o.dst undef) w:=by
 rcases rN h with⟨h,_⟩|⟨_,u,hu,heq⟩
 .exact D4 hno hcall hok h je iG hs he hK
 cases heq;have he':ef c ρ { H with lk:=H.size } w:=he.less (aC _) he.zF λi b' hi _=>hi
 refine D4 hno hcall hok hu je iG hs he' fun ρ' ar' w' h1 h2 h3=>hK ρ' ar' w' h1 h2 ?_
 exact h3.less (aC _) he.lk λi b' hi _=>hi
end
end Go.Ev
