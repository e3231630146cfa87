/- The evaluator's operations, fourth part: all of them. Maps: the evaluator's beside the machine's. The evaluator's operations together; regions, bodies and calls. The evaluator's steps, over slots as the machine has them. -/
import Derived.Test.YtpaddkkfefgkfaaGreatDoorLya
import Derived.MapKept
import Derived.Tactics
set_option linter.unusedVariables false
set_option linter.unusedSimpArgs false

namespace Go.Ev
open Go.RowKit
section
variable {c:Cx} {P:Program} {w:World} {ρ:Ren} {H:Mem}
theorem Wk (he:bB c ρ H w) {dt ty:TypeId} {d d' x x' v:Value} {H':Mem} {at_:Array TypeId} {as:Array Value}
 (sZ:at_[0]? = some dt) (qO:as[0]? = some d') (s8:as[1]? = some x')
 (hd:VRel ρ d d') (hx:VRel ρ x x') (h:Da c.P H dt d x=some (v,H')) :
 ∃w' v',bB c ρ H' w'/\VRel ρ v v'/\(Builtin.copy_ at_ ty as).run c.P w = .ok v' w':=by
 unfold Da at h
 split at h
 .
  rename_i e base dLen _ n hu hn;have hlen:=QC (P:=c.P) hx hn w;split at h
  .
   rename_i s hs;split at h
   .
    rename_i cs hf;obtain ⟨cs',hr',hl'⟩:=vh he hx hf;split at h
    .
     simp only[Option.map_eq_some_iff] at h;obtain ⟨H1,hw1,heq⟩:=h;cases heq;cases hd with
     |
      slice i off _ _ r y hr =>
      obtain ⟨w',hst,aax,_⟩:=Ao he hr hl' hw1;refine ⟨w',_,aax,.int _ _,?_⟩;simp[Builtin.copy_,sZ,qO,s8,run_underlying hu,hlen,cV hs,hr',hst,goInt]
    .
     cases h;cases hd;refine ⟨w,_,he,.int _ _,?_⟩;simp[Builtin.copy_,sZ,qO,s8,run_underlying hu,hlen,cV hs,hr',goInt]
    cases h
   cases h
  cases h
 cases h
theorem GJ:∀(l:List Value) (acc s:ByteArray),nr l acc=some s->∃ns:List Int,l=ns.map (Value.int .u8)/\s=ns.foldl (λr n=>r.push (UInt8.ofNat n.toNat)) acc
 |[],acc,s,h=>by simp only[nr,Option.some.injEq] at h;exact ⟨[],rfl,h.symm⟩
 |
  v::l,acc,s,h=>by
  simp only[nr] at h;split at h
  .
   rename_i b hb;obtain ⟨ns,h1,h2⟩:=GJ l _ s h;unfold zn at hb;split at hb
   .
    rename_i n;cases hb;exact ⟨n::ns,by rw[h1];rfl,by rw[h2];rfl⟩
   cases hb
  cases h
theorem LR.ints {ns:List Int} {k:IntKind} {l':List Value} (h:LR (VRel ρ) (ns.map (Value.int k)) l'):l'=ns.map (Value.int k):=by
 apply List.ext_getElem?
 intro i
 by_cases hi:i<l'.length
 .
  have hi':i<(ns.map (Value.int k)).length:=by rw[h.1];exact hi
  have hr:=h.2 i _ _ (List.getElem?_eq_getElem hi') (List.getElem?_eq_getElem hi);rw[List.getElem?_eq_getElem hi',List.getElem?_eq_getElem hi];simp only[List.getElem_map] at hr ⊢;generalize l'[i]=q at hr ⊢;cases hr with
  |int=>rfl
 rw[List.getElem?_eq_none (Nat.le_of_not_lt hi),List.getElem?_eq_none (by rw[h.1];exact Nat.le_of_not_lt hi)]
theorem iw (w:World) (a:Addr) (n k:Nat) (h:k≠a.block):(w.freeze a n).heap[k]? = w.heap[k]? := by
 unfold World.freeze
 split
 .
  rfl
 simp only[Array.getElem?_modify]
 rw[if_neg (λe=>h e.symm)]
theorem yw (w:World) (a:Addr) (n:Nat):(w.freeze a n).heap.size=w.heap.size:=by
 unfold World.freeze
 split
 .
  rfl
 simp
theorem GK {w:World} {r n:Nat} {C:Array Value} {t:TypeId} {lo hi:Nat} (h:w.heap[r]? = some (.cells C t (lo,hi))) :
 (w.freeze ⟨r,n,none⟩ 1).heap[r]? = some (.cells C t (if lo==hi then (n,n+1) else (min lo n,max hi (n+1)))):=by
 unfold World.freeze
 rw[if_neg (by decide)]
 simp only[Array.getElem?_modify,if_true,h,Option.map_some]
theorem bB.mark {c:Cx} {ρ:Ren} {H:Mem} {w:World} (he:bB c ρ H w) {i r x:Nat} {b:Blk} (hi:alive H i=some b) (hlk:c.L<=i) (hr:ρ i=some (r,x)) {C:Array Value} {t:TypeId} {fr:Nat×Nat} (hC:w.heap[r]? = some (.cells C t fr)):bB c ρ H (w.freeze ⟨r,C.size,none⟩ 1):=by
 obtain ⟨hg,hl⟩:=alive_some hi
 have hB:c.own r:=by
  obtain ⟨r',x',C,fr,s,h1,h2,_⟩:=he.blk i b hg hl;rw[hr] at h1;cases h1;rcases h2 with h2|h2
  .
   omega
  exact h2
 refine ⟨he.stay.GB hB (Lib.below_freeze (Below.refl _ _) (p:=⟨r,C.size,none⟩) hB.1 1) (λk hk=>iw _ _ _ _ hk),by rw[yw];exact he.base,he.dom,he.lk,he.ve,he.dM,λj b' hj hl'=>?_,he.inj,λj b' hj hm=>(he.maps j b' hj hm).heap λq es clock hh=>by
  rw[iw _ _ _ _ (λe=>by subst e;rw[hC] at hh;cases hh)];exact hh,he.qs⟩
 obtain ⟨r',x',C',fr',s,h1,h2,h3,h4,h5⟩:=he.blk j b' hj hl'
 by_cases Zr:r'=r
 .
  subst Zr;have hji:=he.inj j i b' b r' x' x hj hl' hg hl h1 hr;subst hji;rw[hC] at h3;cases h3;obtain ⟨lo,hi'⟩:=fr;refine ⟨r',x',C,_,s,h1,h2,GK hC,.inr ?_,h5⟩;rcases h4 with h4|⟨u1,u2⟩
  .
   omega
  simp only at u1 u2;by_cases e:lo=hi'
  .
   subst e;simp only[beq_self_eq_true,if_true];exact ⟨by simp,λj hj=>by simp;omega⟩
  have hlo:C.size<=lo:=by
   rcases Nat.lt_or_ge lo C.size with hlt|hge
   .
    exact absurd ⟨Nat.le_refl _,by omega⟩ (u2 lo hlt)
   exact hge
  rw[if_neg (by simpa using e)]
  exact ⟨by simp;omega,λj hj=>by simp;omega⟩
 exact ⟨r',x',C',fr',s,h1,h2,by rw[iw _ _ _ _ Zr];exact h3,h4,h5⟩
theorem J1 (he:bB c ρ H w) {src dst:TypeId} {x x' v:Value} {H':Mem} (hx:VRel ρ x x') (h:eF c.P H src dst x=some (v,H')) :
 ∃ ρ' w' v',ρ.le ρ'/\bB c ρ' H' w'/\VRel ρ' v v'/\(convert src dst x').run c.P w = .ok v' w':=by
 unfold eF at h
 split at h
 .
  rename_i e a len cap hs hd;split at h
  .
   rename_i b off JK;split at h
   .
    rename_i cs hr;simp only[Option.map_eq_some_iff] at h;obtain ⟨s,hb,heq⟩:=h;cases heq;cases hx with
    |
     slice _ _ _ _ r y hry =>
     obtain ⟨l',h1,h2,h3⟩:=he.read hry hr;obtain ⟨ns,rfl,hsn⟩:=GJ _ _ _ hb;rw[h1.ints] at h3;have hrun:=run_loadCells_list (P:=c.P) w _ _ h3;rw[h2] at hrun;refine ⟨ρ,w,_,Ren.le_refl _,he,.string _,?_⟩;rw[run_convert_bytes_string w src dst e _ len (cap+y) hs JK hd,run_bytesToString w _ len (cap+y) ns hrun,hsn]
   cases h
  .
   rename_i JK;cases h;cases hx;refine ⟨ρ,w,_,Ren.le_refl _,he,.string _,?_⟩;rw[run_convert_bytes_string w src dst e _ len _ hs JK hd];simp[Conv.bytesToString]
  cases h
 .
  rename_i e s hs hd;split at h
  .
   rename_i JK hsz;obtain ⟨hp',rfl⟩:=iU h;cases hx;have hrun:=run_bytes_of_string (P:=c.P) w src dst e s hs hd JK;have hg:=GH w s.size 0 e;refine ⟨_,_,_,he.qL (Nat.le_refl _) (w.heap.size,grownCap w s.size 0 e-s.size),?_,?_,hrun⟩
   .
    refine he.drew.new hp' hsz ?_ ?_ ?_ (λh=>by cases h) ⟨λj v hj hv=>.inr ⟨JK,by
     unfold bytesRow at hv;rw[Array.getElem?_append] at hv;split at hv
     .
      rename_i hlt;simp at hlt hj;omega
     .
      rw[Array.getElem?_replicate] at hv;split at hv
      .
       cases hv;rfl
      cases hv⟩,by
     by_cases GF:s.size<9223372036854775808
     .
      refine .inr (.inl λs' hs'=>?_)
      rw[hsz] at hs';cases hs';have h1:=GG w s.size 0 e GF;simp[bytesRow];omega
     refine .inr (.inr ?_);simp;omega⟩
    .
     have hl:LR (VRel ρ) (s.data.toList.map λb=>Value.int .u8 b.toNat) (s.data.toList.map λb=>Value.int .u8 b.toNat):=⟨rfl,λi x y hx hy=>by
      rw[hx] at hy;cases hy;obtain ⟨b,_,rfl⟩:=List.mem_map.1 (List.mem_of_getElem? hx);exact .int _ _⟩
     have:=hl.tA (Array.replicate (grownCap w s.size 0 e-s.size) (.int .u8 0))
     have e1:bytesRow s (grownCap w s.size 0 e)=(s.data.toList.map λb=>Value.int .u8 b.toNat).toArray++Array.replicate (grownCap w s.size 0 e-s.size) (.int .u8 0):=by
      unfold bytesRow;congr 1;apply Array.ext';simp
     rw[e1];exact this
    .
     simp[bytesRow]
    exact ⟨by simp,λj hj=>by simp;omega⟩
   have:=VRel.slice (ρ:=ρ.put H.size (w.heap.size,grownCap w s.size 0 e-s.size)) H.size 0 s.size s.size w.heap.size _ (Ren.fU _ _ _);rw[Nat.add_sub_cancel' hg] at this;exact this
  cases h
 .
  rename_i e1 e i off l cp hs hd;split at h
  .
   rename_i b hb JK;rw[pick2_eq] at h;split at h
   .
    rename_i hc;cases h;simp only[Bool.and_eq_true,u9,decide_eq_true_eq,Nat.beq_eq] at hc;obtain ⟨hlk,rfl⟩:=hc;have hd':=hd;rw[hs] at hd';cases hd';cases hx with
    |
     slice _ _ _ _ r y hr =>
     obtain ⟨hg,hl⟩:=alive_some hb;obtain ⟨r',y',C,fr,s,k1,k2,k3,k4,k5,k6,k7⟩:=he.blk i b hg hl;rw[hr] at k1;cases k1;refine ⟨ρ,_,_,Ren.le_refl _,he.mark hb (Nat.le_trans he.lk hlk) hr k3,.slice i off l cp r y hr,?_⟩;simp[convert,run_underlying hs,run_underlying JK,run_underlying hd,markStringish,World.shape?,k3]
   cases h
  cases h
 .
  rename_i t i hs hd;split at h
  .
   rename_i b n hb hn;rw[pick2_eq] at h;split at h
   .
    rename_i hc;cases h;cases hx with
    |
     ptr _ _ r y hr =>
     obtain ⟨hg,hl⟩:=alive_some hb;obtain ⟨r',y',C,fr,s,k1,k2,k3,k4,k5,k6,k7⟩:=he.blk i b hg hl;rw[hr] at k1;cases k1;simp only[Bool.and_eq_true,u9,decide_eq_true_eq] at hc;obtain ⟨inf,hi,hsz⟩:=Option.map_eq_some_iff.1 hn;refine ⟨ρ,w,_,Ren.le_refl _,he,.ptr i 0 r y hr,?_⟩;exact Lib.run_to_unsafe w ⟨r,0,none⟩ hs hd hi (by omega) (e:=b.elem) (cells:=C.size) (by simp[World.shape?,k3]) (by show 0<C.size;omega)
   cases h
  cases h
 .
  rename_i u i hs hd;split at h
  .
   rename_i b n hb hn;rw[pick2_eq] at h;split at h
   .
    rename_i hc;cases h;cases hx with
    |
     ptr _ _ r y hr =>
     obtain ⟨hg,hl⟩:=alive_some hb;obtain ⟨r',y',C,fr,s,k1,k2,k3,k4,k5,k6,k7⟩:=he.blk i b hg hl;rw[hr] at k1;cases k1;simp only[Bool.and_eq_true] at hc;obtain ⟨inf,hi,hsz⟩:=Option.map_eq_some_iff.1 hn;have hy:=k5.2 hc.1;subst hy;have hC:C.size=b.cells.length:=by simpa using k6
     refine ⟨ρ,w,_,Ren.le_refl _,he,.ptr i 0 r 0 hr,?_⟩;exact Lib.run_from_unsafe w ⟨r,0,none⟩ hs hd hi (e:=b.elem) (cells:=C.size) (by simp[World.shape?,k3]) (by rw[hC];exact hc.2)
   cases h
  cases h
 cases h
theorem xe {i:Int} {len m:Nat} (h:Og i len=some m):i=(m:Int)/\m<len:=by
 unfold Og at h
 split at h
 .
  rename_i k;rw[pick2_eq,gL] at h;split at h
  .
   rename_i hk;cases h;exact ⟨rfl,by simpa using hk⟩
  cases h
 cases h
theorem aaz {t:TypeId} {x x' i i' v:Value} (hx:VRel ρ x x') (hi:VRel ρ i i') (h:EJ P t x i=some v) (w:World) :
 ∃v',(Instr.indexAt t x' i').run P w = .ok v' w/\VRel ρ v v':=by
 unfold EJ at h
 split at h
 .
  rename_i e b off len cap k n hu;cases hi;cases hx with
  |
   slice _ _ _ _ r y hr =>
   split at h
   .
    rename_i s m hs hm;cases h;obtain ⟨rfl,hlt⟩:=xe hm;refine ⟨.pointer (some ⟨r,off+m*s,none⟩),?_,.ptr _ _ _ _ hr⟩;have h2:(m:Int)<(len:Int):=by omega
    simp[Instr.indexAt,asIntOf,run_underlying hu,hlt,cV hs,lM]
   cases h
 .
  rename_i len e b off k n hu;cases hi;cases hx with
  |
   ptr _ _ r y hr =>
   split at h
   .
    rename_i s m hs hm;cases h;obtain ⟨rfl,hlt⟩:=xe hm;refine ⟨.pointer (some ⟨r,off+m*s,none⟩),?_,.ptr _ _ _ _ hr⟩;simp[Instr.indexAt,asIntOf,run_underlying hu,Instr.sureAddr,hlt,cV hs,lM]
   cases h
 cases h
theorem E3 {s:TypeId} {f:Nat} {x x' v:Value} (hx:VRel ρ x x') (h:tR P s x f=some v) (w:World) :
 ∃v',(Instr.fieldAt s x' f).run P w = .ok v' w/\VRel ρ v v':=by
 unfold tR at h
 split at h
 .
  rename_i fs b off hu;cases hx with
  |
   ptr _ _ r y hr =>
   split at h
   .
    rename_i fd QE;split at h
    .
     rename_i n hn;split at h
     .
      cases h
     rename_i hn0;cases h;exact ⟨_,by simp[Instr.fieldAt,run_underlying hu,QE,Instr.sureAddr,fieldPlace,cV hn,hn0,lM],.ptr _ _ _ _ hr⟩
    cases h
   cases h
 cases h
inductive OR (R:Value->Value->Prop):Option Value->Option Value->Prop where
 |none:OR R .none .none
 |some {v v':Value} (h:R v v'):OR R (.some v) (.some v')
theorem vn {x x':Value} {y n:Nat} {c:BoundsCode} (hx:VRel ρ x x') (h:jO x y=some n) (w:World):(Instr.sliceBound x' y c).run P w = .ok n w/\n<=y:=by
 unfold jO at h
 split at h
 .
  split at h
  .
   rename_i hb;cases h;cases hx;exact ⟨by simp[Instr.sliceBound,asIntOf,hb.1,hb.2],by omega⟩
  cases h
 cases h
theorem GL {c:Cx} {H:Mem} {w:World} (he:bB c ρ H w) {t:TypeId} {x x' v:Value} {lo lo' hi hi':Option Value} (hx:VRel ρ x x') (hlo:OR (VRel ρ) lo lo') (hhi:OR (VRel ρ) hi hi') (h:lI c.P H t x lo hi=some v) :
 ∃v',(Instr.sliceAt t x' lo' hi' none).run c.P w = .ok v' w/\VRel ρ v v':=by
 unfold lI at h
 split at h
 .
  rename_i n e b off hu;split at h
  .
   rename_i hN hh;split at h
   .
    rename_i lN hl
    have QF:(match hi' with|some v=>Instr.sliceBound v n .sliceAlen|none=>pure n:Sem Nat).run c.P w = .ok hN w:=by
     cases hhi with
     |none=>simp at hh;subst hh;rfl
     |some hv=>exact (vn hv hh w).1
    have hlr:(match lo' with|some v=>Instr.sliceBound v hN .sliceB|none=>pure 0:Sem Nat).run c.P w = .ok lN w/\lN<=hN:=by
     cases hlo with
     |none=>simp at hl;subst hl;exact ⟨rfl,Nat.zero_le _⟩
     |some hv=>exact vn hv hl w
    have h1:(Instr.sliceBounds false n n lo' hi' none).run c.P w = .ok (lN,hN,n) w:=by
     cases hhi with
     |
      none =>
      simp only[Sem.run_pure,Result.ok.injEq] at QF;cases hlo with
      |
       none =>
       have:=hlr.1;simp only[Sem.run_pure,Result.ok.injEq] at this;simp[Instr.sliceBounds,QF.1,this.1]
      |some hv=>simp[Instr.sliceBounds,QF.1];have:=hlr.1;simp[this]
     |
      some hv' =>
      cases hlo with
      |
       none =>
       have:=hlr.1;simp only[Sem.run_pure,Result.ok.injEq] at this;simp[Instr.sliceBounds,QF,this.1]
      |some hv=>simp[Instr.sliceBounds,QF];have:=hlr.1;simp[this]
    split at h
    .
     rename_i k s hk hs;rw[pick2_eq] at h;split at h
     .
      rename_i Mf;cases h;cases hx with
      |
       ptr _ _ r y hr =>
       obtain ⟨ha,hb⟩:=alive_some hk;obtain ⟨r',y',C,fr,s',k1,_,_,_,k5,_⟩:=he.blk b k ha hb;rw[hr] at k1;cases k1;obtain rfl:=k5.2 Mf;refine ⟨.slice (some ⟨r,if n=lN then off else off+lN*s,none⟩) (hN-lN) (n-lN+0),?_,?_⟩
       .
        by_cases hm:n=lN
        .
         subst hm;simp[Instr.sliceAt,Instr.sureAddr,run_underlying hu,h1,cV hs]
        simp[Instr.sliceAt,Instr.sureAddr,run_underlying hu,h1,cV hs,hm,lM]
       have e2:pick2 (Nat.beq n lN) off (Nat.add off (Nat.mul lN s))=if n=lN then off else off+lN*s:=by
        rw[pick2_eq];by_cases hm:n=lN
        .
         rw[if_pos (by rw[Nat.beq_eq];exact hm),if_pos hm]
        rw[if_neg (by rw[Nat.beq_eq];exact hm),if_neg hm];rfl
       rw[e2];exact .slice _ _ _ _ _ _ hr
     cases h
    cases h
   cases h
  cases h
 cases h
theorem QG {t:TypeId} {x x' v:Value} {lo lo' hi hi':Option Value} (hx:VRel ρ x x') (hlo:OR (VRel ρ) lo lo') (hhi:OR (VRel ρ) hi hi') (h:jh P t x lo hi=some v) (w:World) :
 ∃v',(Instr.sliceAt t x' lo' hi' none).run P w = .ok v' w/\VRel ρ v v':=by
 unfold jh at h
 split at h
 .
  rename_i e a len cap hu;split at h
  .
   rename_i hN hh;split at h
   .
    rename_i lN hl
    have hbounds:∀Oj,cap<=Oj->(Instr.sliceBounds true len Oj lo' hi' none).run P w = .ok (lN,hN,Oj) w/\lN<=hN:=by
     intro Oj hc
     have QF:(match hi' with|some v=>Instr.sliceBound v Oj .sliceAcap|none=>pure len:Sem Nat).run P w = .ok hN w:=by
      cases hhi with
      |none=>simp at hh;subst hh;rfl
      |
       some hv =>
       rename_i u u';simp only at hh ⊢
       have hh2:jO u Oj=some hN:=by
        unfold jO at hh ⊢;split at hh
        .
         split at hh
         .
          rename_i hb;cases hh;rw[if_pos ⟨hb.1,by omega⟩]
         cases hh
        cases hh
       exact (vn hv hh2 w).1
     have hlr:(match lo' with|some v=>Instr.sliceBound v hN .sliceB|none=>pure 0:Sem Nat).run P w = .ok lN w/\lN<=hN:=by
      cases hlo with
      |none=>simp at hl;subst hl;exact ⟨rfl,Nat.zero_le _⟩
      |some hv=>exact vn hv hl w
     refine ⟨?_,hlr.2⟩;cases hhi with
     |
      none =>
      simp only[Sem.run_pure,Result.ok.injEq] at QF;cases hlo with
      |
       none =>
       have:=hlr.1;simp only[Sem.run_pure,Result.ok.injEq] at this;simp[Instr.sliceBounds,QF.1,this.1]
      |some hv=>simp[Instr.sliceBounds,QF.1];have:=hlr.1;simp[this]
     |
      some hv' =>
      cases hlo with
      |
       none =>
       have:=hlr.1;simp only[Sem.run_pure,Result.ok.injEq] at this;simp[Instr.sliceBounds,QF,this.1]
      |some hv=>simp[Instr.sliceBounds,QF];have:=hlr.1;simp[this]
    split at h
    .
     rename_i b off s hs;split at h
     .
      cases h
     rename_i hc;cases h;simp only[not_or] at hc;cases hx with
     |
      slice _ _ _ _ r y hr =>
      obtain ⟨h1,h2⟩:=hbounds (cap+y) (by omega)
      refine ⟨.slice (some ⟨r,off+lN*s,none⟩) (hN-lN) (cap-lN+y),?_,.slice _ _ _ _ _ _ hr⟩;have e1:cap+y-lN=cap-lN+y:=by omega
      by_cases hm:cap+y=lN
      .
       have:lN=0:=by omega
       subst this;obtain rfl:cap=0:=by omega
       obtain rfl:y=0:=by omega
       simp at h1;simp[Instr.sliceAt,Instr.slice,run_underlying hu,h1,cV hs]
      simp[Instr.sliceAt,Instr.slice,run_underlying hu,h1,cV hs,hm,lM,e1]
    .
     rename_i s hs;cases h;cases hx;obtain ⟨h1,h2⟩:=hbounds cap (Nat.le_refl _);exact ⟨_,by simp[Instr.sliceAt,Instr.slice,run_underlying hu,h1,cV hs],.gK _ _⟩
    cases h
   cases h
  cases h
 cases h
theorem Mh {t:TypeId} {cs cs':Array Value} {off:Nat} {v:Value} (hc:AR (VRel ρ) cs cs') (h:Ab P t cs off=some v) (w:World) :
 ∃v',(part t cs' off).run P w = .ok v' w/\VRel ρ v v':=by
 unfold Ab at h
 split at h
 .
  rename_i n ha hs;cases h;refine ⟨.agg (cs'.extract off (off+n)),by simp[part,sr ha,cV hs],.agg _ _ (by simp[hc.1]) λi x y hx hy=>?_⟩
  rw[Array.getElem?_extract] at hx hy;split at hx
  .
   split at hy
   .
    exact hc.2 _ x y hx hy
   cases hy
  cases hx
 .
  rename_i ha;have hlt:off<cs.size:=(Array.getElem?_eq_some_iff.1 h).1;have hlt':off<cs'.size:=hc.1 ▸ hlt;exact ⟨cs'[off],by simp[part,sr ha,hlt'],hc.2 off v _ h (by simp[hlt'])⟩
 cases h
theorem Ok {t:TypeId} {x x' v:Value} {f:Nat} (hx:VRel ρ x x') (h:uX P t x f=some v) (w:World):∃v',(Instr.field t x' f).run P w = .ok v' w/\VRel ρ v v':=by
 unfold uX at h
 split at h
 .
  rename_i fs cs hu;split at h
  .
   rename_i fd QE;cases hx with
   |
    agg _ cs' sa ha =>
    obtain ⟨v',h1,h2⟩:=Mh ⟨sa,ha⟩ h w;exact ⟨v',by simp[Instr.field,run_underlying hu,QE,asAgg,h1],h2⟩
  cases h
 cases h
theorem Ol {t:TypeId} {x x' i i' v:Value} (hx:VRel ρ x x') (hi:VRel ρ i i') (h:sk P t x i=some v) (w:World):∃v',(Instr.index t x' i').run P w = .ok v' w/\VRel ρ v v':=by
 unfold sk at h
 split at h
 .
  rename_i len e cs k n hu;split at h
  .
   rename_i s m hs hm;obtain ⟨rfl,hlt⟩:=xe hm;cases hi;cases hx with
   |
    agg _ cs' sa ha =>
    obtain ⟨v',h1,h2⟩:=Mh ⟨sa,ha⟩ h w;have h1':(part e cs' (m*s)).run P w = .ok v' w:=h1;exact ⟨v',by simp[Instr.index,asIntOf,run_underlying hu,hlt,cV hs,h1'],h2⟩
  cases h
 cases h
theorem GM {t:TypeId} {x x' i i' v:Value} (hx:VRel ρ x x') (hi:VRel ρ i i') (h:lH P t x i=some v) (w:World):∃v',(Instr.index t x' i').run P w = .ok v' w/\VRel ρ v v':=by
 unfold lH at h
 split at h
 .
  rename_i s k m hu;split at h
  .
   rename_i b hb;cases h;cases hx;cases hi;refine ⟨.int .u8 b.toNat,?_,.int _ _⟩
   have hlt:m<s.size:=by
    have:=(List.getElem?_eq_some_iff.1 hb).1;simpa using this
   have hb':s[m]? = some b:=by
    have h2:=(List.getElem?_eq_some_iff.1 hb).2;simp only[Array.getElem_toList] at h2;rw[getElem?_pos s m hlt];exact congrArg some h2
   have h0:(0:Int)<=Int.ofNat m:=Int.natCast_nonneg m;simp[Instr.index,asIntOf,run_underlying hu,hb']
  cases h
 cases h
theorem jy {α:Type}:∀(s:Sem α) {v:α},semPure P s=some v->∀w,s.run P w = .ok v w
 |.pure a,v,h,w=>by simp only[semPure,Option.some.injEq] at h;subst h;rfl
 |.program k,v,h,w=>by simp only[semPure] at h;exact jy (k P) h w
 |.mark _ k,v,h,w=>by simp only[semPure] at h;exact jy k h w
 |.load ..,_,h,_=>by simp[semPure] at h
 |.store ..,_,h,_=>by simp[semPure] at h
 |.new ..,_,h,_=>by simp[semPure] at h
 |.shape ..,_,h,_=>by simp[semPure] at h
 |.freeze ..,_,h,_=>by simp[semPure] at h
 |.frozen ..,_,h,_=>by simp[semPure] at h
 |.getObj ..,_,h,_=>by simp[semPure] at h
 |.setObj ..,_,h,_=>by simp[semPure] at h
 |.choose ..,_,h,_=>by simp[semPure] at h
 |.sys ..,_,h,_=>by simp[semPure] at h
 |.halt ..,_,h,_=>by simp[semPure] at h
theorem pure_ok {o:Oper} {ev ev':Operand->Value} {v:Value} (aL:∀x∈o.op.operands,VRel ρ (ev x) (ev' x)) (h:pureA P ev o=some v) (w:World) :
 (execOp ev' o).run P w = .ok (.value v) w/\VRel ρ v v:=by
 unfold pureA at h
 split at h
 .
  cases h
 rename_i hsel
 split at h
 .
  rename_i hfree;split at h
  .
   rename_i u hu;split at h
   .
    rename_i hf;cases h;refine ⟨?_,aV _ hf⟩
    have hc:execOp ev' o=execOp ev o:=execOp_congr o (λcs b hb=>hsel cs b hb) λx hx=>by
     refine dX (aL x hx) ?_;have:=List.all_eq_true.1 hfree x (by simpa using hx)
     exact this
    rw[hc];exact jy _ hu w
   cases h
  cases h
 cases h
end
end Go.Ev

namespace Go.Ev
open Go.RowKit Go.MapKept
section
variable {c:Cx} {P:Program} {w:World} {ρ:Ren} {H:Mem}
theorem pL {H:Mem} {i:Nat} {b:Blk} (h:mapOf H i=some b):H.get i=some b/\dG b=true:=by
 unfold mapOf at h
 split at h
 .
  rename_i b' hb';rw[pick2_eq] at h;split at h
  .
   cases h;exact ⟨hb',by assumption⟩
  cases h
 cases h
theorem fN:∀a b:List UInt8,jd a b=decide (a=b)
 |[],[]=>by simp[jd]
 |[],_::_=>by simp[jd]
 |_::_,[]=>by simp[jd]
 |
  a::l,b::m=>by
  rw[jd,pick2_eq,fN l m];by_cases h:a.toNat=b.toNat
  .
   rw[if_pos (by simpa[Nat.beq_eq] using h),UInt8.toNat_inj.1 h];simp
  rw[if_neg (by simpa[Nat.beq_eq] using h)]
  have:a≠b:=λe=>h (by rw[e])
  simp[this]
theorem eqI_spec' (a b:Int):eqI a b=(a==b):=by
 unfold eqI
 split
 .
  rename_i m n;rw[Bool.eq_iff_iff];simp[Nat.beq_eq];omega
 .
  rename_i m n;rw[Bool.eq_iff_iff];simp[Nat.beq_eq]
 rename_i h1 h2
 cases a<;>cases b<;>first|(exact absurd rfl (h1 _ _ rfl))|(exact absurd rfl (h2 _ _ rfl))|simp_all
theorem Mi {d:TypeDesc} {k q k' q':Value} {r:Bool} (hk:VRel ρ k k') (hq:VRel ρ q q') (h:Gw d k q=some r) :
 Instr.sameNow d k' q'=some r/\(r=true->k'=q')/\IsKey d k':=by
 unfold Gw at h
 split at h
 .
  cases hk;cases hq;rw[pick2_eq] at h;split at h
  .
   rename_i hkk;simp only[Bool.and_eq_true,decide_eq_true_eq] at hkk;obtain ⟨rfl,rfl⟩:=hkk;cases h;rw[eqI_spec'];refine ⟨by simp[Instr.sameNow],λe=>by simp at e;rw[e],rfl⟩
  cases h
 .
  cases hk;cases hq;cases h;rw[fN];refine ⟨?_,λe=>?_,trivial⟩
  .
   rename_i a b;simp only[Instr.sameNow,Option.some.injEq];rw[Bool.eq_iff_iff,bytes_beq];simp only[decide_eq_true_eq]
   constructor
   .
    rintro rfl;rfl
   intro e;obtain ⟨⟨x⟩⟩:=a;obtain ⟨⟨y⟩⟩:=b;simp at e;rw[e]
  rename_i a b;simp only[decide_eq_true_eq] at e;obtain ⟨⟨x⟩⟩:=a;obtain ⟨⟨y⟩⟩:=b;simp at e;rw[e]
 cases h
theorem find_ok {d:TypeDesc} {k k':Value} (hk:VRel ρ k k'):∀(cs:List Value) (es:List MapEntry) (i:Nat) {r:Option (Nat×Value)},LR (VRel ρ) cs (turns es)->ny d k cs i=some r ->
 (r=none/\Instr.findNow d k' es i=some none)\/∃j v e,r=some (i+j,v)/\Instr.findNow d k' es i=some (some (i+j,e.val))/\VRel ρ v e.val/\es[j]? = some e/\e.key=k'/\IsKey d k'
 |[],[],i,r,_,h=>by cases h;exact .inl ⟨rfl,rfl⟩
 |[],e::es,i,r,hl,_=>by have:=hl.1;simp[turns] at this
 |[q],es,i,r,_,h=>by cases h
 |q::v::cs,[],i,r,hl,_=>by have:=hl.1;simp[turns] at this
 |
  q::v::cs,e::es,i,r,hl,h=>by
  have hl':LR (VRel ρ) (q::v::cs) (e.key::e.val::turns es):=hl;obtain ⟨q',t1,e1,hq,J0⟩:=hl'.qJ;cases e1;obtain ⟨v',t2,e2,hv,qB⟩:=J0.qJ;cases e2;unfold ny at h;split at h
  .
   rename_i hs;cases h;obtain ⟨h1,h2,h3⟩:=Mi hk hq hs;exact .inr ⟨0,v,e,rfl,by simp[Instr.findNow,h1],hv,rfl,(h2 rfl).symm,h3⟩
  .
   rename_i hs;obtain ⟨h1,_,_⟩:=Mi hk hq hs;rcases find_ok hk cs es (i+1) qB h with ⟨rfl,h2⟩|⟨j,v1,e1,rfl,h2,h3,h4,h5,h6⟩
   .
    exact .inl ⟨rfl,by simp[Instr.findNow,h1,h2]⟩
   exact .inr ⟨j+1,v1,e1,by rw[show i+1+j=i+(j+1) by omega],by simp[Instr.findNow,h1,h2];omega,h3,by simpa using h4,h5,h6⟩
  cases h
theorem oQ {kt:TypeId} {d:TypeDesc} (hd:P.underlying kt=some d) (hk:nU d=true) (k:Value) (e:Bool) (n:Nat) (w:World):(Instr.checkKey e (n+1) kt k).run P w = .ok () w:=by
 unfold Instr.checkKey
 simp only[Sem.run_bind,run_underlying hd,Result.andThen]
 cases d<;>first|(cases k<;>rfl)|(simp[nU] at hk;done)
theorem J2 (he:bB c ρ H w) {x x':Value} {cs:List Value} (hx:VRel ρ x x') (h:jQ H x=some cs) :
 (x' = .map none/\cs=[])\/∃r es clock,x' = .map (some r)/\w.heap[r]? = some (.map es clock)/\LR (VRel ρ) cs (turns es.toList):=by
 unfold jQ at h
 split at h
 .
  cases h;cases hx;exact .inl ⟨rfl,rfl⟩
 .
  rename_i i;split at h
  .
   rename_i b hb;cases h;obtain ⟨h1,h2⟩:=pL hb;obtain ⟨r,es,clock,k1,k2,k3,k4⟩:=he.maps i b h1 h2;cases hx with
   |
    map _ r' x hr =>
    rw[k1] at hr;cases hr;exact .inr ⟨r,es,clock,rfl,k3,k4⟩
  cases h
 cases h
theorem look_ok (he:bB c ρ H w) {t:TypeId} {x x' k k' v:Value} {ok:Bool} (hx:VRel ρ x x') (hk:VRel ρ k k') (h:qf c.P H t x k ok=some v) :
 ∃v',(Instr.lookup t x' k' ok).run c.P w = .ok v' w/\VRel ρ v v':=by
 unfold qf at h
 split at h
 .
  rename_i kt e ht;split at h
  .
   rename_i d z cs hd hz hcs;obtain ⟨hz1,hz2,_⟩:=gM hz w;rw[pick2_eq] at h;split at h
   .
    rename_i Mj
    have pair:∀{v v':Value} {b:Bool},VRel ρ v v'->VRel ρ (pick2 ok (.tuple #[v,.bool b]) v) (if ok then .tuple #[v',.bool b] else v'):=by
     intro v v' b hv;cases ok with
     |false=>exact hv
     |
      true =>
      refine .tuple _ _ rfl ?_;intro i x y h1 h2;rcases i with _|_|i
      .
       simp at h1 h2;subst h1 h2;exact hv
      .
       simp at h1 h2;subst h1 h2;exact .bool _
      simp at h1
    have run:∀{es:Array MapEntry} {clock:Nat} (hes:LR (VRel ρ) cs (turns es.toList)) (hget:x' = .map none/\es = #[]\/∃r,x' = .map (some r)/\w.heap[r]? = some (.map es clock)),
     ∃v',(Instr.lookup t x' k' ok).run c.P w = .ok v' w/\VRel ρ v v':=by
     intro es clock hes hget;split at h
     .
      rename_i j u hf;rcases find_ok hk cs es.toList 0 hes hf with ⟨h0,_⟩|⟨j',u',e',h0,h1,h2,h3,h4,h5⟩
      .
       cases h0
      cases h0;cases h;refine ⟨_,?_,pair h2⟩;rcases hget with ⟨rfl,rfl⟩|⟨r,rfl,hr⟩
      .
       simp at h3
      simp only[Instr.lookup,Sem.run_bind,run_underlying ht,Go.MapKept.run_getObj_map hr,oQ hd Mj,run_findKey hd h1,Sem.run_pure,Result.andThen]
     .
      rename_i hf;rcases find_ok hk cs es.toList 0 hes hf with ⟨_,h1⟩|⟨j',u',e',h0,_⟩
      .
       cases h;refine ⟨_,?_,pair (aV z hz2)⟩;rcases hget with ⟨rfl,rfl⟩|⟨r,rfl,hr⟩
       .
        simp only[Instr.lookup,Sem.run_bind,run_underlying ht,oQ hd Mj,run_findKey hd h1,Sem.run_pure,Result.andThen,hz1]
       simp only[Instr.lookup,Sem.run_bind,run_underlying ht,Go.MapKept.run_getObj_map hr,oQ hd Mj,run_findKey hd h1,Sem.run_pure,Result.andThen,hz1]
      cases h0
     cases h
    rcases J2 he hx hcs with ⟨rfl,rfl⟩|⟨r,es,clock,rfl,hr,hes⟩
    .
     exact run (es := #[]) (clock:=0) .nil (.inl ⟨rfl,rfl⟩)
    exact run hes (.inr ⟨r,rfl,hr⟩)
   cases h
  cases h
 cases h
theorem bB.aaA (he:bB c ρ H w) {t:TypeId} {H':Mem} (hp:H.push ⟨[],t,false,true⟩=some H'):bB c (ρ.put H.size (w.heap.size,0)) H' (w.alloc (.map #[] 0)):=by
 have hle:=he.qL (Nat.le_refl H.size) (w.heap.size,0)
 obtain ⟨q1,q2,q3⟩:=Mem.bA hp
 have Qv:∀{i:Nat} {b:Blk},H'.get i=some b->(i<H.size/\H.get i=some b)\/(i=H.size/\b=⟨[],t,false,true⟩):=by
  intro i b hi;rw[q3] at hi;by_cases h1:i=H.size
  .
   rw[if_pos h1] at hi;cases hi;exact .inr ⟨h1,rfl⟩
  rw[if_neg h1] at hi;exact .inl ⟨Mem.bH hi,hi⟩
 have lt:∀{r:Nat} {o:Obj},w.heap[r]? = some o->r<w.heap.size:=λh=>(Array.getElem?_eq_some_iff.1 h).1
 have Mk:∀{i:Nat} {b:Blk},H'.get i=some b->b.live=true->i<H.size/\H.get i=some b:=by
  intro i b hi hl;rcases Qv hi with h1|⟨_,rfl⟩
  .
   exact h1
  cases hl
 refine ⟨he.stay.alloc he.base _,Nat.le_trans he.base (by simp),?_,by rw[q2];exact he.lk,by rw[q1];have:=he.ve;omega,λg hg=>hle _ _ (he.dM g hg),?_,?_,?_,?_⟩
 .
  intro i y hy;rw[q1];by_cases hi:i=H.size
  .
   omega
  rw[Ren.iu ρ _ hi] at hy;have:=he.dom i y hy;omega
 .
  intro i b hi hl;obtain ⟨r',y,D,gr,s',h1,h2,h3,h4,h5,h6,h7⟩:=he.blk i b (Mk hi hl).2 hl;exact ⟨r',y,D,gr,s',hle _ _ h1,h2,by rw[Below.heap_alloc _ _ _ (lt h3)];exact h3,h4,h5,h6,h7.1.mono λ_ _=>VRel.mono hle,h7.2⟩
 .
  intro i j bi bj q y z hi CC hj oP hr hr';obtain ⟨k1,k2⟩:=Mk hi CC;obtain ⟨k3,k4⟩:=Mk hj oP;rw[Ren.iu ρ _ (by omega)] at hr hr'
  exact he.inj i j bi bj q y z k2 CC k4 oP hr hr'
 .
  intro i b hi hm;rcases Qv hi with ⟨hlt,hi'⟩|⟨rfl,rfl⟩
  .
   exact ((he.maps i b hi' hm).heap λr es clock hh=>by rw[Below.heap_alloc _ _ _ (lt hh)];exact hh).mono hle
  exact ⟨w.heap.size,#[],0,Ren.fU _ _ _,he.stay.fresh he.base,by show (w.heap.push _)[w.heap.size]? = _;simp,.nil⟩
 intro i j bi bj q y z hi hmi hj Qw hr hr'
 have old:∀{i:Nat} {b:Blk} {q y:Nat},i<H.size->H.get i=some b->dG b=true->(ρ.put H.size (w.heap.size,0)) i=some (q,y)->ρ i=some (q,y)/\q<w.heap.size:=by
  intro i b q y hlt hg hm hr;rw[Ren.iu ρ _ (by omega)] at hr
  obtain ⟨r',es,clock,e1,e2,e3,_⟩:=he.maps i b hg hm;rw[hr] at e1;cases e1;exact ⟨hr,lt e3⟩
 rcases Qv hi with ⟨hlt,hi'⟩|⟨rfl,rfl⟩
 .
  obtain ⟨o1,o2⟩:=old hlt hi' hmi hr;rcases Qv hj with ⟨hlt',hj'⟩|⟨rfl,rfl⟩
  .
   obtain ⟨o3,_⟩:=old hlt' hj' Qw hr';exact he.qs i j bi bj q y z hi' hmi hj' Qw o1 o3
  rw[Ren.fU] at hr';cases hr';omega
 rcases Qv hj with ⟨hlt',hj'⟩|⟨rfl,rfl⟩
 .
  obtain ⟨_,o2⟩:=old hlt' hj' Qw hr';rw[Ren.fU] at hr;cases hr;omega
 rfl
theorem J3 (he:bB c ρ H w) {t:TypeId} {r r':Option Value} {v:Value} {H':Mem} (hr:OR (VRel ρ) r r') (h:ig c.P t r H=some (v,H')) :
 ∃ ρ' w' v',ρ.le ρ'/\bB c ρ' H' w'/\VRel ρ' v v'/\(Instr.makeMap t r').run c.P w = .ok v' w':=by
 have fin:∀{H1:Mem},H.push ⟨[],t,false,true⟩=some H1->v = .map (some H.size)->H1=H'->(Instr.makeMap t r').run c.P w = .ok (.map (some w.heap.size)) (w.alloc (.map #[] 0)) ->
  ∃ ρ' w' v',ρ.le ρ'/\bB c ρ' H' w'/\VRel ρ' v v'/\(Instr.makeMap t r').run c.P w = .ok v' w':=by
  rintro H1 hp rfl rfl hrun;exact ⟨_,_,_,he.qL (Nat.le_refl _) _,he.aaA hp,.map _ _ _ (Ren.fU _ _ _),hrun⟩
 unfold ig at h
 split at h
 .
  cases hr;split at h
  .
   rename_i H1 hp;cases h;exact fin hp rfl rfl (by simp[Instr.makeMap,Result.andThen])
  cases h
 .
  rename_i a b k n hu;cases hr with
  |
   some hv =>
   cases hv;split at h
   .
    rename_i H1 hp;cases h;exact fin hp rfl rfl (by simp[Instr.makeMap,run_underlying hu,asInt,asIntOf,Result.andThen])
   cases h
 cases h
theorem E4 (a b:List MapEntry):turns (a++b)=turns a++turns b:=by simp[turns]
theorem vo:∀(l:List MapEntry) (j:Nat) (f:MapEntry->MapEntry) (x:Value),(∀e,l[j]? = some e->(f e).key=e.key/\(f e).val=x)->turns (l.modify j f)=(turns l).set (2*j+1) x
 |[],j,f,x,_=>by simp[turns]
 |
  e::l,0,f,x,h=>by
  obtain ⟨h1,h2⟩:=h e rfl;simp[turns,h1,h2]
 |
  e::l,j+1,f,x,h=>by
  have ih:=vo l j f x (λe' he'=>h e' (by simpa using he'))
  have e1:turns (e::l.modify j f)=e.key::e.val::turns (l.modify j f):=rfl;have e2:turns (e::l)=e.key::e.val::turns l:=rfl;rw[List.modify_succ_cons,e1,e2,ih,show 2*(j+1)+1=(2*j+1)+1+1 by omega,List.set_cons_succ,List.set_cons_succ]
theorem bB.QH (he:bB c ρ H w) {i:Nat} {b:Blk} (hi:mapOf H i=some b) {cs:List Value} {H':Mem} (JY:H.set i { b with cells:=cs }=some H') {r:Nat} {es es':Array MapEntry} {clock clock':Nat}
 (hr:ρ i=some (r,0)) (hB:c.own r) (hw:w.heap[r]? = some (.map es clock)) (hl:LR (VRel ρ) cs (turns es'.toList)):bB c ρ H' (cE w r (.map es' clock')):=by
 obtain ⟨g1,g2⟩:=pL hi
 obtain ⟨e1,e2,e3,e4,e5⟩:=Mem.fq JY
 have JZ:r<w.heap.size:=(Array.getElem?_eq_some_iff.1 hw).1
 have bl:b.live=false:=by unfold dG at g2;cases hl:b.live with|true=>rw[hl] at g2;cases g2|false=>rfl
 have Mk:∀{j:Nat} {bj:Blk},H'.get j=some bj->bj.live=true->H.get j=some bj:=by
  intro j bj hj oP;rw[e5] at hj;by_cases hij:j=i
  .
   rw[if_pos hij] at hj;cases hj;simp only at oP;rw[bl] at oP;cases oP
  rw[if_neg hij] at hj;exact hj
 have atM:∀{j:Nat} {bj:Blk},H'.get j=some bj->dG bj=true->∃b',H.get j=some b'/\dG b'=true/\(j≠i->b'=bj):=by
  intro j bj hj hm;rw[e5] at hj;by_cases hij:j=i
  .
   subst hij;exact ⟨b,g1,g2,λh=>absurd rfl h⟩
  rw[if_neg hij] at hj;exact ⟨bj,hj,hm,λ_=>rfl⟩
 refine ⟨he.stay.GB hB ⟨rfl,rfl,rfl,by simp[cE],λk hk=>cw _ _ _ _ (by have:=hB.1;omega)⟩ (λk hk=>cw _ _ _ _ hk),by simpa[cE] using he.base,λj y hy=>by rw[e3];exact he.dom j y hy,by rw[e4];exact he.lk,by rw[e3];exact he.ve,he.dM,?_,?_,?_,?_⟩
 .
  intro j bj hj oP;obtain ⟨q,y,E,er,s',m1,m2,m3,m4⟩:=he.blk j bj (Mk hj oP) oP;exact ⟨q,y,E,er,s',m1,m2,by rw[cw _ _ _ _ (λe=>by subst e;rw[hw] at m3;cases m3)];exact m3,m4⟩
 .
  intro j k bj bk q y z hj oP hk hlk hq hq';exact he.inj j k bj bk q y z (Mk hj oP) oP (Mk hk hlk) hlk hq hq'
 .
  intro j bj hj hm;obtain ⟨b',h1,h2,h3⟩:=atM hj hm;by_cases hij:j=i
  .
   subst hij;rw[e5,if_pos rfl] at hj;cases hj;exact ⟨r,es',clock',hr,hB,mK _ _ _ JZ,hl⟩
  obtain rfl:=h3 hij;obtain ⟨q,es2,aaB,m1,m2,m3,m4⟩:=he.maps j b' h1 h2;exact ⟨q,es2,aaB,m1,m2,by rw[cw _ _ _ _ (λe=>by subst e;exact hij (he.qs j i b' b _ _ _ h1 h2 g1 g2 m1 hr))];exact m3,m4⟩
 intro j k bj bk q y z hj Qw hk hmk hq hq'
 obtain ⟨b1,h1,h2,_⟩:=atM hj Qw
 obtain ⟨b2,h3,h4,_⟩:=atM hk hmk
 exact he.qs j k b1 b2 q y z h1 h2 h3 h4 hq hq'
theorem Dg (he:bB c ρ H w) {t:TypeId} {m m' k k' x x' v:Value} {H':Mem} (hm:VRel ρ m m') (hk:VRel ρ k k') (hx:VRel ρ x x') (h:jR c.P t m k x H=some (v,H')) :
 ∃w',bB c ρ H' w'/\(Instr.mapUpdate t m' k' x').run c.P w = .ok () w'/\v=undef:=by
 unfold jR at h
 split at h
 .
  rename_i kt e i ht;split at h
  .
   rename_i d b hd hb;rw[pick2_eq] at h;split at h
   .
    rename_i Mj;simp only[Bool.and_eq_true] at Mj;obtain ⟨Mj,hkf⟩:=Mj;have hk':=dX hk hkf;subst hk';obtain ⟨g1,g2⟩:=pL hb;obtain ⟨r,es,clock,k1,k2,k3,k4⟩:=he.maps i b g1 g2;cases hm with
    |
     map _ r' y hr =>
     rw[k1] at hr;cases hr;split at h
     .
      rename_i j u hf;split at h
      .
       rename_i H1 JY;cases h;rcases find_ok hk b.cells es.toList 0 k4 hf with ⟨h0,_⟩|⟨j',u',e',h0,h1,h2,h3,h4,h5⟩
       .
        cases h0
       rw[Nat.zero_add] at h0 h1;cases h0;have hj:es[j]? = some e':=by simpa using h3
       refine ⟨_,he.QH hb JY k1 k2 k3 (es':=es.modify j λe=>{ e with key:=k',val:=x' }) (clock':=clock) ?_,?_,rfl⟩
       .
        rw[Array.toList_modify,vo es.toList j _ x' (λe1 QI=>by rw[h3] at QI;cases QI;exact ⟨h4.symm,rfl⟩)]
        exact k4.set _ hx
       simp[Instr.mapUpdate,run_underlying ht,Go.MapKept.run_getObj_map k3,oQ hd Mj,run_findKey hd h1,hj,h4,run_keyThatStays h5,run_setObj_map _ k3,Result.andThen,cE]
      cases h
     .
      rename_i hf;split at h
      .
       rename_i H1 JY;cases h;rcases find_ok hk b.cells es.toList 0 k4 hf with ⟨_,h1⟩|⟨j',u',e',h0,_⟩
       .
        refine ⟨_,he.QH hb JY k1 k2 k3 (es':=es.push { key:=k',val:=x',born:=clock }) (clock':=clock+1) ?_,?_,rfl⟩
        .
         rw[Array.toList_push,E4];exact k4.append (.cons hk (.cons hx .nil))
        simp[Instr.mapUpdate,run_underlying ht,Go.MapKept.run_getObj_map k3,oQ hd Mj,run_findKey hd h1,run_setObj_map _ k3,Result.andThen,cE]
       cases h0
      cases h
     cases h
   cases h
  cases h
 cases h
theorem Au {t:TypeId} {r:Option Value} {v:Value} {H':Mem} (h:ig P t r H=some (v,H')):∃b,H.push b=some H':=by
 unfold ig at h
 split at h
 .
  split at h
  .
   rename_i hp;cases h;exact ⟨_,hp⟩
  cases h
 .
  split at h
  .
   rename_i hp;cases h;exact ⟨_,hp⟩
  cases h
 cases h
theorem tB {t:TypeId} {m k x v:Value} {H':Mem} (h:jR P t m k x H=some (v,H')):∃i b,H.set i b=some H':=by
 unfold jR at h
 split at h
 .
  split at h
  .
   rw[pick2_eq] at h;split at h
   .
    split at h
    .
     split at h
     .
      rename_i hp;cases h;exact ⟨_,_,hp⟩
     cases h
    .
     split at h
     .
      rename_i hp;cases h;exact ⟨_,_,hp⟩
     cases h
    cases h
   cases h
  cases h
 cases h
end
end Go.Ev

namespace Go.Ev
open Go.RowKit
section
variable {c:Cx} {P:Program} {w:World} {ρ:Ren} {H:Mem}
def QJ (c:Cx) (ρ:Ren) (o:Oper) (ev:Operand->Value) (w:World) (v:Value) (H':Mem):Prop :=
 ∃ ρ' w' v',ρ.le ρ'/\bB c ρ' H' w'/\VRel ρ' v v'/\((execOp ev o).run c.P w = .ok (.value v') w'\/((execOp ev o).run c.P w = .ok .skip w'/\v'=undef))
abbrev Zs (ρ:Ren) (ev ev':Operand->Value) (o:Op):Prop:=∀x∈o.operands,VRel ρ (ev x) (ev' x)
theorem PR.parts {ev ev':Operand->Value}:∀(l:List (Nat×Operand)),(∀q∈l,VRel ρ (ev q.2) (ev' q.2))->PR (VRel ρ) (l.map λq=>(q.1,ev q.2)) (l.map λq=>(q.1,ev' q.2))
 |[],_=>trivial
 |q::l,h=>⟨rfl,h q (by simp),PR.parts l λx hx=>h x (by simp[hx])⟩
theorem Av {ev ev':Operand->Value} (x:Option Operand) (h:∀y,x=some y->VRel ρ (ev y) (ev' y)):OR (VRel ρ) (x.map ev) (x.map ev'):=by
 cases x with
 |none=>exact .none
 |some y=>exact .some (h y rfl)
theorem AR.map {ev ev':Operand->Value} (xs:Array Operand) (h:∀y∈xs,VRel ρ (ev y) (ev' y)):AR (VRel ρ) (xs.map ev) (xs.map ev') :=
 ⟨by simp,λi x y hx hy=>by
  simp only[Array.getElem?_map,Option.map_eq_some_iff] at hx hy;obtain ⟨q,h1,rfl⟩:=hx;obtain ⟨q',h2,rfl⟩:=hy;rw[h1] at h2;cases h2;exact h q (Array.mem_of_getElem? h1)⟩
theorem aB {H H':Mem} {x:Option Value} {v:Value} (h:withMem H x=some (v,H')):x=some v/\H'=H:=by
 cases x with
 |none=>cases h
 |
  some u =>
  have h':some (u,H)=some (v,H'):=h;cases h';exact ⟨rfl,rfl⟩
theorem Wl (H:Mem) (v:Value):withMem H (some v)=some (v,H):=rfl
theorem gN {x y:Option Value} {v:Value} (h:orElse x y=some v):x=some v\/(x=none/\y=some v):=by
 cases x with
 |none=>exact .inr ⟨rfl,h⟩
 |some u=>exact .inl h
theorem ltI_spec (a b:Int):ltI a b=decide (a<b):=by
 unfold ltI
 split
 .
  rw[gL];rw[decide_eq_decide];simp only[Int.ofNat_eq_natCast];omega
 .
  simp only[Int.ofNat_eq_natCast,Int.negSucc_eq];symm;simp;omega
 .
  simp only[Int.ofNat_eq_natCast,Int.negSucc_eq];symm;simp;omega
 rw[gL];rw[decide_eq_decide];simp only[Int.negSucc_eq];omega
theorem eqI_spec (a b:Int):eqI a b=(a==b):=by
 unfold eqI
 split
 .
  rename_i m n;rw[Bool.eq_iff_iff];simp[Nat.beq_eq];omega
 .
  rename_i m n;rw[Bool.eq_iff_iff];simp[Nat.beq_eq]
 rename_i h1 h2
 cases a<;>cases b
 .
  exact absurd rfl (h1 _ _ rfl)
 .
  rfl
 .
  rfl
 exact absurd rfl (h2 _ _ rfl)
theorem tX {n:Int} (h:Gv n=true):IntKind.i64.wrap n=n:=by
 refine IntWalk.i64_in n ?_
 unfold Gv at h
 split at h
 .
  simp only[Nat.blt_eq] at h;simp only[Int.ofNat_eq_natCast];omega
 simp only[Nat.blt_eq] at h;simp only[Int.negSucc_eq];omega
theorem Dh (n:Int):forced n=n:=by
 unfold forced
 split<;>rfl
theorem GN {k k':IntKind} (h:JR k k'=true):k=k':=by
 cases k<;>cases k'<;>first|rfl|(simp[JR] at h)
theorem GP {op:BinOp} {x y v:Value} (h:Ad op x y=some v) (t:TypeId) (p q:Operand) (w:World) :
 (do eqGuard op t p q x y;binOp op t x y:Sem Value).run P w = .ok v w/\addrFree v=true/\addrFree x=true/\addrFree y=true:=by
 unfold Ad at h
 split at h
 .
  rename_i k a k' b;rw[pick2_eq] at h;split at h
  .
   rename_i hk;have:=GN hk;subst this
   have hg:(eqGuard op t p q (.int k a) (.int k b)).run P w = .ok () w:=by
    unfold eqGuard;cases op<;>rfl
   refine ⟨?_,?_,rfl,rfl⟩
   .
    simp only[Sem.run_bind,hg,Result.andThen_ok];split at h
    .
     rename_i u hu;cases h;unfold Mc at hu
     have n1:∀a b:Int,(!decide (b<a))=decide (a<=b):=λa b=>by
      rw[Bool.eq_iff_iff];simp
     cases op<;>cases hu<;>simp[binOp,Op.intCmp,ltI_spec,eqI_spec,bne,n1]
    split at h
    .
     rename_i n hn;cases h;unfold Md at hn;split at hn
     .
      rw[pick2_eq] at hn;split at hn
      .
       rename_i hr;cases hn;have e:IntKind.i64.wrap (a+b)=a+b:=tX hr;have e2:Int.add a b=a+b:=rfl;simp[binOp,Op.intArith,Dh,e]
      cases hn
     .
      rw[pick2_eq] at hn;split at hn
      .
       rename_i hr;cases hn;have e:IntKind.i64.wrap (a-b)=a-b:=tX hr;have e2:Int.sub a b=a-b:=rfl;simp[binOp,Op.intArith,Dh,e,e2]
      cases hn
     cases hn
    cases h
   split at h
   .
    cases h;rfl
   split at h
   .
    cases h;rfl
   cases h
  cases h
 cases h
theorem oy {t:TypeId} {x y:Value} {b:Bool} {op:BinOp} {v:Value} (p q:Operand) (w:World) (hg:∀op,(eqGuard op t p q x y).run P w = .ok () w) (he:(Op.equalIn 10000 t x y).run P w = .ok b w)
 (h1:binOp .eql t x y=do pure (.bool (<- Op.equal t x y))) (h2:binOp .neq t x y=do pure (.bool (!(<- Op.equal t x y))))
 (h:(op = .eql/\v = .bool b)\/(op = .neq/\v = .bool !b)):(do eqGuard op t p q x y;binOp op t x y:Sem Value).run P w = .ok v w:=by
 have he':(Op.equal t x y).run P w = .ok b w:=he
 rcases h with ⟨rfl,rfl⟩|⟨rfl,rfl⟩
 .
  simp only[Sem.run_bind,hg,Result.andThen_ok,h1,he',Sem.run_pure]
 simp only[Sem.run_bind,hg,Result.andThen_ok,h2,he',Sem.run_pure]
theorem Wm {op:BinOp} {x y v x' y':Value} {t:TypeId} (hx:VRel ρ x x') (hy:VRel ρ y y') (h:oI P op t x y=some v) (p q:Operand) (w:World) :
 (do eqGuard op t p q x' y';binOp op t x' y':Sem Value).run P w = .ok v w/\addrFree v=true:=by
 unfold oI at h
 split at h
 .
  rename_i a b hu;cases hx;cases hy
  have e:(Op.equalIn (9999+1) t (.bool a) (.bool b)).run P w = .ok (a==b) w:=by
   unfold Op.equalIn;simp[run_underlying hu]
  have hg:∀op,(eqGuard op t p q (.bool a) (.bool b)).run P w = .ok () w:=λop=>by unfold eqGuard;cases op<;>rfl
  split at h
  .
   cases h;refine ⟨oy p q w hg e rfl rfl (.inl ⟨rfl,?_⟩),rfl⟩;cases a<;>cases b<;>rfl
  .
   cases h;refine ⟨oy p q w hg e rfl rfl (.inr ⟨rfl,?_⟩),rfl⟩;cases a<;>cases b<;>rfl
  cases h
 .
  rename_i l cc l2 c2 hu;cases hx with
  |
   slice i off _ _ r y2 hr =>
   cases hy with
   |
    gK _ _ =>
    have e:(Op.equalIn (9999+1) t (.slice (some ⟨r,off,none⟩) l (cc+y2)) (.slice none l2 c2)).run P w = .ok false w:=by
     unfold Op.equalIn;simp[run_underlying hu]
    have hg:∀op,(eqGuard op t p q (.slice (some ⟨r,off,none⟩) l (cc+y2)) (.slice none l2 c2)).run P w = .ok () w:=λop=>by unfold eqGuard;cases op<;>rfl
    split at h
    .
     cases h;exact ⟨oy p q w hg e rfl rfl (.inl ⟨rfl,rfl⟩),rfl⟩
    .
     cases h;exact ⟨oy p q w hg e rfl rfl (.inr ⟨rfl,rfl⟩),rfl⟩
    cases h
 .
  rename_i hu;cases hx with
  |
   ptr i off r y2 hr =>
   cases hy with
   |
    qI =>
    have e:(Op.equalIn (9999+1) t (.pointer (some ⟨r,off,none⟩)) (.pointer none)).run P w = .ok false w:=by
     unfold Op.equalIn;simp[run_underlying hu]
    have hg:∀op,(eqGuard op t p q (.pointer (some ⟨r,off,none⟩)) (.pointer none)).run P w = .ok () w:=λop=>by unfold eqGuard;cases op<;>rfl
    split at h
    .
     cases h;exact ⟨oy p q w hg e rfl rfl (.inl ⟨rfl,rfl⟩),rfl⟩
    .
     cases h;exact ⟨oy p q w hg e rfl rfl (.inr ⟨rfl,rfl⟩),rfl⟩
    cases h
 .
  rename_i te i a j b hu;rw[pick2_eq] at h;split at h
  .
   rename_i hc;simp only[Bool.and_eq_true,Nat.beq_eq] at hc;obtain ⟨⟨rfl,rfl⟩,hsz⟩:=hc;cases hx with
   |
    ptr _ _ r y hr =>
    cases hy with
    |
     ptr _ _ r2 y2 VZ =>
     rw[hr] at VZ;cases VZ
     have e:(Op.equalIn (9999+1) t (.pointer (some ⟨r,a,none⟩)) (.pointer (some ⟨r,a,none⟩))).run P w = .ok true w:=by
      obtain ⟨n,hn⟩:=Option.isSome_iff_exists.1 hsz;obtain ⟨inf,hi,_⟩:=Option.map_eq_some_iff.1 hn;unfold Op.equalIn;simp[run_underlying hu,sizeOf,typeInfo,hi,run_sameAddr_same]
     have hg:∀op,(eqGuard op t p q (.pointer (some ⟨r,a,none⟩)) (.pointer (some ⟨r,a,none⟩))).run P w = .ok () w:=λop=>by unfold eqGuard;cases op<;>rfl
     split at h
     .
      cases h;exact ⟨oy p q w hg e rfl rfl (.inl ⟨rfl,rfl⟩),rfl⟩
     .
      cases h;exact ⟨oy p q w hg e rfl rfl (.inr ⟨rfl,rfl⟩),rfl⟩
     cases h
  cases h
 .
  rename_i hu;cases hx;cases hy
  have e:(Op.equalIn (9999+1) t (.pointer none) (.pointer none)).run P w = .ok true w:=by
   unfold Op.equalIn;simp[run_underlying hu]
  have hg:∀op,(eqGuard op t p q (.pointer none) (.pointer none)).run P w = .ok () w:=λop=>by unfold eqGuard;cases op<;>rfl
  split at h
  .
   cases h;exact ⟨oy p q w hg e rfl rfl (.inl ⟨rfl,rfl⟩),rfl⟩
  .
   cases h;exact ⟨oy p q w hg e rfl rfl (.inr ⟨rfl,rfl⟩),rfl⟩
  cases h
 cases h
theorem Di {d:TypeId} {x x' v:Value} (hx:VRel ρ x x') (h:iJ P d x=some v) (s:TypeId) (hs:∃q,P.underlying s=some q) (w:World):(convert s d x').run P w = .ok v w/\addrFree v=true:=by
 obtain ⟨q,hq⟩:=hs
 unfold iJ at h
 split at h
 .
  rename_i n hu;cases hx;rw[pick2_eq] at h;split at h
  .
   rename_i hn;cases h;refine ⟨?_,rfl⟩;have hn':n<=255:=by simpa[Nat.ble_eq] using hn
   have e:IntKind.i64.wrap (n:Int)=n:=IntWalk.i64_in _ (by omega)
   simp[convert,run_underlying hq,run_underlying hu,Conv.intToInt,e]
  cases h
 .
  rename_i n hu;cases hx;rw[pick2_eq] at h;split at h
  .
   rename_i hn;cases h;refine ⟨?_,rfl⟩;simp[convert,run_underlying hq,run_underlying hu,Conv.intToInt,tX hn]
  cases h
 cases h
theorem aft:Extern.allNextRows.lookup "internal/abi.NoEscape" = none:=by kernel_rfl
theorem Zt:Extern.allNextRows.lookup "" = none:=by kernel_rfl
theorem ajV:Extern.allGenericRows.lookup "internal/abi.NoEscape" = none:=by kernel_rfl
theorem ajW:Extern.allTypedRows.lookup "internal/abi.NoEscape" = none:=by kernel_rfl
theorem ajX:Extern.allRows.lookup "internal/abi.NoEscape" = some Extern.AbiNoEscape.same:=by kernel_rfl
theorem Aw {o:Oper} {ev':Operand->Value} {f y:Operand} {ats:Array TypeId} {id:FuncId} {fn:Func} (hop:o.op = .call { callee:=.value f,args := #[y],argTypes:=ats }) (hg:ev' f = .func (.func id) #[] #[]) (hfn:c.P.funcs[id]? = some fn) (hb:¬fn.body.isSome=true) (hname:fn.name = "internal/abi.NoEscape") (QK:fn.origin = "") (w:World) :
 (execOp ev' o).run c.P w = .ok (.value (ev' y)) w:=by
 have hb':fn.body.isNone=true:=by simpa using hb
 have e1:Extern.findNext fn=none:=by
  simp only[Extern.findNext,hname,QK];rw[aft,Zt];rfl
 have e2:Extern.find fn=some Extern.AbiNoEscape.same:=by
  simp only[Extern.find,hname,QK];rw[ajV,ajW,ajX];rfl
 have hn:¬(fn.name = "runtime.NumGoroutine"):=by rw[hname];decide
 have Ar:fn.body=none:=by simpa using hb'
 simp only[execOp,hop,resolve,Deferred.ofValue,hg,invoke,callFunc]
 have e3:Extern.AbiNoEscape.same #[ev' y]=pure (ev' y):=rfl
 simp[hfn,hn,Ar,e1,e2,e3]
set_option maxHeartbeats 1000000 in
theorem bB.freeze {c:Cx} {ρ:Ren} {H H':Mem} {w:World} (he:bB c ρ H w) {i r x n:Nat} {b:Blk} (hi:alive H i=some b) (hk:Ev.kill H i=some H') (hr:ρ i=some (r,x)):bB c ρ H' (w.freeze ⟨r,0,none⟩ n):=by
 have hk2:=he.kill hk
 obtain ⟨k1,k2,k3,k4⟩:=jw hk
 obtain ⟨hg,hl⟩:=alive_some hi
 have hB:c.own r:=by
  obtain ⟨r',x',C,fr,s,h1,h2,_⟩:=he.blk i b hg hl;rw[hr] at h1;cases h1;rcases h2 with h2|h2
  .
   exfalso;unfold Ev.kill at hk;rw[hg] at hk;obtain ⟨_,h3,_⟩:=Mem.fq hk;have:=he.lk;omega
  exact h2
 refine ⟨hk2.stay.GB hB (Lib.below_freeze (Below.refl _ _) (p:=⟨r,0,none⟩) hB.1 n) (λk hk=>iw _ _ _ _ hk),by rw[yw];exact hk2.base,hk2.dom,hk2.lk,hk2.ve,hk2.dM,λj b' hj hl'=>?_,hk2.inj,λj b' hj hm=>(hk2.maps j b' hj hm).heap λq es clock hh=>by
  obtain ⟨r',x',C,fr,s,h1,h2,h3,_⟩:=he.blk i b hg hl;rw[hr] at h1;cases h1;rw[iw _ _ _ _ (λe=>by subst e;rw[h3] at hh;cases hh)];exact hh,hk2.qs⟩
 obtain ⟨r',x',C,fr,s,h1,h2,h3,h4⟩:=hk2.blk j b' hj hl'
 obtain ⟨hj0,hne⟩:=k3 j b' hj (.inl hl')
 have Zr:r'≠r:=λe=>hne (by subst e;exact he.inj j i b' b r' x' x hj0 hl' hg hl h1 hr)
 exact ⟨r',x',C,fr,s,h1,h2,by rw[iw _ _ _ _ Zr];exact h3,h4⟩
theorem Dj:∀{cs:List Value} {acc s:ByteArray},cs.all uZ=true->nr cs acc=some s->∃l:List UInt8,cs=l.map (λb=>Value.int .u8 b.toNat)/\s.data.toList=acc.data.toList++l
 |[],acc,s,_,h=>by cases h;exact ⟨[],rfl,by simp⟩
 |
  v::cs,acc,s,ha,h=>by
  simp only[List.all_cons,Bool.and_eq_true] at ha;obtain ⟨h1,h2⟩:=ha;unfold uZ at h1;split at h1
  .
   rename_i n;have hn:n<=255:=Nat.le_of_ble_eq_true h1;simp only[nr,zn] at h;obtain ⟨l,e1,e2⟩:=Dj h2 h;refine ⟨UInt8.ofNat n::l,?_,?_⟩
   .
    rw[e1];simp only[List.map_cons,List.cons.injEq,Value.int.injEq,true_and,and_true];have:(UInt8.ofNat n).toNat=n:=by simp[UInt8.toNat_ofNat'];omega
    rw[this];rfl
   rw[e2];simp
  cases h1
theorem Wn {c:Cx} {ρ:Ren} {H H':Mem} {w:World} (he:bB c ρ H w) {pt:TypeId} {p p' n n' v:Value} (hp:VRel ρ p p') (hn:VRel ρ n n') (h:Ag c.P H pt p n=some (v,H')) (it ty:TypeId) :
 ∃w' v',bB c ρ H' w'/\VRel ρ v v'/\(Builtin.unsafeString_ #[pt,it] ty #[p',n']).run c.P w = .ok v' w':=by
 unfold Ag at h
 split at h
 .
  rename_i a;cases h;cases hn;have hp':∃a',p' = .pointer a':=by cases hp<;>exact ⟨_,rfl⟩
  obtain ⟨a',rfl⟩:=hp';exact ⟨w,_,he,.string _,Lib.run_unsafeString_none w pt it ty a'⟩
 .
  rename_i i m e hu;split at h
  .
   rename_i b cs hb hcs;rw[pick2_eq] at h;split at h
   .
    rename_i hc;simp only[Bool.and_eq_true,Nat.beq_eq,beq_iff_eq] at hc;obtain ⟨⟨⟨hel,hce⟩,hm⟩,hall⟩:=hc;have hm:=Nat.le_of_ble_eq_true hm;split at h
    .
     rename_i s H1 hs hk;cases h;cases hn;cases hp with
     |
      ptr _ _ r y hr =>
      obtain ⟨l',h1,h2,h3⟩:=he.read hr hcs;obtain ⟨l,e1,e2⟩:=Dj hall hs
      have hlen:l.length=m+1:=by
       have:cs.length=m+1:=h2;rw[e1] at this;simpa using this
      obtain ⟨hg,hl⟩:=alive_some hb;obtain ⟨r',y',C,fr,sz,k1,k2,k3,k4,k5,k6,k7⟩:=he.blk i b hg hl;rw[hr] at k1;cases k1
      have hsl:s=⟨l.toArray⟩:=by
       cases s with
       |
        mk d =>
        have:d.toList=l:=by simpa using e2
        rw[<-this]
      refine ⟨w.freeze ⟨r,0,none⟩ (m+1),_,he.freeze hb hk hr,.string _,?_⟩
      have hlc:l.length<=C.size:=by
       unfold cr at hcs;rw[hb] at hcs;simp only at hcs;split at hcs
       .
        rename_i hle;omega
       cases hcs
      have hrun:=Lib.run_unsafeString_row (P:=c.P) w pt it ty e hu hce r C.size (by simp[World.shape?,k3,hel]) l (by intro h0;rw[h0] at hlen;simp at hlen) hlc (by omega) (λj x hx=>by
       have hj:cs[j]? = some (.int .u8 x.toNat):=by rw[e1];simp[hx]
       obtain ⟨z,hz,hzr⟩:=h1.get hj;cases hzr;have:=h3 j _ hz;exact this)
      rw[hlen] at hrun;rw[hsl];exact hrun
    cases h
   cases h
  cases h
 cases h
theorem aaC (he:bB c ρ H w) {call:aX} {o:Oper} {ev ev':Operand->Value} (aL:Zs ρ ev ev' o.op) (hnc:∀cl,o.op = .call cl->∀f,cl.callee = .value f->kJ c.P call (ev f) (cl.args.toList.map ev) H=none) {v:Value} {H':Mem} (h:opA c.P call ev o H=some (v,H')) :
 QJ c ρ o ev' w v H':=by
 have hpure:∀{v:Value},pureA c.P ev o=some v->QJ c ρ o ev' w v H:=by
  intro v hu;obtain ⟨h1,h2⟩:=pure_ok (P:=c.P) aL hu w;exact ⟨ρ,w,_,Ren.le_refl _,he,h2,.inl h1⟩
 have same:∀{v v':Value},VRel ρ v v'->(execOp ev' o).run c.P w = .ok (.value v') w->QJ c ρ o ev' w v H:=λh1 h2=>⟨ρ,w,_,Ren.le_refl _,he,h1,.inl h2⟩
 unfold opA at h
 split at h
 case h_1 x hop =>
  cases h;exact same (aL x (by simp[hop,Op.operands])) (by simp[execOp,hop])
 case h_2 x hop =>
  cases h;exact same (aL x (by simp[hop,Op.operands])) (by simp[execOp,hop])
 case h_3 cc x y hop =>
  unfold Ae at h;split at h
  .
   rename_i t hc;cases h;have hcc:=aL cc (by simp[hop,Op.operands])
   rw[hc] at hcc;generalize hq:ev' cc=q at hcc;cases hcc;refine same (v':=if t then ev' x else ev' y) ?_ (by simp[execOp,hop,hq,asBool])
   cases t
   .
    exact aL y (by simp[hop,Op.operands])
   exact aL x (by simp[hop,Op.operands])
  cases h
 case h_4 op t x y yt hop =>
  unfold qD at h;obtain ⟨vp,rfl⟩:=aB h;have hx:=aL x (by simp[hop,Op.operands])
  have hy:=aL y (by simp[hop,Op.operands])
  rcases gN vp with h|⟨_,h⟩
  .
   obtain ⟨h1,h2,h3,h4⟩:=GP (P:=c.P) h t x y w;rw[<-dX hx h3,<-dX hy h4] at h1;refine same (aV _ h2) ?_;simp only[execOp,hop];rw[Sem.run_bind,h1];rfl
  rcases gN h with h|⟨_,h⟩
  .
   obtain ⟨h1,h2⟩:=Wm (P:=c.P) hx hy h x y w;refine same (aV _ h2) ?_;simp only[execOp,hop];rw[Sem.run_bind,h1];rfl
  exact hpure h
 case h_5 t hop =>
  obtain ⟨ρ',w',v',h1,h2,h3,h4⟩:=Qz he h;exact ⟨ρ',w',v',h1,h2,h3,.inl (by simp[execOp,hop,h4])⟩
 case h_6 t x hop =>
  obtain ⟨ρ',w',v',h1,h2,h3,h4⟩:=aau he (aL x (by simp[hop,Op.operands])) h
  exact ⟨ρ',w',v',h1,h2,h3,.inl (by simp[execOp,hop,h4])⟩
 case h_7 t ps hop =>
  obtain ⟨hu,rfl⟩:=aB h;have hp:=PR.parts (ev:=ev) (ev':=ev') ps.toList λq hq=>aL q.2 (by simp[hop,Op.operands];exact ⟨q.1,by simpa using hq⟩)
  obtain ⟨v',h1,h2⟩:=QA hp hu w;refine same h2 ?_;have e1:(ps.map λq=>(q.1,ev' q.2))=(ps.toList.map λq=>(q.1,ev' q.2)).toArray:=by apply Array.ext';simp
  simp only[execOp,hop];simp only[Sem.run_bind]
  have:(Instr.build t (ps.map λ(i,x)=>(i,ev' x))).run c.P w = .ok v' w:=by
   rw[<-h1,<-e1]
  rw[this];rfl
 case h_8 t len ps hop =>
  have hp:=PR.parts (ev:=ev) (ev':=ev') ps.toList λq hq=>aL q.2 (by simp[hop,Op.operands];exact ⟨q.1,by simpa using hq⟩)
  obtain ⟨ρ',w',v',h1,h2,h3,h4⟩:=CI he hp h;refine ⟨ρ',w',v',h1,h2,h3,.inl ?_⟩;have e1:(ps.map λq=>(q.1,ev' q.2))=(ps.toList.map λq=>(q.1,ev' q.2)).toArray:=by apply Array.ext';simp
  simp only[execOp,hop];simp only[Sem.run_bind]
  have:(Instr.buildSlice t len (ps.map λ(i,x)=>(i,ev' x))).run c.P w = .ok v' w':=by
   rw[<-h4,<-e1]
  rw[this];rfl
 case h_9 t x hop =>
  obtain ⟨hu,rfl⟩:=aB h;obtain ⟨v',h1,h2⟩:=Mg he (aL x (by simp[hop,Op.operands])) hu
  exact same h2 (by simp[execOp,hop,h1])
 case h_10 t x y hop =>
  unfold lz at h;split at h
  .
   rename_i H1 hu;cases h;obtain ⟨w',h1,h2⟩:=Qy he (aL x (by simp[hop,Op.operands])) (aL y (by simp[hop,Op.operands])) hu
   exact ⟨ρ,w',undef,Ren.le_refl _,h2,.undef,.inr ⟨by simp[execOp,hop,h1],rfl⟩⟩
  cases h
 case h_11 x hop =>
  have hx:=aL x (by simp[hop,Op.operands])
  unfold nu at h;split at h
  .
   rename_i q hq;cases h;rw[hq] at hx;generalize hq':ev' x=q' at hx;cases hx with
   |ptr i off r y hr=>exact same (.ptr _ _ _ _ hr) (by simp[execOp,hop,hq'])
  .
   rename_i f p1 p2 hq;cases h;rw[hq] at hx;generalize hq':ev' x=q' at hx;cases hx with
   |func _ _ a' _ b' sa ha sb hb=>exact same (.func _ _ a' _ b' sa ha sb hb) (by simp[execOp,hop,hq'])
  cases h
 case h_12 s x f hop =>
  obtain ⟨hu,rfl⟩:=aB h;obtain ⟨v',h1,h2⟩:=E3 (P:=c.P) (aL x (by simp[hop,Op.operands])) hu w
  exact same h2 (by simp[execOp,hop,h1])
 case h_13 t x ix hop =>
  obtain ⟨hu,rfl⟩:=aB h;obtain ⟨v',h1,h2⟩:=aaz (P:=c.P) (aL x (by simp[hop,Op.operands])) (aL ix (by simp[hop,Op.operands])) hu w
  exact same h2 (by simp[execOp,hop,h1])
 case h_14 x k hop =>
  have hx:=aL x (by simp[hop,Op.operands])
  unfold mW at h;split at h
  .
   rename_i vs hq;obtain ⟨hu,rfl⟩:=aB h;rw[hq] at hx;generalize hq':ev' x=q' at hx;cases hx with
   |
    tuple _ vs' sa ha =>
    have hu':vs[k]? = some v:=by simpa using hu
    have hlt:k<vs.size:=(Array.getElem?_eq_some_iff.1 hu').1;have hlt':k<vs'.size:=sa ▸ hlt;exact same (v':=vs'[k]) (ha k _ _ hu' (by simp[hlt'])) (by simp[execOp,hop,hq',Instr.extract,hlt'])
  cases h
 case h_15 t l cp hop =>
  obtain ⟨ρ',w',v',h1,h2,h3,h4⟩:=EY he (aL l (by simp[hop,Op.operands])) (aL cp (by simp[hop,Op.operands])) h
  exact ⟨ρ',w',v',h1,h2,h3,.inl (by simp[execOp,hop,h4])⟩
 case h_16 fn first captured hop =>
  cases h;have h1:=AR.map (ev:=ev) (ev':=ev') first λy hy=>aL y (by simp[hop,Op.operands,hy])
  have h2:=AR.map (ev:=ev) (ev':=ev') captured λy hy=>aL y (by simp[hop,Op.operands,hy])
  exact same (.func fn _ _ _ _ h1.1 h1.2 h2.1 h2.2) (by simp[execOp,hop,Instr.makeFunc])
 case h_17 t x lo hi hop =>
  unfold jP at h;rw[pick2_eq] at h;split at h
  .
   obtain ⟨vp,rfl⟩:=aB h;have hlo:=Av (ev:=ev) (ev':=ev') lo λy hy=>aL y (by simp[hop,Op.operands,hy])
   have hhi:=Av (ev:=ev) (ev':=ev') hi λy hy=>aL y (by simp[hop,Op.operands,hy])
   obtain ⟨v',h1,h2⟩:=GL he (aL x (by simp[hop,Op.operands])) hlo hhi vp
   exact same h2 (by simp[execOp,hop,h1])
  obtain ⟨vp,rfl⟩:=aB h;rcases gN vp with h|⟨_,h⟩
  .
   have hlo:=Av (ev:=ev) (ev':=ev') lo λy hy=>aL y (by simp[hop,Op.operands,hy])
   have hhi:=Av (ev:=ev) (ev':=ev') hi λy hy=>aL y (by simp[hop,Op.operands,hy])
   obtain ⟨v',h1,h2⟩:=QG (P:=c.P) (aL x (by simp[hop,Op.operands])) hlo hhi h w
   exact same h2 (by simp[execOp,hop,h1])
  exact hpure h
 case h_18 t x f hop =>
  obtain ⟨hu,rfl⟩:=aB h;obtain ⟨v',h1,h2⟩:=Ok (P:=c.P) (aL x (by simp[hop,Op.operands])) hu w
  exact same h2 (by simp[execOp,hop,h1])
 case h_19 t x ix hop =>
  unfold EK at h;obtain ⟨vp,rfl⟩:=aB h;rcases gN vp with h|⟨_,h⟩
  .
   obtain ⟨v',h1,h2⟩:=GM (P:=c.P) (aL x (by simp[hop,Op.operands])) (aL ix (by simp[hop,Op.operands])) h w
   exact same h2 (by simp[execOp,hop,h1])
  rcases gN h with h|⟨_,h⟩
  .
   obtain ⟨v',h1,h2⟩:=Ol (P:=c.P) (aL x (by simp[hop,Op.operands])) (aL ix (by simp[hop,Op.operands])) h w
   exact same h2 (by simp[execOp,hop,h1])
  exact hpure h
 case h_20 s d x hop =>
  unfold fj at h;split at h
  .
   rename_i u hu;cases h;rcases gN hu with hu|⟨_,hu⟩
   .
    split at hu
    .
     rename_i q hq;obtain ⟨h1,h2⟩:=Di (P:=c.P) (aL x (by simp[hop,Op.operands])) hu s ⟨q,hq⟩ w
     exact same (aV _ h2) (by simp[execOp,hop,h1])
    cases hu
   exact hpure hu
  obtain ⟨ρ',w',v',h1,h2,h3,h4⟩:=J1 he (aL x (by simp[hop,Op.operands])) h
  exact ⟨ρ',w',v',h1,h2,h3,.inl (by simp[execOp,hop,h4])⟩
 case h_21 cl hop =>
  unfold bD at h;split at h
  .
   rename_i f hf;rw[hnc cl hop f hf] at h;simp only at h;have hfr:=aL f (by simp[hop,hf,Op.operands,Call.operands])
   obtain ⟨callee,args,ats⟩:=cl;simp only at hf h;subst hf;unfold Af at h;split at h
   .
    rename_i x hx;rw[pick2_eq] at h;split at h
    .
     rename_i hsame;simp only[Option.some.injEq,Prod.mk.injEq] at h;obtain ⟨hvx,rfl⟩:=h
     obtain ⟨y,hy,rfl⟩:∃y,args = #[y]/\ev y=v:=by
      have:args.toList.length=1:=by have:=congrArg List.length hx;simpa using this
      match hl:args.toList,this with
      |
       [y],_ =>
       rw[hl] at hx;exact ⟨y,by rw[<-Array.toArray_toList (xs:=args),hl],by rw[<-hvx];simpa using hx⟩
     subst hy;unfold qF at hsame;split at hsame
     .
      rename_i id V0;split at hsame
      .
       rename_i fn hfn;rw[pick2_eq] at hsame;split at hsame
       .
        cases hsame
       rename_i hb;rw[V0] at hfr;generalize hg':ev' f=g' at hfr;cases hfr with
       |
        func _ _ first' _ captured' s1 _ s2 _ =>
        have e1:first' = #[]:=Array.eq_empty_of_size_eq_zero (by simpa using s1.symm)
        have e2:captured' = #[]:=Array.eq_empty_of_size_eq_zero (by simpa using s2.symm)
        subst e1 e2;have hname:fn.name = "internal/abi.NoEscape" /\ fn.origin = "" := by simpa using hsame
        refine same (aL y (by simp[hop,Op.operands,Call.operands])) ?_
        exact Aw hop hg' hfn hb hname.1 hname.2 w
      cases hsame
     cases hsame
    obtain ⟨hu,rfl⟩:=aB h;exact hpure hu
   obtain ⟨hu,rfl⟩:=aB h;exact hpure hu
  .
   rename_i b hb;obtain ⟨callee,args,ats⟩:=cl;simp only at hb;subst hb;have iW:∀x∈args,VRel ρ (ev x) (ev' x):=λx hx=>aL x (by simp[hop,Op.operands,Call.operands];exact hx)
   unfold mX at h;split at h
   .
    unfold uY at h;split at h
    .
     rename_i x t hx0 V3;simp only at hx0 V3;obtain ⟨vp,rfl⟩:=aB h;rcases gN vp with h|⟨_,h⟩
     .
      have hx:=iW x (Array.mem_of_getElem? hx0);unfold pH at h;split at h
      .
       rename_i e q n cc hu hq;cases h;rw[hq] at hx
       have hlen:∃q' c',ev' x = .slice q' n c':=by
        generalize ev' x=z at hx;cases hx<;>exact ⟨_,_,rfl⟩
       obtain ⟨q',c',hq'⟩:=hlen;exact same (.int _ _) (by simp[execOp,hop,resolve,invoke,builtin,Builtin.len_,V3,hx0,run_underlying hu,hq',goInt])
      .
       rename_i s hu hq;cases h;rw[hq] at hx
       have hq':ev' x = .string s:=by
        generalize ev' x=z at hx;cases hx;rfl
       exact same (.int _ _) (by simp[execOp,hop,resolve,invoke,builtin,Builtin.len_,V3,hx0,run_underlying hu,hq',goInt])
      cases h
     exact hpure h
    cases h
   .
    unfold nv at h;split at h
    .
     rename_i s x st xt hs0 hx0 hst JJ;have h1:=iW s (Array.mem_of_getElem? hs0);have h2:=iW x (Array.mem_of_getElem? hx0);obtain ⟨ρ',w',v',k1,k2,k3,k4⟩:=Oi (ty:=o.type) (as:=args.map ev') he hst JJ (by simp[hs0]) (by simp[hx0]) h1 h2 h
     exact ⟨ρ',w',v',k1,k2,k3,.inl (by simp[execOp,hop,resolve,invoke,builtin,k4])⟩
    cases h
   .
    unfold wW at h;split at h
    .
     rename_i d x dt hd0 hx0 hdt;have h1:=iW d (Array.mem_of_getElem? hd0);have h2:=iW x (Array.mem_of_getElem? hx0);obtain ⟨w',v',k2,k3,k4⟩:=Wk (ty:=o.type) (as:=args.map ev') he hdt (by simp[hd0]) (by simp[hx0]) h1 h2 h
     exact ⟨ρ,w',v',Ren.le_refl _,k2,k3,.inl (by simp[execOp,hop,resolve,invoke,builtin,k4])⟩
    cases h
   .
    unfold oJ at h;split at h
    .
     rename_i x t hx0 V3;simp only at hx0 V3;obtain ⟨vp,rfl⟩:=aB h;have hx:=iW x (Array.mem_of_getElem? hx0);unfold y8 at vp;split at vp
     .
      rename_i e i off n cc hu hq;split at vp
      .
       rename_i b hb;rw[pick2_eq] at vp;split at vp
       .
        rename_i GQ;cases vp;rw[hq] at hx
        have hlen:∃q',ev' x = .slice q' n cc:=by
         generalize ev' x=z at hx;cases hx with
         |
          slice _ _ _ _ r y hr =>
          obtain ⟨hg,hl⟩:=alive_some hb;obtain ⟨r',y',C,fr,s,k1,k2,k3,k4,⟨k5,k6⟩,k7⟩:=he.blk i b hg hl;rw[hr] at k1;cases k1;have:=k6 GQ;subst this;exact ⟨_,rfl⟩
        obtain ⟨q',hq'⟩:=hlen;exact same (.int _ _) (by simp[execOp,hop,resolve,invoke,builtin,Builtin.cap_,V3,hx0,run_underlying hu,hq',goInt])
       cases vp
      cases vp
     .
      rename_i e n cc hu hq;cases vp;rw[hq] at hx
      have hq':ev' x = .slice none n cc:=by
       generalize ev' x=z at hx;cases hx;rfl
      exact same (.int _ _) (by simp[execOp,hop,resolve,invoke,builtin,Builtin.cap_,V3,hx0,run_underlying hu,hq',goInt])
     cases vp
    cases h
   .
    unfold ju at h;split at h
    .
     rename_i x hx0;obtain ⟨vp,rfl⟩:=aB h;have hargs:args = #[x]:=by rw[<-Array.toArray_toList (xs:=args),hx0]
     subst hargs;have hx:=iW x (by simp)
     unfold pI at vp;split at vp
     .
      rename_i a n cc hq;rw[pick2_eq] at vp;split at vp
      .
       cases vp
      rename_i hc0;cases vp;rw[hq] at hx;generalize hz:ev' x=z at hx;cases hx with
      |
       slice i off _ _ r y hr =>
       have hc1:cc+y≠0:=by
        have:cc≠0:=λh0=>hc0 (by rw[h0];rfl)
        omega
       exact same (.ptr i off r y hr) (by simp[execOp,hop,resolve,invoke,builtin,hz,Lib.run_unsafeSliceData_row w _ _ _ _ _ hc1])
     .
      rename_i n cc hq;cases vp;rw[hq] at hx;generalize hz:ev' x=z at hx;cases hx;exact same .qI (by simp[execOp,hop,resolve,invoke,builtin,hz,Lib.run_unsafeSliceData_nil w])
     cases vp
    cases h
   .
    unfold wX at h;split at h
    .
     rename_i p n pt it hx0 V3;have hargs:args = #[p,n]:=by rw[<-Array.toArray_toList (xs:=args),hx0]
     have ajZ:ats = #[pt,it]:=by rw[<-Array.toArray_toList (xs:=ats),V3]
     subst hargs ajZ;obtain ⟨w',v',k1,k2,k3⟩:=Wn he (iW p (by simp)) (iW n (by simp)) h it o.type
     exact ⟨ρ,w',v',Ren.le_refl _,k1,k2,.inl (by simp[execOp,hop,resolve,invoke,builtin,k3])⟩
    cases h
   obtain ⟨hu,rfl⟩:=aB h;exact hpure hu
  cases h
 case h_22 t r hop =>
  have hr:=Av (ev:=ev) (ev':=ev') r λy hy=>aL y (by simp[hop,Op.operands,hy])
  obtain ⟨ρ',w',v',h1,h2,h3,h4⟩:=J3 he hr h;exact ⟨ρ',w',v',h1,h2,h3,.inl (by simp[execOp,hop,h4])⟩
 case h_23 t x k ok hop =>
  obtain ⟨hu,rfl⟩:=aB h;obtain ⟨v',h1,h2⟩:=look_ok he (aL x (by simp[hop,Op.operands])) (aL k (by simp[hop,Op.operands])) hu
  exact same h2 (by simp[execOp,hop,h1])
 case h_24 t m k x hop =>
  obtain ⟨w',h1,h2,rfl⟩:=Dg he (aL m (by simp[hop,Op.operands])) (aL k (by simp[hop,Op.operands])) (aL x (by simp[hop,Op.operands])) h
  exact ⟨ρ,w',undef,Ren.le_refl _,h1,.undef,.inr ⟨by simp[execOp,hop,h2],rfl⟩⟩
 case h_25 t m k x hop =>
  obtain ⟨w',h1,h2,rfl⟩:=Dg he (aL m (by simp[hop,Op.operands])) (aL k (by simp[hop,Op.operands])) (aL x (by simp[hop,Op.operands])) h
  exact ⟨ρ,w',undef,Ren.le_refl _,h1,.undef,.inr ⟨by simp[execOp,hop,h2],rfl⟩⟩
 case h_26 =>
  obtain ⟨hu,rfl⟩:=aB h;exact hpure hu
theorem vq {x x':Value} {a:Option Nat} (h:y9 x=some a) (hx:VRel ρ x x'):∃n,x' = .float .f64 n/\JI a n:=by
 unfold y9 at h
 split at h
 .
  cases h;cases hx;exact ⟨_,rfl,rfl⟩
 .
  cases h;cases hx with
  |nan m hm=>exact ⟨m,rfl,hm⟩
 cases h
theorem E5 {a:Option Nat} {n:Nat} (h:JI a n):VRel ρ (JS a) (.float .f64 n):=by
 cases a with
 |none=>exact .nan n h
 |some m=>cases h;exact .float _ _
theorem vr (a:Option Nat):pJ (Ah a)=a:=by cases a<;>rfl
theorem Dk (b:Nat):∀(a f:Nat),a<f->qg f (oK a b)=(a,b)
 |
  0,f+1,_=>by
  have e:oK 0 b=2*b+1:=by simp[oK]
  have h1:(2*b+1)%2=1:=by omega
  have h2:(2*b+1)/2=b:=by omega
  show pick2 (Nat.beq (oK 0 b%2) 0) _ (0,oK 0 b/2)=_;rw[e,h1,h2];rfl
 |
  a+1,f+1,h=>by
  have e:oK (a+1) b=2*oK a b:=by
   unfold oK;rw[Nat.pow_succ,Nat.mul_comm (2 ^ a) 2,Nat.mul_assoc]
  have h1:(2*oK a b)%2=0:=by omega
  have h2:(2*oK a b)/2=oK a b:=by omega
  show pick2 (Nat.beq (oK (a+1) b%2) 0) ((qg f (oK (a+1) b/2)).1+1,(qg f (oK (a+1) b/2)).2) _=_;rw[e,h1,h2,Dk b a f (by omega)];rfl
theorem tY (a b:Nat):qg (oK a b) (oK a b)=(a,b):=by
 refine Dk b a _ ?_
 have h1:a<2 ^ a:=Nat.lt_two_pow_self
 have h2:2 ^ a*1<=2 ^ a*(2*b+1):=Nat.mul_le_mul_left _ (by omega)
 unfold oK
 omega
theorem Wp {a b:Option Nat} {x y:Nat} (hx:JI a x) (hy:JI b y):VRel ρ (cxV a b) (.complex .f64 x y):=by
 have code:VRel ρ (.chan (some (oK (Ah a) (Ah b)+2))) (.complex .f64 x y):=.cpx _ _ _ (by rw[tY,vr];exact hx) (by rw[tY,vr];exact hy)
 cases a with
 |none=>exact code
 |
  some a=>cases b with
  |none=>exact code
  |some b=>cases hx;cases hy;exact .complex _ _ _
theorem GS {x x':Value} {q:Option Nat×Option Nat} (h:EM x=some q) (hx:VRel ρ x x'):∃m n,x' = .complex .f64 m n/\JI q.1 m/\JI q.2 n:=by
 unfold EM at h
 split at h
 .
  cases h;cases hx;exact ⟨_,_,rfl,rfl,rfl⟩
 .
  cases h;cases hx with
  |cpx k x y h1 h2=>exact ⟨x,y,rfl,h1,h2⟩
 cases h
theorem lO {m:Nat} (h:ES m):∃s f,Ieee.double.read m = .nan s f:=by
 unfold ES Ieee.Datum.isNaN at h
 split at h
 .
  rename_i s f he;exact ⟨s,f,he⟩
 cases h
theorem Ml (d:Ieee.Datum) (s:Bool) (f:Nat):d.sum (.nan s f)=none:=by cases d<;>rfl
theorem GU (d:Ieee.Datum) (s:Bool) (f:Nat):d.product (.nan s f)=none:=by cases d<;>rfl
theorem Wq {a b:Option Nat} {x y:Nat} (hx:JI a x) (hy:JI b y):Ieee.double.add x y=Wg .add a b:=by
 unfold Ieee.Format.add
 cases a with
 |none=>obtain ⟨s,f,he⟩:=lO hx;rw[he];rfl
 |
  some a=>cases b with
  |none=>obtain ⟨s,f,he⟩:=lO hy;rw[he,Ml];rfl
  |some b=>cases hx;cases hy;rfl
theorem Wr {a b:Option Nat} {x y:Nat} (hx:JI a x) (hy:JI b y):Ieee.double.sub x y=Wg .sub a b:=by
 unfold Ieee.Format.sub
 cases a with
 |none=>obtain ⟨s,f,he⟩:=lO hx;rw[he];rfl
 |
  some a=>cases b with
  |
   none =>
   obtain ⟨s,f,he⟩:=lO hy;rw[he];show Option.map _ (Ieee.Datum.sum _ (.nan (!s) f))=_;rw[Ml];rfl
  |some b=>cases hx;cases hy;rfl
theorem Ws {a b:Option Nat} {x y:Nat} (hx:JI a x) (hy:JI b y):Ieee.double.mul x y=Wg .mul a b:=by
 unfold Ieee.Format.mul
 cases a with
 |none=>obtain ⟨s,f,he⟩:=lO hx;rw[he];rfl
 |
  some a=>cases b with
  |none=>obtain ⟨s,f,he⟩:=lO hy;rw[he,GU];rfl
  |some b=>cases hx;cases hy;rfl
theorem Om {x y:Nat} (h:ES x\/ES y):Ieee.double.order x y=none:=by
 unfold Ieee.Format.order
 rcases h with h|h
 .
  obtain ⟨s,f,he⟩:=lO h;rw[he];rfl
 obtain ⟨s,f,he⟩:=lO h
 rw[he]
 cases Ieee.double.read x<;>rfl
theorem Wt (x y t:Nat):ES ((Question.nanBits .f64 x y).cut t):=by
 show ES ((t%2)*2 ^ 63+0x7ff0000000000000+1+(t/2)%(2 ^ 52-1))
 have h1:(t/2)%(2 ^ 52-1)<2 ^ 52-1:=Nat.mod_lt _ (by decide)
 generalize (t/2)%(2 ^ 52-1)=r at *
 have h2:((t%2)*2 ^ 63+0x7ff0000000000000+1+r)%9223372036854775808=0x7ff0000000000001+r:=by omega
 unfold ES Ieee.Format.read
 have e1:Ieee.double.signWeight=9223372036854775808:=by decide
 have e2:Ieee.double.binade=4503599627370496:=by decide
 have e3:Ieee.double.infRung=9218868437227405312:=by decide
 simp only[e1,e2,e3,h2]
 rw[if_neg (by omega),if_neg (by omega),if_neg (by omega)]
 rfl
theorem GV {α:Type} (P:Program) (w:World) (x y:Nat) (k:Nat->Sem α):(Sem.choose (.nanBits .f64 x y) k).run P w=(k ((Question.nanBits .f64 x y).cut (w.tape w.drawn (.nanBits .f64 x y)))).run P w.drew:=rfl
theorem xg {op:BinOp} {f:Nat->Nat->Option Nat} (hop:∀x y,Op.floatArith op .f64 x y=(match f x y with|some r=>pure (.float .f64 r)|none=>(do pure (.float .f64 (<- choose (.nanBits .f64 x y))):Sem Value))) {a:Option Nat} {x y:Nat} (h:f x y=a) (he:bB c ρ H w) :
 ∃n w',(Op.floatArith op .f64 x y).run c.P w = .ok (.float .f64 n) w'/\JI a n/\bB c ρ H w':=by
 rw[hop,h]
 cases a with
 |some r=>exact ⟨r,w,rfl,rfl,he⟩
 |none=>exact ⟨_,_,GV _ _ _ _ _,Wt _ _ _,he.drew⟩
theorem aj0:Extern.allNextRows.lookup "math.Float64bits" = none:=by kernel_rfl
theorem aj1:Extern.allGenericRows.lookup "math.Float64bits" = none:=by kernel_rfl
theorem aj2:Extern.allTypedRows.lookup "math.Float64bits" = none:=by kernel_rfl
theorem aj3:Extern.allRows.lookup "math.Float64bits" = some Extern.MathFloatBits.float64bits:=by kernel_rfl
theorem QL {o:Oper} {ev':Operand->Value} {f y:Operand} {ats:Array TypeId} {id:FuncId} {fn:Func} (hop:o.op = .call { callee:=.value f,args := #[y],argTypes:=ats }) (hg:ev' f = .func (.func id) #[] #[]) (hfn:c.P.funcs[id]? = some fn) (hb:¬fn.body.isSome=true) (hname:fn.name = "math.Float64bits") (QK:fn.origin = "") {n:Nat} (hy:ev' y = .float .f64 n) (w:World) :
 (execOp ev' o).run c.P w = .ok (.value (.int .u64 n)) w:=by
 have hb':fn.body.isNone=true:=by simpa using hb
 have e1:Extern.findNext fn=none:=by
  simp only[Extern.findNext,hname,QK];rw[aj0,Zt];rfl
 have e2:Extern.find fn=some Extern.MathFloatBits.float64bits:=by
  simp only[Extern.find,hname,QK];rw[aj1,aj2,aj3];rfl
 have hn:¬(fn.name = "runtime.NumGoroutine"):=by rw[hname];decide
 have Ar:fn.body=none:=by simpa using hb'
 simp only[execOp,hop,resolve,Deferred.ofValue,hg,invoke,callFunc]
 have e3:Extern.MathFloatBits.float64bits #[ev' y]=pure (.int .u64 n):=by rw[hy];rfl
 simp[hfn,hn,Ar,e1,e2,e3]
theorem zo {o:Oper} {ev':Operand->Value} {op:BinOp} {t yt:TypeId} {x y:Operand} {m n:Nat} (hop:o.op = .binOp op t x y yt) (hx:ev' x = .float .f64 m) (hy:ev' y = .float .f64 n) {s:Sem Value} (hs:binOp op t (.float .f64 m) (.float .f64 n)=s) {v:Value} {w w':World} (h:s.run c.P w = .ok v w') :
 (execOp ev' o).run c.P w = .ok (.value v) w':=by
 subst hs
 have hg:eqGuard op t x y (.float .f64 m) (.float .f64 n)=pure ():=by cases op<;>rfl
 simp only[execOp,hop,hx,hy,hg]
 simp[h]
theorem Ay (ats:Array TypeId) (t:TypeId) (m n:Nat):Builtin.complex_ ats t #[.float .f64 m,.float .f64 n]=pure (.complex .f64 m n):=rfl
theorem Mn (ats:Array TypeId) (t:TypeId) (m n:Nat):Builtin.real_ ats t #[.complex .f64 m n]=pure (.float .f64 m):=rfl
theorem Mo (ats:Array TypeId) (t:TypeId) (m n:Nat):Builtin.imag_ ats t #[.complex .f64 m n]=pure (.float .f64 n):=rfl
theorem aaE (he:bB c ρ H w) {o:Oper} {ev ev':Operand->Value} (aL:Zs ρ ev ev' o.op) {v:Value} (h:CG c.P ev o=some v):QJ c ρ o ev' w v H:=by
 unfold CG at h
 split at h
 .
  rename_i op t x y yt hop;have hx:=aL x (by simp[hop,Op.operands])
  have hy:=aL y (by simp[hop,Op.operands])
  unfold EL at h;split at h
  case h_2=>cases h
  rename_i a b ha hb;obtain ⟨m,em,hm⟩:=vq ha hx;obtain ⟨n,en,hn⟩:=vq hb hy
  have ari:∀{q:Option Nat},(∃r w',(binOp op t (.float .f64 m) (.float .f64 n)).run c.P w = .ok (.float .f64 r) w'/\JI q r/\bB c ρ H w')->QJ c ρ o ev' w (JS q) H:=by
   rintro q ⟨r,w',h1,h2,h3⟩;exact ⟨ρ,w',_,Ren.le_refl _,h3,E5 h2,.inl (zo hop em en rfl h1)⟩
  split at h
  .
   cases h;exact ari (xg (op:=.add) (λx y=>by rfl) (Wq hm hn) he)
  .
   cases h;exact ari (xg (op:=.sub) (λx y=>by rfl) (Wr hm hn) he)
  .
   cases h;exact ari (xg (op:=.mul) (λx y=>by rfl) (Ws hm hn) he)
  .
   split at h
   .
    cases h
   rename_i hno;cases h
   have ho:Ieee.double.order m n=none:=by
    refine Om ?_;cases a with
    |none=>exact .inl hm
    |
     some a=>cases b with
     |none=>exact .inr hn
     |some b=>exact absurd rfl (hno a b rfl)
   refine ⟨ρ,w,_,Ren.le_refl _,he,.bool true,.inl (zo hop em en rfl ?_)⟩;show (Op.floatCmp .neq .f64 m n).run c.P w=_;have:Op.floatCmp .neq .f64 m n=pure (.bool (Ieee.double.order m n != some .eq)):=rfl;rw[this,ho];rfl
  cases h
 .
  rename_i cl hop;obtain ⟨callee,args,ats⟩:=cl;have iW:∀x∈args,VRel ρ (ev x) (ev' x):=λx hx=>aL x (by simp[hop,Op.operands,Call.operands];exact .inr hx)
  have one:∀{v:Value},args.toList.map ev=[v]->∃p,args = #[p]/\ev p=v:=λh=>by
   obtain ⟨l⟩:=args
   match l,h with
   |[p],h=>exact ⟨p,rfl,by simpa using h⟩
  have two:∀{v u:Value},args.toList.map ev=[v,u]->∃p q,args = #[p,q]/\ev p=v/\ev q=u:=λh=>by
   obtain ⟨l⟩:=args
   match l,h with
   |[p,q],h=>exact ⟨p,q,rfl,by simpa using h⟩
  simp only at h;split at h
  .
   rename_i x y hl;obtain ⟨p,q,rfl,rfl,rfl⟩:=two hl;split at h
   .
    rename_i a b ha hb;cases h;obtain ⟨m,em,hm⟩:=vq ha (iW p (by simp))
    obtain ⟨n,en,hn⟩:=vq hb (iW q (by simp))
    exact ⟨ρ,w,_,Ren.le_refl _,he,Wp hm hn,.inl (by simp[execOp,hop,resolve,em,en,invoke,builtin,Ay])⟩
   cases h
  .
   rename_i x hl;obtain ⟨p,rfl,rfl⟩:=one hl;split at h
   .
    rename_i q hq;cases h;obtain ⟨m,n,em,h1,h2⟩:=GS hq (iW p (by simp))
    exact ⟨ρ,w,_,Ren.le_refl _,he,E5 h1,.inl (by simp[execOp,hop,resolve,em,invoke,builtin,Mn])⟩
   cases h
  .
   rename_i x hl;obtain ⟨p,rfl,rfl⟩:=one hl;split at h
   .
    rename_i q hq;cases h;obtain ⟨m,n,em,h1,h2⟩:=GS hq (iW p (by simp))
    exact ⟨ρ,w,_,Ren.le_refl _,he,E5 h2,.inl (by simp[execOp,hop,resolve,em,invoke,builtin,Mo])⟩
   cases h
  .
   rename_i f hl;obtain ⟨p,rfl,hp⟩:=one hl;rw[pick2_eq] at h;split at h
   .
    rename_i hb;cases h;have hf:=aL f (by simp[hop,Op.operands,Call.operands])
    have hx:=iW p (by simp)
    rw[hp] at hx;generalize hq:ev' p=q at hx;cases hx with
    |
     nan m hm =>
     unfold EN at hb;split at hb
     .
      rename_i id hg;rw[hg] at hf;generalize hg':ev' f=g at hf;cases hf with
      |
       func fn a a' b b' sa ha sb Ar =>
       obtain rfl:a' = #[]:=Array.eq_empty_of_size_eq_zero (by simpa using sa.symm)
       obtain rfl:b' = #[]:=Array.eq_empty_of_size_eq_zero (by simpa using sb.symm)
       split at hb
       .
        rename_i fn hfn;rw[pick2_eq] at hb;split at hb
        .
         cases hb
        rename_i hbody;simp only[Bool.and_eq_true,beq_iff_eq] at hb;exact ⟨ρ,w,_,Ren.le_refl _,he,.Oh _ _,.inl (QL hop hg' hfn hbody hb.1 hb.2 hq w)⟩
       cases hb
     cases hb
   cases h
  cases h
 cases h
end
section
variable {P:Program} {H:Mem}
theorem xh {o:Oper} {ev:Operand->Value} {u:Value} (h:pureA P ev o=some u):bp ev o.op=true/\∀w,(execOp ev o).run P w = .ok (.value u) w:=by
 unfold pureA at h
 split at h
 .
  cases h
 split at h
 .
  rename_i hfree;split at h
  .
   rename_i u' hu;split at h
   .
    cases h;exact ⟨hfree,jy _ hu⟩
   cases h
  cases h
 cases h
theorem su {x:Value} {a:Option Nat} (h:y9 x=some a) (hf:addrFree x=true):∃n,x = .float .f64 n/\a=some n:=by
 unfold y9 at h
 split at h
 .
  cases h;exact ⟨_,rfl,rfl⟩
 .
  simp[addrFree] at hf
 cases h
theorem Dl {x:Value} {q:Option Nat×Option Nat} (h:EM x=some q) (hf:addrFree x=true):∃m n,x = .complex .f64 m n/\q=(some m,some n):=by
 unfold EM at h
 split at h
 .
  cases h;exact ⟨_,_,rfl,rfl⟩
 .
  simp[addrFree] at hf
 cases h
theorem Wu (w:World):w.drew≠w:=λh=>by
 have:w.drawn+1=w.drawn:=congrArg World.drawn h
 omega
theorem aaG {call:aX} {o:Oper} {ev:Operand->Value} {v u:Value} {H':Mem} (h:CG P ev o=some v) (h2:opA P call ev o H=some (u,H')):u=v/\H'=H:=by
 unfold CG at h
 split at h
 .
  rename_i op t x y yt hop;unfold opA at h2;rw[hop] at h2;have h2:qD P ev o op t (ev x) (ev y) H=some (u,H'):=h2;unfold qD at h2;obtain ⟨h3,e0⟩:=aB h2;refine ⟨?_,e0⟩;unfold EL at h;split at h
  case h_2=>cases h
  rename_i a b ha hb
  have e1:Ad op (ev x) (ev y)=none:=by
   unfold y9 at ha;split at ha
   .
    rename_i n hx;rw[hx];cases ev y<;>rfl
   .
    rename_i hx;rw[hx];cases ev y<;>rfl
   cases ha
  have e2:oI P op t (ev x) (ev y)=none:=by
   unfold y9 at ha;split at ha
   .
    rename_i n hx;rw[hx];unfold oI;split<;>first|rfl|(rename_i h1 h2 h3;cases h2)|rfl
   .
    rename_i hx;rw[hx];unfold oI;split<;>first|rfl|(rename_i h1 h2 h3;cases h2)|rfl
   cases ha
  rw[e1,e2] at h3;have h3:pureA P ev o=some u:=h3;obtain ⟨hf,hrun⟩:=xh h3;have Mf:∀z∈o.op.operands,addrFree (ev z)=true:=λz hz=>List.all_eq_true.1 hf z (by simpa using hz)
  obtain ⟨m,em,rfl⟩:=su ha (Mf x (by simp[hop,Op.operands]))
  obtain ⟨n,en,rfl⟩:=su hb (Mf y (by simp[hop,Op.operands]))
  have same:∀{r:Value} {w':World},(execOp ev o).run P default = .ok (.value r) w'->u=r/\w'=default:=λh4=>by
   have h5:=(hrun default).symm.trans h4;simp only[Result.ok.injEq,Next.value.injEq] at h5;exact ⟨h5.1,h5.2.symm⟩
  have ari:∀{op':BinOp} {f:Nat->Nat->Option Nat} {q:Option Nat},binOp op t (.float .f64 m) (.float .f64 n)=Op.floatArith op' .f64 m n ->
   (∀x y,Op.floatArith op' .f64 x y=(match f x y with|some r=>pure (.float .f64 r)|none=>(do pure (.float .f64 (<- choose (.nanBits .f64 x y))):Sem Value)))->f m n=q->u=JS q:=λ{op' f q} hb hop' hq=>by
   cases q with
   |
    some r =>
    exact (same (zo (c:=⟨P,0,0,0,default,λ_=>none⟩) hop em en hb (v:=.float .f64 r) (w':=default) (by rw[hop',hq];rfl))).1
   |
    none =>
    have:=(same (zo (c:=⟨P,0,0,0,default,λ_=>none⟩) (w:=default) hop em en hb (w':=World.drew default) (by rw[hop',hq];exact GV _ _ _ _ _))).2
    exact absurd this (Wu _)
  split at h
  .
   cases h;exact ari (op':=.add) rfl (λx y=>by rfl) rfl
  .
   cases h;exact ari (op':=.sub) rfl (λx y=>by rfl) rfl
  .
   cases h;exact ari (op':=.mul) rfl (λx y=>by rfl) rfl
  .
   cases h
  cases h
 .
  rename_i cl hop;obtain ⟨callee,args,ats⟩:=cl
  have one:∀{v:Value},args.toList.map ev=[v]->∃p,args = #[p]/\ev p=v:=λh=>by
   obtain ⟨l⟩:=args
   match l,h with
   |[p],h=>exact ⟨p,rfl,by simpa using h⟩
  have two:∀{v u:Value},args.toList.map ev=[v,u]->∃p q,args = #[p,q]/\ev p=v/\ev q=u:=λh=>by
   obtain ⟨l⟩:=args
   match l,h with
   |[p,q],h=>exact ⟨p,q,rfl,by simpa using h⟩
  unfold opA at h2;rw[hop] at h2;simp only at h h2
  have pur:∀{r:Value},withMem H (pureA P ev o)=some (u,H')->(∀(_:bp ev o.op=true),(execOp ev o).run P default = .ok (.value r) default)->u=r/\H'=H:=λh3 hr=>by
   obtain ⟨h4,e0⟩:=aB h3;obtain ⟨hf,hrun⟩:=xh h4;have h5:=(hrun default).symm.trans (hr hf);simp only[Result.ok.injEq,Next.value.injEq] at h5;exact ⟨h5.1,e0⟩
  have fr:∀z∈args,bp ev o.op=true->addrFree (ev z)=true:=λz hz hf=>List.all_eq_true.1 hf z (by rw[hop];simp[Op.operands,Call.operands];exact .inr hz)
  split at h
  .
   rename_i x y hl;obtain ⟨p,q,rfl,rfl,rfl⟩:=two hl;split at h
   .
    rename_i a b ha hb;cases h;refine pur h2 λhf=>?_
    obtain ⟨m,em,rfl⟩:=su ha (fr p (by simp) hf)
    obtain ⟨n,en,rfl⟩:=su hb (fr q (by simp) hf)
    simp[execOp,hop,resolve,em,en,invoke,builtin,Ay,cxV]
   cases h
  .
   rename_i x hl;obtain ⟨p,rfl,rfl⟩:=one hl;split at h
   .
    rename_i q hq;cases h;refine pur h2 λhf=>?_
    obtain ⟨m,n,em,rfl⟩:=Dl hq (fr p (by simp) hf)
    simp[execOp,hop,resolve,em,invoke,builtin,Mn,JS]
   cases h
  .
   rename_i x hl;obtain ⟨p,rfl,rfl⟩:=one hl;split at h
   .
    rename_i q hq;cases h;refine pur h2 λhf=>?_
    obtain ⟨m,n,em,rfl⟩:=Dl hq (fr p (by simp) hf)
    simp[execOp,hop,resolve,em,invoke,builtin,Mo,JS]
   cases h
  .
   rename_i f hl;obtain ⟨p,rfl,hp⟩:=one hl;rw[pick2_eq] at h;split at h
   .
    rename_i hb;cases h;exfalso;unfold EN at hb;split at hb
    .
     rename_i id hg;split at hb
     .
      rename_i fn hfn;rw[pick2_eq] at hb;split at hb
      .
       cases hb
      rename_i hbody;simp only[Bool.and_eq_true,beq_iff_eq] at hb
      have hc:kJ P call (ev f) (#[p].toList.map ev) H=none:=by
       unfold kJ;simp only[hg,hfn];rw[pick2_eq,if_neg hbody]
      have hs:qF P (ev f)=false:=by
       unfold qF;simp only[hg,hfn];rw[pick2_eq,if_neg hbody,hb.1];rfl
      unfold bD at h2;simp only[hc] at h2;have h2:pick2 (qF P (ev f)) (some (ev p,H)) (withMem H (pureA P ev o))=some (u,H'):=h2;rw[hs] at h2;obtain ⟨h4,e0⟩:=aB (show withMem H (pureA P ev o)=some (u,H') from h2);have:=fr p (by simp) (xh h4).1
      rw[hp] at this;simp[addrFree] at this
     cases hb
    cases hb
   cases h
  cases h
 cases h
end
end Go.Ev

namespace Go.Ev
open Go.RowKit
section
variable {P:Program} {call:aX} {ops:Array Oper} {GR:List Blk}
def bR (rows:List Blk) (w:World):Prop:=rows.length<=w.heap.size/\∀(i:Nat) b,rows[i]? = some b->b.live=true->∃fr,w.heap[i]? = some (.cells b.cells.toArray b.elem fr)/\lK b.cells.toArray fr
structure Cx.At (c:Cx) (G:Nat) (GR:List Blk):Prop where
 g:c.G=G
 rows:bR GR c.w0
 len:GR.length<=c.B
theorem bR.nil (w:World):bR [] w:=⟨Nat.zero_le _,λi b h=>by simp at h⟩
theorem bB.oz {c:Cx} {ρ:Ren} {H:Mem} {w:World} {G:Nat} {GR:List Blk} (he:bB c ρ H w) (h:c.At G GR):bR GR w :=
 ⟨Nat.le_trans h.len he.base,λi b hi hl=>by
  obtain ⟨fr,h1,h2⟩:=h.rows.2 i b hi hl;exact ⟨fr,(he.below.block i (Nat.lt_of_lt_of_le (List.getElem?_eq_some_iff.1 hi).1 h.len)).trans h1,h2⟩⟩
def kN (P:Program) (G:Nat) (GR:List Blk) (call:aX):Prop :=
 ∀f args H v H',call f args H=some (v,H')->(P.funcs[f]? ≠ none\/addrFree v=true)->∀(c:Cx),c.P=P->c.At G GR->∀ ρ w args',bB c ρ H w->LR (VRel ρ) args args' ->
  Calls P f args'.toArray w λe w'=>∃ ρ' v',e = .returned v'/\ρ.le ρ'/\VRel ρ' v v'/\bB c ρ' H' w'
def cJ (H H':Mem):Prop:=H.size<=H'.size/\H'.lk=H.lk/\∀i,i<H.lk->i<H.size->H'.get i=H.get i
theorem cJ.refl (H:Mem):cJ H H:=⟨Nat.le_refl _,rfl,λ_ _ _=>rfl⟩
theorem cJ.trans {a b c:Mem} (h:cJ a b) (k:cJ b c):cJ a c :=
 ⟨Nat.le_trans h.1 k.1,k.2.1.trans h.2.1,λi hi hs=>(k.2.2 i (by rw[h.2.1];exact hi) (Nat.lt_of_lt_of_le hs h.1)).trans (h.2.2 i hi hs)⟩
theorem cJ.push {H H':Mem} {b:Blk} (h:H.push b=some H'):cJ H H':=by
 obtain ⟨h1,h2,h3⟩:=Mem.bA h
 exact ⟨by omega,h2,λi _ hs=>by rw[h3,if_neg (by omega)]⟩
theorem cJ.set {H H':Mem} {i:Nat} {b:Blk} (h:H.set i b=some H'):cJ H H':=by
 obtain ⟨h1,h2,h3,h4,h5⟩:=Mem.fq h
 exact ⟨by omega,h4,λj hj _=>by rw[h5,if_neg (by omega)]⟩
def bO (call:aX):Prop:=∀f args H v H',call f args H=some (v,H')->cJ H H'
theorem kO {H H':Mem} {i off:Nat} {vs:List Value} (h:dg H i off vs=some H'):cJ H H':=by
 unfold dg at h
 split at h
 .
  cases h;exact .refl _
 split at h
 .
  split at h
  .
   exact .set h
  cases h
 cases h
theorem vt {H H':Mem} {t:TypeId} {cs:List Value} {v:Value} (h:pz H t cs=some (v,H')):cJ H H':=.push (nW h).1
theorem nB {H H':Mem} {t:TypeId} {cs:List Value} {len cap:Nat} {v:Value} (h:fh H t cs len cap=some (v,H')):cJ H H':=.push (iU h).1
theorem tC {H H':Mem} {t:TypeId} {cs:List Value} {len cap:Nat} {v:Value} (h:pF H t cs len cap=some (v,H')):cJ H H':=.push (mL h).1
theorem bx {H H':Mem} {x:Option Value} {v:Value} (h:withMem H x=some (v,H')):cJ H H':=by
 obtain ⟨_,rfl⟩:=aB h;exact .refl _
theorem xk (hk:bO call) {ev:Operand->Value} {o:Oper} {H H':Mem} {v:Value} (h:opA P call ev o H=some (v,H')):cJ H H':=by
 unfold opA at h
 split at h
 case h_1=>cases h;exact .refl _
 case h_2=>cases h;exact .refl _
 case h_3=>unfold Ae at h;split at h<;>cases h;exact .refl _
 case h_4=>exact bx h
 case h_5 =>
  unfold mH at h;split at h
  .
   exact vt h
  cases h
 case h_6 =>
  unfold Db at h;split at h
  .
   exact vt h
  cases h
 case h_7=>exact bx h
 case h_8 =>
  unfold gI at h;split at h
  .
   split at h
   .
    split at h
    .
     cases h
    split at h
    .
     exact tC h
    cases h
   cases h
  cases h
 case h_9=>exact bx h
 case h_10 =>
  unfold lz at h;split at h
  .
   rename_i hu;cases h;unfold nj at hu;split at hu
   .
    split at hu
    .
     exact kO hu
    cases hu
   cases hu
  cases h
 case h_11=>unfold nu at h;split at h<;>cases h<;>exact .refl _
 case h_12=>exact bx h
 case h_13=>exact bx h
 case h_14 =>
  unfold mW at h;split at h
  .
   exact bx h
  cases h
 case h_15 =>
  unfold kI at h;split at h
  .
   split at h
   .
    split at h
    .
     exact tC h
    cases h
   cases h
  cases h
 case h_16=>cases h;exact .refl _
 case h_17 =>
  unfold jP at h;rw[pick2_eq] at h;split at h
  .
   exact bx h
  exact bx h
 case h_18=>exact bx h
 case h_19=>exact bx h
 case h_20 =>
  unfold fj at h;split at h
  .
   cases h;exact .refl _
  unfold eF at h;split at h
  .
   split at h
   .
    split at h
    .
     simp only[Option.map_eq_some_iff] at h;obtain ⟨u,_,heq⟩:=h;cases heq;exact .refl _
    cases h
   .
    cases h;exact .refl _
   cases h
  .
   split at h
   .
    exact nB h
   cases h
  .
   split at h
   .
    rw[pick2_eq] at h;split at h
    .
     cases h;exact .refl _
    cases h
   cases h
  .
   split at h
   .
    rw[pick2_eq] at h;split at h
    .
     cases h;exact .refl _
    cases h
   cases h
  .
   split at h
   .
    rw[pick2_eq] at h;split at h
    .
     cases h;exact .refl _
    cases h
   cases h
  cases h
 case h_21 =>
  unfold bD at h;split at h
  .
   split at h
   .
    rename_i r hr;cases h;unfold kJ at hr;split at hr
    .
     split at hr
     .
      rename_i fn _;rw[pick2_eq] at hr;split at hr
      .
       exact hk _ _ _ _ _ hr
      cases hr
     cases hr
    cases hr
   unfold Af at h;split at h
   .
    rw[pick2_eq] at h;split at h
    .
     cases h;exact .refl _
    obtain ⟨_,rfl⟩:=aB h;exact .refl _
   obtain ⟨_,rfl⟩:=aB h;exact .refl _
  .
   unfold mX at h;split at h
   .
    unfold uY at h;split at h
    .
     exact bx h
    cases h
   .
    unfold nv at h;split at h
    .
     unfold mG at h;split at h
     .
      split at h
      .
       split at h
       .
        split at h
        .
         cases h
        split at h
        .
         split at h
         .
          simp only[Option.map_eq_some_iff] at h;obtain ⟨u,hu,heq⟩:=h;cases heq;exact kO hu
         split at h
         .
          cases h;exact .refl _
         cases h
        split at h
        .
         split at h
         .
          split at h
          .
           rename_i H1 bV;refine cJ.trans ?_ (nB h);unfold kill at bV;split at bV
           .
            exact .set bV
           cases bV
          cases h
         cases h
        .
         exact nB h
        cases h
       cases h
      cases h
     cases h
    cases h
   .
    unfold wW at h;split at h
    .
     unfold Da at h;split at h
     .
      split at h
      .
       split at h
       .
        split at h
        .
         simp only[Option.map_eq_some_iff] at h;obtain ⟨u,hu,heq⟩:=h;cases heq;exact kO hu
        .
         cases h;exact .refl _
        cases h
       cases h
      cases h
     cases h
    cases h
   .
    unfold oJ at h;split at h
    .
     exact bx h
    cases h
   .
    unfold ju at h;split at h
    .
     exact bx h
    cases h
   .
    unfold wX at h;split at h
    .
     unfold Ag at h;split at h
     .
      cases h;exact .refl _
     .
      split at h
      .
       rw[pick2_eq] at h;split at h
       .
        split at h
        .
         rename_i H1 bV;cases h;unfold kill at bV;split at bV
         .
          exact .set bV
         cases bV
        cases h
       cases h
      cases h
     cases h
    cases h
   exact bx h
  cases h
 case h_22=>obtain ⟨b,hb⟩:=Au h;exact .push hb
 case h_23=>exact bx h
 case h_24=>obtain ⟨i,b,hb⟩:=tB h;exact .set hb
 case h_25=>obtain ⟨i,b,hb⟩:=tB h;exact .set hb
 case h_26=>exact bx h
noncomputable def ef (P:Program) (call:aX) (ops:Array Oper) (o:Oper) (a:Act) (H:Mem):Option (Act×Mem) :=
 if Region.wanted o (yielded ops a.tmps) then (opA P call a.eval o H).map λr=>(a.put o.dst r.1,r.2) else some (a.put o.dst undef,H)
noncomputable def gO (P:Program) (call:aX) (ops:Array Oper) (R:Option (List Nat)) (lk:Bool) (o:Oper) (a:Act) (H:Mem):Option (Act×Mem) :=
 if lk then (match eZ o.op with
  |some s=>if ox R (a.eval s) then ef P call ops o a H else none
  |none=>if dh R a.eval o then ef P call ops o a H else (ef P call ops o a { H with lk:=H.size }).map λr=>(r.1,{ r.2 with lk:=H.lk })) else ef P call ops o a H
theorem jY {P:Program} {call:aX} {ops:Array Oper} {R:Option (List Nat)} {lk:Bool} {o:Oper} {a:Act} {H:Mem} {r:Act×Mem} (h:gO P call ops R lk o a H=some r) :
 (ef P call ops o a H=some r/\(lk=true->∃s,(eZ o.op=some s\/gk o.op=some s)/\ox R (a.eval s)=true))\/(lk=true/\∃u,ef P call ops o a { H with lk:=H.size }=some u/\r=(u.1,{ u.2 with lk:=H.lk })):=by
 unfold gO at h
 split at h
 .
  rename_i hl;split at h
  .
   rename_i s hs;split at h
   .
    rename_i hc;exact .inl ⟨h,λ_=>⟨s,.inl hs,hc⟩⟩
   cases h
  split at h
  .
   rename_i hc;unfold dh at hc;split at hc
   .
    rename_i s hs;exact .inl ⟨h,λ_=>⟨s,.inr hs,hc⟩⟩
   cases hc
  simp only[Option.map_eq_some_iff] at h;obtain ⟨u,hu,rfl⟩:=h;exact .inr ⟨hl,u,hu,rfl⟩
 rename_i hl
 exact .inl ⟨h,λh=>absurd h hl⟩
structure zq (f:Fr) (a:Act):Prop where
 n:f.n=a.tmps.size
 get:∀i,f.get i=a.tmps.getD i undef
theorem Fr.get_eq (f:Fr) (i:Nat):f.get i=if i<f.n then (f.t.get i).getD undef else undef:=by
 unfold Fr.get;rw[pick2_eq,gL]
 cases f.t.get i<;>simp
theorem Fr.cX {f f':Fr} {dst:Option Tmp} {v:Value} (h:f.put dst v=some f'):f'.n=f.n/\∀i,f'.get i=if dst=some i/\i<f.n then v else f.get i:=by
 cases dst with
 |
  none =>
  have h':some f=some f':=h;cases h';exact ⟨rfl,λi=>by simp⟩
 |
  some d =>
  have h':pick2 (Nat.ble (Nat.succ d) f.n) (Option.rec (motive:=λ_=>Option Fr) none (λt=>some ⟨f.n,t⟩) (f.t.set d v)) (some f)=some f':=h
  rw[pick2_eq,gL] at h';split at h'
  .
   rename_i hd;simp only[decide_eq_true_eq] at hd;cases hs:f.t.set d v with
   |none=>rw[hs] at h';cases h'
   |
    some t =>
    rw[hs] at h';have h2:some (Fr.mk f.n t)=some f':=h';cases h2;refine ⟨rfl,λi=>?_⟩
    rw[Fr.get_eq,Fr.get_eq];simp only[Tr.sq hs];by_cases hi:i=d
    .
     subst hi;simp[hd]
    simp[hi,Ne.symm hi]
  rename_i hd;simp only[decide_eq_true_eq] at hd;cases h'
  exact ⟨rfl,λi=>by
   rw[if_neg];rintro ⟨h1,h2⟩;cases h1;exact hd h2⟩
theorem zq.put {f f':Fr} {a:Act} (h:zq f a) {dst:Option Tmp} {v:Value} (hp:f.put dst v=some f'):zq f' (a.put dst v):=by
 obtain ⟨h1,h2⟩:=Fr.cX hp
 cases dst with
 |none=>exact ⟨by rw[h1];exact h.n,λi=>by rw[h2];simp[h.get,Act.put]⟩
 |
  some d =>
  refine ⟨by rw[h1,h.n];simp[Act.put],λi=>?_⟩
  rw[h2,h.get,h.n];simp only[Act.put,Option.some.injEq];by_cases hd:d=i
  .
   subst hd;by_cases hlt:d<a.tmps.size
   .
    simp[hlt]
   simp[hlt]
  simp[hd]
theorem zq.eval {f:Fr} {a:Act} (h:zq f a):f.eval=a.eval:=by
 funext x
 cases x with
 |tmp t=>exact h.get t
 |const v=>rfl
 |global g=>rfl
 |func f=>rfl
theorem zq.wanted {f:Fr} {a:Act} (h:zq f a) (o:Oper):ij o ops.toList f=Region.wanted o (yielded ops a.tmps):=by
 unfold ij Region.wanted
 split
 .
  rename_i hg;simp[hg]
 rename_i j want hg
 simp only[hg]
 have:qH ops.toList f j=yielded ops a.tmps j:=by
  unfold qH yielded;simp only[Array.getElem?_toList];cases ho:ops[j]? with
  |none=>simp
  |
   some o' =>
   cases hd:o'.dst with
   |none=>simp[hd]
   |
    some d =>
    simp only[Option.bind_some,hd,h.get];by_cases hlt:d<a.tmps.size
    .
     have e1:a.tmps.getD d undef=a.tmps[d]:=by simp[hlt]
     rw[e1,Array.getElem?_eq_getElem hlt];generalize a.tmps[d]=q;cases q<;>rfl
    simp[hlt,undef]
 rw[this]
 cases yielded ops a.tmps j with
 |none=>simp
 |some b=>cases b<;>cases want<;>rfl
theorem oR {f f':Fr} {a:Act} {o:Oper} {H H':Mem} (hr:zq f a) (h:cU P call ops.toList o f H=some (f',H')):∃a',ef P call ops o a H=some (a',H')/\zq f' a':=by
 unfold cU at h
 rw[hr.wanted,hr.eval,pick2_eq] at h
 unfold ef
 split at h
 .
  rename_i hw;unfold oL at h;split at h
  .
   rename_i v H1 hop;split at h
   .
    rename_i f1 hf;cases h;exact ⟨a.put o.dst v,by rw[if_pos hw,hop];rfl,hr.put hf⟩
   cases h
  cases h
 rename_i hw
 unfold oL at h
 simp only at h
 split at h
 .
  rename_i f1 hf;cases h;exact ⟨a.put o.dst undef,by rw[if_neg hw],hr.put hf⟩
 cases h
theorem On {f f':Fr} {a:Act} {o:Oper} {R:Option (List Nat)} {lk:Bool} {H H':Mem} (hr:zq f a) (h:lJ P call ops.toList R lk o f H=some (f',H')):∃a',gO P call ops R lk o a H=some (a',H')/\zq f' a':=by
 unfold lJ at h
 unfold gO
 rw[pick2_eq] at h
 split at h
 .
  rename_i hl;cases hb:eZ o.op with
  |
   some s =>
   rw[hb] at h;simp only[pick2_eq] at h;split at h
   .
    rename_i hc;obtain ⟨a',h2,h3⟩:=oR hr h;rw[hr.eval] at hc;exact ⟨a',by rw[if_pos hl];simp only[if_pos hc];exact h2,h3⟩
   cases h
  |
   none =>
   rw[hb] at h;simp only at h;rw[pick2_eq] at h;split at h
   .
    rename_i hc;obtain ⟨a',h2,h3⟩:=oR hr h;rw[hr.eval] at hc;exact ⟨a',by rw[if_pos hl];simp only[if_pos hc];exact h2,h3⟩
   rename_i hc;split at h
   .
    rename_i f1 H1 h1;cases h;obtain ⟨a',h2,h3⟩:=oR hr h1;rw[hr.eval] at hc;exact ⟨a',by rw[if_pos hl];simp only[if_neg hc,h2];rfl,h3⟩
   cases h
 rename_i hl
 obtain ⟨a',h2,h3⟩:=oR hr h
 exact ⟨a',by rw[if_neg hl];exact h2,h3⟩
theorem qP (hk:bO call) {o:Oper} {a a':Act} {H H':Mem} (h:ef P call ops o a H=some (a',H')):cJ H H':=by
 unfold ef at h
 split at h
 .
  simp only[Option.map_eq_some_iff] at h;obtain ⟨u,hu,heq⟩:=h;cases heq;exact xk hk hu
 cases h;exact .refl _
theorem GW {ρ:Ren} {a ar:Act} (hs:wU ρ a ar) (j:Nat):yielded ops ar.tmps j=yielded ops a.tmps j:=by
 unfold yielded
 cases hd:(ops[j]?).bind (·.dst) with
 |none=>rfl
 |
  some d =>
  simp only[Option.bind_some];by_cases hlt:d<a.tmps.size
  .
   have hlt':d<ar.tmps.size:=hs.tmps.1 ▸ hlt;have hr:=hs.tmps.2 d _ _ (Array.getElem?_eq_getElem hlt) (Array.getElem?_eq_getElem hlt');rw[Array.getElem?_eq_getElem hlt,Array.getElem?_eq_getElem hlt'];generalize a.tmps[d]=x at hr;generalize ar.tmps[d]=y at hr;cases hr<;>rfl
  rw[Array.getElem?_eq_none (Nat.le_of_not_lt hlt),Array.getElem?_eq_none (Nat.le_of_not_lt (hs.tmps.1 ▸ hlt))]
theorem Az {ρ:Ren} {a ar:Act} (hs:wU ρ a ar) (o:Oper):Region.wanted o (yielded ops ar.tmps)=Region.wanted o (yielded ops a.tmps):=by
 unfold Region.wanted
 split
 .
  rfl
 rw[GW hs]
def ck (P:Program):Prop:=∀(id:FuncId) fn,P.funcs[id]? = some fn->¬(fn.name = "runtime.NumGoroutine")
theorem QN (hno:ck P) {ρ:Ren} {ev ev':Operand->Value} {o:Oper} {cl:Call} {g:Operand} (hop:o.op = .call cl) (hg:cl.callee = .value g) (aL:Zs ρ ev ev' o.op) {H H':Mem} {v:Value}
 (h:kJ P call (ev g) (cl.args.toList.map ev) H=some (v,H')) (w:World) :
 ∃f args args',LR (VRel ρ) args args'/\call f args H=some (v,H')/\P.funcs[f]? ≠ none/\(execOp ev' o).run P w = .ok (.enter f args'.toArray) w:=by
 unfold kJ at h
 split at h
 .
  rename_i id first captured hf
  split at h
  .
   rename_i fn hfn;rw[pick2_eq] at h;split at h
   .
    rename_i hb;have hgr:=aL g (by simp[hop,hg,Op.operands,Call.operands])
    rw[hf] at hgr;generalize hg':ev' g=g' at hgr;cases hgr with
    |
     func _ _ first' _ captured' s1 h1 s2 h2 =>
     have hargs:=AR.map (ev:=ev) (ev':=ev') cl.args λy hy=>aL y (by simp[hop,hg,Op.operands,Call.operands,hy])
     refine ⟨id,_,first'.toList++((cl.args.map ev').toList++captured'.toList),?_,h,(by rw[hfn];simp),?_⟩
     .
      have:=(AR.list ⟨s1,h1⟩).append (hargs.list.append (AR.list ⟨s2,h2⟩))
      simpa using this
     obtain ⟨cb,hb'⟩:=Option.isSome_iff_exists.1 hb;have hname:=hno id fn hfn;obtain ⟨callee,args,ats⟩:=cl;simp only at hg;subst hg;simp[execOp,hop,resolve,Deferred.ofValue,hg',invoke,callFunc,hfn,hname,hb']
   cases h
  cases h
 cases h
theorem AA (hno:ck P) {G:Nat} (hcall:kN P G GR call) {o:Oper} {a a' ar:Act} {H H':Mem} (hok:o.op.operands.toList.all (bG G)=true) (h:ef P call ops o a H=some (a',H')) {c:Cx} (dO:c.P=P) (dc:c.At G GR) {w:World} {ρ:Ren} (hs:wU ρ a ar) (he:bB c ρ H w)
 {Q:Exit->Act->World->Prop} {K:Act->World->Prop} (hK:∀ ρ' ar' w',ρ.le ρ'->wU ρ' a' ar'->bB c ρ' H' w'->K ar' w') :
 if Region.wanted o (yielded ops ar.tmps) then o.wp P ar w K Q\/(o.asks P ar w/\LetsOut Q) else K (ar.put o.dst undef) w:=by
 subst dO
 have hG0:=dc.g
 subst hG0
 have aL:Zs ρ a.eval ar.eval o.op:=λx hx=>hs.eval he.dM (List.all_eq_true.1 hok x (by simpa using hx))
 rw[Az hs]
 unfold ef at h
 split at h
 .
  rename_i hw;rw[if_pos hw];simp only[Option.map_eq_some_iff] at h;obtain ⟨u,hu,heq⟩:=h;cases heq;refine .inl ?_;unfold Oper.wp;by_cases iQ:∃cl g r,o.op = .call cl/\cl.callee = .value g/\kJ c.P call (a.eval g) (cl.args.toList.map a.eval) H=some r
  .
   obtain ⟨cl,g,r,hop,hg,hcr⟩:=iQ
   have hur:some r=some u:=by
    rw[<-hu];unfold opA;rw[hop];simp only[bD,hg,hcr]
   cases hur;obtain ⟨f,args,args',hargs,hc,aj6,hrun⟩:=QN hno hop hg aL hcr w;rw[hrun];refine (hcall _ _ _ _ _ hc (.inl aj6) c rfl dc ρ w args' he hargs).mono ?_;rintro e w' ⟨ρ',v',rfl,h1,h2,h3⟩;exact hK ρ' _ _ h1 ((hs.mono h1).put o.dst h2) h3
  obtain ⟨ρ',w',v',h1,h2,h3,h4⟩:=aaC he aL (λcl hop f hf=>by
   cases hcr:kJ c.P call (a.eval f) (cl.args.toList.map a.eval) H with
   |none=>rfl
   |some r=>exact absurd ⟨cl,f,r,hop,hf,hcr⟩ iQ) hu
  rcases h4 with h4|⟨h4,rfl⟩
  .
   rw[h4];exact hK ρ' _ _ h1 ((hs.mono h1).put o.dst h3) h2
  rw[h4];exact hK ρ' _ _ h1 ((hs.mono h1).put o.dst h3) h2
 rename_i hw
 rw[if_neg hw]
 cases h
 exact hK ρ _ _ (Ren.le_refl _) (hs.put o.dst .undef) he
theorem Mem.aj7 (H:Mem) (n:Nat) (i:Nat):({ H with lk:=n }:Mem).get i=H.get i:=rfl
theorem Oo (hno:ck P) {G:Nat} (hcall:kN P G GR call) (_hk:bO call) {o:Oper} {R:Option (List Nat)} {lk:Bool} {a a' ar:Act} {H H':Mem} (hok:o.op.operands.toList.all (bG G)=true) (h:gO P call ops R lk o a H=some (a',H')) {c:Cx} (dO:c.P=P) (dc:c.At G GR) {w:World} {ρ:Ren} (hs:wU ρ a ar) (he:bB c ρ H w)
 {Q:Exit->Act->World->Prop} {K:Act->World->Prop} (hK:∀ ρ' ar' w',ρ.le ρ'->wU ρ' a' ar'->bB c ρ' H' w'->K ar' w') :
 if Region.wanted o (yielded ops ar.tmps) then o.wp P ar w K Q\/(o.asks P ar w/\LetsOut Q) else K (ar.put o.dst undef) w:=by
 rcases jY h with ⟨h,_⟩|⟨_,u,hu,heq⟩
 .
  exact AA hno hcall hok h dO dc hs he hK
 cases heq
 have he':bB c ρ { H with lk:=H.size } w:=he.less (Nat.le_refl _) he.ve λi b' hi _=>hi
 refine AA hno hcall hok hu dO dc hs he' fun ρ' ar' w' h1 h2 h3=>hK ρ' ar' w' h1 h2 ?_
 exact h3.less (Nat.le_refl _) he.lk λi b' hi _=>hi
end
end Go.Ev
