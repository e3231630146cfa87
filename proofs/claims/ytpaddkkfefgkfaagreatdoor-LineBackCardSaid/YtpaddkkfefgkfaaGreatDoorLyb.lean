/- The evaluator's operations, fourth part: all of them. Maps: the evaluator's beside the machine's. The evaluator's operations together; regions, bodies and calls. The evaluator's steps, over slots as the machine has them. -/
import Derived.Test.YtpaddkkfefgkfaaGreatDoorLya
import Derived.MapKept
import Derived.Tactics
set_option linter.unusedVariables false
set_option linter.unusedSimpArgs false

namespace Go.Ev
open Go.RowKit
section
variable {c:Cx} {P:Program} {w:World} {ρ:Ren} {H:Mem}
theorem SQ (he:bg c ρ H w) {dt ty:TypeId} {d d' x x' v:Value} {H':Mem} {at_:Array TypeId} {as:Array Value}
 (rB:at_[0]? = some dt) (pQ:as[0]? = some d') (rC:as[1]? = some x')
 (hd:VRel ρ d d') (hx:VRel ρ x x') (h:Bg c.P H dt d x=some (v,H')) :
 ∃w' v',bg c ρ H' w'/\VRel ρ v v'/\(Builtin.copy_ at_ ty as).run c.P w = .ok v' w':=by
 unfold Bg at h
 split at h
 .
  rename_i e base dLen _ n hu hn;have hlen:=NM (P:=c.P) hx hn w;split at h
  .
   rename_i s hs;split at h
   .
    rename_i cs hf;obtain ⟨cs',hr',hl'⟩:=tB he hx hf;split at h
    .
     simp only[Option.map_eq_some_iff] at h;obtain ⟨H1,hw1,heq⟩:=h;cases heq;cases hd with
     |
      slice i off _ _ r y hr =>
      obtain ⟨w',hst,W9,_⟩:=yz he hr hl' hw1;refine ⟨w',_,W9,.int _ _,?_⟩;simp[Builtin.copy_,rB,pQ,rC,run_underlying hu,hlen,ck hs,hr',hst,goInt]
    .
     cases h;cases hd;refine ⟨w,_,he,.int _ _,?_⟩;simp[Builtin.copy_,rB,pQ,rC,run_underlying hu,hlen,ck hs,hr',goInt]
    cases h
   cases h
  cases h
 cases h
theorem EL:∀(l:List Value) (acc s:ByteArray),lS l acc=some s->∃ns:List Int,l=ns.map (Value.int .u8)/\s=ns.foldl (λr n=>r.push (UInt8.ofNat n.toNat)) acc
 |[],acc,s,h=>by simp only[lS,Option.some.injEq] at h;exact ⟨[],rfl,h.symm⟩
 |
  v::l,acc,s,h=>by
  simp only[lS] at h;split at h
  .
   rename_i b hb;obtain ⟨ns,h1,h2⟩:=EL l _ s h;unfold xL at hb;split at hb
   .
    rename_i n;cases hb;exact ⟨n::ns,by rw[h1];rfl,by rw[h2];rfl⟩
   cases hb
  cases h
theorem LR.ints {ns:List Int} {k:IntKind} {l':List Value} (h:LR (VRel ρ) (ns.map (Value.int k)) l'):l'=ns.map (Value.int k):=by
 apply List.ext_getElem?
 intro i
 by_cases hi:i<l'.length
 .
  have hi':i<(ns.map (Value.int k)).length:=by rw[h.1];exact hi
  have hr:=h.2 i _ _ (List.getElem?_eq_getElem hi') (List.getElem?_eq_getElem hi);rw[List.getElem?_eq_getElem hi',List.getElem?_eq_getElem hi];simp only[List.getElem_map] at hr ⊢;generalize l'[i]=q at hr ⊢;cases hr with
  |int=>rfl
 rw[List.getElem?_eq_none (Nat.le_of_not_lt hi),List.getElem?_eq_none (by rw[h.1];exact Nat.le_of_not_lt hi)]
theorem gD (w:World) (a:Addr) (n k:Nat) (h:k≠a.block):(w.freeze a n).heap[k]? = w.heap[k]? := by
 unfold World.freeze
 split
 .
  rfl
 simp only[Array.getElem?_modify]
 rw[if_neg (λe=>h e.symm)]
theorem wE (w:World) (a:Addr) (n:Nat):(w.freeze a n).heap.size=w.heap.size:=by
 unfold World.freeze
 split
 .
  rfl
 simp
theorem EM {w:World} {r n:Nat} {C:Array Value} {t:TypeId} {lo hi:Nat} (h:w.heap[r]? = some (.cells C t (lo,hi))) :
 (w.freeze ⟨r,n,none⟩ 1).heap[r]? = some (.cells C t (if lo==hi then (n,n+1) else (min lo n,max hi (n+1)))):=by
 unfold World.freeze
 rw[if_neg (by decide)]
 simp only[Array.getElem?_modify,if_true,h,Option.map_some]
theorem bg.mark {c:Cx} {ρ:Ren} {H:Mem} {w:World} (he:bg c ρ H w) {i r x:Nat} {b:Blk} (hi:alive H i=some b) (hlk:c.L<=i) (hr:ρ i=some (r,x)) {C:Array Value} {t:TypeId} {fr:Nat×Nat} (hC:w.heap[r]? = some (.cells C t fr)):bg c ρ H (w.freeze ⟨r,C.size,none⟩ 1):=by
 obtain ⟨hg,hl⟩:=alive_some hi
 have hB:c.own r:=by
  obtain ⟨r',x',C,fr,s,h1,h2,_⟩:=he.blk i b hg hl;rw[hr] at h1;cases h1;rcases h2 with h2|h2
  .
   omega
  exact h2
 refine ⟨he.stay.ED hB (Lib.below_freeze (Below.refl _ _) (p:=⟨r,C.size,none⟩) hB.1 1) (λk hk=>gD _ _ _ _ hk),by rw[wE];exact he.base,he.dom,he.lk,he.tw,he.dz,λj b' hj hl'=>?_,he.inj,λj b' hj hm=>(he.maps j b' hj hm).heap λq es clock hh=>by
  rw[gD _ _ _ _ (λe=>by subst e;rw[hC] at hh;cases hh)];exact hh,he.pg⟩
 obtain ⟨r',x',C',fr',s,h1,h2,h3,h4,h5⟩:=he.blk j b' hj hl'
 by_cases VM:r'=r
 .
  subst VM;have hji:=he.inj j i b' b r' x' x hj hl' hg hl h1 hr;subst hji;rw[hC] at h3;cases h3;obtain ⟨lo,hi'⟩:=fr;refine ⟨r',x',C,_,s,h1,h2,EM hC,.inr ?_,h5⟩;rcases h4 with h4|⟨u1,u2⟩
  .
   omega
  simp only at u1 u2;by_cases e:lo=hi'
  .
   subst e;simp only[beq_self_eq_true,if_true];exact ⟨by simp,λj hj=>by simp;omega⟩
  have hlo:C.size<=lo:=by
   rcases Nat.lt_or_ge lo C.size with hlt|hge
   .
    exact absurd ⟨Nat.le_refl _,by omega⟩ (u2 lo hlt)
   exact hge
  rw[if_neg (by simpa using e)]
  exact ⟨by simp;omega,λj hj=>by simp;omega⟩
 exact ⟨r',x',C',fr',s,h1,h2,by rw[gD _ _ _ _ VM];exact h3,h4,h5⟩
theorem Hz (he:bg c ρ H w) {src dst:TypeId} {x x' v:Value} {H':Mem} (hx:VRel ρ x x') (h:dc c.P H src dst x=some (v,H')) :
 ∃ ρ' w' v',ρ.le ρ'/\bg c ρ' H' w'/\VRel ρ' v v'/\(convert src dst x').run c.P w = .ok v' w':=by
 unfold dc at h
 split at h
 .
  rename_i e a len cap hs hd;split at h
  .
   rename_i b off C9;split at h
   .
    rename_i cs hr;simp only[Option.map_eq_some_iff] at h;obtain ⟨s,hb,heq⟩:=h;cases heq;cases hx with
    |
     slice _ _ _ _ r y hry =>
     obtain ⟨l',h1,h2,h3⟩:=he.read hry hr;obtain ⟨ns,rfl,hsn⟩:=EL _ _ _ hb;rw[h1.ints] at h3;have hrun:=run_loadCells_list (P:=c.P) w _ _ h3;rw[h2] at hrun;refine ⟨ρ,w,_,Ren.le_refl _,he,.string _,?_⟩;rw[run_convert_bytes_string w src dst e _ len (cap+y) hs C9 hd,run_bytesToString w _ len (cap+y) ns hrun,hsn]
   cases h
  .
   rename_i C9;cases h;cases hx;refine ⟨ρ,w,_,Ren.le_refl _,he,.string _,?_⟩;rw[run_convert_bytes_string w src dst e _ len _ hs C9 hd];simp[Conv.bytesToString]
  .
   rename_i C9;cases h;cases hx with
   |
    void a' =>
    have hrun:=run_loadCells_list (P:=c.P) w a' [] (λj v hj=>by cases hj)
    refine ⟨ρ,w,_,Ren.le_refl _,he,.string _,?_⟩;rw[run_convert_bytes_string w src dst e _ 0 0 hs C9 hd,run_bytesToString w a' 0 0 [] hrun];rfl
  cases h
 .
  rename_i e s hs hd;split at h
  .
   rename_i C9 hsz;obtain ⟨hp',rfl⟩:=iu h;cases hx;have hrun:=run_bytes_of_string (P:=c.P) w src dst e s hs hd C9;have hg:=EI w s.size 0 e;refine ⟨_,_,_,he.pN (Nat.le_refl _) (w.heap.size,grownCap w s.size 0 e-s.size),?_,?_,hrun⟩
   .
    refine he.drew.new hp' hsz ?_ ?_ ?_ (λh=>by cases h) ⟨λj v hj hv=>.inr ⟨C9,by
     unfold bytesRow at hv;rw[Array.getElem?_append] at hv;split at hv
     .
      rename_i hlt;simp at hlt hj;omega
     .
      rw[Array.getElem?_replicate] at hv;split at hv
      .
       cases hv;rfl
      cases hv⟩,by
     by_cases EG:s.size<9223372036854775808
     .
      refine .inr (.inl λs' hs'=>?_)
      rw[hsz] at hs';cases hs';have h1:=EH w s.size 0 e EG;simp[bytesRow];omega
     refine .inr (.inr ?_);simp;omega⟩
    .
     have hl:LR (VRel ρ) (s.data.toList.map λb=>Value.int .u8 b.toNat) (s.data.toList.map λb=>Value.int .u8 b.toNat):=⟨rfl,λi x y hx hy=>by
      rw[hx] at hy;cases hy;obtain ⟨b,_,rfl⟩:=List.mem_map.1 (List.mem_of_getElem? hx);exact .int _ _⟩
     have:=hl.rK (Array.replicate (grownCap w s.size 0 e-s.size) (.int .u8 0))
     have e1:bytesRow s (grownCap w s.size 0 e)=(s.data.toList.map λb=>Value.int .u8 b.toNat).toArray++Array.replicate (grownCap w s.size 0 e-s.size) (.int .u8 0):=by
      unfold bytesRow;congr 1;apply Array.ext';simp
     rw[e1];exact this
    .
     simp[bytesRow]
    exact ⟨by simp,λj hj=>by simp;omega⟩
   have:=VRel.slice (ρ:=ρ.put H.size (w.heap.size,grownCap w s.size 0 e-s.size)) H.size 0 s.size s.size w.heap.size _ (Ren.fq _ _ _);rw[Nat.add_sub_cancel' hg] at this;exact this
  cases h
 .
  rename_i e1 e i off l cp hs hd;split at h
  .
   rename_i b hb C9;rw[pick2_eq] at h;split at h
   .
    rename_i hc;cases h;simp only[Bool.and_eq_true,tv,decide_eq_true_eq,Nat.beq_eq] at hc;obtain ⟨hlk,rfl⟩:=hc;have hd':=hd;rw[hs] at hd';cases hd';cases hx with
    |
     slice _ _ _ _ r y hr =>
     obtain ⟨hg,hl⟩:=alive_some hb;obtain ⟨r',y',C,fr,s,k1,k2,k3,k4,k5,k6,k7⟩:=he.blk i b hg hl;rw[hr] at k1;cases k1;refine ⟨ρ,_,_,Ren.le_refl _,he.mark hb (Nat.le_trans he.lk hlk) hr k3,.slice i off l cp r y hr,?_⟩;simp[convert,run_underlying hs,run_underlying C9,run_underlying hd,markStringish,World.shape?,k3]
   cases h
  cases h
 .
  rename_i t i hs hd;split at h
  .
   rename_i b n hb hn;rw[pick2_eq] at h;split at h
   .
    rename_i hc;cases h;cases hx with
    |
     ptr _ _ r y hr =>
     obtain ⟨hg,hl⟩:=alive_some hb;obtain ⟨r',y',C,fr,s,k1,k2,k3,k4,k5,k6,k7⟩:=he.blk i b hg hl;rw[hr] at k1;cases k1;simp only[Bool.and_eq_true,tv,decide_eq_true_eq] at hc;obtain ⟨inf,hi,hsz⟩:=Option.map_eq_some_iff.1 hn;refine ⟨ρ,w,_,Ren.le_refl _,he,.ptr i 0 r y hr,?_⟩;exact Lib.run_to_unsafe w ⟨r,0,none⟩ hs hd hi (by omega) (e:=b.elem) (cells:=C.size) (by simp[World.shape?,k3]) (by show 0<C.size;omega)
   cases h
  cases h
 .
  rename_i u i hs hd;split at h
  .
   rename_i b n hb hn;rw[pick2_eq] at h;split at h
   .
    rename_i hc;cases h;cases hx with
    |
     ptr _ _ r y hr =>
     obtain ⟨hg,hl⟩:=alive_some hb;obtain ⟨r',y',C,fr,s,k1,k2,k3,k4,k5,k6,k7⟩:=he.blk i b hg hl;rw[hr] at k1;cases k1;simp only[Bool.and_eq_true] at hc;obtain ⟨inf,hi,hsz⟩:=Option.map_eq_some_iff.1 hn;have hy:=k5.2 hc.1;subst hy;have hC:C.size=b.cells.length:=by simpa using k6
     refine ⟨ρ,w,_,Ren.le_refl _,he,.ptr i 0 r 0 hr,?_⟩;exact Lib.run_from_unsafe w ⟨r,0,none⟩ hs hd hi (e:=b.elem) (cells:=C.size) (by simp[World.shape?,k3]) (by rw[hC];exact hc.2)
   cases h
  cases h
 cases h
theorem uX {i:Int} {len m:Nat} (h:Lm i len=some m):i=(m:Int)/\m<len:=by
 unfold Lm at h
 split at h
 .
  rename_i k;rw[pick2_eq,fX] at h;split at h
  .
   rename_i hk;cases h;exact ⟨rfl,by simpa using hk⟩
  cases h
 cases h
theorem Xb {t:TypeId} {x x' i i' v:Value} (hx:VRel ρ x x') (hi:VRel ρ i i') (h:CN P t x i=some v) (w:World) :
 ∃v',(Instr.indexAt t x' i').run P w = .ok v' w/\VRel ρ v v':=by
 unfold CN at h
 split at h
 .
  rename_i e b off len cap k n hu;cases hi;cases hx with
  |
   slice _ _ _ _ r y hr =>
   split at h
   .
    rename_i s m hs hm;cases h;obtain ⟨rfl,hlt⟩:=uX hm;refine ⟨.pointer (some ⟨r,off+m*s,none⟩),?_,.ptr _ _ _ _ hr⟩;have h2:(m:Int)<(len:Int):=by omega
    simp[Instr.indexAt,asIntOf,run_underlying hu,hlt,ck hs,kj]
   cases h
 .
  rename_i len e b off k n hu;cases hi;cases hx with
  |
   ptr _ _ r y hr =>
   split at h
   .
    rename_i s m hs hm;cases h;obtain ⟨rfl,hlt⟩:=uX hm;refine ⟨.pointer (some ⟨r,off+m*s,none⟩),?_,.ptr _ _ _ _ hr⟩;simp[Instr.indexAt,asIntOf,run_underlying hu,Instr.sureAddr,hlt,ck hs,kj]
   cases h
 cases h
theorem Da {s:TypeId} {f:Nat} {x x' v:Value} (hx:VRel ρ x x') (h:rX P s x f=some v) (w:World) :
 ∃v',(Instr.fieldAt s x' f).run P w = .ok v' w/\VRel ρ v v':=by
 unfold rX at h
 split at h
 .
  rename_i fs b off hu;cases hx with
  |
   ptr _ _ r y hr =>
   split at h
   .
    rename_i fd NT;split at h
    .
     rename_i n hn;split at h
     .
      cases h
     rename_i hn0;cases h;exact ⟨_,by simp[Instr.fieldAt,run_underlying hu,NT,Instr.sureAddr,fieldPlace,ck hn,hn0,kj],.ptr _ _ _ _ hr⟩
    cases h
   cases h
 cases h
inductive OR (R:Value->Value->Prop):Option Value->Option Value->Prop where
 |none:OR R .none .none
 |some {v v':Value} (h:R v v'):OR R (.some v) (.some v')
theorem tD {x x':Value} {y n:Nat} {c:BoundsCode} (hx:VRel ρ x x') (h:gQ x y=some n) (w:World):(Instr.sliceBound x' y c).run P w = .ok n w/\n<=y:=by
 unfold gQ at h
 split at h
 .
  split at h
  .
   rename_i hb;cases h;cases hx;exact ⟨by simp[Instr.sliceBound,asIntOf,hb.1,hb.2],by omega⟩
  cases h
 cases h
theorem EN {c:Cx} {H:Mem} {w:World} (he:bg c ρ H w) {t:TypeId} {x x' v:Value} {lo lo' hi hi':Option Value} (hx:VRel ρ x x') (hlo:OR (VRel ρ) lo lo') (hhi:OR (VRel ρ) hi hi') (h:ke c.P H t x lo hi=some v) :
 ∃v',(Instr.sliceAt t x' lo' hi' none).run c.P w = .ok v' w/\VRel ρ v v':=by
 unfold ke at h
 split at h
 .
  rename_i n e b off hu;split at h
  .
   rename_i hN hh;split at h
   .
    rename_i lN hl
    have NU:(match hi' with|some v=>Instr.sliceBound v n .sliceAlen|none=>pure n:Sem Nat).run c.P w = .ok hN w:=by
     cases hhi with
     |none=>simp at hh;subst hh;rfl
     |some hv=>exact (tD hv hh w).1
    have hlr:(match lo' with|some v=>Instr.sliceBound v hN .sliceB|none=>pure 0:Sem Nat).run c.P w = .ok lN w/\lN<=hN:=by
     cases hlo with
     |none=>simp at hl;subst hl;exact ⟨rfl,Nat.zero_le _⟩
     |some hv=>exact tD hv hl w
    have h1:(Instr.sliceBounds false n n lo' hi' none).run c.P w = .ok (lN,hN,n) w:=by
     cases hhi with
     |
      none =>
      simp only[Sem.run_pure,Result.ok.injEq] at NU;cases hlo with
      |
       none =>
       have:=hlr.1;simp only[Sem.run_pure,Result.ok.injEq] at this;simp[Instr.sliceBounds,NU.1,this.1]
      |some hv=>simp[Instr.sliceBounds,NU.1];have:=hlr.1;simp[this]
     |
      some hv' =>
      cases hlo with
      |
       none =>
       have:=hlr.1;simp only[Sem.run_pure,Result.ok.injEq] at this;simp[Instr.sliceBounds,NU,this.1]
      |some hv=>simp[Instr.sliceBounds,NU];have:=hlr.1;simp[this]
    split at h
    .
     rename_i k s hk hs;rw[pick2_eq] at h;split at h
     .
      rename_i JP;cases h;cases hx with
      |
       ptr _ _ r y hr =>
       obtain ⟨ha,hb⟩:=alive_some hk;obtain ⟨r',y',C,fr,s',k1,_,_,_,k5,_⟩:=he.blk b k ha hb;rw[hr] at k1;cases k1;obtain rfl:=k5.2 JP;refine ⟨.slice (some ⟨r,if n=lN then off else off+lN*s,none⟩) (hN-lN) (n-lN+0),?_,?_⟩
       .
        by_cases hm:n=lN
        .
         subst hm;simp[Instr.sliceAt,Instr.sureAddr,run_underlying hu,h1,ck hs]
        simp[Instr.sliceAt,Instr.sureAddr,run_underlying hu,h1,ck hs,hm,kj]
       have e2:pick2 (Nat.beq n lN) off (Nat.add off (Nat.mul lN s))=if n=lN then off else off+lN*s:=by
        rw[pick2_eq];by_cases hm:n=lN
        .
         rw[if_pos (by rw[Nat.beq_eq];exact hm),if_pos hm]
        rw[if_neg (by rw[Nat.beq_eq];exact hm),if_neg hm];rfl
       rw[e2];exact .slice _ _ _ _ _ _ hr
     cases h
    cases h
   cases h
  cases h
 cases h
theorem NV {t:TypeId} {x x' v:Value} {lo lo' hi hi':Option Value} (hx:VRel ρ x x') (hlo:OR (VRel ρ) lo lo') (hhi:OR (VRel ρ) hi hi') (h:ep P t x lo hi=some v) (w:World) :
 ∃v',(Instr.sliceAt t x' lo' hi' none).run P w = .ok v' w/\VRel ρ v v':=by
 unfold ep at h
 split at h
 .
  rename_i e a len cap hu;split at h
  .
   rename_i hN hh;split at h
   .
    rename_i lN hl
    have hbounds:∀Lq,cap<=Lq->(Instr.sliceBounds true len Lq lo' hi' none).run P w = .ok (lN,hN,Lq) w/\lN<=hN:=by
     intro Lq hc
     have NU:(match hi' with|some v=>Instr.sliceBound v Lq .sliceAcap|none=>pure len:Sem Nat).run P w = .ok hN w:=by
      cases hhi with
      |none=>simp at hh;subst hh;rfl
      |
       some hv =>
       rename_i u u';simp only at hh ⊢
       have hh2:gQ u Lq=some hN:=by
        unfold gQ at hh ⊢;split at hh
        .
         split at hh
         .
          rename_i hb;cases hh;rw[if_pos ⟨hb.1,by omega⟩]
         cases hh
        cases hh
       exact (tD hv hh2 w).1
     have hlr:(match lo' with|some v=>Instr.sliceBound v hN .sliceB|none=>pure 0:Sem Nat).run P w = .ok lN w/\lN<=hN:=by
      cases hlo with
      |none=>simp at hl;subst hl;exact ⟨rfl,Nat.zero_le _⟩
      |some hv=>exact tD hv hl w
     refine ⟨?_,hlr.2⟩;cases hhi with
     |
      none =>
      simp only[Sem.run_pure,Result.ok.injEq] at NU;cases hlo with
      |
       none =>
       have:=hlr.1;simp only[Sem.run_pure,Result.ok.injEq] at this;simp[Instr.sliceBounds,NU.1,this.1]
      |some hv=>simp[Instr.sliceBounds,NU.1];have:=hlr.1;simp[this]
     |
      some hv' =>
      cases hlo with
      |
       none =>
       have:=hlr.1;simp only[Sem.run_pure,Result.ok.injEq] at this;simp[Instr.sliceBounds,NU,this.1]
      |some hv=>simp[Instr.sliceBounds,NU];have:=hlr.1;simp[this]
    split at h
    .
     rename_i b off s hs;split at h
     .
      cases h
     rename_i hc;cases h;simp only[not_or] at hc;cases hx with
     |
      slice _ _ _ _ r y hr =>
      obtain ⟨h1,h2⟩:=hbounds (cap+y) (by omega)
      refine ⟨.slice (some ⟨r,off+lN*s,none⟩) (hN-lN) (cap-lN+y),?_,.slice _ _ _ _ _ _ hr⟩;have e1:cap+y-lN=cap-lN+y:=by omega
      by_cases hm:cap+y=lN
      .
       have:lN=0:=by omega
       subst this;obtain rfl:cap=0:=by omega
       obtain rfl:y=0:=by omega
       simp at h1;simp[Instr.sliceAt,Instr.slice,run_underlying hu,h1,ck hs]
      simp[Instr.sliceAt,Instr.slice,run_underlying hu,h1,ck hs,hm,kj,e1]
    .
     rename_i s hs;cases h;cases hx;obtain ⟨h1,h2⟩:=hbounds cap (Nat.le_refl _);exact ⟨_,by simp[Instr.sliceAt,Instr.slice,run_underlying hu,h1,ck hs],.eB _ _⟩
    .
     rename_i b off q s hs;split at h
     case isFalse=>cases h
     rename_i h0;cases h;subst h0;cases hx with
     |
      void a' =>
      obtain ⟨h1,h2⟩:=hbounds 0 (Nat.le_refl _);obtain rfl:lN=0:=by omega
      refine ⟨.slice (some a') 0 0,?_,.void _⟩;simp[Instr.sliceAt,Instr.slice,run_underlying hu,h1,ck hs]
    cases h
   cases h
  cases h
 cases h
theorem JR {t:TypeId} {cs cs':Array Value} {off:Nat} {v:Value} (hc:AR (VRel ρ) cs cs') (h:yg P t cs off=some v) (w:World) :
 ∃v',(part t cs' off).run P w = .ok v' w/\VRel ρ v v':=by
 unfold yg at h
 split at h
 .
  rename_i n ha hs;cases h;refine ⟨.agg (cs'.extract off (off+n)),by simp[part,qK ha,ck hs],.agg _ _ (by simp[hc.1]) λi x y hx hy=>?_⟩
  rw[Array.getElem?_extract] at hx hy;split at hx
  .
   split at hy
   .
    exact hc.2 _ x y hx hy
   cases hy
  cases hx
 .
  rename_i ha;have hlt:off<cs.size:=(Array.getElem?_eq_some_iff.1 h).1;have hlt':off<cs'.size:=hc.1 ▸ hlt;exact ⟨cs'[off],by simp[part,qK ha,hlt'],hc.2 off v _ h (by simp[hlt'])⟩
 cases h
theorem Lr {t:TypeId} {x x' v:Value} {f:Nat} (hx:VRel ρ x x') (h:tj P t x f=some v) (w:World):∃v',(Instr.field t x' f).run P w = .ok v' w/\VRel ρ v v':=by
 unfold tj at h
 split at h
 .
  rename_i fs cs hu;split at h
  .
   rename_i fd NT;cases hx with
   |
    agg _ cs' sa ha =>
    obtain ⟨v',h1,h2⟩:=JR ⟨sa,ha⟩ h w;exact ⟨v',by simp[Instr.field,run_underlying hu,NT,asAgg,h1],h2⟩
  cases h
 cases h
theorem Ls {t:TypeId} {x x' i i' v:Value} (hx:VRel ρ x x') (hi:VRel ρ i i') (h:qG P t x i=some v) (w:World):∃v',(Instr.index t x' i').run P w = .ok v' w/\VRel ρ v v':=by
 unfold qG at h
 split at h
 .
  rename_i len e cs k n hu;split at h
  .
   rename_i s m hs hm;obtain ⟨rfl,hlt⟩:=uX hm;cases hi;cases hx with
   |
    agg _ cs' sa ha =>
    obtain ⟨v',h1,h2⟩:=JR ⟨sa,ha⟩ h w;have h1':(part e cs' (m*s)).run P w = .ok v' w:=h1;exact ⟨v',by simp[Instr.index,asIntOf,run_underlying hu,hlt,ck hs,h1'],h2⟩
  cases h
 cases h
theorem EO {t:TypeId} {x x' i i' v:Value} (hx:VRel ρ x x') (hi:VRel ρ i i') (h:j8 P t x i=some v) (w:World):∃v',(Instr.index t x' i').run P w = .ok v' w/\VRel ρ v v':=by
 unfold j8 at h
 split at h
 .
  rename_i s k m hu;split at h
  .
   rename_i b hb;cases h;cases hx;cases hi;refine ⟨.int .u8 b.toNat,?_,.int _ _⟩
   have hlt:m<s.size:=by
    have:=(List.getElem?_eq_some_iff.1 hb).1;simpa using this
   have hb':s[m]? = some b:=by
    have h2:=(List.getElem?_eq_some_iff.1 hb).2;simp only[Array.getElem_toList] at h2;rw[getElem?_pos s m hlt];exact congrArg some h2
   have h0:(0:Int)<=Int.ofNat m:=Int.natCast_nonneg m;simp[Instr.index,asIntOf,run_underlying hu,hb']
  cases h
 cases h
theorem iS {α:Type}:∀(s:Sem α) {v:α},semPure P s=some v->∀w,s.run P w = .ok v w
 |.pure a,v,h,w=>by simp only[semPure,Option.some.injEq] at h;subst h;rfl
 |.program k,v,h,w=>by simp only[semPure] at h;exact iS (k P) h w
 |.mark _ k,v,h,w=>by simp only[semPure] at h;exact iS k h w
 |.load ..,_,h,_=>by simp[semPure] at h
 |.store ..,_,h,_=>by simp[semPure] at h
 |.new ..,_,h,_=>by simp[semPure] at h
 |.shape ..,_,h,_=>by simp[semPure] at h
 |.freeze ..,_,h,_=>by simp[semPure] at h
 |.frozen ..,_,h,_=>by simp[semPure] at h
 |.getObj ..,_,h,_=>by simp[semPure] at h
 |.setObj ..,_,h,_=>by simp[semPure] at h
 |.choose ..,_,h,_=>by simp[semPure] at h
 |.sys ..,_,h,_=>by simp[semPure] at h
 |.halt ..,_,h,_=>by simp[semPure] at h
theorem pure_ok {o:Oper} {ev ev':Operand->Value} {v:Value} (aA:∀x∈o.op.operands,VRel ρ (ev x) (ev' x)) (h:pureA P ev o=some v) (w:World) :
 (execOp ev' o).run P w = .ok (.value v) w/\VRel ρ v v:=by
 unfold pureA at h
 split at h
 .
  cases h
 rename_i hsel
 split at h
 .
  rename_i hfree;split at h
  .
   rename_i u hu;split at h
   .
    rename_i hf;cases h;refine ⟨?_,aU _ hf⟩
    have hc:execOp ev' o=execOp ev o:=execOp_congr o (λcs b hb=>hsel cs b hb) λx hx=>by
     refine dU (aA x hx) ?_;have:=List.all_eq_true.1 hfree x (by simpa using hx)
     exact this
    rw[hc];exact iS _ hu w
   cases h
  cases h
 cases h
end
end Go.Ev

namespace Go.Ev
open Go.RowKit Go.MapKept
section
variable {c:Cx} {P:Program} {w:World} {ρ:Ren} {H:Mem}
theorem oE {H:Mem} {i:Nat} {b:Blk} (h:mapOf H i=some b):H.get i=some b/\cO b=true:=by
 unfold mapOf at h
 split at h
 .
  rename_i b' hb';rw[pick2_eq] at h;split at h
  .
   cases h;exact ⟨hb',by assumption⟩
  cases h
 cases h
theorem eV:∀a b:List UInt8,iA a b=decide (a=b)
 |[],[]=>by simp[iA]
 |[],_::_=>by simp[iA]
 |_::_,[]=>by simp[iA]
 |
  a::l,b::m=>by
  rw[iA,pick2_eq,eV l m];by_cases h:a.toNat=b.toNat
  .
   rw[if_pos (by simpa[Nat.beq_eq] using h),UInt8.toNat_inj.1 h];simp
  rw[if_neg (by simpa[Nat.beq_eq] using h)]
  have:a≠b:=λe=>h (by rw[e])
  simp[this]
theorem eqI_spec' (a b:Int):eqI a b=(a==b):=by
 unfold eqI
 split
 .
  rename_i m n;rw[Bool.eq_iff_iff];simp[Nat.beq_eq];omega
 .
  rename_i m n;rw[Bool.eq_iff_iff];simp[Nat.beq_eq]
 rename_i h1 h2
 cases a<;>cases b<;>first|(exact absurd rfl (h1 _ _ rfl))|(exact absurd rfl (h2 _ _ rfl))|simp_all
theorem JS {d:TypeDesc} {k q k' q':Value} {r:Bool} (hk:VRel ρ k k') (hq:VRel ρ q q') (h:Ey d k q=some r) :
 Instr.sameNow d k' q'=some r/\(r=true->k'=q')/\IsKey d k':=by
 unfold Ey at h
 split at h
 .
  cases hk;cases hq;rw[pick2_eq] at h;split at h
  .
   rename_i hkk;simp only[Bool.and_eq_true,decide_eq_true_eq] at hkk;obtain ⟨rfl,rfl⟩:=hkk;cases h;rw[eqI_spec'];refine ⟨by simp[Instr.sameNow],λe=>by simp at e;rw[e],rfl⟩
  cases h
 .
  cases hk;cases hq;cases h;rw[eV];refine ⟨?_,λe=>?_,trivial⟩
  .
   rename_i a b;simp only[Instr.sameNow,Option.some.injEq];rw[Bool.eq_iff_iff,bytes_beq];simp only[decide_eq_true_eq]
   constructor
   .
    rintro rfl;rfl
   intro e;obtain ⟨⟨x⟩⟩:=a;obtain ⟨⟨y⟩⟩:=b;simp at e;rw[e]
  rename_i a b;simp only[decide_eq_true_eq] at e;obtain ⟨⟨x⟩⟩:=a;obtain ⟨⟨y⟩⟩:=b;simp at e;rw[e]
 cases h
theorem find_ok {d:TypeDesc} {k k':Value} (hk:VRel ρ k k'):∀(cs:List Value) (es:List MapEntry) (i:Nat) {r:Option (Nat×Value)},LR (VRel ρ) cs (turns es)->lW d k cs i=some r ->
 (r=none/\Instr.findNow d k' es i=some none)\/∃j v e,r=some (i+j,v)/\Instr.findNow d k' es i=some (some (i+j,e.val))/\VRel ρ v e.val/\es[j]? = some e/\e.key=k'/\IsKey d k'
 |[],[],i,r,_,h=>by cases h;exact .inl ⟨rfl,rfl⟩
 |[],e::es,i,r,hl,_=>by have:=hl.1;simp[turns] at this
 |[q],es,i,r,_,h=>by cases h
 |q::v::cs,[],i,r,hl,_=>by have:=hl.1;simp[turns] at this
 |
  q::v::cs,e::es,i,r,hl,h=>by
  have hl':LR (VRel ρ) (q::v::cs) (e.key::e.val::turns es):=hl;obtain ⟨q',t1,e1,hq,hl1⟩:=hl'.pL;cases e1;obtain ⟨v',t2,e2,hv,AF⟩:=hl1.pL;cases e2;unfold lW at h;split at h
  .
   rename_i hs;cases h;obtain ⟨h1,h2,h3⟩:=JS hk hq hs;exact .inr ⟨0,v,e,rfl,by simp[Instr.findNow,h1],hv,rfl,(h2 rfl).symm,h3⟩
  .
   rename_i hs;obtain ⟨h1,_,_⟩:=JS hk hq hs;rcases find_ok hk cs es (i+1) AF h with ⟨rfl,h2⟩|⟨j,v1,e1,rfl,h2,h3,h4,h5,h6⟩
   .
    exact .inl ⟨rfl,by simp[Instr.findNow,h1,h2]⟩
   exact .inr ⟨j+1,v1,e1,by rw[show i+1+j=i+(j+1) by omega],by simp[Instr.findNow,h1,h2];omega,h3,by simpa using h4,h5,h6⟩
  cases h
theorem nQ {kt:TypeId} {d:TypeDesc} (hd:P.underlying kt=some d) (hk:mM d=true) (k:Value) (e:Bool) (n:Nat) (w:World):(Instr.checkKey e (n+1) kt k).run P w = .ok () w:=by
 unfold Instr.checkKey
 simp only[Sem.run_bind,run_underlying hd,Result.andThen]
 cases d<;>first|(cases k<;>rfl)|(simp[mM] at hk;done)
theorem HA (he:bg c ρ H w) {x x':Value} {cs:List Value} (hx:VRel ρ x x') (h:jh H x=some cs) :
 (x' = .map none/\cs=[])\/∃r es clock,x' = .map (some r)/\w.heap[r]? = some (.map es clock)/\LR (VRel ρ) cs (turns es.toList):=by
 unfold jh at h
 split at h
 .
  cases h;cases hx;exact .inl ⟨rfl,rfl⟩
 .
  rename_i i;split at h
  .
   rename_i b hb;cases h;obtain ⟨h1,h2⟩:=oE hb;obtain ⟨r,es,clock,k1,k2,k3,k4⟩:=he.maps i b h1 h2;cases hx with
   |
    map _ r' x hr =>
    rw[k1] at hr;cases hr;exact .inr ⟨r,es,clock,rfl,k3,k4⟩
  cases h
 cases h
theorem look_ok (he:bg c ρ H w) {t:TypeId} {x x' k k' v:Value} {ok:Bool} (hx:VRel ρ x x') (hk:VRel ρ k k') (h:oX c.P H t x k ok=some v) :
 ∃v',(Instr.lookup t x' k' ok).run c.P w = .ok v' w/\VRel ρ v v':=by
 unfold oX at h
 split at h
 .
  rename_i kt e ht;split at h
  .
   rename_i d z cs hd hz hcs;obtain ⟨hz1,hz2,_⟩:=fY hz w;rw[pick2_eq] at h;split at h
   .
    rename_i JT
    have pair:∀{v v':Value} {b:Bool},VRel ρ v v'->VRel ρ (pick2 ok (.tuple #[v,.bool b]) v) (if ok then .tuple #[v',.bool b] else v'):=by
     intro v v' b hv;cases ok with
     |false=>exact hv
     |
      true =>
      refine .tuple _ _ rfl ?_;intro i x y h1 h2;rcases i with _|_|i
      .
       simp at h1 h2;subst h1 h2;exact hv
      .
       simp at h1 h2;subst h1 h2;exact .bool _
      simp at h1
    have run:∀{es:Array MapEntry} {clock:Nat} (hes:LR (VRel ρ) cs (turns es.toList)) (hget:x' = .map none/\es = #[]\/∃r,x' = .map (some r)/\w.heap[r]? = some (.map es clock)),
     ∃v',(Instr.lookup t x' k' ok).run c.P w = .ok v' w/\VRel ρ v v':=by
     intro es clock hes hget;split at h
     .
      rename_i j u hf;rcases find_ok hk cs es.toList 0 hes hf with ⟨h0,_⟩|⟨j',u',e',h0,h1,h2,h3,h4,h5⟩
      .
       cases h0
      cases h0;cases h;refine ⟨_,?_,pair h2⟩;rcases hget with ⟨rfl,rfl⟩|⟨r,rfl,hr⟩
      .
       simp at h3
      simp only[Instr.lookup,Sem.run_bind,run_underlying ht,Go.MapKept.run_getObj_map hr,nQ hd JT,run_findKey hd h1,Sem.run_pure,Result.andThen]
     .
      rename_i hf;rcases find_ok hk cs es.toList 0 hes hf with ⟨_,h1⟩|⟨j',u',e',h0,_⟩
      .
       cases h;refine ⟨_,?_,pair (aU z hz2)⟩;rcases hget with ⟨rfl,rfl⟩|⟨r,rfl,hr⟩
       .
        simp only[Instr.lookup,Sem.run_bind,run_underlying ht,nQ hd JT,run_findKey hd h1,Sem.run_pure,Result.andThen,hz1]
       simp only[Instr.lookup,Sem.run_bind,run_underlying ht,Go.MapKept.run_getObj_map hr,nQ hd JT,run_findKey hd h1,Sem.run_pure,Result.andThen,hz1]
      cases h0
     cases h
    rcases HA he hx hcs with ⟨rfl,rfl⟩|⟨r,es,clock,rfl,hr,hes⟩
    .
     exact run (es := #[]) (clock:=0) .nil (.inl ⟨rfl,rfl⟩)
    exact run hes (.inr ⟨r,rfl,hr⟩)
   cases h
  cases h
 cases h
theorem bg.Xc (he:bg c ρ H w) {t:TypeId} {H':Mem} (hp:H.push ⟨[],t,false,true⟩=some H'):bg c (ρ.put H.size (w.heap.size,0)) H' (w.alloc (.map #[] 0)):=by
 have hle:=he.pN (Nat.le_refl H.size) (w.heap.size,0)
 obtain ⟨q1,q2,q3⟩:=Mem.bf hp
 have Nz:∀{i:Nat} {b:Blk},H'.get i=some b->(i<H.size/\H.get i=some b)\/(i=H.size/\b=⟨[],t,false,true⟩):=by
  intro i b hi;rw[q3] at hi;by_cases h1:i=H.size
  .
   rw[if_pos h1] at hi;cases hi;exact .inr ⟨h1,rfl⟩
  rw[if_neg h1] at hi;exact .inl ⟨Mem.bI hi,hi⟩
 have lt:∀{r:Nat} {o:Obj},w.heap[r]? = some o->r<w.heap.size:=λh=>(Array.getElem?_eq_some_iff.1 h).1
 have JU:∀{i:Nat} {b:Blk},H'.get i=some b->b.live=true->i<H.size/\H.get i=some b:=by
  intro i b hi hl;rcases Nz hi with h1|⟨_,rfl⟩
  .
   exact h1
  cases hl
 refine ⟨he.stay.alloc he.base _,Nat.le_trans he.base (by simp),?_,by rw[q2];exact he.lk,by rw[q1];have:=he.tw;omega,λg hg=>hle _ _ (he.dz g hg),?_,?_,?_,?_⟩
 .
  intro i y hy;rw[q1];by_cases hi:i=H.size
  .
   omega
  rw[Ren.gC ρ _ hi] at hy;have:=he.dom i y hy;omega
 .
  intro i b hi hl;obtain ⟨r',y,D,gr,s',h1,h2,h3,h4,h5,h6,h7⟩:=he.blk i b (JU hi hl).2 hl;exact ⟨r',y,D,gr,s',hle _ _ h1,h2,by rw[Below.heap_alloc _ _ _ (lt h3)];exact h3,h4,h5,h6,h7.1.mono λ_ _=>VRel.mono hle,h7.2⟩
 .
  intro i j bi bj q y z hi AE hj nP hr hr';obtain ⟨k1,k2⟩:=JU hi AE;obtain ⟨k3,k4⟩:=JU hj nP;rw[Ren.gC ρ _ (by omega)] at hr hr'
  exact he.inj i j bi bj q y z k2 AE k4 nP hr hr'
 .
  intro i b hi hm;rcases Nz hi with ⟨hlt,hi'⟩|⟨rfl,rfl⟩
  .
   exact ((he.maps i b hi' hm).heap λr es clock hh=>by rw[Below.heap_alloc _ _ _ (lt hh)];exact hh).mono hle
  exact ⟨w.heap.size,#[],0,Ren.fq _ _ _,he.stay.fresh he.base,by show (w.heap.push _)[w.heap.size]? = _;simp,.nil⟩
 intro i j bi bj q y z hi hmi hj NB hr hr'
 have old:∀{i:Nat} {b:Blk} {q y:Nat},i<H.size->H.get i=some b->cO b=true->(ρ.put H.size (w.heap.size,0)) i=some (q,y)->ρ i=some (q,y)/\q<w.heap.size:=by
  intro i b q y hlt hg hm hr;rw[Ren.gC ρ _ (by omega)] at hr
  obtain ⟨r',es,clock,e1,e2,e3,_⟩:=he.maps i b hg hm;rw[hr] at e1;cases e1;exact ⟨hr,lt e3⟩
 rcases Nz hi with ⟨hlt,hi'⟩|⟨rfl,rfl⟩
 .
  obtain ⟨o1,o2⟩:=old hlt hi' hmi hr;rcases Nz hj with ⟨hlt',hj'⟩|⟨rfl,rfl⟩
  .
   obtain ⟨o3,_⟩:=old hlt' hj' NB hr';exact he.pg i j bi bj q y z hi' hmi hj' NB o1 o3
  rw[Ren.fq] at hr';cases hr';omega
 rcases Nz hj with ⟨hlt',hj'⟩|⟨rfl,rfl⟩
 .
  obtain ⟨_,o2⟩:=old hlt' hj' NB hr';rw[Ren.fq] at hr;cases hr;omega
 rfl
theorem HB (he:bg c ρ H w) {t:TypeId} {r r':Option Value} {v:Value} {H':Mem} (hr:OR (VRel ρ) r r') (h:gz c.P t r H=some (v,H')) :
 ∃ ρ' w' v',ρ.le ρ'/\bg c ρ' H' w'/\VRel ρ' v v'/\(Instr.makeMap t r').run c.P w = .ok v' w':=by
 have fin:∀{H1:Mem},H.push ⟨[],t,false,true⟩=some H1->v = .map (some H.size)->H1=H'->(Instr.makeMap t r').run c.P w = .ok (.map (some w.heap.size)) (w.alloc (.map #[] 0)) ->
  ∃ ρ' w' v',ρ.le ρ'/\bg c ρ' H' w'/\VRel ρ' v v'/\(Instr.makeMap t r').run c.P w = .ok v' w':=by
  rintro H1 hp rfl rfl hrun;exact ⟨_,_,_,he.pN (Nat.le_refl _) _,he.Xc hp,.map _ _ _ (Ren.fq _ _ _),hrun⟩
 unfold gz at h
 split at h
 .
  cases hr;split at h
  .
   rename_i H1 hp;cases h;exact fin hp rfl rfl (by simp[Instr.makeMap,Result.andThen])
  cases h
 .
  rename_i a b k n hu;cases hr with
  |
   some hv =>
   cases hv;split at h
   .
    rename_i H1 hp;cases h;exact fin hp rfl rfl (by simp[Instr.makeMap,run_underlying hu,asInt,asIntOf,Result.andThen])
   cases h
 cases h
theorem Db (a b:List MapEntry):turns (a++b)=turns a++turns b:=by simp[turns]
theorem tE:∀(l:List MapEntry) (j:Nat) (f:MapEntry->MapEntry) (x:Value),(∀e,l[j]? = some e->(f e).key=e.key/\(f e).val=x)->turns (l.modify j f)=(turns l).set (2*j+1) x
 |[],j,f,x,_=>by simp[turns]
 |
  e::l,0,f,x,h=>by
  obtain ⟨h1,h2⟩:=h e rfl;simp[turns,h1,h2]
 |
  e::l,j+1,f,x,h=>by
  have ih:=tE l j f x (λe' he'=>h e' (by simpa using he'))
  have e1:turns (e::l.modify j f)=e.key::e.val::turns (l.modify j f):=rfl;have e2:turns (e::l)=e.key::e.val::turns l:=rfl;rw[List.modify_succ_cons,e1,e2,ih,show 2*(j+1)+1=(2*j+1)+1+1 by omega,List.set_cons_succ,List.set_cons_succ]
theorem bg.NW (he:bg c ρ H w) {i:Nat} {b:Blk} (hi:mapOf H i=some b) {cs:List Value} {H':Mem} (Hx:H.set i { b with cells:=cs }=some H') {r:Nat} {es es':Array MapEntry} {clock clock':Nat}
 (hr:ρ i=some (r,0)) (hB:c.own r) (hw:w.heap[r]? = some (.map es clock)) (hl:LR (VRel ρ) cs (turns es'.toList)):bg c ρ H' (bY w r (.map es' clock')):=by
 obtain ⟨g1,g2⟩:=oE hi
 obtain ⟨e1,e2,e3,e4,e5⟩:=Mem.eC Hx
 have Hy:r<w.heap.size:=(Array.getElem?_eq_some_iff.1 hw).1
 have bl:b.live=false:=by unfold cO at g2;cases hl:b.live with|true=>rw[hl] at g2;cases g2|false=>rfl
 have JU:∀{j:Nat} {bj:Blk},H'.get j=some bj->bj.live=true->H.get j=some bj:=by
  intro j bj hj nP;rw[e5] at hj;by_cases hij:j=i
  .
   rw[if_pos hij] at hj;cases hj;simp only at nP;rw[bl] at nP;cases nP
  rw[if_neg hij] at hj;exact hj
 have atM:∀{j:Nat} {bj:Blk},H'.get j=some bj->cO bj=true->∃b',H.get j=some b'/\cO b'=true/\(j≠i->b'=bj):=by
  intro j bj hj hm;rw[e5] at hj;by_cases hij:j=i
  .
   subst hij;exact ⟨b,g1,g2,λh=>absurd rfl h⟩
  rw[if_neg hij] at hj;exact ⟨bj,hj,hm,λ_=>rfl⟩
 refine ⟨he.stay.ED hB ⟨rfl,rfl,rfl,by simp[bY],λk hk=>bU _ _ _ _ (by have:=hB.1;omega)⟩ (λk hk=>bU _ _ _ _ hk),by simpa[bY] using he.base,λj y hy=>by rw[e3];exact he.dom j y hy,by rw[e4];exact he.lk,by rw[e3];exact he.tw,he.dz,?_,?_,?_,?_⟩
 .
  intro j bj hj nP;obtain ⟨q,y,E,er,s',m1,m2,m3,m4⟩:=he.blk j bj (JU hj nP) nP;exact ⟨q,y,E,er,s',m1,m2,by rw[bU _ _ _ _ (λe=>by subst e;rw[hw] at m3;cases m3)];exact m3,m4⟩
 .
  intro j k bj bk q y z hj nP hk hlk hq hq';exact he.inj j k bj bk q y z (JU hj nP) nP (JU hk hlk) hlk hq hq'
 .
  intro j bj hj hm;obtain ⟨b',h1,h2,h3⟩:=atM hj hm;by_cases hij:j=i
  .
   subst hij;rw[e5,if_pos rfl] at hj;cases hj;exact ⟨r,es',clock',hr,hB,lu _ _ _ Hy,hl⟩
  obtain rfl:=h3 hij;obtain ⟨q,es2,Xd,m1,m2,m3,m4⟩:=he.maps j b' h1 h2;exact ⟨q,es2,Xd,m1,m2,by rw[bU _ _ _ _ (λe=>by subst e;exact hij (he.pg j i b' b _ _ _ h1 h2 g1 g2 m1 hr))];exact m3,m4⟩
 intro j k bj bk q y z hj NB hk hmk hq hq'
 obtain ⟨b1,h1,h2,_⟩:=atM hj NB
 obtain ⟨b2,h3,h4,_⟩:=atM hk hmk
 exact he.pg j k b1 b2 q y z h1 h2 h3 h4 hq hq'
theorem Bm (he:bg c ρ H w) {t:TypeId} {m m' k k' x x' v:Value} {H':Mem} (hm:VRel ρ m m') (hk:VRel ρ k k') (hx:VRel ρ x x') (h:ji c.P t m k x H=some (v,H')) :
 ∃w',bg c ρ H' w'/\(Instr.mapUpdate t m' k' x').run c.P w = .ok () w'/\v=undef:=by
 unfold ji at h
 split at h
 .
  rename_i kt e i ht;split at h
  .
   rename_i d b hd hb;rw[pick2_eq] at h;split at h
   .
    rename_i JT;simp only[Bool.and_eq_true] at JT;obtain ⟨JT,hkf⟩:=JT;have hk':=dU hk hkf;subst hk';obtain ⟨g1,g2⟩:=oE hb;obtain ⟨r,es,clock,k1,k2,k3,k4⟩:=he.maps i b g1 g2;cases hm with
    |
     map _ r' y hr =>
     rw[k1] at hr;cases hr;split at h
     .
      rename_i j u hf;split at h
      .
       rename_i H1 Hx;cases h;rcases find_ok hk b.cells es.toList 0 k4 hf with ⟨h0,_⟩|⟨j',u',e',h0,h1,h2,h3,h4,h5⟩
       .
        cases h0
       rw[Nat.zero_add] at h0 h1;cases h0;have hj:es[j]? = some e':=by simpa using h3
       refine ⟨_,he.NW hb Hx k1 k2 k3 (es':=es.modify j λe=>{ e with key:=k',val:=x' }) (clock':=clock) ?_,?_,rfl⟩
       .
        rw[Array.toList_modify,tE es.toList j _ x' (λe1 NY=>by rw[h3] at NY;cases NY;exact ⟨h4.symm,rfl⟩)]
        exact k4.set _ hx
       simp[Instr.mapUpdate,run_underlying ht,Go.MapKept.run_getObj_map k3,nQ hd JT,run_findKey hd h1,hj,h4,run_keyThatStays h5,run_setObj_map _ k3,Result.andThen,bY]
      cases h
     .
      rename_i hf;split at h
      .
       rename_i H1 Hx;cases h;rcases find_ok hk b.cells es.toList 0 k4 hf with ⟨_,h1⟩|⟨j',u',e',h0,_⟩
       .
        refine ⟨_,he.NW hb Hx k1 k2 k3 (es':=es.push { key:=k',val:=x',born:=clock }) (clock':=clock+1) ?_,?_,rfl⟩
        .
         rw[Array.toList_push,Db];exact k4.append (.cons hk (.cons hx .nil))
        simp[Instr.mapUpdate,run_underlying ht,Go.MapKept.run_getObj_map k3,nQ hd JT,run_findKey hd h1,run_setObj_map _ k3,Result.andThen,bY]
       cases h0
      cases h
     cases h
   cases h
  cases h
 cases h
theorem yC {t:TypeId} {r:Option Value} {v:Value} {H':Mem} (h:gz P t r H=some (v,H')):∃b,H.push b=some H':=by
 unfold gz at h
 split at h
 .
  split at h
  .
   rename_i hp;cases h;exact ⟨_,hp⟩
  cases h
 .
  split at h
  .
   rename_i hp;cases h;exact ⟨_,hp⟩
  cases h
 cases h
theorem rL {t:TypeId} {m k x v:Value} {H':Mem} (h:ji P t m k x H=some (v,H')):∃i b,H.set i b=some H':=by
 unfold ji at h
 split at h
 .
  split at h
  .
   rw[pick2_eq] at h;split at h
   .
    split at h
    .
     split at h
     .
      rename_i hp;cases h;exact ⟨_,_,hp⟩
     cases h
    .
     split at h
     .
      rename_i hp;cases h;exact ⟨_,_,hp⟩
     cases h
    cases h
   cases h
  cases h
 cases h
end
end Go.Ev

namespace Go.Ev
open Go.RowKit
section
variable {c:Cx} {P:Program} {w:World} {ρ:Ren} {H:Mem}
def NZ (c:Cx) (ρ:Ren) (o:Oper) (ev:Operand->Value) (w:World) (v:Value) (H':Mem):Prop :=
 ∃ ρ' w' v',ρ.le ρ'/\bg c ρ' H' w'/\VRel ρ' v v'/\((execOp ev o).run c.P w = .ok (.value v') w'\/((execOp ev o).run c.P w = .ok .skip w'/\v'=undef))
abbrev VN (ρ:Ren) (ev ev':Operand->Value) (o:Op):Prop:=∀x∈o.operands,VRel ρ (ev x) (ev' x)
theorem PR.parts {ev ev':Operand->Value}:∀(l:List (Nat×Operand)),(∀q∈l,VRel ρ (ev q.2) (ev' q.2))->PR (VRel ρ) (l.map λq=>(q.1,ev q.2)) (l.map λq=>(q.1,ev' q.2))
 |[],_=>trivial
 |q::l,h=>⟨rfl,h q (by simp),PR.parts l λx hx=>h x (by simp[hx])⟩
theorem yD {ev ev':Operand->Value} (x:Option Operand) (h:∀y,x=some y->VRel ρ (ev y) (ev' y)):OR (VRel ρ) (x.map ev) (x.map ev'):=by
 cases x with
 |none=>exact .none
 |some y=>exact .some (h y rfl)
theorem AR.map {ev ev':Operand->Value} (xs:Array Operand) (h:∀y∈xs,VRel ρ (ev y) (ev' y)):AR (VRel ρ) (xs.map ev) (xs.map ev') :=
 ⟨by simp,λi x y hx hy=>by
  simp only[Array.getElem?_map,Option.map_eq_some_iff] at hx hy;obtain ⟨q,h1,rfl⟩:=hx;obtain ⟨q',h2,rfl⟩:=hy;rw[h1] at h2;cases h2;exact h q (Array.mem_of_getElem? h1)⟩
theorem av {H H':Mem} {x:Option Value} {v:Value} (h:withMem H x=some (v,H')):x=some v/\H'=H:=by
 cases x with
 |none=>cases h
 |
  some u =>
  have h':some (u,H)=some (v,H'):=h;cases h';exact ⟨rfl,rfl⟩
theorem fZ {x y:Option Value} {v:Value} (h:orElse x y=some v):x=some v\/(x=none/\y=some v):=by
 cases x with
 |none=>exact .inr ⟨rfl,h⟩
 |some u=>exact .inl h
theorem ltI_spec (a b:Int):ltI a b=decide (a<b):=by
 unfold ltI
 split
 .
  rw[fX];rw[decide_eq_decide];simp only[Int.ofNat_eq_natCast];omega
 .
  simp only[Int.ofNat_eq_natCast,Int.negSucc_eq];symm;simp;omega
 .
  simp only[Int.ofNat_eq_natCast,Int.negSucc_eq];symm;simp;omega
 rw[fX];rw[decide_eq_decide];simp only[Int.negSucc_eq];omega
theorem eqI_spec (a b:Int):eqI a b=(a==b):=by
 unfold eqI
 split
 .
  rename_i m n;rw[Bool.eq_iff_iff];simp[Nat.beq_eq];omega
 .
  rename_i m n;rw[Bool.eq_iff_iff];simp[Nat.beq_eq]
 rename_i h1 h2
 cases a<;>cases b
 .
  exact absurd rfl (h1 _ _ rfl)
 .
  rfl
 .
  rfl
 exact absurd rfl (h2 _ _ rfl)
theorem r9 {n:Int} (h:Ex n=true):IntKind.i64.wrap n=n:=by
 refine IntWalk.i64_in n ?_
 unfold Ex at h
 split at h
 .
  simp only[Nat.blt_eq] at h;simp only[Int.ofNat_eq_natCast];omega
 simp only[Nat.blt_eq] at h;simp only[Int.negSucc_eq];omega
theorem Bn (n:Int):forced n=n:=by
 unfold forced
 split<;>rfl
theorem EP {k k':IntKind} (h:Hq k k'=true):k=k':=by
 cases k<;>cases k'<;>first|rfl|(simp[Hq] at h)
theorem ER {op:BinOp} {x y v:Value} (h:yj op x y=some v) (t:TypeId) (p q:Operand) (w:World) :
 (do eqGuard op t p q x y;binOp op t x y:Sem Value).run P w = .ok v w/\addrFree v=true/\addrFree x=true/\addrFree y=true:=by
 unfold yj at h
 split at h
 .
  rename_i k a k' b;rw[pick2_eq] at h;split at h
  .
   rename_i hk;have:=EP hk;subst this
   have hg:(eqGuard op t p q (.int k a) (.int k b)).run P w = .ok () w:=by
    unfold eqGuard;cases op<;>rfl
   refine ⟨?_,?_,rfl,rfl⟩
   .
    simp only[Sem.run_bind,hg,Result.andThen_ok];split at h
    .
     rename_i u hu;cases h;unfold JM at hu
     have n1:∀a b:Int,(!decide (b<a))=decide (a<=b):=λa b=>by
      rw[Bool.eq_iff_iff];simp
     cases op<;>cases hu<;>simp[binOp,Op.intCmp,ltI_spec,eqI_spec,bne,n1]
    split at h
    .
     rename_i n hn;cases h;unfold JN at hn;split at hn
     .
      rw[pick2_eq] at hn;split at hn
      .
       rename_i hr;cases hn;have e:IntKind.i64.wrap (a+b)=a+b:=r9 hr;have e2:Int.add a b=a+b:=rfl;simp[binOp,Op.intArith,Bn,e]
      cases hn
     .
      rw[pick2_eq] at hn;split at hn
      .
       rename_i hr;cases hn;have e:IntKind.i64.wrap (a-b)=a-b:=r9 hr;have e2:Int.sub a b=a-b:=rfl;simp[binOp,Op.intArith,Bn,e,e2]
      cases hn
     cases hn
    cases h
   split at h
   .
    cases h;rfl
   split at h
   .
    cases h;rfl
   cases h
  cases h
 cases h
theorem kJ {t:TypeId} {x y:Value} {b:Bool} {op:BinOp} {v:Value} (p q:Operand) (w:World) (hg:∀op,(eqGuard op t p q x y).run P w = .ok () w) (he:(Op.equalIn 10000 t x y).run P w = .ok b w)
 (h1:binOp .eql t x y=do pure (.bool (<- Op.equal t x y))) (h2:binOp .neq t x y=do pure (.bool (!(<- Op.equal t x y))))
 (h:(op = .eql/\v = .bool b)\/(op = .neq/\v = .bool !b)):(do eqGuard op t p q x y;binOp op t x y:Sem Value).run P w = .ok v w:=by
 have he':(Op.equal t x y).run P w = .ok b w:=he
 rcases h with ⟨rfl,rfl⟩|⟨rfl,rfl⟩
 .
  simp only[Sem.run_bind,hg,Result.andThen_ok,h1,he',Sem.run_pure]
 simp only[Sem.run_bind,hg,Result.andThen_ok,h2,he',Sem.run_pure]
theorem SS {op:BinOp} {x y v x' y':Value} {t:TypeId} (hx:VRel ρ x x') (hy:VRel ρ y y') (h:nJ P op t x y=some v) (p q:Operand) (w:World) :
 (do eqGuard op t p q x' y';binOp op t x' y':Sem Value).run P w = .ok v w/\addrFree v=true:=by
 unfold nJ at h
 split at h
 .
  rename_i a b hu;cases hx;cases hy
  have e:(Op.equalIn (9999+1) t (.bool a) (.bool b)).run P w = .ok (a==b) w:=by
   unfold Op.equalIn;simp[run_underlying hu]
  have hg:∀op,(eqGuard op t p q (.bool a) (.bool b)).run P w = .ok () w:=λop=>by unfold eqGuard;cases op<;>rfl
  split at h
  .
   cases h;refine ⟨kJ p q w hg e rfl rfl (.inl ⟨rfl,?_⟩),rfl⟩;cases a<;>cases b<;>rfl
  .
   cases h;refine ⟨kJ p q w hg e rfl rfl (.inr ⟨rfl,?_⟩),rfl⟩;cases a<;>cases b<;>rfl
  cases h
 .
  rename_i l cc l2 c2 hu;cases hx with
  |
   void a' =>
   cases hy with
   |
    eB _ _ =>
    have e:(Op.equalIn (9999+1) t (.slice (some a') 0 0) (.slice none l2 c2)).run P w = .ok false w:=by
     unfold Op.equalIn;simp[run_underlying hu]
    have hg:∀op,(eqGuard op t p q (.slice (some a') 0 0) (.slice none l2 c2)).run P w = .ok () w:=λop=>by unfold eqGuard;cases op<;>rfl
    split at h
    .
     cases h;exact ⟨kJ p q w hg e rfl rfl (.inl ⟨rfl,rfl⟩),rfl⟩
    .
     cases h;exact ⟨kJ p q w hg e rfl rfl (.inr ⟨rfl,rfl⟩),rfl⟩
    cases h
  |
   slice i off _ _ r y2 hr =>
   cases hy with
   |
    eB _ _ =>
    have e:(Op.equalIn (9999+1) t (.slice (some ⟨r,off,none⟩) l (cc+y2)) (.slice none l2 c2)).run P w = .ok false w:=by
     unfold Op.equalIn;simp[run_underlying hu]
    have hg:∀op,(eqGuard op t p q (.slice (some ⟨r,off,none⟩) l (cc+y2)) (.slice none l2 c2)).run P w = .ok () w:=λop=>by unfold eqGuard;cases op<;>rfl
    split at h
    .
     cases h;exact ⟨kJ p q w hg e rfl rfl (.inl ⟨rfl,rfl⟩),rfl⟩
    .
     cases h;exact ⟨kJ p q w hg e rfl rfl (.inr ⟨rfl,rfl⟩),rfl⟩
    cases h
 .
  rename_i hu;cases hx with
  |
   ptr i off r y2 hr =>
   cases hy with
   |
    pK =>
    have e:(Op.equalIn (9999+1) t (.pointer (some ⟨r,off,none⟩)) (.pointer none)).run P w = .ok false w:=by
     unfold Op.equalIn;simp[run_underlying hu]
    have hg:∀op,(eqGuard op t p q (.pointer (some ⟨r,off,none⟩)) (.pointer none)).run P w = .ok () w:=λop=>by unfold eqGuard;cases op<;>rfl
    split at h
    .
     cases h;exact ⟨kJ p q w hg e rfl rfl (.inl ⟨rfl,rfl⟩),rfl⟩
    .
     cases h;exact ⟨kJ p q w hg e rfl rfl (.inr ⟨rfl,rfl⟩),rfl⟩
    cases h
 .
  rename_i te i a j b hu;rw[pick2_eq] at h;split at h
  .
   rename_i hc;simp only[Bool.and_eq_true,Nat.beq_eq] at hc;obtain ⟨⟨rfl,rfl⟩,hsz⟩:=hc;cases hx with
   |
    ptr _ _ r y hr =>
    cases hy with
    |
     ptr _ _ r2 y2 Sx =>
     rw[hr] at Sx;cases Sx
     have e:(Op.equalIn (9999+1) t (.pointer (some ⟨r,a,none⟩)) (.pointer (some ⟨r,a,none⟩))).run P w = .ok true w:=by
      obtain ⟨n,hn⟩:=Option.isSome_iff_exists.1 hsz;obtain ⟨inf,hi,_⟩:=Option.map_eq_some_iff.1 hn;unfold Op.equalIn;simp[run_underlying hu,sizeOf,typeInfo,hi,run_sameAddr_same]
     have hg:∀op,(eqGuard op t p q (.pointer (some ⟨r,a,none⟩)) (.pointer (some ⟨r,a,none⟩))).run P w = .ok () w:=λop=>by unfold eqGuard;cases op<;>rfl
     split at h
     .
      cases h;exact ⟨kJ p q w hg e rfl rfl (.inl ⟨rfl,rfl⟩),rfl⟩
     .
      cases h;exact ⟨kJ p q w hg e rfl rfl (.inr ⟨rfl,rfl⟩),rfl⟩
     cases h
  cases h
 .
  rename_i hu;cases hx;cases hy
  have e:(Op.equalIn (9999+1) t (.pointer none) (.pointer none)).run P w = .ok true w:=by
   unfold Op.equalIn;simp[run_underlying hu]
  have hg:∀op,(eqGuard op t p q (.pointer none) (.pointer none)).run P w = .ok () w:=λop=>by unfold eqGuard;cases op<;>rfl
  split at h
  .
   cases h;exact ⟨kJ p q w hg e rfl rfl (.inl ⟨rfl,rfl⟩),rfl⟩
  .
   cases h;exact ⟨kJ p q w hg e rfl rfl (.inr ⟨rfl,rfl⟩),rfl⟩
  cases h
 cases h
theorem Bo {d:TypeId} {x x' v:Value} (hx:VRel ρ x x') (h:gS P d x=some v) (s:TypeId) (hs:∃q,P.underlying s=some q) (w:World):(convert s d x').run P w = .ok v w/\addrFree v=true:=by
 obtain ⟨q,hq⟩:=hs
 unfold gS at h
 split at h
 .
  rename_i n hu;cases hx;rw[pick2_eq] at h;split at h
  .
   rename_i hn;cases h;refine ⟨?_,rfl⟩;have hn':n<=255:=by simpa[Nat.ble_eq] using hn
   have e:IntKind.i64.wrap (n:Int)=n:=IntWalk.i64_in _ (by omega)
   simp[convert,run_underlying hq,run_underlying hu,Conv.intToInt,e]
  cases h
 .
  rename_i n hu;cases hx;rw[pick2_eq] at h;split at h
  .
   rename_i hn;cases h;refine ⟨?_,rfl⟩;simp[convert,run_underlying hq,run_underlying hu,Conv.intToInt,r9 hn]
  cases h
 cases h
theorem abR:Extern.allNextRows.lookup "internal/abi.NoEscape" = none:=by kernel_rfl
theorem VO:Extern.allNextRows.lookup "" = none:=by kernel_rfl
theorem af7:Extern.allGenericRows.lookup "internal/abi.NoEscape" = none:=by kernel_rfl
theorem af8:Extern.allTypedRows.lookup "internal/abi.NoEscape" = none:=by kernel_rfl
theorem af9:Extern.allRows.lookup "internal/abi.NoEscape" = some Extern.AbiNoEscape.same:=by kernel_rfl
theorem yE {o:Oper} {ev':Operand->Value} {f y:Operand} {ats:Array TypeId} {id:FuncId} {fn:Func} (hop:o.op = .call { callee:=.value f,args := #[y],argTypes:=ats }) (hg:ev' f = .func (.func id) #[] #[]) (hfn:c.P.funcs[id]? = some fn) (hb:¬fn.body.isSome=true) (hname:fn.name = "internal/abi.NoEscape") (N3:fn.origin = "") (w:World) :
 (execOp ev' o).run c.P w = .ok (.value (ev' y)) w:=by
 have hb':fn.body.isNone=true:=by simpa using hb
 have e1:Extern.findNext fn=none:=by
  simp only[Extern.findNext,hname,N3];rw[abR,VO];rfl
 have e2:Extern.find fn=some Extern.AbiNoEscape.same:=by
  simp only[Extern.find,hname,N3];rw[af7,af8,af9];rfl
 have hn:¬(fn.name = "runtime.NumGoroutine"):=by rw[hname];decide
 have EK:fn.body=none:=by simpa using hb'
 simp only[execOp,hop,resolve,Deferred.ofValue,hg,invoke,callFunc]
 have e3:Extern.AbiNoEscape.same #[ev' y]=pure (ev' y):=rfl
 simp[hfn,hn,EK,e1,e2,e3]
set_option maxHeartbeats 1000000 in
theorem bg.freeze {c:Cx} {ρ:Ren} {H H':Mem} {w:World} (he:bg c ρ H w) {i r x n:Nat} {b:Blk} (hi:alive H i=some b) (hk:Ev.kill H i=some H') (hr:ρ i=some (r,x)):bg c ρ H' (w.freeze ⟨r,0,none⟩ n):=by
 have hk2:=he.kill hk
 obtain ⟨k1,k2,k3,k4⟩:=iQ hk
 obtain ⟨hg,hl⟩:=alive_some hi
 have hB:c.own r:=by
  obtain ⟨r',x',C,fr,s,h1,h2,_⟩:=he.blk i b hg hl;rw[hr] at h1;cases h1;rcases h2 with h2|h2
  .
   exfalso;unfold Ev.kill at hk;rw[hg] at hk;obtain ⟨_,h3,_⟩:=Mem.eC hk;have:=he.lk;omega
  exact h2
 refine ⟨hk2.stay.ED hB (Lib.below_freeze (Below.refl _ _) (p:=⟨r,0,none⟩) hB.1 n) (λk hk=>gD _ _ _ _ hk),by rw[wE];exact hk2.base,hk2.dom,hk2.lk,hk2.tw,hk2.dz,λj b' hj hl'=>?_,hk2.inj,λj b' hj hm=>(hk2.maps j b' hj hm).heap λq es clock hh=>by
  obtain ⟨r',x',C,fr,s,h1,h2,h3,_⟩:=he.blk i b hg hl;rw[hr] at h1;cases h1;rw[gD _ _ _ _ (λe=>by subst e;rw[h3] at hh;cases hh)];exact hh,hk2.pg⟩
 obtain ⟨r',x',C,fr,s,h1,h2,h3,h4⟩:=hk2.blk j b' hj hl'
 obtain ⟨hj0,hne⟩:=k3 j b' hj (.inl hl')
 have VM:r'≠r:=λe=>hne (by subst e;exact he.inj j i b' b r' x' x hj0 hl' hg hl h1 hr)
 exact ⟨r',x',C,fr,s,h1,h2,by rw[gD _ _ _ _ VM];exact h3,h4⟩
theorem Bq:∀{cs:List Value} {acc s:ByteArray},cs.all tq=true->lS cs acc=some s->∃l:List UInt8,cs=l.map (λb=>Value.int .u8 b.toNat)/\s.data.toList=acc.data.toList++l
 |[],acc,s,_,h=>by cases h;exact ⟨[],rfl,by simp⟩
 |
  v::cs,acc,s,ha,h=>by
  simp only[List.all_cons,Bool.and_eq_true] at ha;obtain ⟨h1,h2⟩:=ha;unfold tq at h1;split at h1
  .
   rename_i n;have hn:n<=255:=Nat.le_of_ble_eq_true h1;simp only[lS,xL] at h;obtain ⟨l,e1,e2⟩:=Bq h2 h;refine ⟨UInt8.ofNat n::l,?_,?_⟩
   .
    rw[e1];simp only[List.map_cons,List.cons.injEq,Value.int.injEq,true_and,and_true];have:(UInt8.ofNat n).toNat=n:=by simp[UInt8.toNat_ofNat'];omega
    rw[this];rfl
   rw[e2];simp
  cases h1
theorem SU {c:Cx} {ρ:Ren} {H H':Mem} {w:World} (he:bg c ρ H w) {pt:TypeId} {p p' n n' v:Value} (hp:VRel ρ p p') (hn:VRel ρ n n') (h:yo c.P H pt p n=some (v,H')) (it ty:TypeId) :
 ∃w' v',bg c ρ H' w'/\VRel ρ v v'/\(Builtin.unsafeString_ #[pt,it] ty #[p',n']).run c.P w = .ok v' w':=by
 unfold yo at h
 split at h
 .
  rename_i a;cases h;cases hn;have hp':∃a',p' = .pointer a':=by cases hp<;>exact ⟨_,rfl⟩
  obtain ⟨a',rfl⟩:=hp';exact ⟨w,_,he,.string _,Lib.run_unsafeString_none w pt it ty a'⟩
 .
  rename_i i m e hu;split at h
  .
   rename_i b cs hb hcs;rw[pick2_eq] at h;split at h
   .
    rename_i hc;simp only[Bool.and_eq_true,Nat.beq_eq,beq_iff_eq] at hc;obtain ⟨⟨⟨hel,hce⟩,hm⟩,hall⟩:=hc;have hm:=Nat.le_of_ble_eq_true hm;split at h
    .
     rename_i s H1 hs hk;cases h;cases hn;cases hp with
     |
      ptr _ _ r y hr =>
      obtain ⟨l',h1,h2,h3⟩:=he.read hr hcs;obtain ⟨l,e1,e2⟩:=Bq hall hs
      have hlen:l.length=m+1:=by
       have:cs.length=m+1:=h2;rw[e1] at this;simpa using this
      obtain ⟨hg,hl⟩:=alive_some hb;obtain ⟨r',y',C,fr,sz,k1,k2,k3,k4,k5,k6,k7⟩:=he.blk i b hg hl;rw[hr] at k1;cases k1
      have hsl:s=⟨l.toArray⟩:=by
       cases s with
       |
        mk d =>
        have:d.toList=l:=by simpa using e2
        rw[<-this]
      refine ⟨w.freeze ⟨r,0,none⟩ (m+1),_,he.freeze hb hk hr,.string _,?_⟩
      have hlc:l.length<=C.size:=by
       unfold bT at hcs;rw[hb] at hcs;simp only at hcs;split at hcs
       .
        rename_i hle;omega
       cases hcs
      have hrun:=Lib.run_unsafeString_row (P:=c.P) w pt it ty e hu hce r C.size (by simp[World.shape?,k3,hel]) l (by intro h0;rw[h0] at hlen;simp at hlen) hlc (by omega) (λj x hx=>by
       have hj:cs[j]? = some (.int .u8 x.toNat):=by rw[e1];simp[hx]
       obtain ⟨z,hz,hzr⟩:=h1.get hj;cases hzr;have:=h3 j _ hz;exact this)
      rw[hlen] at hrun;rw[hsl];exact hrun
    cases h
   cases h
  cases h
 cases h
theorem Xe (he:bg c ρ H w) {call:aN} {o:Oper} {ev ev':Operand->Value} (aA:VN ρ ev ev' o.op) (hnc:∀cl,o.op = .call cl->∀f,cl.callee = .value f->jC c.P call (ev f) (cl.args.toList.map ev) H=none) {v:Value} {H':Mem} (h:opA c.P call ev o H=some (v,H')) :
 NZ c ρ o ev' w v H':=by
 have hpure:∀{v:Value},pureA c.P ev o=some v->NZ c ρ o ev' w v H:=by
  intro v hu;obtain ⟨h1,h2⟩:=pure_ok (P:=c.P) aA hu w;exact ⟨ρ,w,_,Ren.le_refl _,he,h2,.inl h1⟩
 have same:∀{v v':Value},VRel ρ v v'->(execOp ev' o).run c.P w = .ok (.value v') w->NZ c ρ o ev' w v H:=λh1 h2=>⟨ρ,w,_,Ren.le_refl _,he,h1,.inl h2⟩
 unfold opA at h
 split at h
 case h_1 x hop =>
  cases h;exact same (aA x (by simp[hop,Op.operands])) (by simp[execOp,hop])
 case h_2 x hop =>
  cases h;exact same (aA x (by simp[hop,Op.operands])) (by simp[execOp,hop])
 case h_3 cc x y hop =>
  unfold yl at h;split at h
  .
   rename_i t hc;cases h;have hcc:=aA cc (by simp[hop,Op.operands])
   rw[hc] at hcc;generalize hq:ev' cc=q at hcc;cases hcc;refine same (v':=if t then ev' x else ev' y) ?_ (by simp[execOp,hop,hq,asBool])
   cases t
   .
    exact aA y (by simp[hop,Op.operands])
   exact aA x (by simp[hop,Op.operands])
  cases h
 case h_4 op t x y yt hop =>
  unfold pF at h;obtain ⟨tF,rfl⟩:=av h;have hx:=aA x (by simp[hop,Op.operands])
  have hy:=aA y (by simp[hop,Op.operands])
  rcases fZ tF with h|⟨_,h⟩
  .
   obtain ⟨h1,h2,h3,h4⟩:=ER (P:=c.P) h t x y w;rw[<-dU hx h3,<-dU hy h4] at h1;refine same (aU _ h2) ?_;simp only[execOp,hop];rw[Sem.run_bind,h1];rfl
  rcases fZ h with h|⟨_,h⟩
  .
   obtain ⟨h1,h2⟩:=SS (P:=c.P) hx hy h x y w;refine same (aU _ h2) ?_;simp only[execOp,hop];rw[Sem.run_bind,h1];rfl
  exact hpure h
 case h_5 t hop =>
  obtain ⟨ρ',w',v',h1,h2,h3,h4⟩:=NH he h;exact ⟨ρ',w',v',h1,h2,h3,.inl (by simp[execOp,hop,h4])⟩
 case h_6 t x hop =>
  obtain ⟨ρ',w',v',h1,h2,h3,h4⟩:=W6 he (aA x (by simp[hop,Op.operands])) h
  exact ⟨ρ',w',v',h1,h2,h3,.inl (by simp[execOp,hop,h4])⟩
 case h_7 t ps hop =>
  obtain ⟨hu,rfl⟩:=av h;have hp:=PR.parts (ev:=ev) (ev':=ev') ps.toList λq hq=>aA q.2 (by simp[hop,Op.operands];exact ⟨q.1,by simpa using hq⟩)
  obtain ⟨v',h1,h2⟩:=NJ hp hu w;refine same h2 ?_;have e1:(ps.map λq=>(q.1,ev' q.2))=(ps.toList.map λq=>(q.1,ev' q.2)).toArray:=by apply Array.ext';simp
  simp only[execOp,hop];simp only[Sem.run_bind]
  have:(Instr.build t (ps.map λ(i,x)=>(i,ev' x))).run c.P w = .ok v' w:=by
   rw[<-h1,<-e1]
  rw[this];rfl
 case h_8 t len ps hop =>
  have hp:=PR.parts (ev:=ev) (ev':=ev') ps.toList λq hq=>aA q.2 (by simp[hop,Op.operands];exact ⟨q.1,by simpa using hq⟩)
  obtain ⟨ρ',w',v',h1,h2,h3,h4⟩:=AQ he hp h;refine ⟨ρ',w',v',h1,h2,h3,.inl ?_⟩;have e1:(ps.map λq=>(q.1,ev' q.2))=(ps.toList.map λq=>(q.1,ev' q.2)).toArray:=by apply Array.ext';simp
  simp only[execOp,hop];simp only[Sem.run_bind]
  have:(Instr.buildSlice t len (ps.map λ(i,x)=>(i,ev' x))).run c.P w = .ok v' w':=by
   rw[<-h4,<-e1]
  rw[this];rfl
 case h_9 t x hop =>
  obtain ⟨hu,rfl⟩:=av h;obtain ⟨v',h1,h2⟩:=JQ he (aA x (by simp[hop,Op.operands])) hu
  exact same h2 (by simp[execOp,hop,h1])
 case h_10 t x y hop =>
  unfold jY at h;split at h
  .
   rename_i H1 hu;cases h;obtain ⟨w',h1,h2⟩:=NG he (aA x (by simp[hop,Op.operands])) (aA y (by simp[hop,Op.operands])) hu
   exact ⟨ρ,w',undef,Ren.le_refl _,h2,.undef,.inr ⟨by simp[execOp,hop,h1],rfl⟩⟩
  cases h
 case h_11 x hop =>
  have hx:=aA x (by simp[hop,Op.operands])
  unfold lU at h;split at h
  .
   rename_i q hq;cases h;rw[hq] at hx;generalize hq':ev' x=q' at hx;cases hx with
   |ptr i off r y hr=>exact same (.ptr _ _ _ _ hr) (by simp[execOp,hop,hq'])
  .
   rename_i f p1 p2 hq;cases h;rw[hq] at hx;generalize hq':ev' x=q' at hx;cases hx with
   |func _ _ a' _ b' sa ha sb hb=>exact same (.func _ _ a' _ b' sa ha sb hb) (by simp[execOp,hop,hq'])
  cases h
 case h_12 s x f hop =>
  obtain ⟨hu,rfl⟩:=av h;obtain ⟨v',h1,h2⟩:=Da (P:=c.P) (aA x (by simp[hop,Op.operands])) hu w
  exact same h2 (by simp[execOp,hop,h1])
 case h_13 t x ix hop =>
  obtain ⟨hu,rfl⟩:=av h;obtain ⟨v',h1,h2⟩:=Xb (P:=c.P) (aA x (by simp[hop,Op.operands])) (aA ix (by simp[hop,Op.operands])) hu w
  exact same h2 (by simp[execOp,hop,h1])
 case h_14 x k hop =>
  have hx:=aA x (by simp[hop,Op.operands])
  unfold lI at h;split at h
  .
   rename_i vs hq;obtain ⟨hu,rfl⟩:=av h;rw[hq] at hx;generalize hq':ev' x=q' at hx;cases hx with
   |
    tuple _ vs' sa ha =>
    have hu':vs[k]? = some v:=by simpa using hu
    have hlt:k<vs.size:=(Array.getElem?_eq_some_iff.1 hu').1;have hlt':k<vs'.size:=sa ▸ hlt;exact same (v':=vs'[k]) (ha k _ _ hu' (by simp[hlt'])) (by simp[execOp,hop,hq',Instr.extract,hlt'])
  cases h
 case h_15 t l cp hop =>
  obtain ⟨ρ',w',v',h1,h2,h3,h4⟩:=C7 he (aA l (by simp[hop,Op.operands])) (aA cp (by simp[hop,Op.operands])) h
  exact ⟨ρ',w',v',h1,h2,h3,.inl (by simp[execOp,hop,h4])⟩
 case h_16 fn first captured hop =>
  cases h;have h1:=AR.map (ev:=ev) (ev':=ev') first λy hy=>aA y (by simp[hop,Op.operands,hy])
  have h2:=AR.map (ev:=ev) (ev':=ev') captured λy hy=>aA y (by simp[hop,Op.operands,hy])
  exact same (.func fn _ _ _ _ h1.1 h1.2 h2.1 h2.2) (by simp[execOp,hop,Instr.makeFunc])
 case h_17 t x lo hi hop =>
  unfold jg at h;rw[pick2_eq] at h;split at h
  .
   obtain ⟨tF,rfl⟩:=av h;have hlo:=yD (ev:=ev) (ev':=ev') lo λy hy=>aA y (by simp[hop,Op.operands,hy])
   have hhi:=yD (ev:=ev) (ev':=ev') hi λy hy=>aA y (by simp[hop,Op.operands,hy])
   obtain ⟨v',h1,h2⟩:=EN he (aA x (by simp[hop,Op.operands])) hlo hhi tF
   exact same h2 (by simp[execOp,hop,h1])
  obtain ⟨tF,rfl⟩:=av h;rcases fZ tF with h|⟨_,h⟩
  .
   have hlo:=yD (ev:=ev) (ev':=ev') lo λy hy=>aA y (by simp[hop,Op.operands,hy])
   have hhi:=yD (ev:=ev) (ev':=ev') hi λy hy=>aA y (by simp[hop,Op.operands,hy])
   obtain ⟨v',h1,h2⟩:=NV (P:=c.P) (aA x (by simp[hop,Op.operands])) hlo hhi h w
   exact same h2 (by simp[execOp,hop,h1])
  exact hpure h
 case h_18 t x f hop =>
  obtain ⟨hu,rfl⟩:=av h;obtain ⟨v',h1,h2⟩:=Lr (P:=c.P) (aA x (by simp[hop,Op.operands])) hu w
  exact same h2 (by simp[execOp,hop,h1])
 case h_19 t x ix hop =>
  unfold CO at h;obtain ⟨tF,rfl⟩:=av h;rcases fZ tF with h|⟨_,h⟩
  .
   obtain ⟨v',h1,h2⟩:=EO (P:=c.P) (aA x (by simp[hop,Op.operands])) (aA ix (by simp[hop,Op.operands])) h w
   exact same h2 (by simp[execOp,hop,h1])
  rcases fZ h with h|⟨_,h⟩
  .
   obtain ⟨v',h1,h2⟩:=Ls (P:=c.P) (aA x (by simp[hop,Op.operands])) (aA ix (by simp[hop,Op.operands])) h w
   exact same h2 (by simp[execOp,hop,h1])
  exact hpure h
 case h_20 s d x hop =>
  unfold eu at h;split at h
  .
   rename_i u hu;cases h;rcases fZ hu with hu|⟨_,hu⟩
   .
    split at hu
    .
     rename_i q hq;obtain ⟨h1,h2⟩:=Bo (P:=c.P) (aA x (by simp[hop,Op.operands])) hu s ⟨q,hq⟩ w
     exact same (aU _ h2) (by simp[execOp,hop,h1])
    cases hu
   exact hpure hu
  obtain ⟨ρ',w',v',h1,h2,h3,h4⟩:=Hz he (aA x (by simp[hop,Op.operands])) h
  exact ⟨ρ',w',v',h1,h2,h3,.inl (by simp[execOp,hop,h4])⟩
 case h_21 cl hop =>
  unfold bp at h;split at h
  .
   rename_i f hf;rw[hnc cl hop f hf] at h;simp only at h;have hfr:=aA f (by simp[hop,hf,Op.operands,Call.operands])
   obtain ⟨callee,args,ats⟩:=cl;simp only at hf h;subst hf;unfold ym at h;split at h
   .
    rename_i x hx;rw[pick2_eq] at h;split at h
    .
     rename_i hsame;simp only[Option.some.injEq,Prod.mk.injEq] at h;obtain ⟨hvx,rfl⟩:=h
     obtain ⟨y,hy,rfl⟩:∃y,args = #[y]/\ev y=v:=by
      have:args.toList.length=1:=by have:=congrArg List.length hx;simpa using this
      match hl:args.toList,this with
      |
       [y],_ =>
       rw[hl] at hx;exact ⟨y,by rw[<-Array.toArray_toList (xs:=args),hl],by rw[<-hvx];simpa using hx⟩
     subst hy;unfold pH at hsame;split at hsame
     .
      rename_i id Sy;split at hsame
      .
       rename_i fn hfn;rw[pick2_eq] at hsame;split at hsame
       .
        cases hsame
       rename_i hb;rw[Sy] at hfr;generalize hg':ev' f=g' at hfr;cases hfr with
       |
        func _ _ first' _ captured' s1 _ s2 _ =>
        have e1:first' = #[]:=Array.eq_empty_of_size_eq_zero (by simpa using s1.symm)
        have e2:captured' = #[]:=Array.eq_empty_of_size_eq_zero (by simpa using s2.symm)
        subst e1 e2;have hname:fn.name = "internal/abi.NoEscape" /\ fn.origin = "" := by simpa using hsame
        refine same (aA y (by simp[hop,Op.operands,Call.operands])) ?_
        exact yE hop hg' hfn hb hname.1 hname.2 w
      cases hsame
     cases hsame
    obtain ⟨hu,rfl⟩:=av h;exact hpure hu
   obtain ⟨hu,rfl⟩:=av h;exact hpure hu
  .
   rename_i b hb;obtain ⟨callee,args,ats⟩:=cl;simp only at hb;subst hb;have iw:∀x∈args,VRel ρ (ev x) (ev' x):=λx hx=>aA x (by simp[hop,Op.operands,Call.operands];exact hx)
   unfold lJ at h;split at h
   .
    unfold tn at h;split at h
    .
     rename_i x t hx0 Sz;simp only at hx0 Sz;obtain ⟨tF,rfl⟩:=av h;rcases fZ tF with h|⟨_,h⟩
     .
      have hx:=iw x (Array.mem_of_getElem? hx0);unfold nu at h;split at h
      .
       rename_i e q n cc hu hq;cases h;rw[hq] at hx
       have hlen:∃q' c',ev' x = .slice q' n c':=by
        generalize ev' x=z at hx;cases hx<;>exact ⟨_,_,rfl⟩
       obtain ⟨q',c',hq'⟩:=hlen;exact same (.int _ _) (by simp[execOp,hop,resolve,invoke,builtin,Builtin.len_,Sz,hx0,run_underlying hu,hq',goInt])
      .
       rename_i s hu hq;cases h;rw[hq] at hx
       have hq':ev' x = .string s:=by
        generalize ev' x=z at hx;cases hx;rfl
       exact same (.int _ _) (by simp[execOp,hop,resolve,invoke,builtin,Builtin.len_,Sz,hx0,run_underlying hu,hq',goInt])
      cases h
     exact hpure h
    cases h
   .
    unfold lV at h;split at h
    .
     rename_i s x st xt hs0 hx0 hst Hl;have h1:=iw s (Array.mem_of_getElem? hs0);have h2:=iw x (Array.mem_of_getElem? hx0);obtain ⟨ρ',w',v',k1,k2,k3,k4⟩:=Lp (ty:=o.type) (as:=args.map ev') he hst Hl (by simp[hs0]) (by simp[hx0]) h1 h2 h
     exact ⟨ρ',w',v',k1,k2,k3,.inl (by simp[execOp,hop,resolve,invoke,builtin,k4])⟩
    cases h
   .
    unfold uR at h;split at h
    .
     rename_i d x dt Xf hx0 hdt;have h1:=iw d (Array.mem_of_getElem? Xf);have h2:=iw x (Array.mem_of_getElem? hx0);obtain ⟨w',v',k2,k3,k4⟩:=SQ (ty:=o.type) (as:=args.map ev') he hdt (by simp[Xf]) (by simp[hx0]) h1 h2 h
     exact ⟨ρ,w',v',Ren.le_refl _,k2,k3,.inl (by simp[execOp,hop,resolve,invoke,builtin,k4])⟩
    cases h
   .
    unfold nK at h;split at h
    .
     rename_i x t hx0 Sz;simp only at hx0 Sz;obtain ⟨tF,rfl⟩:=av h;have hx:=iw x (Array.mem_of_getElem? hx0);unfold xz at tF;split at tF
     .
      rename_i e i off n cc hu hq;split at tF
      .
       rename_i b hb;rw[pick2_eq] at tF;split at tF
       .
        rename_i ES;cases tF;rw[hq] at hx
        have hlen:∃q',ev' x = .slice q' n cc:=by
         generalize ev' x=z at hx;cases hx with
         |
          slice _ _ _ _ r y hr =>
          obtain ⟨hg,hl⟩:=alive_some hb;obtain ⟨r',y',C,fr,s,k1,k2,k3,k4,⟨k5,k6⟩,k7⟩:=he.blk i b hg hl;rw[hr] at k1;cases k1;have:=k6 ES;subst this;exact ⟨_,rfl⟩
        obtain ⟨q',hq'⟩:=hlen;exact same (.int _ _) (by simp[execOp,hop,resolve,invoke,builtin,Builtin.cap_,Sz,hx0,run_underlying hu,hq',goInt])
       cases tF
      cases tF
     .
      rename_i e n cc hu hq;cases tF;rw[hq] at hx
      have hq':ev' x = .slice none n cc:=by
       generalize ev' x=z at hx;cases hx;rfl
      exact same (.int _ _) (by simp[execOp,hop,resolve,invoke,builtin,Builtin.cap_,Sz,hx0,run_underlying hu,hq',goInt])
     cases tF
    cases h
   .
    unfold iN at h;split at h
    .
     rename_i x hx0;obtain ⟨tF,rfl⟩:=av h;have hargs:args = #[x]:=by rw[<-Array.toArray_toList (xs:=args),hx0]
     subst hargs;have hx:=iw x (by simp)
     unfold oz at tF;split at tF
     .
      rename_i a n cc hq;rw[pick2_eq] at tF;split at tF
      .
       cases tF
      rename_i hc0;cases tF;rw[hq] at hx;generalize hz:ev' x=z at hx;cases hx with
      |void a'=>exact absurd rfl hc0
      |
       slice i off _ _ r y hr =>
       have hc1:cc+y≠0:=by
        have:cc≠0:=λh0=>hc0 (by rw[h0];rfl)
        omega
       exact same (.ptr i off r y hr) (by simp[execOp,hop,resolve,invoke,builtin,hz,Lib.run_unsafeSliceData_row w _ _ _ _ _ hc1])
     .
      rename_i n cc hq;cases tF;rw[hq] at hx;generalize hz:ev' x=z at hx;cases hx;exact same .pK (by simp[execOp,hop,resolve,invoke,builtin,hz,Lib.run_unsafeSliceData_nil w])
     cases tF
    cases h
   .
    unfold uS at h;split at h
    .
     rename_i p n pt it hx0 Sz;have hargs:args = #[p,n]:=by rw[<-Array.toArray_toList (xs:=args),hx0]
     have agb:ats = #[pt,it]:=by rw[<-Array.toArray_toList (xs:=ats),Sz]
     subst hargs agb;obtain ⟨w',v',k1,k2,k3⟩:=SU he (iw p (by simp)) (iw n (by simp)) h it o.type
     exact ⟨ρ,w',v',Ren.le_refl _,k1,k2,.inl (by simp[execOp,hop,resolve,invoke,builtin,k3])⟩
    cases h
   obtain ⟨hu,rfl⟩:=av h;exact hpure hu
  cases h
 case h_22 t r hop =>
  have hr:=yD (ev:=ev) (ev':=ev') r λy hy=>aA y (by simp[hop,Op.operands,hy])
  obtain ⟨ρ',w',v',h1,h2,h3,h4⟩:=HB he hr h;exact ⟨ρ',w',v',h1,h2,h3,.inl (by simp[execOp,hop,h4])⟩
 case h_23 t x k ok hop =>
  obtain ⟨hu,rfl⟩:=av h;obtain ⟨v',h1,h2⟩:=look_ok he (aA x (by simp[hop,Op.operands])) (aA k (by simp[hop,Op.operands])) hu
  exact same h2 (by simp[execOp,hop,h1])
 case h_24 t m k x hop =>
  obtain ⟨w',h1,h2,rfl⟩:=Bm he (aA m (by simp[hop,Op.operands])) (aA k (by simp[hop,Op.operands])) (aA x (by simp[hop,Op.operands])) h
  exact ⟨ρ,w',undef,Ren.le_refl _,h1,.undef,.inr ⟨by simp[execOp,hop,h2],rfl⟩⟩
 case h_25 t m k x hop =>
  obtain ⟨w',h1,h2,rfl⟩:=Bm he (aA m (by simp[hop,Op.operands])) (aA k (by simp[hop,Op.operands])) (aA x (by simp[hop,Op.operands])) h
  exact ⟨ρ,w',undef,Ren.le_refl _,h1,.undef,.inr ⟨by simp[execOp,hop,h2],rfl⟩⟩
 case h_26 =>
  obtain ⟨hu,rfl⟩:=av h;exact hpure hu
theorem tG {x x':Value} {a:Option Nat} (h:xA x=some a) (hx:VRel ρ x x'):∃n,x' = .float .f64 n/\Hi a n:=by
 unfold xA at h
 split at h
 .
  cases h;cases hx;exact ⟨_,rfl,rfl⟩
 .
  cases h;cases hx with
  |nan m hm=>exact ⟨m,rfl,hm⟩
 cases h
theorem Dc {a:Option Nat} {n:Nat} (h:Hi a n):VRel ρ (Hr a) (.float .f64 n):=by
 cases a with
 |none=>exact .nan n h
 |some m=>cases h;exact .float _ _
theorem tH (a:Option Nat):oC (yp a)=a:=by cases a<;>rfl
theorem Br (b:Nat):∀(a f:Nat),a<f->oY f (nL a b)=(a,b)
 |
  0,f+1,_=>by
  have e:nL 0 b=2*b+1:=by simp[nL]
  have h1:(2*b+1)%2=1:=by omega
  have h2:(2*b+1)/2=b:=by omega
  show pick2 (Nat.beq (nL 0 b%2) 0) _ (0,nL 0 b/2)=_;rw[e,h1,h2];rfl
 |
  a+1,f+1,h=>by
  have e:nL (a+1) b=2*nL a b:=by
   unfold nL;rw[Nat.pow_succ,Nat.mul_comm (2 ^ a) 2,Nat.mul_assoc]
  have h1:(2*nL a b)%2=0:=by omega
  have h2:(2*nL a b)/2=nL a b:=by omega
  show pick2 (Nat.beq (nL (a+1) b%2) 0) ((oY f (nL (a+1) b/2)).1+1,(oY f (nL (a+1) b/2)).2) _=_;rw[e,h1,h2,Br b a f (by omega)];rfl
theorem se (a b:Nat):oY (nL a b) (nL a b)=(a,b):=by
 refine Br b a _ ?_
 have h1:a<2 ^ a:=Nat.lt_two_pow_self
 have h2:2 ^ a*1<=2 ^ a*(2*b+1):=Nat.mul_le_mul_left _ (by omega)
 unfold nL
 omega
theorem SV {a b:Option Nat} {x y:Nat} (hx:Hi a x) (hy:Hi b y):VRel ρ (cxV a b) (.complex .f64 x y):=by
 have code:VRel ρ (.chan (some (nL (yp a) (yp b)+2))) (.complex .f64 x y):=.W5 _ _ _ (by rw[se,tH];exact hx) (by rw[se,tH];exact hy)
 cases a with
 |none=>exact code
 |
  some a=>cases b with
  |none=>exact code
  |some b=>cases hx;cases hy;exact .complex _ _ _
theorem ET {x x':Value} {q:Option Nat×Option Nat} (h:CQ x=some q) (hx:VRel ρ x x'):∃m n,x' = .complex .f64 m n/\Hi q.1 m/\Hi q.2 n:=by
 unfold CQ at h
 split at h
 .
  cases h;cases hx;exact ⟨_,_,rfl,rfl,rfl⟩
 .
  cases h;cases hx with
  |W5 k x y h1 h2=>exact ⟨x,y,rfl,h1,h2⟩
 cases h
theorem ko {m:Nat} (h:CX m):∃s f,Ieee.double.read m = .nan s f:=by
 unfold CX Ieee.Datum.isNaN at h
 split at h
 .
  rename_i s f he;exact ⟨s,f,he⟩
 cases h
theorem JV (d:Ieee.Datum) (s:Bool) (f:Nat):d.sum (.nan s f)=none:=by cases d<;>rfl
theorem EU (d:Ieee.Datum) (s:Bool) (f:Nat):d.product (.nan s f)=none:=by cases d<;>rfl
theorem SW {a b:Option Nat} {x y:Nat} (hx:Hi a x) (hy:Hi b y):Ieee.double.add x y=SK .add a b:=by
 unfold Ieee.Format.add
 cases a with
 |none=>obtain ⟨s,f,he⟩:=ko hx;rw[he];rfl
 |
  some a=>cases b with
  |none=>obtain ⟨s,f,he⟩:=ko hy;rw[he,JV];rfl
  |some b=>cases hx;cases hy;rfl
theorem SX {a b:Option Nat} {x y:Nat} (hx:Hi a x) (hy:Hi b y):Ieee.double.sub x y=SK .sub a b:=by
 unfold Ieee.Format.sub
 cases a with
 |none=>obtain ⟨s,f,he⟩:=ko hx;rw[he];rfl
 |
  some a=>cases b with
  |
   none =>
   obtain ⟨s,f,he⟩:=ko hy;rw[he];show Option.map _ (Ieee.Datum.sum _ (.nan (!s) f))=_;rw[JV];rfl
  |some b=>cases hx;cases hy;rfl
theorem SY {a b:Option Nat} {x y:Nat} (hx:Hi a x) (hy:Hi b y):Ieee.double.mul x y=SK .mul a b:=by
 unfold Ieee.Format.mul
 cases a with
 |none=>obtain ⟨s,f,he⟩:=ko hx;rw[he];rfl
 |
  some a=>cases b with
  |none=>obtain ⟨s,f,he⟩:=ko hy;rw[he,EU];rfl
  |some b=>cases hx;cases hy;rfl
theorem Lt {x y:Nat} (h:CX x\/CX y):Ieee.double.order x y=none:=by
 unfold Ieee.Format.order
 rcases h with h|h
 .
  obtain ⟨s,f,he⟩:=ko h;rw[he];rfl
 obtain ⟨s,f,he⟩:=ko h
 rw[he]
 cases Ieee.double.read x<;>rfl
theorem SZ (x y t:Nat):CX ((Question.nanBits .f64 x y).cut t):=by
 show CX ((t%2)*2 ^ 63+0x7ff0000000000000+1+(t/2)%(2 ^ 52-1))
 have h1:(t/2)%(2 ^ 52-1)<2 ^ 52-1:=Nat.mod_lt _ (by decide)
 generalize (t/2)%(2 ^ 52-1)=r at *
 have h2:((t%2)*2 ^ 63+0x7ff0000000000000+1+r)%9223372036854775808=0x7ff0000000000001+r:=by omega
 unfold CX Ieee.Format.read
 have e1:Ieee.double.signWeight=9223372036854775808:=by decide
 have e2:Ieee.double.binade=4503599627370496:=by decide
 have e3:Ieee.double.infRung=9218868437227405312:=by decide
 simp only[e1,e2,e3,h2]
 rw[if_neg (by omega),if_neg (by omega),if_neg (by omega)]
 rfl
theorem EV {α:Type} (P:Program) (w:World) (x y:Nat) (k:Nat->Sem α):(Sem.choose (.nanBits .f64 x y) k).run P w=(k ((Question.nanBits .f64 x y).cut (w.tape w.drawn (.nanBits .f64 x y)))).run P w.drew:=rfl
theorem uY {op:BinOp} {f:Nat->Nat->Option Nat} (hop:∀x y,Op.floatArith op .f64 x y=(match f x y with|some r=>pure (.float .f64 r)|none=>(do pure (.float .f64 (<- choose (.nanBits .f64 x y))):Sem Value))) {a:Option Nat} {x y:Nat} (h:f x y=a) (he:bg c ρ H w) :
 ∃n w',(Op.floatArith op .f64 x y).run c.P w = .ok (.float .f64 n) w'/\Hi a n/\bg c ρ H w':=by
 rw[hop,h]
 cases a with
 |some r=>exact ⟨r,w,rfl,rfl,he⟩
 |none=>exact ⟨_,_,EV _ _ _ _ _,SZ _ _ _,he.drew⟩
theorem agc:Extern.allNextRows.lookup "math.Float64bits" = none:=by kernel_rfl
theorem agd:Extern.allGenericRows.lookup "math.Float64bits" = none:=by kernel_rfl
theorem age:Extern.allTypedRows.lookup "math.Float64bits" = none:=by kernel_rfl
theorem agf:Extern.allRows.lookup "math.Float64bits" = some Extern.MathFloatBits.float64bits:=by kernel_rfl
theorem N4 {o:Oper} {ev':Operand->Value} {f y:Operand} {ats:Array TypeId} {id:FuncId} {fn:Func} (hop:o.op = .call { callee:=.value f,args := #[y],argTypes:=ats }) (hg:ev' f = .func (.func id) #[] #[]) (hfn:c.P.funcs[id]? = some fn) (hb:¬fn.body.isSome=true) (hname:fn.name = "math.Float64bits") (N3:fn.origin = "") {n:Nat} (hy:ev' y = .float .f64 n) (w:World) :
 (execOp ev' o).run c.P w = .ok (.value (.int .u64 n)) w:=by
 have hb':fn.body.isNone=true:=by simpa using hb
 have e1:Extern.findNext fn=none:=by
  simp only[Extern.findNext,hname,N3];rw[agc,VO];rfl
 have e2:Extern.find fn=some Extern.MathFloatBits.float64bits:=by
  simp only[Extern.find,hname,N3];rw[agd,age,agf];rfl
 have hn:¬(fn.name = "runtime.NumGoroutine"):=by rw[hname];decide
 have EK:fn.body=none:=by simpa using hb'
 simp only[execOp,hop,resolve,Deferred.ofValue,hg,invoke,callFunc]
 have e3:Extern.MathFloatBits.float64bits #[ev' y]=pure (.int .u64 n):=by rw[hy];rfl
 simp[hfn,hn,EK,e1,e2,e3]
theorem xN {o:Oper} {ev':Operand->Value} {op:BinOp} {t yt:TypeId} {x y:Operand} {m n:Nat} (hop:o.op = .binOp op t x y yt) (hx:ev' x = .float .f64 m) (hy:ev' y = .float .f64 n) {s:Sem Value} (hs:binOp op t (.float .f64 m) (.float .f64 n)=s) {v:Value} {w w':World} (h:s.run c.P w = .ok v w') :
 (execOp ev' o).run c.P w = .ok (.value v) w':=by
 subst hs
 have hg:eqGuard op t x y (.float .f64 m) (.float .f64 n)=pure ():=by cases op<;>rfl
 simp only[execOp,hop,hx,hy,hg]
 simp[h]
theorem yF (ats:Array TypeId) (t:TypeId) (m n:Nat):Builtin.complex_ ats t #[.float .f64 m,.float .f64 n]=pure (.complex .f64 m n):=rfl
theorem JW (ats:Array TypeId) (t:TypeId) (m n:Nat):Builtin.real_ ats t #[.complex .f64 m n]=pure (.float .f64 m):=rfl
theorem JX (ats:Array TypeId) (t:TypeId) (m n:Nat):Builtin.imag_ ats t #[.complex .f64 m n]=pure (.float .f64 n):=rfl
theorem Xh (he:bg c ρ H w) {o:Oper} {ev ev':Operand->Value} (aA:VN ρ ev ev' o.op) {v:Value} (h:AO c.P ev o=some v):NZ c ρ o ev' w v H:=by
 unfold AO at h
 split at h
 .
  rename_i op t x y yt hop;have hx:=aA x (by simp[hop,Op.operands])
  have hy:=aA y (by simp[hop,Op.operands])
  unfold CP at h;split at h
  case h_2=>cases h
  rename_i a b ha hb;obtain ⟨m,em,hm⟩:=tG ha hx;obtain ⟨n,en,hn⟩:=tG hb hy
  have Xi:∀{q:Option Nat},(∃r w',(binOp op t (.float .f64 m) (.float .f64 n)).run c.P w = .ok (.float .f64 r) w'/\Hi q r/\bg c ρ H w')->NZ c ρ o ev' w (Hr q) H:=by
   rintro q ⟨r,w',h1,h2,h3⟩;exact ⟨ρ,w',_,Ren.le_refl _,h3,Dc h2,.inl (xN hop em en rfl h1)⟩
  split at h
  .
   cases h;exact Xi (uY (op:=.add) (λx y=>by rfl) (SW hm hn) he)
  .
   cases h;exact Xi (uY (op:=.sub) (λx y=>by rfl) (SX hm hn) he)
  .
   cases h;exact Xi (uY (op:=.mul) (λx y=>by rfl) (SY hm hn) he)
  .
   split at h
   .
    cases h
   rename_i hno;cases h
   have ho:Ieee.double.order m n=none:=by
    refine Lt ?_;cases a with
    |none=>exact .inl hm
    |
     some a=>cases b with
     |none=>exact .inr hn
     |some b=>exact absurd rfl (hno a b rfl)
   refine ⟨ρ,w,_,Ren.le_refl _,he,.bool true,.inl (xN hop em en rfl ?_)⟩;show (Op.floatCmp .neq .f64 m n).run c.P w=_;have:Op.floatCmp .neq .f64 m n=pure (.bool (Ieee.double.order m n != some .eq)):=rfl;rw[this,ho];rfl
  cases h
 .
  rename_i cl hop;obtain ⟨callee,args,ats⟩:=cl;have iw:∀x∈args,VRel ρ (ev x) (ev' x):=λx hx=>aA x (by simp[hop,Op.operands,Call.operands];exact .inr hx)
  have one:∀{v:Value},args.toList.map ev=[v]->∃p,args = #[p]/\ev p=v:=λh=>by
   obtain ⟨l⟩:=args
   match l,h with
   |[p],h=>exact ⟨p,rfl,by simpa using h⟩
  have two:∀{v u:Value},args.toList.map ev=[v,u]->∃p q,args = #[p,q]/\ev p=v/\ev q=u:=λh=>by
   obtain ⟨l⟩:=args
   match l,h with
   |[p,q],h=>exact ⟨p,q,rfl,by simpa using h⟩
  simp only at h;split at h
  .
   rename_i x y hl;obtain ⟨p,q,rfl,rfl,rfl⟩:=two hl;split at h
   .
    rename_i a b ha hb;cases h;obtain ⟨m,em,hm⟩:=tG ha (iw p (by simp))
    obtain ⟨n,en,hn⟩:=tG hb (iw q (by simp))
    exact ⟨ρ,w,_,Ren.le_refl _,he,SV hm hn,.inl (by simp[execOp,hop,resolve,em,en,invoke,builtin,yF])⟩
   cases h
  .
   rename_i x hl;obtain ⟨p,rfl,rfl⟩:=one hl;split at h
   .
    rename_i q hq;cases h;obtain ⟨m,n,em,h1,h2⟩:=ET hq (iw p (by simp))
    exact ⟨ρ,w,_,Ren.le_refl _,he,Dc h1,.inl (by simp[execOp,hop,resolve,em,invoke,builtin,JW])⟩
   cases h
  .
   rename_i x hl;obtain ⟨p,rfl,rfl⟩:=one hl;split at h
   .
    rename_i q hq;cases h;obtain ⟨m,n,em,h1,h2⟩:=ET hq (iw p (by simp))
    exact ⟨ρ,w,_,Ren.le_refl _,he,Dc h2,.inl (by simp[execOp,hop,resolve,em,invoke,builtin,JX])⟩
   cases h
  .
   rename_i f hl;obtain ⟨p,rfl,hp⟩:=one hl;rw[pick2_eq] at h;split at h
   .
    rename_i hb;cases h;have hf:=aA f (by simp[hop,Op.operands,Call.operands])
    have hx:=iw p (by simp)
    rw[hp] at hx;generalize hq:ev' p=q at hx;cases hx with
    |
     nan m hm =>
     unfold CS at hb;split at hb
     .
      rename_i id hg;rw[hg] at hf;generalize hg':ev' f=g at hf;cases hf with
      |
       func fn a a' b b' sa ha sb EK =>
       obtain rfl:a' = #[]:=Array.eq_empty_of_size_eq_zero (by simpa using sa.symm)
       obtain rfl:b' = #[]:=Array.eq_empty_of_size_eq_zero (by simpa using sb.symm)
       split at hb
       .
        rename_i fn hfn;rw[pick2_eq] at hb;split at hb
        .
         cases hb
        rename_i hbody;simp only[Bool.and_eq_true,beq_iff_eq] at hb;exact ⟨ρ,w,_,Ren.le_refl _,he,.Ln _ _,.inl (N4 hop hg' hfn hbody hb.1 hb.2 hq w)⟩
       cases hb
     cases hb
   cases h
  cases h
 cases h
end
section
variable {P:Program} {H:Mem}
theorem uZ {o:Oper} {ev:Operand->Value} {u:Value} (h:pureA P ev o=some u):aQ ev o.op=true/\∀w,(execOp ev o).run P w = .ok (.value u) w:=by
 unfold pureA at h
 split at h
 .
  cases h
 split at h
 .
  rename_i hfree;split at h
  .
   rename_i u' hu;split at h
   .
    cases h;exact ⟨hfree,iS _ hu⟩
   cases h
  cases h
 cases h
theorem qL {x:Value} {a:Option Nat} (h:xA x=some a) (hf:addrFree x=true):∃n,x = .float .f64 n/\a=some n:=by
 unfold xA at h
 split at h
 .
  cases h;exact ⟨_,rfl,rfl⟩
 .
  simp[addrFree] at hf
 cases h
theorem Bt {x:Value} {q:Option Nat×Option Nat} (h:CQ x=some q) (hf:addrFree x=true):∃m n,x = .complex .f64 m n/\q=(some m,some n):=by
 unfold CQ at h
 split at h
 .
  cases h;exact ⟨_,_,rfl,rfl⟩
 .
  simp[addrFree] at hf
 cases h
theorem S3 (w:World):w.drew≠w:=λh=>by
 have:w.drawn+1=w.drawn:=congrArg World.drawn h
 omega
theorem Xj {call:aN} {o:Oper} {ev:Operand->Value} {v u:Value} {H':Mem} (h:AO P ev o=some v) (h2:opA P call ev o H=some (u,H')):u=v/\H'=H:=by
 unfold AO at h
 split at h
 .
  rename_i op t x y yt hop;unfold opA at h2;rw[hop] at h2;have h2:pF P ev o op t (ev x) (ev y) H=some (u,H'):=h2;unfold pF at h2;obtain ⟨h3,e0⟩:=av h2;refine ⟨?_,e0⟩;unfold CP at h;split at h
  case h_2=>cases h
  rename_i a b ha hb
  have e1:yj op (ev x) (ev y)=none:=by
   unfold xA at ha;split at ha
   .
    rename_i n hx;rw[hx];cases ev y<;>rfl
   .
    rename_i hx;rw[hx];cases ev y<;>rfl
   cases ha
  have e2:nJ P op t (ev x) (ev y)=none:=by
   unfold xA at ha;split at ha
   .
    rename_i n hx;rw[hx];unfold nJ;split<;>first|rfl|(rename_i h1 h2 h3;cases h2)|rfl
   .
    rename_i hx;rw[hx];unfold nJ;split<;>first|rfl|(rename_i h1 h2 h3;cases h2)|rfl
   cases ha
  rw[e1,e2] at h3;have h3:pureA P ev o=some u:=h3;obtain ⟨hf,hrun⟩:=uZ h3;have JP:∀z∈o.op.operands,addrFree (ev z)=true:=λz hz=>List.all_eq_true.1 hf z (by simpa using hz)
  obtain ⟨m,em,rfl⟩:=qL ha (JP x (by simp[hop,Op.operands]))
  obtain ⟨n,en,rfl⟩:=qL hb (JP y (by simp[hop,Op.operands]))
  have same:∀{r:Value} {w':World},(execOp ev o).run P default = .ok (.value r) w'->u=r/\w'=default:=λh4=>by
   have h5:=(hrun default).symm.trans h4;simp only[Result.ok.injEq,Next.value.injEq] at h5;exact ⟨h5.1,h5.2.symm⟩
  have Xi:∀{op':BinOp} {f:Nat->Nat->Option Nat} {q:Option Nat},binOp op t (.float .f64 m) (.float .f64 n)=Op.floatArith op' .f64 m n ->
   (∀x y,Op.floatArith op' .f64 x y=(match f x y with|some r=>pure (.float .f64 r)|none=>(do pure (.float .f64 (<- choose (.nanBits .f64 x y))):Sem Value)))->f m n=q->u=Hr q:=λ{op' f q} hb hop' hq=>by
   cases q with
   |
    some r =>
    exact (same (xN (c:=⟨P,0,0,0,default,λ_=>none⟩) hop em en hb (v:=.float .f64 r) (w':=default) (by rw[hop',hq];rfl))).1
   |
    none =>
    have:=(same (xN (c:=⟨P,0,0,0,default,λ_=>none⟩) (w:=default) hop em en hb (w':=World.drew default) (by rw[hop',hq];exact EV _ _ _ _ _))).2
    exact absurd this (S3 _)
  split at h
  .
   cases h;exact Xi (op':=.add) rfl (λx y=>by rfl) rfl
  .
   cases h;exact Xi (op':=.sub) rfl (λx y=>by rfl) rfl
  .
   cases h;exact Xi (op':=.mul) rfl (λx y=>by rfl) rfl
  .
   cases h
  cases h
 .
  rename_i cl hop;obtain ⟨callee,args,ats⟩:=cl
  have one:∀{v:Value},args.toList.map ev=[v]->∃p,args = #[p]/\ev p=v:=λh=>by
   obtain ⟨l⟩:=args
   match l,h with
   |[p],h=>exact ⟨p,rfl,by simpa using h⟩
  have two:∀{v u:Value},args.toList.map ev=[v,u]->∃p q,args = #[p,q]/\ev p=v/\ev q=u:=λh=>by
   obtain ⟨l⟩:=args
   match l,h with
   |[p,q],h=>exact ⟨p,q,rfl,by simpa using h⟩
  unfold opA at h2;rw[hop] at h2;simp only at h h2
  have pur:∀{r:Value},withMem H (pureA P ev o)=some (u,H')->(∀(_:aQ ev o.op=true),(execOp ev o).run P default = .ok (.value r) default)->u=r/\H'=H:=λh3 hr=>by
   obtain ⟨h4,e0⟩:=av h3;obtain ⟨hf,hrun⟩:=uZ h4;have h5:=(hrun default).symm.trans (hr hf);simp only[Result.ok.injEq,Next.value.injEq] at h5;exact ⟨h5.1,e0⟩
  have fr:∀z∈args,aQ ev o.op=true->addrFree (ev z)=true:=λz hz hf=>List.all_eq_true.1 hf z (by rw[hop];simp[Op.operands,Call.operands];exact .inr hz)
  split at h
  .
   rename_i x y hl;obtain ⟨p,q,rfl,rfl,rfl⟩:=two hl;split at h
   .
    rename_i a b ha hb;cases h;refine pur h2 λhf=>?_
    obtain ⟨m,em,rfl⟩:=qL ha (fr p (by simp) hf)
    obtain ⟨n,en,rfl⟩:=qL hb (fr q (by simp) hf)
    simp[execOp,hop,resolve,em,en,invoke,builtin,yF,cxV]
   cases h
  .
   rename_i x hl;obtain ⟨p,rfl,rfl⟩:=one hl;split at h
   .
    rename_i q hq;cases h;refine pur h2 λhf=>?_
    obtain ⟨m,n,em,rfl⟩:=Bt hq (fr p (by simp) hf)
    simp[execOp,hop,resolve,em,invoke,builtin,JW,Hr]
   cases h
  .
   rename_i x hl;obtain ⟨p,rfl,rfl⟩:=one hl;split at h
   .
    rename_i q hq;cases h;refine pur h2 λhf=>?_
    obtain ⟨m,n,em,rfl⟩:=Bt hq (fr p (by simp) hf)
    simp[execOp,hop,resolve,em,invoke,builtin,JX,Hr]
   cases h
  .
   rename_i f hl;obtain ⟨p,rfl,hp⟩:=one hl;rw[pick2_eq] at h;split at h
   .
    rename_i hb;cases h;exfalso;unfold CS at hb;split at hb
    .
     rename_i id hg;split at hb
     .
      rename_i fn hfn;rw[pick2_eq] at hb;split at hb
      .
       cases hb
      rename_i hbody;simp only[Bool.and_eq_true,beq_iff_eq] at hb
      have hc:jC P call (ev f) (#[p].toList.map ev) H=none:=by
       unfold jC;simp only[hg,hfn];rw[pick2_eq,if_neg hbody]
      have hs:pH P (ev f)=false:=by
       unfold pH;simp only[hg,hfn];rw[pick2_eq,if_neg hbody,hb.1];rfl
      unfold bp at h2;simp only[hc] at h2;have h2:pick2 (pH P (ev f)) (some (ev p,H)) (withMem H (pureA P ev o))=some (u,H'):=h2;rw[hs] at h2;obtain ⟨h4,e0⟩:=av (show withMem H (pureA P ev o)=some (u,H') from h2);have:=fr p (by simp) (uZ h4).1
      rw[hp] at this;simp[addrFree] at this
     cases hb
    cases hb
   cases h
  cases h
 cases h
end
end Go.Ev

namespace Go.Ev
open Go.RowKit
section
variable {P:Program} {call:aN} {ops:Array Oper} {GR:List Blk}
def dV (rows:List Blk) (w:World):Prop:=rows.length<=w.heap.size/\∀(i:Nat) b,rows[i]? = some b->b.live=true->∃fr,w.heap[i]? = some (.cells b.cells.toArray b.elem fr)/\kg b.cells.toArray fr
structure Cx.At (c:Cx) (G:Nat) (GR:List Blk):Prop where
 g:c.G=G
 rows:dV GR c.w0
 len:GR.length<=c.B
theorem dV.nil (w:World):dV [] w:=⟨Nat.zero_le _,λi b h=>by simp at h⟩
theorem bg.Dd {c:Cx} {ρ:Ren} {H:Mem} {w:World} {G:Nat} {GR:List Blk} (he:bg c ρ H w) (h:c.At G GR):dV GR w :=
 ⟨Nat.le_trans h.len he.base,λi b hi hl=>by
  obtain ⟨fr,h1,h2⟩:=h.rows.2 i b hi hl;exact ⟨fr,(he.below.block i (Nat.lt_of_lt_of_le (List.getElem?_eq_some_iff.1 hi).1 h.len)).trans h1,h2⟩⟩
def jG (P:Program) (G:Nat) (GR:List Blk) (call:aN):Prop :=
 ∀f args H v H',call f args H=some (v,H')->(P.funcs[f]? ≠ none\/addrFree v=true)->∀(c:Cx),c.P=P->c.At G GR->∀ ρ w args',bg c ρ H w->LR (VRel ρ) args args' ->
  Calls P f args'.toArray w λe w'=>∃ ρ' v',e = .returned v'/\ρ.le ρ'/\VRel ρ' v v'/\bg c ρ' H' w'
def cn (H H':Mem):Prop:=H.size<=H'.size/\H'.lk=H.lk/\∀i,i<H.lk->i<H.size->H'.get i=H.get i
theorem cn.refl (H:Mem):cn H H:=⟨Nat.le_refl _,rfl,λ_ _ _=>rfl⟩
theorem cn.trans {a b c:Mem} (h:cn a b) (k:cn b c):cn a c :=
 ⟨Nat.le_trans h.1 k.1,k.2.1.trans h.2.1,λi hi hs=>(k.2.2 i (by rw[h.2.1];exact hi) (Nat.lt_of_lt_of_le hs h.1)).trans (h.2.2 i hi hs)⟩
theorem cn.push {H H':Mem} {b:Blk} (h:H.push b=some H'):cn H H':=by
 obtain ⟨h1,h2,h3⟩:=Mem.bf h
 exact ⟨by omega,h2,λi _ hs=>by rw[h3,if_neg (by omega)]⟩
theorem cn.set {H H':Mem} {i:Nat} {b:Blk} (h:H.set i b=some H'):cn H H':=by
 obtain ⟨h1,h2,h3,h4,h5⟩:=Mem.eC h
 exact ⟨by omega,h4,λj hj _=>by rw[h5,if_neg (by omega)]⟩
def bJ (call:aN):Prop:=∀f args H v H',call f args H=some (v,H')->cn H H'
theorem jH {H H':Mem} {i off:Nat} {vs:List Value} (h:cD H i off vs=some H'):cn H H':=by
 unfold cD at h
 split at h
 .
  cases h;exact .refl _
 split at h
 .
  split at h
  .
   exact .set h
  cases h
 cases h
theorem tI {H H':Mem} {t:TypeId} {cs:List Value} {v:Value} (h:ow H t cs=some (v,H')):cn H H':=.push (mO h).1
theorem lY {H H':Mem} {t:TypeId} {cs:List Value} {len cap:Nat} {v:Value} (h:eo H t cs len cap=some (v,H')):cn H H':=.push (iu h).1
theorem rM {H H':Mem} {t:TypeId} {cs:List Value} {len cap:Nat} {v:Value} (h:ox H t cs len cap=some (v,H')):cn H H':=.push (lz h).1
theorem aZ {H H':Mem} {x:Option Value} {v:Value} (h:withMem H x=some (v,H')):cn H H':=by
 obtain ⟨_,rfl⟩:=av h;exact .refl _
theorem u7 (hk:bJ call) {ev:Operand->Value} {o:Oper} {H H':Mem} {v:Value} (h:opA P call ev o H=some (v,H')):cn H H':=by
 unfold opA at h
 split at h
 case h_1=>cases h;exact .refl _
 case h_2=>cases h;exact .refl _
 case h_3=>unfold yl at h;split at h<;>cases h;exact .refl _
 case h_4=>exact aZ h
 case h_5 =>
  unfold lp at h;split at h
  .
   exact tI h
  cases h
 case h_6 =>
  unfold Bh at h;split at h
  .
   exact tI h
  cases h
 case h_7=>exact aZ h
 case h_8 =>
  unfold fU at h;split at h
  .
   split at h
   .
    split at h
    .
     cases h
    split at h
    .
     exact rM h
    cases h
   cases h
  cases h
 case h_9=>exact aZ h
 case h_10 =>
  unfold jY at h;split at h
  .
   rename_i hu;cases h;unfold lR at hu;split at hu
   .
    split at hu
    .
     exact jH hu
    cases hu
   cases hu
  cases h
 case h_11=>unfold lU at h;split at h<;>cases h<;>exact .refl _
 case h_12=>exact aZ h
 case h_13=>exact aZ h
 case h_14 =>
  unfold lI at h;split at h
  .
   exact aZ h
  cases h
 case h_15 =>
  unfold jB at h;split at h
  .
   split at h
   .
    split at h
    .
     exact rM h
    cases h
   cases h
  cases h
 case h_16=>cases h;exact .refl _
 case h_17 =>
  unfold jg at h;rw[pick2_eq] at h;split at h
  .
   exact aZ h
  exact aZ h
 case h_18=>exact aZ h
 case h_19=>exact aZ h
 case h_20 =>
  unfold eu at h;split at h
  .
   cases h;exact .refl _
  unfold dc at h;split at h
  .
   split at h
   .
    split at h
    .
     simp only[Option.map_eq_some_iff] at h;obtain ⟨u,_,heq⟩:=h;cases heq;exact .refl _
    cases h
   .
    cases h;exact .refl _
   .
    cases h;exact .refl _
   cases h
  .
   split at h
   .
    exact lY h
   cases h
  .
   split at h
   .
    rw[pick2_eq] at h;split at h
    .
     cases h;exact .refl _
    cases h
   cases h
  .
   split at h
   .
    rw[pick2_eq] at h;split at h
    .
     cases h;exact .refl _
    cases h
   cases h
  .
   split at h
   .
    rw[pick2_eq] at h;split at h
    .
     cases h;exact .refl _
    cases h
   cases h
  cases h
 case h_21 =>
  unfold bp at h;split at h
  .
   split at h
   .
    rename_i r hr;cases h;unfold jC at hr;split at hr
    .
     split at hr
     .
      rename_i fn _;rw[pick2_eq] at hr;split at hr
      .
       exact hk _ _ _ _ _ hr
      cases hr
     cases hr
    cases hr
   unfold ym at h;split at h
   .
    rw[pick2_eq] at h;split at h
    .
     cases h;exact .refl _
    obtain ⟨_,rfl⟩:=av h;exact .refl _
   obtain ⟨_,rfl⟩:=av h;exact .refl _
  .
   unfold lJ at h;split at h
   .
    unfold tn at h;split at h
    .
     exact aZ h
    cases h
   .
    unfold lV at h;split at h
    .
     unfold lg at h;split at h
     .
      split at h
      .
       split at h
       .
        split at h
        .
         cases h
        split at h
        .
         split at h
         .
          simp only[Option.map_eq_some_iff] at h;obtain ⟨u,hu,heq⟩:=h;cases heq;exact jH hu
         .
          split at h
          .
           cases h;exact .refl _
          cases h
         cases h
        split at h
        .
         split at h
         .
          split at h
          .
           rename_i H1 bM;refine cn.trans ?_ (lY h);unfold kill at bM;split at bM
           .
            exact .set bM
           cases bM
          cases h
         cases h
        .
         exact lY h
        cases h
       cases h
      cases h
     cases h
    cases h
   .
    unfold uR at h;split at h
    .
     unfold Bg at h;split at h
     .
      split at h
      .
       split at h
       .
        split at h
        .
         simp only[Option.map_eq_some_iff] at h;obtain ⟨u,hu,heq⟩:=h;cases heq;exact jH hu
        .
         cases h;exact .refl _
        cases h
       cases h
      cases h
     cases h
    cases h
   .
    unfold nK at h;split at h
    .
     exact aZ h
    cases h
   .
    unfold iN at h;split at h
    .
     exact aZ h
    cases h
   .
    unfold uS at h;split at h
    .
     unfold yo at h;split at h
     .
      cases h;exact .refl _
     .
      split at h
      .
       rw[pick2_eq] at h;split at h
       .
        split at h
        .
         rename_i H1 bM;cases h;unfold kill at bM;split at bM
         .
          exact .set bM
         cases bM
        cases h
       cases h
      cases h
     cases h
    cases h
   exact aZ h
  cases h
 case h_22=>obtain ⟨b,hb⟩:=yC h;exact .push hb
 case h_23=>exact aZ h
 case h_24=>obtain ⟨i,b,hb⟩:=rL h;exact .set hb
 case h_25=>obtain ⟨i,b,hb⟩:=rL h;exact .set hb
 case h_26=>exact aZ h
noncomputable def dg (P:Program) (call:aN) (ops:Array Oper) (o:Oper) (a:Act) (H:Mem):Option (Act×Mem) :=
 if Region.wanted o (yielded ops a.tmps) then (opA P call a.eval o H).map λr=>(a.put o.dst r.1,r.2) else some (a.put o.dst undef,H)
noncomputable def gY (P:Program) (call:aN) (ops:Array Oper) (R:Option (List Nat)) (lk:Bool) (o:Oper) (a:Act) (H:Mem):Option (Act×Mem) :=
 if lk then (match ee o.op with
  |some s=>if nB R (a.eval s) then dg P call ops o a H else none
  |none=>if cE R a.eval o then dg P call ops o a H else (dg P call ops o a { H with lk:=H.size }).map λr=>(r.1,{ r.2 with lk:=H.lk })) else dg P call ops o a H
theorem lA {P:Program} {call:aN} {ops:Array Oper} {R:Option (List Nat)} {lk:Bool} {o:Oper} {a:Act} {H:Mem} {r:Act×Mem} (h:gY P call ops R lk o a H=some r) :
 (dg P call ops o a H=some r/\(lk=true->∃s,(ee o.op=some s\/fH o.op=some s)/\nB R (a.eval s)=true))\/(lk=true/\∃u,dg P call ops o a { H with lk:=H.size }=some u/\r=(u.1,{ u.2 with lk:=H.lk })):=by
 unfold gY at h
 split at h
 .
  rename_i hl;split at h
  .
   rename_i s hs;split at h
   .
    rename_i hc;exact .inl ⟨h,λ_=>⟨s,.inl hs,hc⟩⟩
   cases h
  split at h
  .
   rename_i hc;unfold cE at hc;split at hc
   .
    rename_i s hs;exact .inl ⟨h,λ_=>⟨s,.inr hs,hc⟩⟩
   cases hc
  simp only[Option.map_eq_some_iff] at h;obtain ⟨u,hu,rfl⟩:=h;exact .inr ⟨hl,u,hu,rfl⟩
 rename_i hl
 exact .inl ⟨h,λh=>absurd h hl⟩
structure xO (f:Fr) (a:Act):Prop where
 n:f.n=a.tmps.size
 get:∀i,f.get i=a.tmps.getD i undef
theorem Fr.get_eq (f:Fr) (i:Nat):f.get i=if i<f.n then (f.t.get i).getD undef else undef:=by
 unfold Fr.get;rw[pick2_eq,fX]
 cases f.t.get i<;>simp
theorem Fr.cy {f f':Fr} {dst:Option Tmp} {v:Value} (h:f.put dst v=some f'):f'.n=f.n/\∀i,f'.get i=if dst=some i/\i<f.n then v else f.get i:=by
 cases dst with
 |
  none =>
  have h':some f=some f':=h;cases h';exact ⟨rfl,λi=>by simp⟩
 |
  some d =>
  have h':pick2 (Nat.ble (Nat.succ d) f.n) (Option.rec (motive:=λ_=>Option Fr) none (λt=>some ⟨f.n,t⟩) (f.t.set d v)) (some f)=some f':=h
  rw[pick2_eq,fX] at h';split at h'
  .
   rename_i hd;simp only[decide_eq_true_eq] at hd;cases hs:f.t.set d v with
   |none=>rw[hs] at h';cases h'
   |
    some t =>
    rw[hs] at h';have h2:some (Fr.mk f.n t)=some f':=h';cases h2;refine ⟨rfl,λi=>?_⟩
    rw[Fr.get_eq,Fr.get_eq];simp only[Tr.qJ hs];by_cases hi:i=d
    .
     subst hi;simp[hd]
    simp[hi,Ne.symm hi]
  rename_i hd;simp only[decide_eq_true_eq] at hd;cases h'
  exact ⟨rfl,λi=>by
   rw[if_neg];rintro ⟨h1,h2⟩;cases h1;exact hd h2⟩
theorem xO.put {f f':Fr} {a:Act} (h:xO f a) {dst:Option Tmp} {v:Value} (hp:f.put dst v=some f'):xO f' (a.put dst v):=by
 obtain ⟨h1,h2⟩:=Fr.cy hp
 cases dst with
 |none=>exact ⟨by rw[h1];exact h.n,λi=>by rw[h2];simp[h.get,Act.put]⟩
 |
  some d =>
  refine ⟨by rw[h1,h.n];simp[Act.put],λi=>?_⟩
  rw[h2,h.get,h.n];simp only[Act.put,Option.some.injEq];by_cases hd:d=i
  .
   subst hd;by_cases hlt:d<a.tmps.size
   .
    simp[hlt]
   simp[hlt]
  simp[hd]
theorem xO.eval {f:Fr} {a:Act} (h:xO f a):f.eval=a.eval:=by
 funext x
 cases x with
 |tmp t=>exact h.get t
 |const v=>rfl
 |global g=>rfl
 |func f=>rfl
theorem xO.wanted {f:Fr} {a:Act} (h:xO f a) (o:Oper):gB o ops.toList f=Region.wanted o (yielded ops a.tmps):=by
 unfold gB Region.wanted
 split
 .
  rename_i hg;simp[hg]
 rename_i j want hg
 simp only[hg]
 have:pJ ops.toList f j=yielded ops a.tmps j:=by
  unfold pJ yielded;simp only[Array.getElem?_toList];cases ho:ops[j]? with
  |none=>simp
  |
   some o' =>
   cases hd:o'.dst with
   |none=>simp[hd]
   |
    some d =>
    simp only[Option.bind_some,hd,h.get];by_cases hlt:d<a.tmps.size
    .
     have e1:a.tmps.getD d undef=a.tmps[d]:=by simp[hlt]
     rw[e1,Array.getElem?_eq_getElem hlt];generalize a.tmps[d]=q;cases q<;>rfl
    simp[hlt,undef]
 rw[this]
 cases yielded ops a.tmps j with
 |none=>simp
 |some b=>cases b<;>cases want<;>rfl
theorem nR {f f':Fr} {a:Act} {o:Oper} {H H':Mem} (hr:xO f a) (h:dB P call ops.toList o f H=some (f',H')):∃a',dg P call ops o a H=some (a',H')/\xO f' a':=by
 unfold dB at h
 rw[hr.wanted,hr.eval,pick2_eq] at h
 unfold dg
 split at h
 .
  rename_i hw;unfold nM at h;split at h
  .
   rename_i v H1 hop;split at h
   .
    rename_i f1 hf;cases h;exact ⟨a.put o.dst v,by rw[if_pos hw,hop];rfl,hr.put hf⟩
   cases h
  cases h
 rename_i hw
 unfold nM at h
 simp only at h
 split at h
 .
  rename_i f1 hf;cases h;exact ⟨a.put o.dst undef,by rw[if_neg hw],hr.put hf⟩
 cases h
theorem Lu {f f':Fr} {a:Act} {o:Oper} {R:Option (List Nat)} {lk:Bool} {H H':Mem} (hr:xO f a) (h:kf P call ops.toList R lk o f H=some (f',H')):∃a',gY P call ops R lk o a H=some (a',H')/\xO f' a':=by
 unfold kf at h
 unfold gY
 rw[pick2_eq] at h
 split at h
 .
  rename_i hl;cases hb:ee o.op with
  |
   some s =>
   rw[hb] at h;simp only[pick2_eq] at h;split at h
   .
    rename_i hc;obtain ⟨a',h2,h3⟩:=nR hr h;rw[hr.eval] at hc;exact ⟨a',by rw[if_pos hl];simp only[if_pos hc];exact h2,h3⟩
   cases h
  |
   none =>
   rw[hb] at h;simp only at h;rw[pick2_eq] at h;split at h
   .
    rename_i hc;obtain ⟨a',h2,h3⟩:=nR hr h;rw[hr.eval] at hc;exact ⟨a',by rw[if_pos hl];simp only[if_pos hc];exact h2,h3⟩
   rename_i hc;split at h
   .
    rename_i f1 H1 h1;cases h;obtain ⟨a',h2,h3⟩:=nR hr h1;rw[hr.eval] at hc;exact ⟨a',by rw[if_pos hl];simp only[if_neg hc,h2];rfl,h3⟩
   cases h
 rename_i hl
 obtain ⟨a',h2,h3⟩:=nR hr h
 exact ⟨a',by rw[if_neg hl];exact h2,h3⟩
theorem EW (hk:bJ call) {o:Oper} {a a':Act} {H H':Mem} (h:dg P call ops o a H=some (a',H')):cn H H':=by
 unfold dg at h
 split at h
 .
  simp only[Option.map_eq_some_iff] at h;obtain ⟨u,hu,heq⟩:=h;cases heq;exact u7 hk hu
 cases h;exact .refl _
theorem EX {ρ:Ren} {a ar:Act} (hs:uP ρ a ar) (j:Nat):yielded ops ar.tmps j=yielded ops a.tmps j:=by
 unfold yielded
 cases hd:(ops[j]?).bind (·.dst) with
 |none=>rfl
 |
  some d =>
  simp only[Option.bind_some];by_cases hlt:d<a.tmps.size
  .
   have hlt':d<ar.tmps.size:=hs.tmps.1 ▸ hlt;have hr:=hs.tmps.2 d _ _ (Array.getElem?_eq_getElem hlt) (Array.getElem?_eq_getElem hlt');rw[Array.getElem?_eq_getElem hlt,Array.getElem?_eq_getElem hlt'];generalize a.tmps[d]=x at hr;generalize ar.tmps[d]=y at hr;cases hr<;>rfl
  rw[Array.getElem?_eq_none (Nat.le_of_not_lt hlt),Array.getElem?_eq_none (Nat.le_of_not_lt (hs.tmps.1 ▸ hlt))]
theorem yG {ρ:Ren} {a ar:Act} (hs:uP ρ a ar) (o:Oper):Region.wanted o (yielded ops ar.tmps)=Region.wanted o (yielded ops a.tmps):=by
 unfold Region.wanted
 split
 .
  rfl
 rw[EX hs]
def cP (P:Program):Prop:=∀(id:FuncId) fn,P.funcs[id]? = some fn->¬(fn.name = "runtime.NumGoroutine")
theorem N5 (hno:cP P) {ρ:Ren} {ev ev':Operand->Value} {o:Oper} {cl:Call} {g:Operand} (hop:o.op = .call cl) (hg:cl.callee = .value g) (aA:VN ρ ev ev' o.op) {H H':Mem} {v:Value}
 (h:jC P call (ev g) (cl.args.toList.map ev) H=some (v,H')) (w:World) :
 ∃f args args',LR (VRel ρ) args args'/\call f args H=some (v,H')/\P.funcs[f]? ≠ none/\(execOp ev' o).run P w = .ok (.enter f args'.toArray) w:=by
 unfold jC at h
 split at h
 .
  rename_i id first captured hf
  split at h
  .
   rename_i fn hfn;rw[pick2_eq] at h;split at h
   .
    rename_i hb;have hgr:=aA g (by simp[hop,hg,Op.operands,Call.operands])
    rw[hf] at hgr;generalize hg':ev' g=g' at hgr;cases hgr with
    |
     func _ _ first' _ captured' s1 h1 s2 h2 =>
     have hargs:=AR.map (ev:=ev) (ev':=ev') cl.args λy hy=>aA y (by simp[hop,hg,Op.operands,Call.operands,hy])
     refine ⟨id,_,first'.toList++((cl.args.map ev').toList++captured'.toList),?_,h,(by rw[hfn];simp),?_⟩
     .
      have:=(AR.list ⟨s1,h1⟩).append (hargs.list.append (AR.list ⟨s2,h2⟩))
      simpa using this
     obtain ⟨cb,hb'⟩:=Option.isSome_iff_exists.1 hb;have hname:=hno id fn hfn;obtain ⟨callee,args,ats⟩:=cl;simp only at hg;subst hg;simp[execOp,hop,resolve,Deferred.ofValue,hg',invoke,callFunc,hfn,hname,hb']
   cases h
  cases h
 cases h
theorem yH (hno:cP P) {G:Nat} (hcall:jG P G GR call) {o:Oper} {a a' ar:Act} {H H':Mem} (hok:o.op.operands.toList.all (bt G)=true) (h:dg P call ops o a H=some (a',H')) {c:Cx} (cU:c.P=P) (cA:c.At G GR) {w:World} {ρ:Ren} (hs:uP ρ a ar) (he:bg c ρ H w)
 {Q:Exit->Act->World->Prop} {K:Act->World->Prop} (hK:∀ ρ' ar' w',ρ.le ρ'->uP ρ' a' ar'->bg c ρ' H' w'->K ar' w') :
 if Region.wanted o (yielded ops ar.tmps) then o.wp P ar w K Q\/(o.asks P ar w/\LetsOut Q) else K (ar.put o.dst undef) w:=by
 subst cU
 have hG0:=cA.g
 subst hG0
 have aA:VN ρ a.eval ar.eval o.op:=λx hx=>hs.eval he.dz (List.all_eq_true.1 hok x (by simpa using hx))
 rw[yG hs]
 unfold dg at h
 split at h
 .
  rename_i hw;rw[if_pos hw];simp only[Option.map_eq_some_iff] at h;obtain ⟨u,hu,heq⟩:=h;cases heq;refine .inl ?_;unfold Oper.wp;by_cases ia:∃cl g r,o.op = .call cl/\cl.callee = .value g/\jC c.P call (a.eval g) (cl.args.toList.map a.eval) H=some r
  .
   obtain ⟨cl,g,r,hop,hg,hcr⟩:=ia
   have hur:some r=some u:=by
    rw[<-hu];unfold opA;rw[hop];simp only[bp,hg,hcr]
   cases hur;obtain ⟨f,args,args',hargs,hc,agj,hrun⟩:=N5 hno hop hg aA hcr w;rw[hrun];refine (hcall _ _ _ _ _ hc (.inl agj) c rfl cA ρ w args' he hargs).mono ?_;rintro e w' ⟨ρ',v',rfl,h1,h2,h3⟩;exact hK ρ' _ _ h1 ((hs.mono h1).put o.dst h2) h3
  obtain ⟨ρ',w',v',h1,h2,h3,h4⟩:=Xe he aA (λcl hop f hf=>by
   cases hcr:jC c.P call (a.eval f) (cl.args.toList.map a.eval) H with
   |none=>rfl
   |some r=>exact absurd ⟨cl,f,r,hop,hf,hcr⟩ ia) hu
  rcases h4 with h4|⟨h4,rfl⟩
  .
   rw[h4];exact hK ρ' _ _ h1 ((hs.mono h1).put o.dst h3) h2
  rw[h4];exact hK ρ' _ _ h1 ((hs.mono h1).put o.dst h3) h2
 rename_i hw
 rw[if_neg hw]
 cases h
 exact hK ρ _ _ (Ren.le_refl _) (hs.put o.dst .undef) he
theorem Lv (hno:cP P) {G:Nat} (hcall:jG P G GR call) (_hk:bJ call) {o:Oper} {R:Option (List Nat)} {lk:Bool} {a a' ar:Act} {H H':Mem} (hok:o.op.operands.toList.all (bt G)=true) (h:gY P call ops R lk o a H=some (a',H')) {c:Cx} (cU:c.P=P) (cA:c.At G GR) {w:World} {ρ:Ren} (hs:uP ρ a ar) (he:bg c ρ H w)
 {Q:Exit->Act->World->Prop} {K:Act->World->Prop} (hK:∀ ρ' ar' w',ρ.le ρ'->uP ρ' a' ar'->bg c ρ' H' w'->K ar' w') :
 if Region.wanted o (yielded ops ar.tmps) then o.wp P ar w K Q\/(o.asks P ar w/\LetsOut Q) else K (ar.put o.dst undef) w:=by
 rcases lA h with ⟨h,_⟩|⟨_,u,hu,heq⟩
 .
  exact yH hno hcall hok h cU cA hs he hK
 cases heq
 have he':bg c ρ { H with lk:=H.size } w:=he.less (Nat.le_refl _) he.tw λi b' hi _=>hi
 refine yH hno hcall hok hu cU cA hs he' fun ρ' ar' w' h1 h2 h3=>hK ρ' ar' w' h1 h2 ?_
 exact h3.less (Nat.le_refl _) he.lk λi b' hi _=>hi
end
end Go.Ev
