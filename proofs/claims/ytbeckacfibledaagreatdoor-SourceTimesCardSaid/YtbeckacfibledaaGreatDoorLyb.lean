/- The evaluator's operations, fourth part: all of them. -/
import Derived.Test.YtbeckacfibledaaGreatDoorLya
import Derived.MapKept
import Derived.Tactics
set_option linter.unusedVariables false
set_option linter.unusedSimpArgs false

namespace Go.Ev
open Go.RowKit
section
variable {c:Cx} {P:Program} {w:World} {ρ:Ren} {H:Mem}
theorem acg (b:fc c ρ H w){dt ty:TypeId}{d l x m v:Value}{o:Mem}{at_:Array TypeId}{as:dW}
 (p:at_[0]? = some dt) (q:as[0]? = some l) (t:as[1]? = some m)
 (u:bR ρ d l) (z:bR ρ x m) (h:Ia c.P H dt d x=some (v,o)) :
 ∃w' v',fc c ρ o w'/\bR ρ v v'/\(Builtin.copy_ at_ ty as).run c.P w = .ok v' w':=by
 unfold Ia at h;split at h
 .rename_i e base A _ n B D;have hlen:=WM (P:=c.P) z D w;split at h
  .rename_i s C;split at h
   .rename_i cs E;obtain⟨F,a,f⟩:=Bb b z E;split at h
    .simp only[aO]at h;obtain⟨I,g,heq⟩:=h;cases heq;cases u with
     |slice i off _ _ r y G =>
      obtain⟨w',j,k,_⟩:=E8 b G f g;refine⟨w',_,k,.int _ _,?_⟩;simp[Builtin.copy_,p,q,t,run_underlying B,hlen,iY C,a,j,goInt]
    .cases h;cases u;refine⟨w,_,b,.int _ _,?_⟩;simp[Builtin.copy_,p,q,t,run_underlying B,hlen,iY C,a,goInt]
    cases h
   cases h
  cases h
 cases h
theorem Mt:∀(l:aW) (a s:ByteArray),tO l a=some s->∃d:cZ,l=d.map (Value.int .u8)/\s=d.foldl (λr n=>r.push (UInt8.ofNat n.toNat)) a
 |[],a,s,h=>by simp only[tO,aq]at h;exact⟨[],rfl,h.symm⟩
 |v::l,a,s,h=>by
  simp only[tO]at h;split at h
  .rename_i b e;obtain⟨d,f,g⟩:=Mt l _ s h;unfold Ej at e;split at e
   .rename_i n;cases e;exact⟨n::d,by rw[f];rfl,by rw[g];rfl⟩
   cases e
  cases h
theorem LR.ints {d:cZ}{k:IntKind}{b:aW}(h:LR (bR ρ) (d.map (Value.int k)) b):b=d.map (Value.int k):=by
 apply lO;intro i;by_cases hi:i<b.length
 .have a:i<(d.map (Value.int k)).length:=by rw[h.1];exact hi
  have e:=h.2 i _ _ (aR a) (aR hi);rw[aR a,aR hi];simp only[List.getElem_map]at e ⊢;generalize b[i]=q at e ⊢;cases e with
  |int=>rfl
 rw[eD (fX hi),eD (by rw[h.1];exact fX hi)]
theorem o6 (w:World)(a:Addr)(n k:Nat)(h:k≠a.block):(w.freeze a n).heap[k]? = w.heap[k]? := by
 unfold World.freeze;split
 .rfl
 simp only[lU];rw[aa (λe=>h e.symm)]
theorem Du (w:World)(a:Addr)(n:Nat):(w.freeze a n).heap.size=w.heap.size:=by
 unfold World.freeze;split
 .rfl
 simp
theorem Mu {w:World}{r n:Nat}{C:dW}{t:TypeId}{lo hi:Nat}(h:w.heap[r]? = some (.cells C t (lo,hi))) :
 (w.freeze ⟨r,n,none⟩ 1).heap[r]? = some (.cells C t (if lo==hi then (n,n+1) else (min lo n,max hi (n+1)))):=by
 unfold World.freeze;rw[aa (by decide)];simp only[lU,gy,h,bP]
theorem fc.mark {c:Cx}{ρ:Ren}{H:Mem}{w:World}(a:fc c ρ H w){i r x:Nat}{b:kV}(hi:alive H i=some b)(N:c.L<=i)(F:ρ i=some (r,x)){C:dW}{t:TypeId}{fr:Nat×Nat}(o:w.heap[r]? = some (.cells C t fr)):fc c ρ H (w.freeze ⟨r,C.size,none⟩ 1):=by
 obtain⟨G,I⟩:=eA hi;have J:c.own r:=by
  obtain⟨r',m,C,fr,s,f,d,_⟩:=a.blk i b G I;rw[F]at f;cases f;rcases d with d|d
  .omega
  exact d
 refine⟨a.stay.Mm J (Lib.below_freeze (Below.refl _ _) (p:=⟨r,C.size,none⟩) J.1 1) (λk O=>o6 _ _ _ _ O),by rw[Du];exact a.base,a.dom,a.lk,a.A0,a.kE,λj n g h=>?_,a.inj,λj n g Q=>(a.maps j n g Q).heap λq es clock u=>by
  rw[o6 _ _ _ _ (λe=>by subst e;rw[o]at u;cases u)];exact u,a.xm⟩
 obtain⟨r',m,R,v,s,f,d,y,z,K⟩:=a.blk j n g h;by_cases l:r'=r
 .subst l;have A:=a.inj j i n b r' m x g h G I f F;subst A;rw[o]at y;cases y;obtain⟨lo,B⟩:=fr;refine⟨r',m,C,_,s,f,d,Mu o,.inr ?_,K⟩;rcases z with z|⟨S,M⟩
  .omega
  simp only at S M;by_cases e:lo=B
  .subst e;simp only[pI,gy];exact⟨by simp,λj g=>by simp;omega⟩
  have T:C.size<=lo:=by
   rcases Nat.lt_or_ge lo C.size with D|E
   .exact absurd ⟨aG _,by omega⟩ (M lo D)
   exact E
  rw[aa (by simpa using e)];exact⟨by simp;omega,λj g=>by simp;omega⟩
 exact⟨r',m,R,v,s,f,d,by rw[o6 _ _ _ _ l];exact y,z,K⟩
theorem P6 (f:fc c ρ H w){g dst:TypeId}{x W v:Value}{X:Mem}(p:bR ρ x W)(h:kr c.P H g dst x=some (v,X)) :
 ∃ ρ' w' v',ρ.le ρ'/\fc c ρ' X w'/\bR ρ' v v'/\(convert g dst W).run c.P w = .ok v' w':=by
 unfold kr at h;split at h
 .rename_i e a len cap k m;split at h
  .rename_i b off q;split at h
   .rename_i cs o;simp only[aO]at h;obtain⟨s,A,heq⟩:=h;cases heq;cases p with
    |slice _ _ _ _ r y M =>
     obtain⟨l',Y,h2,Z⟩:=f.read M o;obtain⟨ns,rfl,N⟩:=Mt _ _ _ A;rw[Y.ints]at Z;have d:=run_loadCells_list (P:=c.P) w _ _ Z;rw[h2]at d;refine⟨ρ,w,_,Ren.le_refl _,f,.string _,?_⟩;rw[run_convert_bytes_string w g dst e _ len (cap+y) k q m,run_bytesToString w _ len (cap+y) ns d,N]
   cases h
  .rename_i q;cases h;cases p;refine⟨ρ,w,_,Ren.le_refl _,f,.string _,?_⟩;rw[run_convert_bytes_string w g dst e _ len _ k q m];simp[Conv.bytesToString]
  .rename_i q;cases h;cases p with
   |void a' =>
    have d:=run_loadCells_list (P:=c.P) w a' [] (λj v L=>by cases L);refine⟨ρ,w,_,Ren.le_refl _,f,.string _,?_⟩;rw[run_convert_bytes_string w g dst e _ 0 0 k q m,run_bytesToString w a' 0 0 [] d];rfl
  cases h
 .rename_i e s k m;split at h
  .rename_i q z;obtain⟨O,rfl⟩:=pZ h;cases p;have d:=run_bytes_of_string (P:=c.P) w g dst e s k m q;have E:=Mr w s.size 0 e;refine⟨_,_,_,f.xL (aG _) (w.heap.size,grownCap w s.size 0 e-s.size),?_,?_,d⟩
   .refine f.drew.new O z ?_ ?_ ?_ (λh=>by cases h) ⟨λj v L F=>.inr ⟨q,by
     unfold bytesRow at F;rw[ij]at F;split at F
     .rename_i Q;simp at Q L;omega
     .rw[Array.getElem?_replicate]at F;split at F
      .cases F;rfl
      cases F⟩,by
     by_cases P4:s.size<9223372036854775808
     .refine .inr (.inl λs' J=>?_);rw[z]at J;cases J;have Y:=Mq w s.size 0 e P4;simp[bytesRow];omega
     refine .inr (.inr ?_);simp;omega⟩
    .have G:LR (bR ρ) (s.data.toList.map λb=>Value.int .u8 b.toNat) (s.data.toList.map λb=>Value.int .u8 b.toNat):=⟨rfl,λi x y p hy=>by
      rw[p]at hy;cases hy;obtain⟨b,_,rfl⟩:=cG.1 (bu p);exact .int _ _⟩
     have:=G.zJ (Array.replicate (grownCap w s.size 0 e-s.size) (.int .u8 0));have e1:bytesRow s (grownCap w s.size 0 e)=(s.data.toList.map λb=>Value.int .u8 b.toNat).toArray++Array.replicate (grownCap w s.size 0 e-s.size) (.int .u8 0):=by
      unfold bytesRow;congr 1;apply kN;simp
     rw[e1];exact this
    .simp[bytesRow]
    exact⟨by simp,λj L=>by simp;omega⟩
   have:=bR.slice (ρ:=ρ.put H.size (w.heap.size,grownCap w s.size 0 e-s.size)) H.size 0 s.size s.size w.heap.size _ (Ren.nK _ _ _);rw[kC E]at this;exact this
  cases h
 .rename_i e1 e i off l cp k m;split at h
  .rename_i b A q;rw[ay]at h;split at h
   .rename_i B;cases h;simp only[ak,A9,aZ,aQ]at B;obtain⟨R,rfl⟩:=B;have K:=m;rw[k]at K;cases K;cases p with
    |slice _ _ _ _ r y o =>
     obtain⟨E,G⟩:=eA A;obtain⟨r',y',C,fr,s,D,k2,I,k4,S,T,k7⟩:=f.blk i b E G;rw[o]at D;cases D;refine⟨ρ,_,_,Ren.le_refl _,f.mark A (bA f.lk R) o I,.slice i off l cp r y o,?_⟩;simp[convert,run_underlying k,run_underlying q,run_underlying m,markStringish,World.shape?,I]
   cases h
  cases h
 .rename_i t i k m;split at h
  .rename_i b n A U;rw[ay]at h;split at h
   .rename_i B;cases h;cases p with
    |ptr _ _ r y o =>
     obtain⟨E,G⟩:=eA A;obtain⟨r',y',C,fr,s,D,k2,I,k4,S,T,k7⟩:=f.blk i b E G;rw[o]at D;cases D;simp only[ak,A9,aZ]at B;obtain⟨V,hi,z⟩:=aO.1 U;refine⟨ρ,w,_,Ren.le_refl _,f,.ptr i 0 r y o,?_⟩;exact Lib.run_to_unsafe w ⟨r,0,none⟩ k m hi (by omega) (e:=b.elem) (cells:=C.size) (by simp[World.shape?,I]) (by show 0<C.size;omega)
   cases h
  cases h
 .rename_i u i k m;split at h
  .rename_i b n A U;rw[ay]at h;split at h
   .rename_i B;cases h;cases p with
    |ptr _ _ r y o =>
     obtain⟨E,G⟩:=eA A;obtain⟨r',y',C,fr,s,D,k2,I,k4,S,T,k7⟩:=f.blk i b E G;rw[o]at D;cases D;simp only[ak]at B;obtain⟨V,hi,z⟩:=aO.1 U;have hy:=S.2 B.1;subst hy;have hC:C.size=b.cells.length:=by simpa using T
     refine⟨ρ,w,_,Ren.le_refl _,f,.ptr i 0 r 0 o,?_⟩;exact Lib.run_from_unsafe w ⟨r,0,none⟩ k m hi (e:=b.elem) (cells:=C.size) (by simp[World.shape?,I]) (by rw[hC];exact B.2)
   cases h
  cases h
 cases h
theorem Cu {i:Int}{len m:Nat}(h:Ur i len=some m):i=(m:Int)/\m<len:=by
 unfold Ur at h;split at h
 .rename_i k;rw[ay,oG]at h;split at h
  .rename_i a;cases h;exact⟨rfl,by simpa using a⟩
  cases h
 cases h
theorem ahp {t:TypeId}{x l i o v:Value}(p:bR ρ x l)(hi:bR ρ i o)(h:JV P t x i=some v)(w:World) :
 ∃v',(Instr.indexAt t l o).run P w = .ok v' w/\bR ρ v v':=by
 unfold JV at h;split at h
 .rename_i e b off len cap k n d;cases hi;cases p with
  |slice _ _ _ _ r y f =>
   split at h
   .rename_i s m g j;cases h;obtain⟨rfl,a⟩:=Cu j;refine⟨.pointer (some ⟨r,off+m*s,none⟩),?_,.ptr _ _ _ _ f⟩;have q:(m:Int)<(len:Int):=by omega
    simp[Instr.indexAt,asIntOf,run_underlying d,a,iY g,su]
   cases h
 .rename_i len e b off k n d;cases hi;cases p with
  |ptr _ _ r y f =>
   split at h
   .rename_i s m g j;cases h;obtain⟨rfl,a⟩:=Cu j;refine⟨.pointer (some ⟨r,off+m*s,none⟩),?_,.ptr _ _ _ _ f⟩;simp[Instr.indexAt,asIntOf,run_underlying d,Instr.sureAddr,a,iY g,su]
   cases h
 cases h
theorem Ke {s:TypeId}{f:Nat}{x d v:Value}(e:bR ρ x d)(h:zZ P s x f=some v)(w:World) :
 ∃v',(Instr.fieldAt s d f).run P w = .ok v' w/\bR ρ v v':=by
 unfold zZ at h;split at h
 .rename_i l b off g;cases e with
  |ptr _ _ r y i =>
   split at h
   .rename_i m j;split at h
    .rename_i n k;split at h
     .cases h
     rename_i a;cases h;exact⟨_,by simp[Instr.fieldAt,run_underlying g,j,Instr.sureAddr,fieldPlace,iY k,a,su],.ptr _ _ _ _ i⟩
    cases h
   cases h
 cases h
inductive OR (R:Value->Value->Prop):fS->fS->Prop where
 |none:OR R .none .none
 |some {v v':Value} (h:R v v'):OR R (.some v) (.some v')
theorem Bd {x a:Value}{y n:Nat}{c:BoundsCode}(d:bR ρ x a)(h:pJ x y=some n)(w:World):(Instr.sliceBound a y c).run P w = .ok n w/\n<=y:=by
 unfold pJ at h;split at h
 .split at h
  .rename_i b;cases h;cases d;exact⟨by simp[Instr.sliceBound,asIntOf,b.1,b.2],by omega⟩
  cases h
 cases h
theorem Mv {c:Cx}{H:Mem}{w:World}(G:fc c ρ H w){t:TypeId}{x z v:Value}{lo d hi f:fS}(I:bR ρ x z)(i:OR (bR ρ) lo d)(l:OR (bR ρ) hi f)(h:sk c.P H t x lo hi=some v) :
 ∃v',(Instr.sliceAt t z d f none).run c.P w = .ok v' w/\bR ρ v v':=by
 unfold sk at h;split at h
 .rename_i n e b off A;split at h
  .rename_i m q;split at h
   .rename_i a u;have o:(match f with|some v=>Instr.sliceBound v n .sliceAlen|none=>pure n:Sem Nat).run c.P w = .ok m w:=by
     cases l with
     |none=>simp at q;subst q;rfl
     |some p=>exact(Bd p q w).1
    have g:(match d with|some v=>Instr.sliceBound v m .sliceB|none=>pure 0:Sem Nat).run c.P w = .ok a w/\a<=m:=by
     cases i with
     |none=>simp at u;subst u;exact⟨rfl,cJ _⟩
     |some p=>exact Bd p u w
    have B:(Instr.sliceBounds false n n d f none).run c.P w = .ok (a,m,n) w:=by
     cases l with
     |none =>
      simp only[Sem.run_pure,Result.ok.injEq]at o;cases i with
      |none =>
       have:=g.1;simp only[Sem.run_pure,Result.ok.injEq]at this;simp[Instr.sliceBounds,o.1,this.1]
      |some p=>simp[Instr.sliceBounds,o.1];have:=g.1;simp[this]
     |some J =>
      cases i with
      |none =>
       have:=g.1;simp only[Sem.run_pure,Result.ok.injEq]at this;simp[Instr.sliceBounds,o,this.1]
      |some p=>simp[Instr.sliceBounds,o];have:=g.1;simp[this]
    split at h
    .rename_i k s K D;rw[ay]at h;split at h
     .rename_i L;cases h;cases I with
      |ptr _ _ r y E =>
       obtain⟨M,N⟩:=eA K;obtain⟨r',Q,C,fr,R,F,_,_,_,O,_⟩:=G.blk b k M N;rw[E]at F;cases F;obtain rfl:=O.2 L;refine⟨.slice (some ⟨r,if n=a then off else off+a*s,none⟩) (m-a) (n-a+0),?_,?_⟩
       .by_cases j:n=a
        .subst j;simp[Instr.sliceAt,Instr.sureAddr,run_underlying A,B,iY D]
        simp[Instr.sliceAt,Instr.sureAddr,run_underlying A,B,iY D,j,su]
       have e2:ah (Nat.beq n a) off (Nat.add off (Nat.mul a s))=if n=a then off else off+a*s:=by
        rw[ay];by_cases j:n=a
        .rw[ag (by rw[aQ];exact j),ag j]
        rw[aa (by rw[aQ];exact j),aa j];rfl
       rw[e2];exact .slice _ _ _ _ _ _ E
     cases h
    cases h
   cases h
  cases h
 cases h
theorem WR {t:TypeId}{x G v:Value}{lo i hi j:fS}(D:bR ρ x G)(l:OR (bR ρ) lo i)(z:OR (bR ρ) hi j)(h:mz P t x lo hi=some v)(w:World) :
 ∃v',(Instr.sliceAt t G i j none).run P w = .ok v' w/\bR ρ v v':=by
 unfold mz at h;split at h
 .rename_i e a len cap C;split at h
  .rename_i m k;split at h
   .rename_i f E;have d:∀o,cap<=o->(Instr.sliceBounds true len o i j none).run P w = .ok (f,m,o) w/\f<=m:=by
     intro o I;have A:(match j with|some v=>Instr.sliceBound v o .sliceAcap|none=>pure len:Sem Nat).run P w = .ok m w:=by
      cases z with
      |none=>simp at k;subst k;rfl
      |some B =>
       rename_i u S;simp only at k ⊢;have F:pJ u o=some m:=by
        unfold pJ at k ⊢;split at k
        .split at k
         .rename_i K;cases k;rw[ag ⟨K.1,by omega⟩]
         cases k
        cases k
       exact(Bd B F w).1
     have g:(match i with|some v=>Instr.sliceBound v m .sliceB|none=>pure 0:Sem Nat).run P w = .ok f w/\f<=m:=by
      cases l with
      |none=>simp at E;subst E;exact⟨rfl,cJ _⟩
      |some B=>exact Bd B E w
     refine⟨?_,g.2⟩;cases z with
     |none =>
      simp only[Sem.run_pure,Result.ok.injEq]at A;cases l with
      |none =>
       have:=g.1;simp only[Sem.run_pure,Result.ok.injEq]at this;simp[Instr.sliceBounds,A.1,this.1]
      |some B=>simp[Instr.sliceBounds,A.1];have:=g.1;simp[this]
     |some L =>
      cases l with
      |none =>
       have:=g.1;simp only[Sem.run_pure,Result.ok.injEq]at this;simp[Instr.sliceBounds,A,this.1]
      |some B=>simp[Instr.sliceBounds,A];have:=g.1;simp[this]
    split at h
    .rename_i b off s p;split at h
     .cases h
     rename_i I;cases h;simp only[mq]at I;cases D with
     |slice _ _ _ _ r y M =>
      obtain⟨n,J⟩:=d (cap+y) (by omega);refine⟨.slice (some ⟨r,off+f*s,none⟩) (m-f) (cap-f+y),?_,.slice _ _ _ _ _ _ M⟩;have N:cap+y-f=cap-f+y:=by omega
      by_cases O:cap+y=f
      .have:f=0:=by omega
       subst this;obtain rfl:cap=0:=by omega
       obtain rfl:y=0:=by omega
       simp at n;simp[Instr.sliceAt,Instr.slice,run_underlying C,n,iY p]
      simp[Instr.sliceAt,Instr.slice,run_underlying C,n,iY p,O,su,N]
    .rename_i s p;cases h;cases D;obtain⟨n,J⟩:=d cap (aG _);exact⟨_,by simp[Instr.sliceAt,Instr.slice,run_underlying C,n,iY p],.nJ _ _⟩
    .rename_i b off q s p;split at h;case isFalse=>cases h
     rename_i Q;cases h;subst Q;cases D with
     |void R =>
      obtain⟨n,J⟩:=d 0 (aG _);obtain rfl:f=0:=by omega
      refine⟨.slice (some R) 0 0,?_,.void _⟩;simp[Instr.sliceAt,Instr.slice,run_underlying C,n,iY p]
    cases h
   cases h
  cases h
 cases h
theorem Sm {t:TypeId}{cs a:dW}{off:Nat}{v:Value}(d:AR (bR ρ) cs a)(h:ER P t cs off=some v)(w:World) :
 ∃v',(part t a off).run P w = .ok v' w/\bR ρ v v':=by
 unfold ER at h;split at h
 .rename_i n f j;cases h;refine⟨.agg (a.extract off (off+n)),by simp[part,yU f,iY j],.agg _ _ (by simp[d.1]) λi x y e hy=>?_⟩;rw[Array.getElem?_extract]at e hy;split at e
  .split at hy
   .exact d.2 _ x y e hy
   cases hy
  cases e
 .rename_i f;have g:off<cs.size:=(aF.1 h).1;have b:off<a.size:=d.1 ▸ g;exact⟨a[off],by simp[part,yU f,b],d.2 off v _ h (by simp[b])⟩
 cases h
theorem Uv {t:TypeId}{x a v:Value}{f:Nat}(b:bR ρ x a)(h:A5 P t x f=some v)(w:World):∃v',(Instr.field t a f).run P w = .ok v' w/\bR ρ v v':=by
 unfold A5 at h;split at h
 .rename_i m cs d;split at h
  .rename_i n e;cases b with
   |agg _ g i j =>
    obtain⟨v',k,l⟩:=Sm ⟨i,j⟩ h w;exact⟨v',by simp[Instr.field,run_underlying d,e,asAgg,k],l⟩
  cases h
 cases h
theorem Uw {t:TypeId}{x f i g v:Value}(j:bR ρ x f)(hi:bR ρ i g)(h:yR P t x i=some v)(w:World):∃v',(Instr.index t f g).run P w = .ok v' w/\bR ρ v v':=by
 unfold yR at h;split at h
 .rename_i len e cs k n l;split at h
  .rename_i s m o p;obtain⟨rfl,a⟩:=Cu p;cases hi;cases j with
   |agg _ b q r =>
    obtain⟨v',u,y⟩:=Sm ⟨q,r⟩ h w;have d:(part e b (m*s)).run P w = .ok v' w:=u;exact⟨v',by simp[Instr.index,asIntOf,run_underlying l,a,iY o,d],y⟩
  cases h
 cases h
theorem Mw {t:TypeId}{x e i f v:Value}(l:bR ρ x e)(hi:bR ρ i f)(h:sj P t x i=some v)(w:World):∃v',(Instr.index t e f).run P w = .ok v' w/\bR ρ v v':=by
 unfold sj at h;split at h
 .rename_i s k m n;split at h
  .rename_i b g;cases h;cases l;cases hi;refine⟨.int .u8 b.toNat,?_,.int _ _⟩;have a:m<s.size:=by
    have:=(bH.1 g).1;simpa using this
   have d:s[m]? = some b:=by
    have j:=(bH.1 g).2;simp only[Array.getElem_toList]at j;rw[getElem?_pos s m a];exact bO some j
   have o:(0:Int)<=Int.ofNat m:=Int.natCast_nonneg m;simp[Instr.index,asIntOf,run_underlying n,d]
  cases h
 cases h
theorem qA {α:Type}:∀(s:Sem α) {v:α},bQ P s=some v->∀w,s.run P w = .ok v w
 |.pure a,v,h,w=>by simp only[bQ,aq]at h;subst h;rfl
 |.program k,v,h,w=>by simp only[bQ]at h;exact qA (k P) h w
 |.mark _ k,v,h,w=>by simp only[bQ]at h;exact qA k h w
 |.load ..,_,h,_=>by simp[bQ]at h
 |.store ..,_,h,_=>by simp[bQ]at h
 |.new ..,_,h,_=>by simp[bQ]at h
 |.shape ..,_,h,_=>by simp[bQ]at h
 |.freeze ..,_,h,_=>by simp[bQ]at h
 |.frozen ..,_,h,_=>by simp[bQ]at h
 |.getObj ..,_,h,_=>by simp[bQ]at h
 |.setObj ..,_,h,_=>by simp[bQ]at h
 |.choose ..,_,h,_=>by simp[bQ]at h
 |.sys ..,_,h,_=>by simp[bQ]at h
 |.halt ..,_,h,_=>by simp[bQ]at h
theorem pure_ok {o:Oper}{ev ev':Operand->Value}{v:Value}(f:∀x∈o.op.operands,bR ρ (ev x) (ev' x))(h:iX P ev o=some v)(w:World) :
 (execOp ev' o).run P w = .ok (.value v) w/\bR ρ v v:=by
 unfold iX at h;split at h
 .cases h
 rename_i d;split at h
 .rename_i a;split at h
  .rename_i u g;split at h
   .rename_i i;cases h;refine⟨?_,eu _ i⟩;have j:execOp ev' o=execOp ev o:=execOp_congr o (λcs b k=>d cs b k) λx e=>by
     refine m9 (f x e) ?_;have:=aN.1 a x (by simpa using e);exact this
    rw[j];exact qA _ g w
   cases h
  cases h
 cases h
end
end Go.Ev
namespace Go.Ev
open Go.RowKit Go.MapKept
section
variable {c:Cx} {P:Program} {w:World} {ρ:Ren} {H:Mem}
theorem wz {H:Mem}{i:Nat}{b:kV}(h:mapOf H i=some b):H.get i=some b/\jK b=true:=by
 unfold mapOf at h;split at h
 .rename_i d a;rw[ay]at h;split at h
  .cases h;exact⟨a,by assumption⟩
  cases h
 cases h
theorem ni:∀a b:au,qj a b=decide (a=b)
 |[],[]=>by simp[qj]
 |[],_::_=>by simp[qj]
 |_::_,[]=>by simp[qj]
 |a::l,b::m=>by
  rw[qj,ay,ni l m];by_cases h:a.toNat=b.toNat
  .rw[ag (by simpa[aQ] using h),lp.1 h];simp
  rw[aa (by simpa[aQ] using h)];have:a≠b:=λe=>h (by rw[e])
  simp[this]
theorem eqI_spec' (a b:Int):bS a b=(a==b):=by
 unfold bS;split
 .rename_i m n;rw[bX];simp[aQ];omega
 .rename_i m n;rw[bX];simp[aQ]
 rename_i d e;cases a<;>cases b<;>first|(exact absurd rfl (d _ _ rfl))|(exact absurd rfl (e _ _ rfl))|simp_all
theorem Sn {d:TypeDesc}{k q g i:Value}{r:Bool}(j:bR ρ k g)(l:bR ρ q i)(h:Mh d k q=some r) :
 Instr.sameNow d g i=some r/\(r=true->g=i)/\IsKey d g:=by
 unfold Mh at h;split at h
 .cases j;cases l;rw[ay]at h;split at h
  .rename_i f;simp only[ak,aZ]at f;obtain⟨rfl,rfl⟩:=f;cases h;rw[eqI_spec'];refine⟨by simp[Instr.sameNow],λe=>by simp at e;rw[e],rfl⟩
  cases h
 .cases j;cases l;cases h;rw[ni];refine⟨?_,λe=>?_,trivial⟩
  .rename_i a b;simp only[Instr.sameNow,aq];rw[bX,bytes_beq];simp only[aZ];constructor
   .rintro rfl;rfl
   intro e;obtain⟨⟨x⟩⟩:=a;obtain⟨⟨y⟩⟩:=b;simp at e;rw[e]
  rename_i a b;simp only[aZ]at e;obtain⟨⟨x⟩⟩:=a;obtain⟨⟨y⟩⟩:=b;simp at e;rw[e]
 cases h
theorem Be {d:TypeDesc}{k a:Value}(l:bR ρ k a):∀(cs:aW) (es:List MapEntry) (i:Nat) {r:Option (Nat×Value)},LR (bR ρ) cs (turns es)->tR d k cs i=some r ->
 (r=none/\Instr.findNow d a es i=some none)\/∃j v e,r=some (i+j,v)/\Instr.findNow d a es i=some (some (i+j,e.val))/\bR ρ v e.val/\es[j]? = some e/\e.key=a/\IsKey d a
 |[],[],i,r,_,h=>by cases h;exact .inl ⟨rfl,rfl⟩
 |[],e::es,i,r,b,_=>by have:=b.1;simp[turns]at this
 |[q],es,i,r,_,h=>by cases h
 |q::v::cs,[],i,r,b,_=>by have:=b.1;simp[turns]at this
 |q::v::cs,e::es,i,r,b,h=>by
  have m:LR (bR ρ) (q::v::cs) (e.key::e.val::turns es):=b;obtain⟨B,C,n,t,o⟩:=m.xJ;cases n;obtain⟨v',D,e2,u,x⟩:=o.xJ;cases e2;unfold tR at h;split at h
  .rename_i p;cases h;obtain⟨g,f,s⟩:=Sn l t p;exact .inr ⟨0,v,e,rfl,by simp[Instr.findNow,g],u,rfl,(f rfl).symm,s⟩
  .rename_i p;obtain⟨g,_,_⟩:=Sn l t p;rcases Be l cs es (i+1) x h with⟨rfl,f⟩|⟨j,v1,n,rfl,f,s,y,z,A⟩
   .exact .inl ⟨rfl,by simp[Instr.findNow,g,f]⟩
   exact .inr ⟨j+1,v1,n,by rw[show i+1+j=i+(j+1) by omega],by simp[Instr.findNow,g,f];omega,s,by simpa using y,z,A⟩
  cases h
theorem vC {a:TypeId}{d:TypeDesc}(b:P.underlying a=some d)(f:uH d=true)(k:Value)(e:Bool)(n:Nat)(w:World):(Instr.checkKey e (n+1) a k).run P w = .ok () w:=by
 unfold Instr.checkKey;simp only[Sem.run_bind,run_underlying b,Result.andThen];cases d<;>first|(cases k<;>rfl)|(simp[uH]at f;done)
theorem P7 (f:fc c ρ H w){x a:Value}{cs:aW}(d:bR ρ x a)(h:qV H x=some cs) :
 (a = .map none/\cs=[])\/∃r es clock,a = .map (some r)/\w.heap[r]? = some (.map es clock)/\LR (bR ρ) cs (turns es.toList):=by
 unfold qV at h;split at h
 .cases h;cases d;exact .inl ⟨rfl,rfl⟩
 .rename_i i;split at h
  .rename_i b g;cases h;obtain⟨j,k⟩:=wz g;obtain⟨r,es,clock,l,k2,m,n⟩:=f.maps i b j k;cases d with
   |map _ r' x e =>
    rw[l]at e;cases e;exact .inr ⟨r,es,clock,rfl,m,n⟩
  cases h
 cases h
theorem look_ok (I:fc c ρ H w){t:TypeId}{x n k s v:Value}{ok:Bool}(J:bR ρ x n)(F:bR ρ k s)(h:wZ c.P H t x k ok=some v) :
 ∃v',(Instr.lookup t n s ok).run c.P w = .ok v' w/\bR ρ v v':=by
 unfold wZ at h;split at h
 .rename_i Q e A;split at h
  .rename_i d z cs l K B;obtain⟨o,C,_⟩:=oH K w;rw[ay]at h;split at h
   .rename_i D;have pair:∀{v v':Value} {b:Bool},bR ρ v v'->bR ρ (ah ok (.tuple #[v,.bool b]) v) (if ok then .tuple #[v',.bool b] else v'):=by
     intro v v' b G;cases ok with
     |false=>exact G
     |true =>
      refine .tuple _ _ rfl ?_;intro i x y g m;rcases i with _|_|i
      .simp at g m;subst g m;exact G
      .simp at g m;subst g m;exact .bool _
      simp at g
    have run:∀{es:Array MapEntry} {clock:Nat} (a:LR (bR ρ) cs (turns es.toList)) (f:n = .map none/\es = #[]\/∃r,n = .map (some r)/\w.heap[r]? = some (.map es clock)),
     ∃v',(Instr.lookup t n s ok).run c.P w = .ok v' w/\bR ρ v v':=by
     intro es clock a f;split at h
     .rename_i j u E;rcases Be F cs es.toList 0 a E with⟨p,_⟩|⟨L,M,N,p,g,m,O,R,S⟩
      .cases p
      cases p;cases h;refine⟨_,?_,pair m⟩;rcases f with⟨rfl,rfl⟩|⟨r,rfl,q⟩
      .simp at O
      simp only[Instr.lookup,Sem.run_bind,run_underlying A,iA q,vC l D,run_findKey l g,Sem.run_pure,Result.andThen]
     .rename_i E;rcases Be F cs es.toList 0 a E with⟨_,g⟩|⟨L,M,N,p,_⟩
      .cases h;refine⟨_,?_,pair (eu z C)⟩;rcases f with⟨rfl,rfl⟩|⟨r,rfl,q⟩
       .simp only[Instr.lookup,Sem.run_bind,run_underlying A,vC l D,run_findKey l g,Sem.run_pure,Result.andThen,o]
       simp only[Instr.lookup,Sem.run_bind,run_underlying A,iA q,vC l D,run_findKey l g,Sem.run_pure,Result.andThen,o]
      cases p
     cases h
    rcases P7 I J B with⟨rfl,rfl⟩|⟨r,es,clock,rfl,q,a⟩
    .exact run (es := #[]) (clock:=0) .nil (.inl ⟨rfl,rfl⟩)
    exact run a (.inr ⟨r,rfl,q⟩)
   cases h
  cases h
 cases h
theorem fc.ahq (a:fc c ρ H w){t:TypeId}{x:Mem}(O:H.push ⟨[],t,false,true⟩=some x):fc c (ρ.put H.size (w.heap.size,0)) x (w.alloc (.map #[] 0)):=by
 have k:=a.xL (aG H.size) (w.heap.size,0);obtain⟨q1,q2,q3⟩:=Mem.eG O;have u:∀{i:Nat} {b:kV},x.get i=some b->(i<H.size/\H.get i=some b)\/(i=H.size/\b=⟨[],t,false,true⟩):=by
  intro i b hi;rw[q3]at hi;by_cases n:i=H.size
  .rw[ag n]at hi;cases hi;exact .inr ⟨n,rfl⟩
  rw[aa n]at hi;exact .inl ⟨Mem.fM hi,hi⟩
 have lt:∀{r:Nat} {o:Obj},w.heap[r]? = some o->r<w.heap.size:=λh=>(aF.1 h).1
 have p:∀{i:Nat} {b:kV},x.get i=some b->b.live=true->i<H.size/\H.get i=some b:=by
  intro i b hi A;rcases u hi with n|⟨_,rfl⟩
  .exact n
  cases A
 refine⟨a.stay.alloc a.base _,bA a.base (by simp),?_,by rw[q2];exact a.lk,by rw[q1];have:=a.A0;omega,λg C=>k _ _ (a.kE g C),?_,?_,?_,?_⟩
 .intro i y hy;rw[q1];by_cases hi:i=H.size
  .omega
  rw[Ren.oZ ρ _ hi]at hy;have:=a.dom i y hy;omega
 .intro i b hi A;obtain⟨r',y,D,Q,R,n,S,I,T,U,V,J⟩:=a.blk i b (p hi A).2 A;exact⟨r',y,D,Q,R,k _ _ n,S,by rw[Below.heap_alloc _ _ _ (lt I)];exact I,T,U,V,J.1.mono λ_ _=>bR.mono k,J.2⟩
 .intro i j bi E q y z hi K B L f d;obtain⟨k1,k2⟩:=p hi K;obtain⟨k3,W⟩:=p B L;rw[Ren.oZ ρ _ (by omega)]at f d;exact a.inj i j bi E q y z k2 K W L f d
 .intro i b hi F;rcases u hi with⟨s,l⟩|⟨rfl,rfl⟩
  .exact ((a.maps i b l F).heap λr es clock M=>by rw[Below.heap_alloc _ _ _ (lt M)];exact M).mono k
  exact⟨w.heap.size,#[],0,Ren.nK _ _ _,a.stay.fresh a.base,by show (w.heap.push _)[w.heap.size]? = _;simp,.nil⟩
 intro i j bi E q y z hi v B G f d;have old:∀{i:Nat} {b:kV} {q y:Nat},i<H.size->H.get i=some b->jK b=true->(ρ.put H.size (w.heap.size,0)) i=some (q,y)->ρ i=some (q,y)/\q<w.heap.size:=by
  intro i b q y s C F f;rw[Ren.oZ ρ _ (by omega)]at f;obtain⟨r',es,clock,N,e2,X,_⟩:=a.maps i b C F;rw[f]at N;cases N;exact⟨f,lt X⟩
 rcases u hi with⟨s,l⟩|⟨rfl,rfl⟩
 .obtain ⟨Y,Z⟩:=old s l v f;rcases u B with⟨e,m⟩|⟨rfl,rfl⟩
  .obtain ⟨o3,_⟩:=old e m G d;exact a.xm i j bi E q y z l v m G Y o3
  rw[Ren.nK]at d;cases d;omega
 rcases u B with⟨e,m⟩|⟨rfl,rfl⟩
 .obtain ⟨_,Z⟩:=old e m G d;rw[Ren.nK]at f;cases f;omega
 rfl
theorem P8 (i:fc c ρ H w){t:TypeId}{r r':fS}{v:Value}{g:Mem}(j:OR (bR ρ) r r')(h:oW c.P t r H=some (v,g)) :
 ∃ ρ' w' v',ρ.le ρ'/\fc c ρ' g w'/\bR ρ' v v'/\(Instr.makeMap t r').run c.P w = .ok v' w':=by
 have fin:∀{d:Mem},H.push ⟨[],t,false,true⟩=some d->v = .map (some H.size)->d=g->(Instr.makeMap t r').run c.P w = .ok (.map (some w.heap.size)) (w.alloc (.map #[] 0)) ->
  ∃ ρ' w' v',ρ.le ρ'/\fc c ρ' g w'/\bR ρ' v v'/\(Instr.makeMap t r').run c.P w = .ok v' w':=by
  rintro d e rfl rfl f;exact⟨_,_,_,i.xL (aG _) _,i.ahq e,.map _ _ _ (Ren.nK _ _ _),f⟩
 unfold oW at h;split at h
 .cases j;split at h
  .rename_i d e;cases h;exact fin e rfl rfl (by simp[Instr.makeMap,Result.andThen])
  cases h
 .rename_i a b k n l;cases j with
  |some m =>
   cases m;split at h
   .rename_i d e;cases h;exact fin e rfl rfl (by simp[Instr.makeMap,run_underlying l,asInt,asIntOf,Result.andThen])
   cases h
 cases h
theorem Kg (a b:List MapEntry):turns (a++b)=turns a++turns b:=by simp[turns]
theorem Bf:∀(l:List MapEntry) (j:Nat) (f:MapEntry->MapEntry) (x:Value),(∀e,l[j]? = some e->(f e).key=e.key/\(f e).val=x)->turns (l.modify j f)=(turns l).set (2*j+1) x
 |[],j,f,x,_=>by simp[turns]
 |e::l,0,f,x,h=>by
  obtain⟨b,d⟩:=h e rfl;simp[turns,b,d]
 |e::l,j+1,f,x,h=>by
  have g:=Bf l j f x (λi a=>h i (by simpa using a));have k:turns (e::l.modify j f)=e.key::e.val::turns (l.modify j f):=rfl;have e2:turns (e::l)=e.key::e.val::turns l:=rfl;rw[List.modify_succ_cons,k,e2,g,show 2*(j+1)+1=(2*j+1)+1+1 by omega,lA,lA]
theorem fc.WS (g:fc c ρ H w){i:Nat}{b:kV}(hi:mapOf H i=some b){cs:aW}{x:Mem} (U:H.set i { b with cells:=cs }=some x) {r:Nat} {es es':Array MapEntry} {clock clock':Nat}
 (Q:ρ i=some (r,0)) (C:c.own r) (R:w.heap[r]? = some (.map es clock)) (D:LR (bR ρ) cs (turns es'.toList)):fc c ρ x (iO w r (.map es' clock')):=by
 obtain⟨g1,t⟩:=wz hi;obtain⟨e1,e2,S,V,F⟩:=Mem.mE U;have W:r<w.heap.size:=(aF.1 R).1;have X:b.live=false:=by unfold jK at t;cases D:b.live with|true=>rw[D]at t;cases t|false=>rfl
 have m:∀{j:Nat} {f:kV},x.get j=some f->f.live=true->H.get j=some f:=by
  intro j f a l;rw[F]at a;by_cases d:j=i
  .rw[ag d]at a;cases a;simp only at l;rw[X]at l;cases l
  rw[aa d]at a;exact a
 have n:∀{j:Nat} {f:kV},x.get j=some f->jK f=true->∃p,H.get j=some p/\jK p=true/\(j≠i->p=f):=by
  intro j f a G;rw[F]at a;by_cases d:j=i
  .subst d;exact⟨b,g1,t,λh=>absurd rfl h⟩
  rw[aa d]at a;exact⟨f,a,G,λ_=>rfl⟩
 refine⟨g.stay.Mm C ⟨rfl,rfl,rfl,by simp[iO],λk s=>iD _ _ _ _ (by have:=C.1;omega)⟩ (λk s=>iD _ _ _ _ s),by simpa[iO] using g.base,λj y hy=>by rw[S];exact g.dom j y hy,by rw[V];exact g.lk,by rw[S];exact g.A0,g.kE,?_,?_,?_,?_⟩
 .intro j f a l;obtain⟨q,y,E,Y,Z,m1,I,u,J⟩:=g.blk j f (m a l) l;exact⟨q,y,E,Y,Z,m1,I,by rw[iD _ _ _ _ (λe=>by subst e;rw[R]at u;cases u)];exact u,J⟩
 .intro j k f T q y z a l s v K o;exact g.inj j k f T q y z (m a l) l (m s v) v K o
 .intro j f a G;obtain⟨p,A,B,L⟩:=n a G;by_cases d:j=i
  .subst d;rw[F,ag rfl]at a;cases a;exact⟨r,es',clock',Q,C,s7 _ _ _ W,D⟩
  obtain rfl:=L d;obtain⟨q,M,N,m1,I,u,J⟩:=g.maps j p A B;exact⟨q,M,N,m1,I,by rw[iD _ _ _ _ (λe=>by subst e;exact d (g.xm j i p b _ _ _ A B g1 t m1 Q))];exact u,J⟩
 intro j k f T q y z a WG s O K o;obtain⟨b1,A,B,_⟩:=n a WG;obtain⟨b2,L,h4,_⟩:=n s O;exact g.xm j k b1 b2 q y z A B L h4 K o
theorem Ih (z:fc c ρ H w){t:TypeId}{m G k n x g v:Value}{I:Mem}(R:bR ρ m G)(o:bR ρ k n)(J:bR ρ x g)(h:qW c.P t m k x H=some (v,I)) :
 ∃w',fc c ρ I w'/\(Instr.mapUpdate t G n g).run c.P w = .ok () w'/\v=undef:=by
 unfold qW at h;split at h
 .rename_i Y e i K;split at h
  .rename_i d b p A;rw[ay]at h;split at h
   .rename_i l;simp only[ak]at l;obtain⟨l,B⟩:=l;have C:=m9 o B;subst C;obtain⟨g1,S⟩:=wz A;obtain⟨r,es,clock,D,k2,a,q⟩:=z.maps i b g1 S;cases R with
    |map _ r' y L =>
     rw[D]at L;cases L;split at h
     .rename_i j u E;split at h
      .rename_i T F;cases h;rcases Be o b.cells es.toList 0 q E with⟨f,_⟩|⟨U,V,M,f,s,Z,N,O,W⟩
       .cases f
       rw[cj]at f s;cases f;have X:es[j]? = some M:=by simpa using N
       refine⟨_,z.WS A F D k2 a (es':=es.modify j λe=>{ e with key:=n,val:=g }) (clock':=clock) ?_,?_,rfl⟩
       .rw[Array.toList_modify,Bf es.toList j _ g (λe1 Q=>by rw[N]at Q;cases Q;exact⟨O.symm,rfl⟩)];exact q.set _ J
       simp[Instr.mapUpdate,run_underlying K,iA a,vC p l,run_findKey p s,X,O,run_keyThatStays W,run_setObj_map _ a,Result.andThen,iO]
      cases h
     .rename_i E;split at h
      .rename_i T F;cases h;rcases Be o b.cells es.toList 0 q E with⟨_,s⟩|⟨U,V,M,f,_⟩
       .refine ⟨_,z.WS A F D k2 a (es':=es.push { key:=n,val:=g,born:=clock }) (clock':=clock+1) ?_,?_,rfl⟩
        .rw[Array.toList_push,Kg];exact q.append (.cons o (.cons J .nil))
        simp[Instr.mapUpdate,run_underlying K,iA a,vC p l,run_findKey p s,run_setObj_map _ a,Result.andThen,iO]
       cases f
      cases h
     cases h
   cases h
  cases h
 cases h
theorem Fb {t:TypeId}{r:fS}{v:Value}{d:Mem}(h:oW P t r H=some (v,d)):∃b,H.push b=some d:=by
 unfold oW at h;split at h
 .split at h
  .rename_i a;cases h;exact⟨_,a⟩
  cases h
 .split at h
  .rename_i a;cases h;exact⟨_,a⟩
  cases h
 cases h
theorem zK {t:TypeId}{m k x v:Value}{d:Mem}(h:qW P t m k x H=some (v,d)):∃i b,H.set i b=some d:=by
 unfold qW at h;split at h
 .split at h
  .rw[ay]at h;split at h
   .split at h
    .split at h
     .rename_i a;cases h;exact⟨_,_,a⟩
     cases h
    .split at h
     .rename_i a;cases h;exact⟨_,_,a⟩
     cases h
    cases h
   cases h
  cases h
 cases h
end
end Go.Ev
namespace Go.Ev
open Go.RowKit
section
variable {c:Cx} {P:Program} {w:World} {ρ:Ren} {H:Mem}
def WU (c:Cx)(ρ:Ren)(o:Oper)(ev:Operand->Value)(w:World)(v:Value)(a:Mem):Prop :=
 ∃ ρ' w' v',ρ.le ρ'/\fc c ρ' a w'/\bR ρ' v v'/\((execOp ev o).run c.P w = .ok (.value v') w'\/((execOp ev o).run c.P w = .ok .skip w'/\v'=undef))
abbrev EvR (ρ:Ren)(ev ev':Operand->Value)(o:Op):Prop:=∀x∈o.operands,bR ρ (ev x) (ev' x)
theorem PR.parts {ev ev':Operand->Value}:∀(l:List (Nat×Operand)),(∀q∈l,bR ρ (ev q.2) (ev' q.2))->PR (bR ρ) (l.map λq=>(q.1,ev q.2)) (l.map λq=>(q.1,ev' q.2))
 |[],_=>trivial
 |q::l,h=>⟨rfl,h q (by simp),PR.parts l λx a=>h x (by simp[a])⟩
theorem Fc {ev ev':Operand->Value}(x:Option Operand)(h:∀y,x=some y->bR ρ (ev y) (ev' y)):OR (bR ρ) (x.map ev) (x.map ev'):=by
 cases x with
 |none=>exact .none
 |some y=>exact .some (h y rfl)
theorem AR.map {ev ev':Operand->Value}(xs:Array Operand)(h:∀y∈xs,bR ρ (ev y) (ev' y)):AR (bR ρ) (xs.map ev) (xs.map ev') :=
 ⟨by simp,λi x y a hy=>by
  simp only[Array.getElem?_map,aO]at a hy;obtain⟨q,b,rfl⟩:=a;obtain⟨e,d,rfl⟩:=hy;rw[b]at d;cases d;exact h q (bq b)⟩
theorem bY {H a:Mem}{x:fS}{v:Value}(h:dh H x=some (v,a)):x=some v/\a=H:=by
 cases x with
 |none=>cases h
 |some u =>
  have b:some (u,H)=some (v,a):=h;cases b;exact⟨rfl,rfl⟩
theorem oI {x y:fS}{v:Value}(h:orElse x y=some v):x=some v\/(x=none/\y=some v):=by
 cases x with
 |none=>exact .inr ⟨rfl,h⟩
 |some u=>exact .inl h
theorem dc (a b:Int):bN a b=decide (a<b):=by
 unfold bN;split
 .rw[oG];rw[fY];simp only[eR];omega
 .simp only[eR,oh];symm;simp;omega
 .simp only[eR,oh];symm;simp;omega
 rw[oG];rw[fY];simp only[oh];omega
theorem fD (a b:Int):bS a b=(a==b):=by
 unfold bS;split
 .rename_i m n;rw[bX];simp[aQ];omega
 .rename_i m n;rw[bX];simp[aQ]
 rename_i d e;cases a<;>cases b
 .exact absurd rfl (d _ _ rfl)
 .rfl
 .rfl
 exact absurd rfl (e _ _ rfl)
theorem z7 {n:Int}(h:Mg n=true):IntKind.i64.wrap n=n:=by
 refine IntWalk.i64_in n ?_;unfold Mg at h;split at h
 .simp only[Nat.blt_eq]at h;simp only[eR];omega
 simp only[Nat.blt_eq]at h;simp only[oh];omega
theorem Ii (n:Int):forced n=n:=by
 unfold forced;split<;>rfl
theorem Mx {k a:IntKind}(h:PT k a=true):k=a:=by
 cases k<;>cases a<;>first|rfl|(simp[PT]at h)
theorem My {op:BinOp}{x y v:Value}(h:ET op x y=some v)(t:TypeId)(p q:Operand)(w:World) :
 (do eqGuard op t p q x y;binOp op t x y:Sem Value).run P w = .ok v w/\br v=true/\br x=true/\br y=true:=by
 unfold ET at h;split at h
 .rename_i k a l b;rw[ay]at h;split at h
  .rename_i i;have:=Mx i;subst this;have j:(eqGuard op t p q (.int k a) (.int k b)).run P w = .ok () w:=by
    unfold eqGuard;cases op<;>rfl
   refine⟨?_,?_,rfl,rfl⟩
   .simp only[Sem.run_bind,j,Result.andThen_ok];split at h
    .rename_i u g;cases h;unfold Sh at g;have n1:∀a b:Int,(!decide (b<a))=decide (a<=b):=λa b=>by
      rw[bX];simp
     cases op<;>cases g<;>simp[binOp,Op.intCmp,dc,fD,bne,n1]
    split at h
    .rename_i n d;cases h;unfold Si at d;split at d
     .rw[ay]at d;split at d
      .rename_i f;cases d;have e:IntKind.i64.wrap (a+b)=a+b:=z7 f;have e2:Int.add a b=a+b:=rfl;simp[binOp,Op.intArith,Ii,e]
      cases d
     .rw[ay]at d;split at d
      .rename_i f;cases d;have e:IntKind.i64.wrap (a-b)=a-b:=z7 f;have e2:Int.sub a b=a-b:=rfl;simp[binOp,Op.intArith,Ii,e,e2]
      cases d
     cases d
    cases h
   split at h
   .cases h;rfl
   split at h
   .cases h;rfl
   cases h
  cases h
 cases h
theorem sM {t:TypeId}{x y:Value}{b:Bool}{op:BinOp}{v:Value}(p q:Operand)(w:World)(d:∀op,(eqGuard op t p q x y).run P w = .ok () w)(e:(Op.equalIn 10000 t x y).run P w = .ok b w)
 (f:binOp .eql t x y=do pure (.bool (<- Op.equal t x y))) (g:binOp .neq t x y=do pure (.bool (!(<- Op.equal t x y))))
 (h:(op = .eql/\v = .bool b)\/(op = .neq/\v = .bool !b)):(do eqGuard op t p q x y;binOp op t x y:Sem Value).run P w = .ok v w:=by
 have a:(Op.equal t x y).run P w = .ok b w:=e;rcases h with⟨rfl,rfl⟩|⟨rfl,rfl⟩
 .simp only[Sem.run_bind,d,Result.andThen_ok,f,a,Sem.run_pure]
 simp only[Sem.run_bind,d,Result.andThen_ok,g,a,Sem.run_pure]
theorem ach {op:BinOp}{x y v s u:Value}{t:TypeId}(g:bR ρ x s)(hy:bR ρ y u)(h:vp P op t x y=some v)(p q:Operand)(w:World) :
 (do eqGuard op t p q s u;binOp op t s u:Sem Value).run P w = .ok v w/\br v=true:=by
 unfold vp at h;split at h
 .rename_i a b f;cases g;cases hy;have e:(Op.equalIn (9999+1) t (.bool a) (.bool b)).run P w = .ok (a==b) w:=by
   unfold Op.equalIn;simp[run_underlying f]
  have d:∀op,(eqGuard op t p q (.bool a) (.bool b)).run P w = .ok () w:=λop=>by unfold eqGuard;cases op<;>rfl
  split at h
  .cases h;refine⟨sM p q w d e rfl rfl (.inl ⟨rfl,?_⟩),rfl⟩;cases a<;>cases b<;>rfl
  .cases h;refine⟨sM p q w d e rfl rfl (.inr ⟨rfl,?_⟩),rfl⟩;cases a<;>cases b<;>rfl
  cases h
 .rename_i l B m c2 f;cases g with
  |void C =>
   cases hy with
   |nJ _ _ =>
    have e:(Op.equalIn (9999+1) t (.slice (some C) 0 0) (.slice none m c2)).run P w = .ok false w:=by
     unfold Op.equalIn;simp[run_underlying f]
    have d:∀op,(eqGuard op t p q (.slice (some C) 0 0) (.slice none m c2)).run P w = .ok () w:=λop=>by unfold eqGuard;cases op<;>rfl
    split at h
    .cases h;exact⟨sM p q w d e rfl rfl (.inl ⟨rfl,rfl⟩),rfl⟩
    .cases h;exact⟨sM p q w d e rfl rfl (.inr ⟨rfl,rfl⟩),rfl⟩
    cases h
  |slice i off _ _ r o z =>
   cases hy with
   |nJ _ _ =>
    have e:(Op.equalIn (9999+1) t (.slice (some ⟨r,off,none⟩) l (B+o)) (.slice none m c2)).run P w = .ok false w:=by
     unfold Op.equalIn;simp[run_underlying f]
    have d:∀op,(eqGuard op t p q (.slice (some ⟨r,off,none⟩) l (B+o)) (.slice none m c2)).run P w = .ok () w:=λop=>by unfold eqGuard;cases op<;>rfl
    split at h
    .cases h;exact⟨sM p q w d e rfl rfl (.inl ⟨rfl,rfl⟩),rfl⟩
    .cases h;exact⟨sM p q w d e rfl rfl (.inr ⟨rfl,rfl⟩),rfl⟩
    cases h
 .rename_i f;cases g with
  |ptr i off r o z =>
   cases hy with
   |xI =>
    have e:(Op.equalIn (9999+1) t (.pointer (some ⟨r,off,none⟩)) (.pointer none)).run P w = .ok false w:=by
     unfold Op.equalIn;simp[run_underlying f]
    have d:∀op,(eqGuard op t p q (.pointer (some ⟨r,off,none⟩)) (.pointer none)).run P w = .ok () w:=λop=>by unfold eqGuard;cases op<;>rfl
    split at h
    .cases h;exact⟨sM p q w d e rfl rfl (.inl ⟨rfl,rfl⟩),rfl⟩
    .cases h;exact⟨sM p q w d e rfl rfl (.inr ⟨rfl,rfl⟩),rfl⟩
    cases h
 .rename_i te i a j b f;rw[ay]at h;split at h
  .rename_i D;simp only[ak,aQ]at D;obtain⟨⟨rfl,rfl⟩,A⟩:=D;cases g with
   |ptr _ _ r y z =>
    cases hy with
    |ptr _ _ G o k =>
     rw[z]at k;cases k;have e:(Op.equalIn (9999+1) t (.pointer (some ⟨r,a,none⟩)) (.pointer (some ⟨r,a,none⟩))).run P w = .ok true w:=by
      obtain⟨n,E⟩:=cw.1 A;obtain⟨F,hi,_⟩:=aO.1 E;unfold Op.equalIn;simp[run_underlying f,sizeOf,typeInfo,hi,run_sameAddr_same]
     have d:∀op,(eqGuard op t p q (.pointer (some ⟨r,a,none⟩)) (.pointer (some ⟨r,a,none⟩))).run P w = .ok () w:=λop=>by unfold eqGuard;cases op<;>rfl
     split at h
     .cases h;exact⟨sM p q w d e rfl rfl (.inl ⟨rfl,rfl⟩),rfl⟩
     .cases h;exact⟨sM p q w d e rfl rfl (.inr ⟨rfl,rfl⟩),rfl⟩
     cases h
  cases h
 .rename_i f;cases g;cases hy;have e:(Op.equalIn (9999+1) t (.pointer none) (.pointer none)).run P w = .ok true w:=by
   unfold Op.equalIn;simp[run_underlying f]
  have d:∀op,(eqGuard op t p q (.pointer none) (.pointer none)).run P w = .ok () w:=λop=>by unfold eqGuard;cases op<;>rfl
  split at h
  .cases h;exact⟨sM p q w d e rfl rfl (.inl ⟨rfl,rfl⟩),rfl⟩
  .cases h;exact⟨sM p q w d e rfl rfl (.inr ⟨rfl,rfl⟩),rfl⟩
  cases h
 cases h
theorem Ij {d:TypeId}{x f v:Value}(g:bR ρ x f)(h:pL P d x=some v)(s:TypeId)(j:∃q,P.underlying s=some q)(w:World):(convert s d f).run P w = .ok v w/\br v=true:=by
 obtain⟨q,i⟩:=j;unfold pL at h;split at h
 .rename_i n a;cases g;rw[ay]at h;split at h
  .rename_i b;cases h;refine⟨?_,rfl⟩;have k:n<=255:=by simpa[bF] using b
   have e:IntKind.i64.wrap (n:Int)=n:=IntWalk.i64_in _ (by omega);simp[convert,run_underlying i,run_underlying a,Conv.intToInt,e]
  cases h
 .rename_i n a;cases g;rw[ay]at h;split at h
  .rename_i b;cases h;refine⟨?_,rfl⟩;simp[convert,run_underlying i,run_underlying a,Conv.intToInt,z7 b]
  cases h
 cases h
theorem amU:Extern.allNextRows.lookup "internal/abi.NoEscape" = none:=by kernel_rfl
theorem afY:Extern.allNextRows.lookup "" = none:=by kernel_rfl
theorem arJ:Extern.allGenericRows.lookup "internal/abi.NoEscape" = none:=by kernel_rfl
theorem arK:Extern.allTypedRows.lookup "internal/abi.NoEscape" = none:=by kernel_rfl
theorem arL:Extern.allRows.lookup "internal/abi.NoEscape" = some Extern.AbiNoEscape.same:=by kernel_rfl
theorem Fe {o:Oper} {ev':Operand->Value} {f y:Operand} {b:Array TypeId} {id:FuncId} {fn:Func} (d:o.op = .call { callee:=.value f,args := #[y],argTypes:=b }) (i:ev' f = .func (.func id) #[] #[]) (e:c.P.funcs[id]? = some fn) (j:¬fn.body.isSome=true) (a:fn.name = "internal/abi.NoEscape") (h:fn.origin = "") (w:World) :
 (execOp ev' o).run c.P w = .ok (.value (ev' y)) w:=by
 have g:fn.body.isNone=true:=by simpa using j
 have k:Extern.findNext fn=none:=by
  simp only[Extern.findNext,a,h];rw[amU,afY];rfl
 have e2:Extern.find fn=some Extern.AbiNoEscape.same:=by
  simp only[Extern.find,a,h];rw[arJ,arK,arL];rfl
 have l:¬(fn.name = "runtime.NumGoroutine"):=by rw[a];decide
 have m:fn.body=none:=by simpa using g
 simp only[execOp,d,resolve,Deferred.ofValue,i,invoke,callFunc];have n:Extern.AbiNoEscape.same #[ev' y]=pure (ev' y):=rfl;simp[e,l,m,k,e2,n]
set_option maxHeartbeats 1000000 in
theorem fc.freeze {c:Cx}{ρ:Ren}{H F:Mem}{w:World}(l:fc c ρ H w){i r x n:Nat}{b:kV}(hi:alive H i=some b)(f:Ev.kill H i=some F)(y:ρ i=some (r,x)):fc c ρ F (w.freeze ⟨r,0,none⟩ n):=by
 have a:=l.kill f;obtain⟨L,k2,I,M⟩:=o5 f;obtain⟨o,z⟩:=eA hi;have G:c.own r:=by
  obtain⟨r',t,C,fr,s,d,g,_⟩:=l.blk i b o z;rw[y]at d;cases d;rcases g with g|g
  .exfalso;unfold Ev.kill at f;rw[o]at f;obtain⟨_,u,_⟩:=Mem.mE f;have:=l.lk;omega
  exact g
 refine⟨a.stay.Mm G (Lib.below_freeze (Below.refl _ _) (p:=⟨r,0,none⟩) G.1 n) (λk f=>o6 _ _ _ _ f),by rw[Du];exact a.base,a.dom,a.lk,a.A0,a.kE,λj m v h=>?_,a.inj,λj m v J=>(a.maps j m v J).heap λq es clock A=>by
  obtain⟨r',t,C,fr,s,d,g,u,_⟩:=l.blk i b o z;rw[y]at d;cases d;rw[o6 _ _ _ _ (λe=>by subst e;rw[u]at A;cases A)];exact A,a.xm⟩
 obtain⟨r',t,C,fr,s,d,g,u,K⟩:=a.blk j m v h;obtain⟨B,D⟩:=I j m v (.inl h);have E:r'≠r:=λe=>D (by subst e;exact l.inj j i m b r' t x B h o z d y)
 exact⟨r',t,C,fr,s,d,g,by rw[o6 _ _ _ _ E];exact u,K⟩
theorem Ik:∀{cs:aW} {a s:ByteArray},cs.all A7=true->tO cs a=some s->∃l:au,cs=l.map (λb=>Value.int .u8 b.toNat)/\s.data.toList=a.data.toList++l
 |[],a,s,_,h=>by cases h;exact⟨[],rfl,by simp⟩
 |v::cs,a,s,e,h=>by
  simp only[ck,ak]at e;obtain⟨d,f⟩:=e;unfold A7 at d;split at d
  .rename_i n;have i:n<=255:=aB d;simp only[tO,Ej]at h;obtain⟨l,g,e2⟩:=Ik f h;refine⟨UInt8.ofNat n::l,?_,?_⟩
   .rw[g];simp only[dH,List.cons.injEq,Value.int.injEq,kO,and_true];have:(UInt8.ofNat n).toNat=n:=by simp[UInt8.toNat_ofNat'];omega
    rw[this];rfl
   rw[e2];simp
  cases d
theorem aci {c:Cx}{ρ:Ren}{H K:Mem}{w:World}(o:fc c ρ H w){q:TypeId}{p t n n' v:Value}(L:bR ρ p t)(M:bR ρ n n')(h:EW c.P H q p n=some (v,K))(it ty:TypeId) :
 ∃w' v',fc c ρ K w'/\bR ρ v v'/\(Builtin.unsafeString_ #[q,it] ty #[t,n']).run c.P w = .ok v' w':=by
 unfold EW at h;split at h
 .rename_i a;cases h;cases M;have u:∃A,t = .pointer A:=by cases L<;>exact⟨_,rfl⟩
  obtain⟨A,rfl⟩:=u;exact⟨w,_,o,.string _,Lib.run_unsafeString_none w q it ty A⟩
 .rename_i i m e S;split at h
  .rename_i b cs B f;rw[ay]at h;split at h
   .rename_i N;simp only[ak,aQ,fL]at N;obtain⟨⟨⟨D,E⟩,O⟩,k⟩:=N;have O:=aB O;split at h
    .rename_i s H1 T U;cases h;cases M;cases L with
     |ptr _ _ r y F =>
      obtain⟨l',V,W,X⟩:=o.read F f;obtain⟨l,Q,e2⟩:=Ik k T;have hlen:l.length=m+1:=by
       have:cs.length=m+1:=W;rw[Q]at this;simpa using this
      obtain⟨Y,Z⟩:=eA B;obtain⟨r',y',C,fr,sz,R,k2,k3,k4,k5,k6,k7⟩:=o.blk i b Y Z;rw[F]at R;cases R;have G:s=⟨l.toArray⟩:=by
       cases s with
       |mk d =>
        have:d.toList=l:=by simpa using e2
        rw[<-this]
      refine⟨w.freeze ⟨r,0,none⟩ (m+1),_,o.freeze B U F,.string _,?_⟩;have I:l.length<=C.size:=by
       unfold ia at f;rw[B]at f;simp only at f;split at f
       .rename_i hle;omega
       cases f
      have g:=Lib.run_unsafeString_row (P:=c.P) w q it ty e S E r C.size (by simp[World.shape?,k3,D]) l (by intro h0;rw[h0]at hlen;simp at hlen) I (by omega) (λj x hx=>by
       have hj:cs[j]? = some (.int .u8 x.toNat):=by rw[Q];simp[hx]
       obtain⟨z,hz,J⟩:=V.get hj;cases J;have:=X j _ hz;exact this)
      rw[hlen]at g;rw[G];exact g
    cases h
   cases h
  cases h
 cases h
theorem aht (N:fc c ρ H w){call:dx}{o:Oper}{ev ev':Operand->Value}(B:EvR ρ ev ev' o.op)(hnc:∀cl,o.op = .call cl->∀f,cl.callee = .value f->rH c.P call (ev f) (cl.args.toList.map ev) H=none){v:Value}{H':Mem}(h:kD c.P call ev o H=some (v,H')) :
 WU c ρ o ev' w v H':=by
 have F:∀{v:Value},iX c.P ev o=some v->WU c ρ o ev' w v H:=by
  intro v D;obtain⟨j,A⟩:=pure_ok (P:=c.P) B D w;exact⟨ρ,w,_,Ren.le_refl _,N,A,.inl j⟩
 have same:∀{v v':Value},bR ρ v v'->(execOp ev' o).run c.P w = .ok (.value v') w->WU c ρ o ev' w v H:=λj A=>⟨ρ,w,_,Ren.le_refl _,N,j,.inl A⟩
 unfold kD at h;split at h;case h_1 x g =>
  cases h;exact same (B x (by simp[g,Op.operands])) (by simp[execOp,g])
 case h_2 x g =>
  cases h;exact same (B x (by simp[g,Op.operands])) (by simp[execOp,g])
 case h_3 T x y g =>
  unfold EU at h;split at h
  .rename_i t hc;cases h;have hcc:=B T (by simp[g,Op.operands]);rw[hc]at hcc;generalize L:ev' T=q at hcc;cases hcc;refine same (v':=if t then ev' x else ev' y) ?_ (by simp[execOp,g,L,asBool]);cases t
   .exact B y (by simp[g,Op.operands])
   exact B x (by simp[g,Op.operands])
  cases h
 case h_4 op t x y yt g =>
  unfold xB at h;obtain⟨J,rfl⟩:=bY h;have E:=B x (by simp[g,Op.operands]);have hy:=B y (by simp[g,Op.operands]);rcases oI J with h|⟨_,h⟩
  .obtain ⟨j,A,R,S⟩:=My (P:=c.P) h t x y w;rw[<-m9 E R,<-m9 hy S]at j;refine same (eu _ A) ?_;simp only[execOp,g];rw[Sem.run_bind,j];rfl
  rcases oI h with h|⟨_,h⟩
  .obtain ⟨j,A⟩:=ach (P:=c.P) E hy h x y w;refine same (eu _ A) ?_;simp only[execOp,g];rw[Sem.run_bind,j];rfl
  exact F h
 case h_5 t g =>
  obtain⟨ρ',w',v',j,A,R,S⟩:=WJ N h;exact⟨ρ',w',v',j,A,R,.inl (by simp[execOp,g,S])⟩
 case h_6 t x g =>
  obtain⟨ρ',w',v',j,A,R,S⟩:=ahk N (B x (by simp[g,Op.operands])) h;exact⟨ρ',w',v',j,A,R,.inl (by simp[execOp,g,S])⟩
 case h_7 t ps g =>
  obtain⟨D,rfl⟩:=bY h;have hp:=PR.parts (ev:=ev) (ev':=ev') ps.toList λq L=>B q.2 (by simp[g,Op.operands];exact⟨q.1,by simpa using L⟩)
  obtain⟨v',j,A⟩:=WK hp D w;refine same A ?_;have e1:(ps.map λq=>(q.1,ev' q.2))=(ps.toList.map λq=>(q.1,ev' q.2)).toArray:=by apply kN;simp
  simp only[execOp,g];simp only[Sem.run_bind];have:(Instr.build t (ps.map λ(i,x)=>(i,ev' x))).run c.P w = .ok v' w:=by
   rw[<-j,<-e1]
  rw[this];rfl
 case h_8 t len ps g =>
  have hp:=PR.parts (ev:=ev) (ev':=ev') ps.toList λq L=>B q.2 (by simp[g,Op.operands];exact⟨q.1,by simpa using L⟩)
  obtain⟨ρ',w',v',j,A,R,S⟩:=HQ N hp h;refine⟨ρ',w',v',j,A,R,.inl ?_⟩;have e1:(ps.map λq=>(q.1,ev' q.2))=(ps.toList.map λq=>(q.1,ev' q.2)).toArray:=by apply kN;simp
  simp only[execOp,g];simp only[Sem.run_bind];have:(Instr.buildSlice t len (ps.map λ(i,x)=>(i,ev' x))).run c.P w = .ok v' w':=by
   rw[<-S,<-e1]
  rw[this];rfl
 case h_9 t x g =>
  obtain⟨D,rfl⟩:=bY h;obtain⟨v',j,A⟩:=Sl N (B x (by simp[g,Op.operands])) D;exact same A (by simp[execOp,g,j])
 case h_10 t x y g =>
  unfold rU at h;split at h
  .rename_i H1 D;cases h;obtain⟨w',j,A⟩:=WI N (B x (by simp[g,Op.operands])) (B y (by simp[g,Op.operands])) D;exact⟨ρ,w',undef,Ren.le_refl _,A,.undef,.inr ⟨by simp[execOp,g,j],rfl⟩⟩
  cases h
 case h_11 x g =>
  have E:=B x (by simp[g,Op.operands]);unfold tP at h;split at h
  .rename_i q L;cases h;rw[L]at E;generalize K:ev' x=X at E;cases E with
   |ptr i off r y hr=>exact same (.ptr _ _ _ _ hr) (by simp[execOp,g,K])
  .rename_i f p1 p2 L;cases h;rw[L]at E;generalize K:ev' x=X at E;cases E with
   |func _ _ a' _ b' sa ha sb Y=>exact same (.func _ _ a' _ b' sa ha sb Y) (by simp[execOp,g,K])
  cases h
 case h_12 s x f g =>
  obtain⟨D,rfl⟩:=bY h;obtain⟨v',j,A⟩:=Ke (P:=c.P) (B x (by simp[g,Op.operands])) D w;exact same A (by simp[execOp,g,j])
 case h_13 t x ix g =>
  obtain⟨D,rfl⟩:=bY h;obtain⟨v',j,A⟩:=ahp (P:=c.P) (B x (by simp[g,Op.operands])) (B ix (by simp[g,Op.operands])) D w;exact same A (by simp[execOp,g,j])
 case h_14 x k g =>
  have E:=B x (by simp[g,Op.operands]);unfold tD at h;split at h
  .rename_i vs L;obtain⟨D,rfl⟩:=bY h;rw[L]at E;generalize K:ev' x=X at E;cases E with
   |tuple _ vs' sa ha =>
    have hu':vs[k]? = some v:=by simpa using D
    have hlt:k<vs.size:=(aF.1 hu').1;have Z:k<vs'.size:=sa ▸ hlt;exact same (v':=vs'[k]) (ha k _ _ hu' (by simp[Z])) (by simp[execOp,g,K,Instr.extract,Z])
  cases h
 case h_15 t l cp g =>
  obtain⟨ρ',w',v',j,A,R,S⟩:=Ka N (B l (by simp[g,Op.operands])) (B cp (by simp[g,Op.operands])) h;exact⟨ρ',w',v',j,A,R,.inl (by simp[execOp,g,S])⟩
 case h_16 fn first captured g =>
  cases h;have j:=AR.map (ev:=ev) (ev':=ev') first λy hy=>B y (by simp[g,Op.operands,hy])
  have A:=AR.map (ev:=ev) (ev':=ev') captured λy hy=>B y (by simp[g,Op.operands,hy])
  exact same (.func fn _ _ _ _ j.1 j.2 A.1 A.2) (by simp[execOp,g,Instr.makeFunc])
 case h_17 t x lo hi g =>
  unfold qU at h;rw[ay]at h;split at h
  .obtain ⟨J,rfl⟩:=bY h;have hlo:=Fc (ev:=ev) (ev':=ev') lo λy hy=>B y (by simp[g,Op.operands,hy])
   have hhi:=Fc (ev:=ev) (ev':=ev') hi λy hy=>B y (by simp[g,Op.operands,hy])
   obtain⟨v',j,A⟩:=Mv N (B x (by simp[g,Op.operands])) hlo hhi J;exact same A (by simp[execOp,g,j])
  obtain⟨J,rfl⟩:=bY h;rcases oI J with h|⟨_,h⟩
  .have hlo:=Fc (ev:=ev) (ev':=ev') lo λy hy=>B y (by simp[g,Op.operands,hy])
   have hhi:=Fc (ev:=ev) (ev':=ev') hi λy hy=>B y (by simp[g,Op.operands,hy])
   obtain⟨v',j,A⟩:=WR (P:=c.P) (B x (by simp[g,Op.operands])) hlo hhi h w;exact same A (by simp[execOp,g,j])
  exact F h
 case h_18 t x f g =>
  obtain⟨D,rfl⟩:=bY h;obtain⟨v',j,A⟩:=Uv (P:=c.P) (B x (by simp[g,Op.operands])) D w;exact same A (by simp[execOp,g,j])
 case h_19 t x ix g =>
  unfold JW at h;obtain⟨J,rfl⟩:=bY h;rcases oI J with h|⟨_,h⟩
  .obtain ⟨v',j,A⟩:=Mw (P:=c.P) (B x (by simp[g,Op.operands])) (B ix (by simp[g,Op.operands])) h w;exact same A (by simp[execOp,g,j])
  rcases oI h with h|⟨_,h⟩
  .obtain ⟨v',j,A⟩:=Uw (P:=c.P) (B x (by simp[g,Op.operands])) (B ix (by simp[g,Op.operands])) h w;exact same A (by simp[execOp,g,j])
  exact F h
 case h_20 s d x g =>
  unfold mC at h;split at h
  .rename_i u D;cases h;rcases oI D with D|⟨_,D⟩
   .split at D
    .rename_i q L;obtain⟨j,A⟩:=Ij (P:=c.P) (B x (by simp[g,Op.operands])) D s ⟨q,L⟩ w;exact same (eu _ A) (by simp[execOp,g,j])
    cases D
   exact F D
  obtain⟨ρ',w',v',j,A,R,S⟩:=P6 N (B x (by simp[g,Op.operands])) h;exact⟨ρ',w',v',j,A,R,.inl (by simp[execOp,g,S])⟩
 case h_21 cl g =>
  unfold fu at h;split at h
  .rename_i f hf;rw[hnc cl g f hf]at h;simp only at h;have hfr:=B f (by simp[g,hf,Op.operands,Call.operands]);obtain⟨callee,args,ats⟩:=cl;simp only at hf h;subst hf;unfold EV at h;split at h
   .rename_i x E;rw[ay]at h;split at h
    .rename_i G;simp only[aq,az]at h;obtain⟨hvx,rfl⟩:=h;obtain⟨y,hy,rfl⟩:∃y,args = #[y]/\ev y=v:=by
      have:args.toList.length=1:=by have:=bO List.length E;simpa using this
      match hl:args.toList,this with
      |[y],_ =>
       rw[hl]at E;exact⟨y,by rw[<-gm (xs:=args),hl],by rw[<-hvx];simpa using E⟩
     subst hy;unfold xD at G;split at G
     .rename_i id hfv;split at G
      .rename_i fn hfn;rw[ay]at G;split at G
       .cases G
       rename_i Y;rw[hfv]at hfr;generalize hg':ev' f=g' at hfr;cases hfr with
       |func _ _ V _ O s1 _ s2 _ =>
        have e1:V = #[]:=fW (by simpa using s1.symm)
        have e2:O = #[]:=fW (by simpa using s2.symm);subst e1 e2;have U:fn.name = "internal/abi.NoEscape" /\ fn.origin = "" := by simpa using G
        refine same (B y (by simp[g,Op.operands,Call.operands])) ?_;exact Fe g hg' hfn Y U.1 U.2 w
      cases G
     cases G
    obtain⟨D,rfl⟩:=bY h;exact F D
   obtain⟨D,rfl⟩:=bY h;exact F D
  .rename_i b Y;obtain⟨callee,args,ats⟩:=cl;simp only at Y;subst Y;have W:∀x∈args,bR ρ (ev x) (ev' x):=λx E=>B x (by simp[g,Op.operands,Call.operands];exact E)
   unfold tE at h;split at h
   .unfold A6 at h;split at h
    .rename_i x t I M;simp only at I M;obtain⟨J,rfl⟩:=bY h;rcases oI J with h|⟨_,h⟩
     .have E:=W x (bq I);unfold uZ at h;split at h
      .rename_i e q n T D L;cases h;rw[L]at E;have hlen:∃X c',ev' x = .slice X n c':=by
        generalize ev' x=z at E;cases E<;>exact⟨_,_,rfl⟩
       obtain⟨X,c',K⟩:=hlen;exact same (.int _ _) (by simp[execOp,g,resolve,invoke,builtin,Builtin.len_,M,I,run_underlying D,K,goInt])
      .rename_i s D L;cases h;rw[L]at E;have K:ev' x = .string s:=by
        generalize ev' x=z at E;cases E;rfl
       exact same (.int _ _) (by simp[execOp,g,resolve,invoke,builtin,Builtin.len_,M,I,run_underlying D,K,goInt])
      cases h
     exact F h
    cases h
   .unfold tQ at h;split at h
    .rename_i s x st xt hs0 I hst PL;have j:=W s (bq hs0);have A:=W x (bq I);obtain⟨ρ',w',v',k1,k2,k3,k4⟩:=Ut (ty:=o.type) (as:=args.map ev') N hst PL (by simp[hs0]) (by simp[I]) j A h;exact⟨ρ',w',v',k1,k2,k3,.inl (by simp[execOp,g,resolve,invoke,builtin,k4])⟩
    cases h
   .unfold Cn at h;split at h
    .rename_i d x dt hd0 I hdt;have j:=W d (bq hd0);have A:=W x (bq I);obtain⟨w',v',k2,k3,k4⟩:=acg (ty:=o.type) (as:=args.map ev') N hdt (by simp[hd0]) (by simp[I]) j A h;exact⟨ρ,w',v',Ren.le_refl _,k2,k3,.inl (by simp[execOp,g,resolve,invoke,builtin,k4])⟩
    cases h
   .unfold vq at h;split at h
    .rename_i x t I M;simp only at I M;obtain⟨J,rfl⟩:=bY h;have E:=W x (bq I);unfold DY at J;split at J
     .rename_i e i off n T D L;split at J
      .rename_i b Y;rw[ay]at J;split at J
       .rename_i Mz;cases J;rw[L]at E;have hlen:∃X,ev' x = .slice X n T:=by
         generalize ev' x=z at E;cases E with
         |slice _ _ _ _ r y hr =>
          obtain⟨hg,hl⟩:=eA Y;obtain⟨r',y',C,fr,s,k1,k2,k3,k4,⟨k5,k6⟩,k7⟩:=N.blk i b hg hl;rw[hr]at k1;cases k1;have:=k6 Mz;subst this;exact⟨_,rfl⟩
        obtain⟨X,K⟩:=hlen;exact same (.int _ _) (by simp[execOp,g,resolve,invoke,builtin,Builtin.cap_,M,I,run_underlying D,K,goInt])
       cases J
      cases J
     .rename_i e n T D L;cases J;rw[L]at E;have K:ev' x = .slice none n T:=by
       generalize ev' x=z at E;cases E;rfl
      exact same (.int _ _) (by simp[execOp,g,resolve,invoke,builtin,Builtin.cap_,M,I,run_underlying D,K,goInt])
     cases J
    cases h
   .unfold qx at h;split at h
    .rename_i x I;obtain⟨J,rfl⟩:=bY h;have Q:args = #[x]:=by rw[<-gm (xs:=args),I]
     subst Q;have E:=W x (by simp);unfold wm at J;split at J
     .rename_i a n T L;rw[ay]at J;split at J
      .cases J
      rename_i hc0;cases J;rw[L]at E;generalize hz:ev' x=z at E;cases E with
      |void a'=>exact absurd rfl hc0
      |slice i off _ _ r y hr =>
       have hc1:T+y≠0:=by
        have:T≠0:=λh0=>hc0 (by rw[h0];rfl)
        omega
       exact same (.ptr i off r y hr) (by simp[execOp,g,resolve,invoke,builtin,hz,Lib.run_unsafeSliceData_row w _ _ _ _ _ hc1])
     .rename_i n T L;cases J;rw[L]at E;generalize hz:ev' x=z at E;cases E;exact same .xI (by simp[execOp,g,resolve,invoke,builtin,hz,Lib.run_unsafeSliceData_nil w])
     cases J
    cases h
   .unfold Co at h;split at h
    .rename_i p n pt it I M;have Q:args = #[p,n]:=by rw[<-gm (xs:=args),I]
     have arN:ats = #[pt,it]:=by rw[<-gm (xs:=ats),M]
     subst Q arN;obtain⟨w',v',k1,k2,k3⟩:=aci N (W p (by simp)) (W n (by simp)) h it o.type;exact⟨ρ,w',v',Ren.le_refl _,k1,k2,.inl (by simp[execOp,g,resolve,invoke,builtin,k3])⟩
    cases h
   obtain⟨D,rfl⟩:=bY h;exact F D
  cases h
 case h_22 t r g =>
  have hr:=Fc (ev:=ev) (ev':=ev') r λy hy=>B y (by simp[g,Op.operands,hy])
  obtain⟨ρ',w',v',j,A,R,S⟩:=P8 N hr h;exact⟨ρ',w',v',j,A,R,.inl (by simp[execOp,g,S])⟩
 case h_23 t x k ok g =>
  obtain⟨D,rfl⟩:=bY h;obtain⟨v',j,A⟩:=look_ok N (B x (by simp[g,Op.operands])) (B k (by simp[g,Op.operands])) D;exact same A (by simp[execOp,g,j])
 case h_24 t m k x g =>
  obtain⟨w',j,A,rfl⟩:=Ih N (B m (by simp[g,Op.operands])) (B k (by simp[g,Op.operands])) (B x (by simp[g,Op.operands])) h;exact⟨ρ,w',undef,Ren.le_refl _,j,.undef,.inr ⟨by simp[execOp,g,A],rfl⟩⟩
 case h_25 t m k x g =>
  obtain⟨w',j,A,rfl⟩:=Ih N (B m (by simp[g,Op.operands])) (B k (by simp[g,Op.operands])) (B x (by simp[g,Op.operands])) h;exact⟨ρ,w',undef,Ren.le_refl _,j,.undef,.inr ⟨by simp[execOp,g,A],rfl⟩⟩
 case h_26 =>
  obtain⟨D,rfl⟩:=bY h;exact F D
theorem Bh {x b:Value}{a:cu}(h:DZ x=some a)(d:bR ρ x b):∃n,b = .float .f64 n/\PK a n:=by
 unfold DZ at h;split at h
 .cases h;cases d;exact⟨_,rfl,rfl⟩
 .cases h;cases d with
  |nan m e=>exact⟨m,rfl,e⟩
 cases h
theorem Kh {a:cu}{n:Nat}(h:PK a n):bR ρ (PU a) (.float .f64 n):=by
 cases a with
 |none=>exact .nan n h
 |some m=>cases h;exact .float _ _
theorem Bi (a:cu):wo (EX a)=a:=by cases a<;>rfl
theorem Il (b:Nat):∀(a f:Nat),a<f->w9 f (vr a b)=(a,b)
 |0,f+1,_=>by
  have e:vr 0 b=2*b+1:=by simp[vr]
  have d:(2*b+1)%2=1:=by omega
  have g:(2*b+1)/2=b:=by omega
  show ah (Nat.beq (vr 0 b%2) 0) _ (0,vr 0 b/2)=_;rw[e,d,g];rfl
 |a+1,f+1,h=>by
  have e:vr (a+1) b=2*vr a b:=by
   unfold vr;rw[Nat.pow_succ,Nat.mul_comm (2 ^ a) 2,Nat.mul_assoc]
  have d:(2*vr a b)%2=0:=by omega
  have g:(2*vr a b)/2=vr a b:=by omega
  show ah (Nat.beq (vr (a+1) b%2) 0) ((w9 f (vr (a+1) b/2)).1+1,(w9 f (vr (a+1) b/2)).2) _=_;rw[e,d,g,Il b a f (by omega)];rfl
theorem z8 (a b:Nat):w9 (vr a b) (vr a b)=(a,b):=by
 refine Il b a _ ?_;have d:a<2 ^ a:=Nat.lt_two_pow_self;have e:2 ^ a*1<=2 ^ a*(2*b+1):=Nat.mul_le_mul_left _ (by omega);unfold vr;omega
theorem acj {a b:cu}{x y:Nat}(d:PK a x)(hy:PK b y):bR ρ (cxV a b) (.complex .f64 x y):=by
 have code:bR ρ (.chan (some (vr (EX a) (EX b)+2))) (.complex .f64 x y):=.cpx _ _ _ (by rw[z8,Bi];exact d) (by rw[z8,Bi];exact hy);cases a with
 |none=>exact code
 |some a=>cases b with
  |none=>exact code
  |some b=>cases d;cases hy;exact .complex _ _ _
theorem MA {x a:Value}{q:cu×cu}(h:JY x=some q)(b:bR ρ x a):∃m n,a = .complex .f64 m n/\PK q.1 m/\PK q.2 n:=by
 unfold JY at h;split at h
 .cases h;cases b;exact⟨_,_,rfl,rfl,rfl⟩
 .cases h;cases b with
  |cpx k x y d e=>exact⟨x,y,rfl,d,e⟩
 cases h
theorem sv {m:Nat}(h:J4 m):∃s f,Ieee.double.read m = .nan s f:=by
 unfold J4 Ieee.Datum.isNaN at h;split at h
 .rename_i s f a;exact⟨s,f,a⟩
 cases h
theorem Sr (d:Ieee.Datum)(s:Bool)(f:Nat):d.sum (.nan s f)=none:=by cases d<;>rfl
theorem MB (d:Ieee.Datum)(s:Bool)(f:Nat):d.product (.nan s f)=none:=by cases d<;>rfl
theorem ack {a b:cu}{x y:Nat}(e:PK a x)(hy:PK b y):Ieee.double.add x y=PV .add a b:=by
 unfold Ieee.Format.add;cases a with
 |none=>obtain⟨s,f,d⟩:=sv e;rw[d];rfl
 |some a=>cases b with
  |none=>obtain⟨s,f,d⟩:=sv hy;rw[d,Sr];rfl
  |some b=>cases e;cases hy;rfl
theorem acm {a b:cu}{x y:Nat}(e:PK a x)(hy:PK b y):Ieee.double.sub x y=PV .sub a b:=by
 unfold Ieee.Format.sub;cases a with
 |none=>obtain⟨s,f,d⟩:=sv e;rw[d];rfl
 |some a=>cases b with
  |none =>
   obtain⟨s,f,d⟩:=sv hy;rw[d];show Option.map _ (Ieee.Datum.sum _ (.nan (!s) f))=_;rw[Sr];rfl
  |some b=>cases e;cases hy;rfl
theorem acn {a b:cu}{x y:Nat}(e:PK a x)(hy:PK b y):Ieee.double.mul x y=PV .mul a b:=by
 unfold Ieee.Format.mul;cases a with
 |none=>obtain⟨s,f,d⟩:=sv e;rw[d];rfl
 |some a=>cases b with
  |none=>obtain⟨s,f,d⟩:=sv hy;rw[d,MB];rfl
  |some b=>cases e;cases hy;rfl
theorem Ux {x y:Nat}(h:J4 x\/J4 y):Ieee.double.order x y=none:=by
 unfold Ieee.Format.order;rcases h with h|h
 .obtain ⟨s,f,a⟩:=sv h;rw[a];rfl
 obtain⟨s,f,a⟩:=sv h;rw[a];cases Ieee.double.read x<;>rfl
theorem aco (x y t:Nat):J4 ((Question.nanBits .f64 x y).cut t):=by
 show J4 ((t%2)*2 ^ 63+0x7ff0000000000000+1+(t/2)%(2 ^ 52-1));have e:(t/2)%(2 ^ 52-1)<2 ^ 52-1:=Nat.mod_lt _ (by decide);generalize (t/2)%(2 ^ 52-1)=r at *;have a:((t%2)*2 ^ 63+0x7ff0000000000000+1+r)%9223372036854775808=0x7ff0000000000001+r:=by omega
 unfold J4 Ieee.Format.read;have b:Ieee.double.signWeight=9223372036854775808:=by decide
 have e2:Ieee.double.binade=4503599627370496:=by decide
 have d:Ieee.double.infRung=9218868437227405312:=by decide
 simp only[b,e2,d,a];rw[aa (by omega),aa (by omega),aa (by omega)];rfl
theorem MD {α:Type}(P:Program)(w:World)(x y:Nat)(k:Nat->Sem α):(Sem.choose (.nanBits .f64 x y) k).run P w=(k ((Question.nanBits .f64 x y).cut (w.tape w.drawn (.nanBits .f64 x y)))).run P w.drew:=rfl
theorem Cv {op:BinOp}{f:Nat->Nat->cu}(b:∀x y,Op.floatArith op .f64 x y=(match f x y with|some r=>pure (.float .f64 r)|none=>(do pure (.float .f64 (<- choose (.nanBits .f64 x y))):Sem Value))){a:cu}{x y:Nat}(h:f x y=a)(d:fc c ρ H w) :
 ∃n w',(Op.floatArith op .f64 x y).run c.P w = .ok (.float .f64 n) w'/\PK a n/\fc c ρ H w':=by
 rw[b,h];cases a with
 |some r=>exact⟨r,w,rfl,rfl,d⟩
 |none=>exact⟨_,_,MD _ _ _ _ _,aco _ _ _,d.drew⟩
theorem arO:Extern.allNextRows.lookup "math.Float64bits" = none:=by kernel_rfl
theorem arP:Extern.allGenericRows.lookup "math.Float64bits" = none:=by kernel_rfl
theorem arQ:Extern.allTypedRows.lookup "math.Float64bits" = none:=by kernel_rfl
theorem arR:Extern.allRows.lookup "math.Float64bits" = some Extern.MathFloatBits.float64bits:=by kernel_rfl
theorem WW {o:Oper} {ev':Operand->Value} {f y:Operand} {b:Array TypeId} {id:FuncId} {fn:Func} (d:o.op = .call { callee:=.value f,args := #[y],argTypes:=b }) (i:ev' f = .func (.func id) #[] #[]) (e:c.P.funcs[id]? = some fn) (j:¬fn.body.isSome=true) (a:fn.name = "math.Float64bits") (h:fn.origin = "") {n:Nat} (hy:ev' y = .float .f64 n) (w:World) :
 (execOp ev' o).run c.P w = .ok (.value (.int .u64 n)) w:=by
 have g:fn.body.isNone=true:=by simpa using j
 have k:Extern.findNext fn=none:=by
  simp only[Extern.findNext,a,h];rw[arO,afY];rfl
 have e2:Extern.find fn=some Extern.MathFloatBits.float64bits:=by
  simp only[Extern.find,a,h];rw[arP,arQ,arR];rfl
 have l:¬(fn.name = "runtime.NumGoroutine"):=by rw[a];decide
 have m:fn.body=none:=by simpa using g
 simp only[execOp,d,resolve,Deferred.ofValue,i,invoke,callFunc];have p:Extern.MathFloatBits.float64bits #[ev' y]=pure (.int .u64 n):=by rw[hy];rfl
 simp[e,l,m,k,e2,p]
theorem El {o:Oper}{ev':Operand->Value}{op:BinOp}{t b:TypeId}{x y:Operand}{m n:Nat}(a:o.op = .binOp op t x y b)(d:ev' x = .float .f64 m)(hy:ev' y = .float .f64 n){s:Sem Value}(e:binOp op t (.float .f64 m) (.float .f64 n)=s){v:Value}{w w':World}(h:s.run c.P w = .ok v w') :
 (execOp ev' o).run c.P w = .ok (.value v) w':=by
 subst e;have f:eqGuard op t x y (.float .f64 m) (.float .f64 n)=pure ():=by cases op<;>rfl
 simp only[execOp,a,d,hy,f];simp[h]
theorem Ff (a:Array TypeId)(t:TypeId)(m n:Nat):Builtin.complex_ a t #[.float .f64 m,.float .f64 n]=pure (.complex .f64 m n):=rfl
theorem Ss (a:Array TypeId)(t:TypeId)(m n:Nat):Builtin.real_ a t #[.complex .f64 m n]=pure (.float .f64 m):=rfl
theorem Su (a:Array TypeId)(t:TypeId)(m n:Nat):Builtin.imag_ a t #[.complex .f64 m n]=pure (.float .f64 n):=rfl
theorem ahv (i:fc c ρ H w){o:Oper}{ev ev':Operand->Value}(E:EvR ρ ev ev' o.op){v:Value}(h:HO c.P ev o=some v):WU c ρ o ev' w v H:=by
 unfold HO at h;split at h
 .rename_i op t x y Z d;have j:=E x (by simp[d,Op.operands]);have hy:=E y (by simp[d,Op.operands]);unfold JX at h;split at h;case h_2=>cases h
  rename_i a b F e;obtain⟨m,em,k⟩:=Bh F j;obtain⟨n,en,B⟩:=Bh e hy;have s:∀{q:cu},(∃r w',(binOp op t (.float .f64 m) (.float .f64 n)).run c.P w = .ok (.float .f64 r) w'/\PK q r/\fc c ρ H w')->WU c ρ o ev' w (PU q) H:=by
   rintro q ⟨r,w',G,I,O⟩;exact⟨ρ,w',_,Ren.le_refl _,O,Kh I,.inl (El d em en rfl G)⟩
  split at h
  .cases h;exact s (Cv (op:=.add) (λx y=>by rfl) (ack k B) i)
  .cases h;exact s (Cv (op:=.sub) (λx y=>by rfl) (acm k B) i)
  .cases h;exact s (Cv (op:=.mul) (λx y=>by rfl) (acn k B) i)
  .split at h
   .cases h
   rename_i J;cases h;have Q:Ieee.double.order m n=none:=by
    refine Ux ?_;cases a with
    |none=>exact .inl k
    |some a=>cases b with
     |none=>exact .inr B
     |some b=>exact absurd rfl (J a b rfl)
   refine⟨ρ,w,_,Ren.le_refl _,i,.bool true,.inl (El d em en rfl ?_)⟩;show (Op.floatCmp .neq .f64 m n).run c.P w=_;have:Op.floatCmp .neq .f64 m n=pure (.bool (Ieee.double.order m n != some .eq)):=rfl;rw[this,Q];rfl
  cases h
 .rename_i R d;obtain⟨callee,args,S⟩:=R;have C:∀x∈args,bR ρ (ev x) (ev' x):=λx j=>E x (by simp[d,Op.operands,Call.operands];exact .inr j)
  have one:∀{v:Value},args.toList.map ev=[v]->∃p,args = #[p]/\ev p=v:=λh=>by
   obtain⟨l⟩:=args
   match l,h with
   |[p],h=>exact⟨p,rfl,by simpa using h⟩
  have K:∀{v u:Value},args.toList.map ev=[v,u]->∃p q,args = #[p,q]/\ev p=v/\ev q=u:=λh=>by
   obtain⟨l⟩:=args
   match l,h with
   |[p,q],h=>exact⟨p,q,rfl,by simpa using h⟩
  simp only at h;split at h
  .rename_i x y z;obtain⟨p,q,rfl,rfl,rfl⟩:=K z;split at h
   .rename_i a b F e;cases h;obtain⟨m,em,k⟩:=Bh F (C p (by simp));obtain⟨n,en,B⟩:=Bh e (C q (by simp));exact⟨ρ,w,_,Ren.le_refl _,i,acj k B,.inl (by simp[execOp,d,resolve,em,en,invoke,builtin,Ff])⟩
   cases h
  .rename_i x z;obtain⟨p,rfl,rfl⟩:=one z;split at h
   .rename_i q D;cases h;obtain⟨m,n,em,G,I⟩:=MA D (C p (by simp));exact⟨ρ,w,_,Ren.le_refl _,i,Kh G,.inl (by simp[execOp,d,resolve,em,invoke,builtin,Ss])⟩
   cases h
  .rename_i x z;obtain⟨p,rfl,rfl⟩:=one z;split at h
   .rename_i q D;cases h;obtain⟨m,n,em,G,I⟩:=MA D (C p (by simp));exact⟨ρ,w,_,Ren.le_refl _,i,Kh I,.inl (by simp[execOp,d,resolve,em,invoke,builtin,Su])⟩
   cases h
  .rename_i f z;obtain⟨p,rfl,T⟩:=one z;rw[ay]at h;split at h
   .rename_i e;cases h;have L:=E f (by simp[d,Op.operands,Call.operands]);have j:=C p (by simp);rw[T]at j;generalize D:ev' p=q at j;cases j with
    |nan m k =>
     unfold JZ at e;split at e
     .rename_i id U;rw[U]at L;generalize M:ev' f=g at L;cases L with
      |func fn a V b W X F Y Mb =>
       obtain rfl:V = #[]:=fW (by simpa using X.symm);obtain rfl:W = #[]:=fW (by simpa using Y.symm);split at e
       .rename_i fn N;rw[ay]at e;split at e
        .cases e
        rename_i A;simp only[ak,fL]at e;exact⟨ρ,w,_,Ren.le_refl _,i,.Us _ _,.inl (WW d M N A e.1 e.2 D w)⟩
       cases e
     cases e
   cases h
  cases h
 cases h
end
section
variable {P:Program} {H:Mem}
theorem Cw {o:Oper}{ev:Operand->Value}{u:Value}(h:iX P ev o=some u):dU ev o.op=true/\∀w,(execOp ev o).run P w = .ok (.value u) w:=by
 unfold iX at h;split at h
 .cases h
 split at h
 .rename_i a;split at h
  .rename_i d b;split at h
   .cases h;exact⟨a,qA _ b⟩
   cases h
  cases h
 cases h
theorem yV {x:Value}{a:cu}(h:DZ x=some a)(b:br x=true):∃n,x = .float .f64 n/\a=some n:=by
 unfold DZ at h;split at h
 .cases h;exact⟨_,rfl,rfl⟩
 .simp[br]at b
 cases h
theorem Im {x:Value}{q:cu×cu}(h:JY x=some q)(a:br x=true):∃m n,x = .complex .f64 m n/\q=(some m,some n):=by
 unfold JY at h;split at h
 .cases h;exact⟨_,_,rfl,rfl⟩
 .simp[br]at a
 cases h
theorem acp (w:World):w.drew≠w:=λh=>by
 have:w.drawn+1=w.drawn:=bO World.drawn h;omega
theorem ahx {call:dx}{o:Oper}{ev:Operand->Value}{v u:Value}{C:Mem}(h:HO P ev o=some v)(e:kD P call ev o H=some (u,C)):u=v/\C=H:=by
 unfold HO at h;split at h
 .rename_i op t x y Z d;unfold kD at e;rw[d]at e;have e:xB P ev o op t (ev x) (ev y) H=some (u,C):=e;unfold xB at e;obtain⟨A,e0⟩:=bY e;refine⟨?_,e0⟩;unfold JX at h;split at h;case h_2=>cases h
  rename_i a b s g;have R:ET op (ev x) (ev y)=none:=by
   unfold DZ at s;split at s
   .rename_i n D;rw[D];cases ev y<;>rfl
   .rename_i D;rw[D];cases ev y<;>rfl
   cases s
  have e2:vp P op t (ev x) (ev y)=none:=by
   unfold DZ at s;split at s
   .rename_i n D;rw[D];unfold vp;split<;>first|rfl|(rename_i S e A;cases e)|rfl
   .rename_i D;rw[D];unfold vp;split<;>first|rfl|(rename_i S e A;cases e)|rfl
   cases s
  rw[R,e2]at A;have A:iX P ev o=some u:=A;obtain⟨i,j⟩:=Cw A;have O:∀z∈o.op.operands,br (ev z)=true:=λz M=>aN.1 i z (by simpa using M)
  obtain⟨m,em,rfl⟩:=yV s (O x (by simp[d,Op.operands]));obtain⟨n,en,rfl⟩:=yV g (O y (by simp[d,Op.operands]));have same:∀{r:Value} {w':World},(execOp ev o).run P default = .ok (.value r) w'->u=r/\w'=default:=λK=>by
   have I:=(j default).symm.trans K;simp only[Result.ok.injEq,Next.value.injEq]at I;exact⟨I.1,I.2.symm⟩
  have E:∀{op':BinOp} {f:Nat->Nat->cu} {q:cu},binOp op t (.float .f64 m) (.float .f64 n)=Op.floatArith op' .f64 m n ->
   (∀x y,Op.floatArith op' .f64 x y=(match f x y with|some r=>pure (.float .f64 r)|none=>(do pure (.float .f64 (<- choose (.nanBits .f64 x y))):Sem Value)))->f m n=q->u=PU q:=λ{op' f q} g B J=>by
   cases q with
   |some r =>
    exact(same (El (c:=⟨P,0,0,0,default,λ_=>none⟩) d em en g (v:=.float .f64 r) (w':=default) (by rw[B,J];rfl))).1
   |none =>
    have:=(same (El (c:=⟨P,0,0,0,default,λ_=>none⟩) (w:=default) d em en g (w':=World.drew default) (by rw[B,J];exact MD _ _ _ _ _))).2;exact absurd this (acp _)
  split at h
  .cases h;exact E (op':=.add) rfl (λx y=>by rfl) rfl
  .cases h;exact E (op':=.sub) rfl (λx y=>by rfl) rfl
  .cases h;exact E (op':=.mul) rfl (λx y=>by rfl) rfl
  .cases h
  cases h
 .rename_i T d;obtain⟨callee,args,U⟩:=T;have one:∀{v:Value},args.toList.map ev=[v]->∃p,args = #[p]/\ev p=v:=λh=>by
   obtain⟨l⟩:=args
   match l,h with
   |[p],h=>exact⟨p,rfl,by simpa using h⟩
  have N:∀{v u:Value},args.toList.map ev=[v,u]->∃p q,args = #[p,q]/\ev p=v/\ev q=u:=λh=>by
   obtain⟨l⟩:=args
   match l,h with
   |[p,q],h=>exact⟨p,q,rfl,by simpa using h⟩
  unfold kD at e;rw[d]at e;simp only at h e;have F:∀{r:Value},dh H (iX P ev o)=some (u,C)->(∀(_:dU ev o.op=true),(execOp ev o).run P default = .ok (.value r) default)->u=r/\C=H:=λA V=>by
   obtain⟨K,e0⟩:=bY A;obtain⟨i,j⟩:=Cw K;have I:=(j default).symm.trans (V i);simp only[Result.ok.injEq,Next.value.injEq]at I;exact⟨I.1,e0⟩
  have fr:∀z∈args,dU ev o.op=true->br (ev z)=true:=λz M i=>aN.1 i z (by rw[d];simp[Op.operands,Call.operands];exact .inr M)
  split at h
  .rename_i x y G;obtain⟨p,q,rfl,rfl,rfl⟩:=N G;split at h
   .rename_i a b s g;cases h;refine F e λi=>?_
    obtain⟨m,em,rfl⟩:=yV s (fr p (by simp) i);obtain⟨n,en,rfl⟩:=yV g (fr q (by simp) i);simp[execOp,d,resolve,em,en,invoke,builtin,Ff,cxV]
   cases h
  .rename_i x G;obtain⟨p,rfl,rfl⟩:=one G;split at h
   .rename_i q J;cases h;refine F e λi=>?_
    obtain⟨m,n,em,rfl⟩:=Im J (fr p (by simp) i);simp[execOp,d,resolve,em,invoke,builtin,Ss,PU]
   cases h
  .rename_i x G;obtain⟨p,rfl,rfl⟩:=one G;split at h
   .rename_i q J;cases h;refine F e λi=>?_
    obtain⟨m,n,em,rfl⟩:=Im J (fr p (by simp) i);simp[execOp,d,resolve,em,invoke,builtin,Su,PU]
   cases h
  .rename_i f G;obtain⟨p,rfl,W⟩:=one G;rw[ay]at h;split at h
   .rename_i g;cases h;exfalso;unfold JZ at g;split at g
    .rename_i id Q;split at g
     .rename_i fn L;rw[ay]at g;split at g
      .cases g
      rename_i k;simp only[ak,fL]at g;have X:rH P call (ev f) (#[p].toList.map ev) H=none:=by
       unfold rH;simp only[Q,L];rw[ay,aa k]
      have Y:xD P (ev f)=false:=by
       unfold xD;simp only[Q,L];rw[ay,aa k,g.1];rfl
      unfold fu at e;simp only[X]at e;have e:ah (xD P (ev f)) (some (ev p,H)) (dh H (iX P ev o))=some (u,C):=e;rw[Y]at e;obtain⟨K,e0⟩:=bY (show dh H (iX P ev o)=some (u,C) from e);have:=fr p (by simp) (Cw K).1;rw[W]at this;simp[br]at this
     cases g
    cases g
   cases h
  cases h
 cases h
end
end Go.Ev
namespace Go.Ev
open Go.RowKit
section
variable {P:Program} {call:dx} {ops:Array Oper} {GR:List kV}
def mG (rows:List kV)(w:World):Prop:=rows.length<=w.heap.size/\∀(i:Nat) b,rows[i]? = some b->b.live=true->∃fr,w.heap[i]? = some (.cells b.cells.toArray b.elem fr)/\sq b.cells.toArray fr
structure Cx.At (c:Cx)(G:Nat)(GR:List kV):Prop where
 g:c.G=G
 rows:mG GR c.w0
 len:GR.length<=c.B
theorem mG.nil (w:World):mG [] w:=⟨cJ _,λi b h=>by simp at h⟩
theorem fc.Ki {c:Cx}{ρ:Ren}{H:Mem}{w:World}{G:Nat}{GR:List kV}(a:fc c ρ H w)(h:c.At G GR):mG GR w :=
 ⟨bA h.len a.base,λi b hi d=>by
  obtain⟨fr,e,f⟩:=h.rows.2 i b hi d;exact⟨fr,(a.below.block i (cU (bH.1 hi).1 h.len)).trans e,f⟩⟩
def rJ (P:Program)(G:Nat)(GR:List kV)(call:dx):Prop :=
 ∀f args H v a,call f args H=some (v,a)->(P.funcs[f]? ≠ none\/br v=true)->∀(c:Cx),c.P=P->c.At G GR->∀ ρ w args',fc c ρ H w->LR (bR ρ) args args' ->
  Calls P f args'.toArray w λe w'=>∃ ρ' v',e = .returned v'/\ρ.le ρ'/\bR ρ' v v'/\fc c ρ' a w'
def iZ (H a:Mem):Prop:=H.size<=a.size/\a.lk=H.lk/\∀i,i<H.lk->i<H.size->a.get i=H.get i
theorem iZ.refl (H:Mem):iZ H H:=⟨aG _,rfl,λ_ _ _=>rfl⟩
theorem iZ.trans {a b c:Mem}(h:iZ a b)(k:iZ b c):iZ a c :=
 ⟨bA h.1 k.1,k.2.1.trans h.2.1,λi hi d=>(k.2.2 i (by rw[h.2.1];exact hi) (cU d h.1)).trans (h.2.2 i hi d)⟩
theorem iZ.push {H a:Mem}{b:kV}(h:H.push b=some a):iZ H a:=by
 obtain⟨e,c,d⟩:=Mem.eG h;exact⟨by omega,c,λi _ f=>by rw[d,aa (by omega)]⟩
theorem iZ.set {H a:Mem}{i:Nat}{b:kV}(h:H.set i b=some a):iZ H a:=by
 obtain⟨e,f,g,c,d⟩:=Mem.mE h;exact⟨by omega,c,λj k _=>by rw[d,aa (by omega)]⟩
def gp (call:dx):Prop:=∀f args H v a,call f args H=some (v,a)->iZ H a
theorem rK {H a:Mem}{i off:Nat}{vs:aW}(h:js H i off vs=some a):iZ H a:=by
 unfold js at h;split at h
 .cases h;exact .refl _
 split at h
 .split at h
  .exact .set h
  cases h
 cases h
theorem Bj {H a:Mem}{t:TypeId}{cs:aW}{v:Value}(h:wh H t cs=some (v,a)):iZ H a:=.push (uJ h).1
theorem tU {H a:Mem}{t:TypeId}{cs:aW}{len cap:Nat}{v:Value}(h:mw H t cs len cap=some (v,a)):iZ H a:=.push (pZ h).1
theorem zL {H a:Mem}{t:TypeId}{cs:aW}{len cap:Nat}{v:Value}(h:wj H t cs len cap=some (v,a)):iZ H a:=.push (s8 h).1
theorem eV {H a:Mem}{x:fS}{v:Value}(h:dh H x=some (v,a)):iZ H a:=by
 obtain⟨_,rfl⟩:=bY h;exact .refl _
theorem Cy (g:gp call){ev:Operand->Value}{o:Oper}{H f:Mem}{v:Value}(h:kD P call ev o H=some (v,f)):iZ H f:=by
 unfold kD at h;split at h;case h_1=>cases h;exact .refl _
 case h_2=>cases h;exact .refl _
 case h_3=>unfold EU at h;split at h<;>cases h;exact .refl _
 case h_4=>exact eV h
 case h_5 =>
  unfold sY at h;split at h
  .exact Bj h
  cases h
 case h_6 =>
  unfold Ib at h;split at h
  .exact Bj h
  cases h
 case h_7=>exact eV h
 case h_8 =>
  unfold oE at h;split at h
  .split at h
   .split at h
    .cases h
    split at h
    .exact zL h
    cases h
   cases h
  cases h
 case h_9=>exact eV h
 case h_10 =>
  unfold rU at h;split at h
  .rename_i a;cases h;unfold tN at a;split at a
   .split at a
    .exact rK a
    cases a
   cases a
  cases h
 case h_11=>unfold tP at h;split at h<;>cases h<;>exact .refl _
 case h_12=>exact eV h
 case h_13=>exact eV h
 case h_14 =>
  unfold tD at h;split at h
  .exact eV h
  cases h
 case h_15 =>
  unfold rG at h;split at h
  .split at h
   .split at h
    .exact zL h
    cases h
   cases h
  cases h
 case h_16=>cases h;exact .refl _
 case h_17 =>
  unfold qU at h;rw[ay]at h;split at h
  .exact eV h
  exact eV h
 case h_18=>exact eV h
 case h_19=>exact eV h
 case h_20 =>
  unfold mC at h;split at h
  .cases h;exact .refl _
  unfold kr at h;split at h
  .split at h
   .split at h
    .simp only[aO]at h;obtain⟨u,_,heq⟩:=h;cases heq;exact .refl _
    cases h
   .cases h;exact .refl _
   .cases h;exact .refl _
   cases h
  .split at h
   .exact tU h
   cases h
  .split at h
   .rw[ay]at h;split at h
    .cases h;exact .refl _
    cases h
   cases h
  .split at h
   .rw[ay]at h;split at h
    .cases h;exact .refl _
    cases h
   cases h
  .split at h
   .rw[ay]at h;split at h
    .cases h;exact .refl _
    cases h
   cases h
  cases h
 case h_21 =>
  unfold fu at h;split at h
  .split at h
   .rename_i r c;cases h;unfold rH at c;split at c
    .split at c
     .rename_i fn _;rw[ay]at c;split at c
      .exact g _ _ _ _ _ c
      cases c
     cases c
    cases c
   unfold EV at h;split at h
   .rw[ay]at h;split at h
    .cases h;exact .refl _
    obtain⟨_,rfl⟩:=bY h;exact .refl _
   obtain⟨_,rfl⟩:=bY h;exact .refl _
  .unfold tE at h;split at h
   .unfold A6 at h;split at h
    .exact eV h
    cases h
   .unfold tQ at h;split at h
    .unfold sX at h;split at h
     .split at h
      .split at h
       .split at h
        .cases h
        split at h
        .split at h
         .simp only[aO]at h;obtain⟨u,a,heq⟩:=h;cases heq;exact rK a
         .split at h
          .cases h;exact .refl _
          cases h
         cases h
        split at h
        .split at h
         .split at h
          .rename_i j d;refine iZ.trans ?_ (tU h);unfold kill at d;split at d
           .exact .set d
           cases d
          cases h
         cases h
        .exact tU h
        cases h
       cases h
      cases h
     cases h
    cases h
   .unfold Cn at h;split at h
    .unfold Ia at h;split at h
     .split at h
      .split at h
       .split at h
        .simp only[aO]at h;obtain⟨u,a,heq⟩:=h;cases heq;exact rK a
        .cases h;exact .refl _
        cases h
       cases h
      cases h
     cases h
    cases h
   .unfold vq at h;split at h
    .exact eV h
    cases h
   .unfold qx at h;split at h
    .exact eV h
    cases h
   .unfold Co at h;split at h
    .unfold EW at h;split at h
     .cases h;exact .refl _
     .split at h
      .rw[ay]at h;split at h
       .split at h
        .rename_i j d;cases h;unfold kill at d;split at d
         .exact .set d
         cases d
        cases h
       cases h
      cases h
     cases h
    cases h
   exact eV h
  cases h
 case h_22=>obtain⟨b,e⟩:=Fb h;exact .push e
 case h_23=>exact eV h
 case h_24=>obtain⟨i,b,e⟩:=zK h;exact .set e
 case h_25=>obtain⟨i,b,e⟩:=zK h;exact .set e
 case h_26=>exact eV h
noncomputable def ku (P:Program)(call:dx)(ops:Array Oper)(o:Oper)(a:Act)(H:Mem):Option (Act×Mem) :=
 if Region.wanted o (yielded ops a.tmps) then (kD P call a.eval o H).map λr=>(a.put o.dst r.1,r.2) else some (a.put o.dst undef,H)
noncomputable def pQ (P:Program)(call:dx)(ops:Array Oper)(R:gS)(lk:Bool)(o:Oper)(a:Act)(H:Mem):Option (Act×Mem) :=
 if lk then (match mb o.op with
  |some s=>if ve R (a.eval s) then ku P call ops o a H else none
  |none=>if jt R a.eval o then ku P call ops o a H else (ku P call ops o a { H with lk:=H.size }).map λr=>(r.1,{ r.2 with lk:=H.lk })) else ku P call ops o a H
theorem s9 {P:Program}{call:dx}{ops:Array Oper}{R:gS}{lk:Bool}{o:Oper}{a:Act}{H:Mem}{r:Act×Mem}(h:pQ P call ops R lk o a H=some r) :
 (ku P call ops o a H=some r/\(lk=true->∃s,(mb o.op=some s\/nV o.op=some s)/\ve R (a.eval s)=true))\/(lk=true/\∃u,ku P call ops o a { H with lk:=H.size }=some u/\r=(u.1,{ u.2 with lk:=H.lk })):=by
 unfold pQ at h;split at h
 .rename_i c;split at h
  .rename_i s d;split at h
   .rename_i b;exact .inl ⟨h,λ_=>⟨s,.inl d,b⟩⟩
   cases h
  split at h
  .rename_i b;unfold jt at b;split at b
   .rename_i s d;exact .inl ⟨h,λ_=>⟨s,.inr d,b⟩⟩
   cases b
  simp only[aO]at h;obtain⟨u,e,rfl⟩:=h;exact .inr ⟨c,u,e,rfl⟩
 rename_i c;exact .inl ⟨h,λh=>absurd h c⟩
structure Em (f:Fr)(a:Act):Prop where
 n:f.n=a.tmps.size
 get:∀i,f.get i=a.tmps.getD i undef
theorem Fr.get_eq (f:Fr)(i:Nat):f.get i=if i<f.n then (f.t.get i).getD undef else undef:=by
 unfold Fr.get;rw[ay,oG];cases f.t.get i<;>simp
theorem Fr.iK {f b:Fr}{dst:Option Tmp}{v:Value}(h:f.put dst v=some b):b.n=f.n/\∀i,b.get i=if dst=some i/\i<f.n then v else f.get i:=by
 cases dst with
 |none =>
  have a:some f=some b:=h;cases a;exact⟨rfl,λi=>by simp⟩
 |some d =>
  have a:ah (Nat.ble (Nat.succ d) f.n) (Option.rec (motive:=λ_=>Option Fr) none (λt=>some ⟨f.n,t⟩) (f.t.set d v)) (some f)=some b:=h;rw[ay,oG]at a;split at a
  .rename_i c;simp only[aZ]at c;cases e:f.t.set d v with
   |none=>rw[e]at a;cases a
   |some t =>
    rw[e]at a;have g:some (Fr.mk f.n t)=some b:=a;cases g;refine⟨rfl,λi=>?_⟩;rw[Fr.get_eq,Fr.get_eq];simp only[Tr.yT e];by_cases hi:i=d
    .subst hi;simp[c]
    simp[hi,kZ hi]
  rename_i c;simp only[aZ]at c;cases a;exact⟨rfl,λi=>by
   rw[aa];rintro⟨j,g⟩;cases j;exact c g⟩
theorem Em.put {f c:Fr}{a:Act}(h:Em f a){dst:Option Tmp}{v:Value}(k:f.put dst v=some c):Em c (a.put dst v):=by
 obtain⟨e,g⟩:=Fr.iK k;cases dst with
 |none=>exact⟨by rw[e];exact h.n,λi=>by rw[g];simp[h.get,Act.put]⟩
 |some d =>
  refine⟨by rw[e,h.n];simp[Act.put],λi=>?_⟩;rw[g,h.get,h.n];simp only[Act.put,aq];by_cases j:d=i
  .subst j;by_cases b:d<a.tmps.size
   .simp[b]
   simp[b]
  simp[j]
theorem Em.eval {f:Fr}{a:Act}(h:Em f a):f.eval=a.eval:=by
 funext x
 cases x with
 |tmp t=>exact h.get t
 |const v=>rfl
 |global g=>rfl
 |func f=>rfl
theorem Em.wanted {f:Fr}{a:Act}(h:Em f a)(o:Oper):oX o ops.toList f=Region.wanted o (yielded ops a.tmps):=by
 unfold oX Region.wanted;split
 .rename_i e;simp[e]
 rename_i j want e;simp only[e];have:xG ops.toList f j=yielded ops a.tmps j:=by
  unfold xG yielded;simp only[Array.getElem?_toList];cases l:ops[j]? with
  |none=>simp
  |some i =>
   cases g:i.dst with
   |none=>simp[g]
   |some d =>
    simp only[bh,g,h.get];by_cases c:d<a.tmps.size
    .have k:a.tmps.getD d undef=a.tmps[d]:=by simp[c]
     rw[k,bW c];generalize a.tmps[d]=q;cases q<;>rfl
    simp[c,undef]
 rw[this];cases yielded ops a.tmps j with
 |none=>simp
 |some b=>cases b<;>cases want<;>rfl
theorem vD {f g:Fr}{a:Act}{o:Oper}{H i:Mem}(b:Em f a)(h:jj P call ops.toList o f H=some (g,i)):∃j,ku P call ops o a H=some (j,i)/\Em g j:=by
 unfold jj at h;rw[b.wanted,b.eval,ay]at h;unfold ku;split at h
 .rename_i c;unfold vt at h;split at h
  .rename_i v l d;split at h
   .rename_i k e;cases h;exact⟨a.put o.dst v,by rw[ag c,d];rfl,b.put e⟩
   cases h
  cases h
 rename_i c;unfold vt at h;simp only at h;split at h
 .rename_i k e;cases h;exact⟨a.put o.dst undef,by rw[aa c],b.put e⟩
 cases h
theorem Uy {f j:Fr}{a:Act}{o:Oper}{R:gS}{lk:Bool}{H k:Mem}(d:Em f a)(h:sn P call ops.toList R lk o f H=some (j,k)):∃b,pQ P call ops R lk o a H=some (b,k)/\Em j b:=by
 unfold sn at h;unfold pQ;rw[ay]at h;split at h
 .rename_i i;cases l:mb o.op with
  |some s =>
   rw[l]at h;simp only[ay]at h;split at h
   .rename_i c;obtain⟨b,e,g⟩:=vD d h;rw[d.eval]at c;exact⟨b,by rw[ag i];simp only[ag c];exact e,g⟩
   cases h
  |none =>
   rw[l]at h;simp only at h;rw[ay]at h;split at h
   .rename_i c;obtain⟨b,e,g⟩:=vD d h;rw[d.eval]at c;exact⟨b,by rw[ag i];simp only[ag c];exact e,g⟩
   rename_i c;split at h
   .rename_i n p m;cases h;obtain⟨b,e,g⟩:=vD d m;rw[d.eval]at c;exact⟨b,by rw[ag i];simp only[aa c,e];rfl,g⟩
   cases h
 rename_i i;obtain⟨b,e,g⟩:=vD d h;exact⟨b,by rw[aa i];exact e,g⟩
theorem ME (c:gp call){o:Oper}{a d:Act}{H b:Mem}(h:ku P call ops o a H=some (d,b)):iZ H b:=by
 unfold ku at h;split at h
 .simp only[aO]at h;obtain⟨u,e,heq⟩:=h;cases heq;exact Cy c e
 cases h;exact .refl _
theorem MF {ρ:Ren}{a ar:Act}(e:Cj ρ a ar)(j:Nat):yielded ops ar.tmps j=yielded ops a.tmps j:=by
 unfold yielded;cases g:(ops[j]?).bind (·.dst) with
 |none=>rfl
 |some d =>
  simp only[bh];by_cases b:d<a.tmps.size
  .have c:d<ar.tmps.size:=e.tmps.1 ▸ b;have f:=e.tmps.2 d _ _ (bW b) (bW c);rw[bW b,bW c];generalize a.tmps[d]=x at f;generalize ar.tmps[d]=y at f;cases f<;>rfl
  rw[fP (fX b),fP (fX (e.tmps.1 ▸ b))]
theorem Fg {ρ:Ren}{a ar:Act}(b:Cj ρ a ar)(o:Oper):Region.wanted o (yielded ops ar.tmps)=Region.wanted o (yielded ops a.tmps):=by
 unfold Region.wanted;split
 .rfl
 rw[MF b]
def j6 (P:Program):Prop:=∀(id:FuncId) fn,P.funcs[id]? = some fn->¬(fn.name = "runtime.NumGoroutine")
theorem WX (m:j6 P){ρ:Ren}{ev ev':Operand->Value}{o:Oper}{k:Call}{g:Operand}(c:o.op = .call k)(l:k.callee = .value g)(q:EvR ρ ev ev' o.op){H r:Mem}{v:Value}
 (h:rH P call (ev g) (k.args.toList.map ev) H=some (v,r)) (w:World) :
 ∃f args args',LR (bR ρ) args args'/\call f args H=some (v,r)/\P.funcs[f]? ≠ none/\(execOp ev' o).run P w = .ok (.enter f args'.toArray) w:=by
 unfold rH at h;split at h
 .rename_i id first captured s
  split at h
  .rename_i fn d;rw[ay]at h;split at h
   .rename_i t;have e:=q g (by simp[c,l,Op.operands,Call.operands]);rw[s]at e;generalize n:ev' g=C at e;cases e with
    |func _ _ b _ a u x z A =>
     have i:=AR.map (ev:=ev) (ev':=ev') k.args λy hy=>q y (by simp[c,l,Op.operands,Call.operands,hy])
     refine⟨id,_,b.toList++((k.args.map ev').toList++a.toList),?_,h,(by rw[d];simp),?_⟩
     .have:=(AR.list ⟨u,x⟩).append (i.list.append (AR.list ⟨z,A⟩));simpa using this
     obtain⟨D,p⟩:=cw.1 t;have j:=m id fn d;obtain⟨callee,args,B⟩:=k;simp only at l;subst l;simp[execOp,c,resolve,Deferred.ofValue,n,invoke,callFunc,d,j,p]
   cases h
  cases h
 cases h
theorem Fh (z:j6 P){G:Nat}(i:rJ P G GR call){o:Oper}{a F ar:Act}{H I:Mem}(A:o.op.operands.toList.all (eU G)=true)(h:ku P call ops o a H=some (F,I)){c:Cx}(R:c.P=P)(J:c.At G GR){w:World}{ρ:Ren}(m:Cj ρ a ar)(s:fc c ρ H w)
 {Q:Exit->Act->World->Prop} {K:Act->World->Prop} (t:∀ ρ' n w',ρ.le ρ'->Cj ρ' F n->fc c ρ' I w'->K n w') :
 if Region.wanted o (yielded ops ar.tmps) then o.wp P ar w K Q\/(o.asks P ar w/\LetsOut Q) else K (ar.put o.dst undef) w:=by
 subst R;have B:=J.g;subst B;have L:EvR ρ a.eval ar.eval o.op:=λx S=>m.eval s.kE (aN.1 A x (by simpa using S))
 rw[Fg m];unfold ku at h;split at h
 .rename_i C;rw[ag C];simp only[aO]at h;obtain⟨u,M,heq⟩:=h;cases heq;refine .inl ?_;unfold Oper.wp;by_cases N:∃j g r,o.op = .call j/\j.callee = .value g/\rH c.P call (a.eval g) (j.args.toList.map a.eval) H=some r
  .obtain ⟨j,g,r,b,O,d⟩:=N;have D:some r=some u:=by
    rw[<-M];unfold kD;rw[b];simp only[fu,O,d]
   cases D;obtain⟨f,args,args',k,T,E,p⟩:=WX z b O L d w;rw[p];refine(i _ _ _ _ _ T (.inl E) c rfl J ρ w args' s k).mono ?_;rintro e w' ⟨ρ',v',rfl,l,v,y⟩;exact t ρ' _ _ l ((m.mono l).put o.dst v) y
  obtain⟨ρ',w',v',l,v,y,q⟩:=aht s L (λj b f U=>by
   cases d:rH c.P call (a.eval f) (j.args.toList.map a.eval) H with
   |none=>rfl
   |some r=>exact absurd ⟨j,f,r,b,U,d⟩ N) M
  rcases q with q|⟨q,rfl⟩
  .rw[q];exact t ρ' _ _ l ((m.mono l).put o.dst y) v
  rw[q];exact t ρ' _ _ l ((m.mono l).put o.dst y) v
 rename_i C;rw[aa C];cases h;exact t ρ _ _ (Ren.le_refl _) (m.put o.dst .undef) s
theorem Uz (e:j6 P){G:Nat}(b:rJ P G GR call)(_hk:gp call){o:Oper}{R:gS}{lk:Bool}{a k ar:Act}{H l:Mem}(f:o.op.operands.toList.all (eU G)=true)(h:pQ P call ops R lk o a H=some (k,l)){c:Cx}(m:c.P=P)(n:c.At G GR){w:World}{ρ:Ren}(p:Cj ρ a ar)(g:fc c ρ H w)
 {Q:Exit->Act->World->Prop} {K:Act->World->Prop} (q:∀ ρ' d w',ρ.le ρ'->Cj ρ' k d->fc c ρ' l w'->K d w') :
 if Region.wanted o (yielded ops ar.tmps) then o.wp P ar w K Q\/(o.asks P ar w/\LetsOut Q) else K (ar.put o.dst undef) w:=by
 rcases s9 h with⟨h,_⟩|⟨_,u,r,heq⟩
 .exact Fh e b f h m n p g q
 cases heq;have j:fc c ρ { H with lk:=H.size } w:=g.less (aG _) g.A0 λi s hi _=>hi
 refine Fh e b f r m n p j fun ρ' d w' t v x=>q ρ' d w' t v ?_
 exact x.less (aG _) g.lk λi s hi _=>hi
end
end Go.Ev
