/- A range over strings.SplitSeq: the law for a loop's body that reads and writes cells of its own. -/
import Derived.Test.YtbeckacfibledaaGreatDoorGza
import Derived.Test.YtbeckacfibledaaGreatDoorLya
import Derived.Test.YtbeckacfibledaaGreatDoorLyc
import Derived.Lib.IndexLaws
import Derived.Test.YtbeckacfibledaaGreatDoorGzb
set_option linter.unusedVariables false
set_option linter.unusedSimpArgs false

namespace Go.Proofs.YtbeckacfibledaaGreatDoor.sl
open Go.RowKit Go.Shelf Go.Lib
structure Lo (m Bs:Nat)(W W':World):Prop where
 os:W'.os=W.os
 tape:W'.tape=W.tape
 output:W'.output=W.output
 size:W.heap.size<=W'.heap.size
 block:∀k,k<W.heap.size->k≠Bs->k≠m->k≠m+1->W'.heap[k]? = W.heap[k]?
theorem Lo.alloc {m Bs:Nat}(W:World)(o:Obj):Lo m Bs W (W.alloc o):=by
 have:=(Below.refl W.heap.size W).alloc (aG _) o;exact⟨this.os,this.tape,this.output,this.size,λk a _ _ _=>this.block k a⟩
theorem Lo.putObj {m Bs r:Nat}(W:World)(o:Obj)(h:r=m\/r=m+1):Lo m Bs W (W.putObj r o) :=
 ⟨rfl,rfl,rfl,by simp,λk a _ _ _=>World.putObj_heap_other (by omega)⟩
theorem dM (W:World)(b k:Nat)(v:Value)(h:k≠b):(W.setCell ⟨b,0,none⟩ v).heap[k]? = W.heap[k]? :=
 Below.heap_setCell _ _ _ k (λe=>h (by rw[e]))
theorem Lo.setCell {m Bs:Nat}(W:World)(v:Value):Lo m Bs W (W.setCell ⟨Bs,0,none⟩ v):=by
 have a:=(Below.refl 0 W).setCell (p:=⟨Bs,0,none⟩) (cJ _) v;exact⟨a.os,a.tape,a.output,a.size,λk _ b _ _=>dM W Bs k v b⟩
def Yg (m Bs Bp Bv:Nat)(I b:List ByteArray->World->Prop)(xs:List ByteArray)(W:World):Exit->Act->World->Prop
 |.normal,_,a=>(∀r,r=m\/r=m+1\/r=Bs\/r=Bp\/r=Bv->a.heap[r]? = W.heap[r]?)/\I xs a
 |.ret,_,a=>(∀r,r=m\/r=m+1\/r=Bs\/r=Bp\/r=Bv->a.heap[r]? = W.heap[r]?)/\b xs a
 |_,_,_=>False
theorem CY {g:Operand}{p:Tmp}{assign body:Code}{Q:Exit->Act->World->Prop}{a:Act}{w:World}{n:Nat}(h2:2<=n){m Bs Bp Bv:Nat}(hm:w.heap.size=m)
 (hg:a.eval g = .func (.func 118) #[] #[.pointer (some ⟨Bp,0,none⟩),.pointer (some ⟨Bs,0,none⟩),.pointer (some ⟨Bv,0,none⟩)])
 (hBs:Bs<m) (hBp:Bp<m) (hBv:Bv<m) (hne:Bp≠Bs) (hnv:Bv≠Bs) {s0:ByteArray} {xs:List ByteArray} (hx:nm.vJ 10 s0 xs) (hz:s0.size<=2000000)
 (hs:w.cell? ⟨Bs,0,none⟩=some (.string s0)) (hfr:w.frozen? ⟨Bs,0,none⟩=false) (hp:w.cell? ⟨Bp,0,none⟩=some (.string ⟨#[10]⟩)) (hv:w.cell? ⟨Bv,0,none⟩=some (.int .i64 0))
 (I Ix:List ByteArray->World->Prop) (hI:∀pre W W',Lo m Bs W W'->I pre W->I pre W') (hIx:∀pre W W',Lo m Bs W W'->Ix pre W->Ix pre W') (h0:I [] w) (a₁:ByteArray->Act)
 (hassign:∀(l:Nat) (x:ByteArray) (W:World) (K:Act->World->Prop),K (a₁ x) W ->
  assign.wpIn (Fence.wide.inRound l) (n-1-1) Tryz.prog (Exit.then K (λ_ _ _=>False)) { tmps:=((#[p]:Array Tmp).zip (#[.string x]:dW)).foldl (λt (p,v)=>t.setIfInBounds p v) a.tmps,defers:=[] } W)
 (hbody:∀(l:Nat) (pre:List ByteArray) (x:ByteArray) (W:World),m+2<=W.heap.size->I pre W->pre++[x] <+: xs->body.wpIn (Fence.wide.inRound l) (n-1-1) Tryz.prog (Yg m Bs Bp Bv I Ix (pre++[x]) W) (a₁ x) W)
 (hdone:∀(W:World),I xs W->W.heap[m]? = some (.deferred (some []))->Q .normal { a with defers:={ target:=.collected m,args := #[] }::a.defers } W)
 (hstop:∀(pre:List ByteArray) (W:World),pre <+: xs->Ix pre W->W.heap[m]? = some (.deferred (some []))->Code.ret.wpIn Fence.wide n Tryz.prog Q { a with defers:={ target:=.collected m,args := #[] }::a.defers } W) :
 (Code.rangeFunc g #[p] assign body).wpIn Fence.wide n Tryz.prog Q a w:=by
 subst hm;refine wpIn_rangeFunc ?_;intro fn hfn;obtain⟨rec,hrec⟩:∃rec:LoopState->Option Code->Loop,rec=λst pe=>{ state:=st,pending:=pe,fn,tmps:=a.tmps,params := #[p],assign,body,defers:=w.heap.size }:=⟨_,rfl⟩
 obtain⟨W1,D2⟩:∃W1,(w.alloc (.deferred (some []))).alloc (.loop (rec .ready none))=W1:=⟨_,rfl⟩;have hL1:W1.heap[w.heap.size+1]? = some (.loop (rec .ready none)):=by
  rw[<-D2];have:=World.alloc_heap_new (w.alloc (.deferred (some []))) (.loop (rec .ready none));rwa[World.size_alloc]at this
 have hK1:W1.heap[w.heap.size]? = some (.deferred (some [])):=by
  rw[<-D2];exact(Below.heap_alloc _ _ _ (by simp)).trans (World.alloc_heap_new w _)
 have hI1:I [] W1:=by
  rw[<-D2];exact hI _ _ _ (Lo.alloc _ _) (hI _ _ _ (Lo.alloc _ _) h0)
 have zq:Below w.heap.size w W1:=by rw[<-D2];exact((Below.refl _ w).alloc (aG _) _).alloc (by simp) _
 refine⟨w.heap.size+1,[{ target:=.collected w.heap.size,args := #[] }],W1,{ target:=.fn (.func 118) #[.pointer (some ⟨Bp,0,none⟩),.pointer (some ⟨Bs,0,none⟩),.pointer (some ⟨Bv,0,none⟩)],args := #[.func (.yield (w.heap.size+1)) #[] #[]] },W1,118,
  #[.func (.yield (w.heap.size+1)) #[] #[]] ++ #[.pointer (some ⟨Bp,0,none⟩),.pointer (some ⟨Bs,0,none⟩),.pointer (some ⟨Bv,0,none⟩)],W1,?_,?_,?_,?_,λ_=>by omega,?_⟩
 .rw[<-D2,hrec];exact run_enterLoop_outer _ _ _ _ _
 .simp only[resolve,hg];simp[go_sem]
 .intro f' _;trivial
 .simp[invoke,go_sem]
 refine(nm.NN 10 (n-1) (by omega) (w.heap.size+1) Bs Bp Bv s0 xs hx hz
  (λpre W=>I pre W/\W.heap[w.heap.size+1]? = some (.loop (rec .ready none))/\W.heap[w.heap.size]? = some (.deferred (some [])))
  (λpre W=>Ix pre W/\W.heap[w.heap.size+1]? = some (.loop (rec .done (some .ret)))/\W.heap[w.heap.size]? = some (.deferred (some [])))
  (λpre W v hJ=>⟨hI _ _ _ (Lo.setCell W v) hJ.1,(dM W Bs _ v (by omega)).trans hJ.2.1,(dM W Bs _ v (by omega)).trans hJ.2.2⟩) hne hnv ?_ W1
  ((nm.fF (zq.block _ hBs)).trans hs) ((nm.sD (zq.block _ hBs)).trans hfr) ((nm.fF (zq.block _ hBp)).trans hp) ((nm.fF (zq.block _ hBv)).trans hv) ⟨hI1,hL1,hK1⟩).mono ?_
 .rintro pre x W ⟨hi,hl,hk⟩ hpx;have hlt:w.heap.size+1<W.heap.size:=(aF.1 hl).1;have hy:=run_yield (P:=Tryz.prog) (args := #[.string x]) hl (by rw[hrec];rfl);rw[hrec]at hy;refine⟨fn,_,assign,body,hy,roundIn_of_wpIn hfn (hassign _ x W _ ⟨_,run_beginRound hl (by rw[hrec]),?_⟩)⟩;have Ck:(W.putObj (w.heap.size+1) (.loop { rec .ready none with state:=.busy })).heap[w.heap.size+1]? = some (.loop { rec .ready none with state:=.busy }):=World.putObj_heap_same hlt;have hk2:∀r,r≠w.heap.size+1->(W.putObj (w.heap.size+1) (.loop { rec .ready none with state:=.busy })).heap[r]? = W.heap[r]? := λr hr=>World.putObj_heap_other hr
  refine wpIn_mono (hbody _ pre x _ (by simp;omega) (hI _ _ _ (Lo.putObj W _ (by omega)) hi) hpx) ?_;have fin:∀(jump:Option Code) (W3:World),(∀r,r=w.heap.size\/r=w.heap.size+1\/r=Bs\/r=Bp\/r=Bv->W3.heap[r]? = (W.putObj (w.heap.size+1) (.loop { rec .ready none with state:=.busy })).heap[r]?) ->
   (Instr.endRound (w.heap.size+1) jump).run Tryz.prog W3 = .ok (.bool jump.isNone) (W3.putObj (w.heap.size+1) (.loop (rec (if jump.isNone then .ready else .done) jump))) /\
   (W3.putObj (w.heap.size+1) (.loop (rec (if jump.isNone then .ready else .done) jump))).heap[w.heap.size+1]? = some (.loop (rec (if jump.isNone then .ready else .done) jump)) /\
   (∀r,r=w.heap.size\/r=Bs\/r=Bp\/r=Bv->(W3.putObj (w.heap.size+1) (.loop (rec (if jump.isNone then .ready else .done) jump))).heap[r]? = W.heap[r]?):=λjump W3 AE=>by
   have hl3:=(AE _ (.inr (.inl rfl))).trans Ck;have:=run_endRound (P:=Tryz.prog) jump hl3;rw[hrec]at this ⊢;refine⟨this,World.putObj_heap_same (aF.1 hl3).1,λr hr=>?_⟩;have FP:r≠w.heap.size+1:=by omega
   rw[World.putObj_heap_other FP,AE r (by omega),hk2 r FP]
  rintro e a3 W3 Va;cases e with
  |normal =>
   obtain⟨AE,hi3⟩:=Va;obtain⟨hr,hl4,HL⟩:=fin none W3 AE;exact⟨_,_,hr,.inl ⟨rfl,⟨hI _ _ _ (Lo.putObj W3 _ (by omega)) hi3,hl4,(HL _ (.inl rfl)).trans hk⟩,HL _ (.inr (.inl rfl)),HL _ (.inr (.inr (.inl rfl))),HL _ (.inr (.inr (.inr rfl)))⟩⟩
  |ret =>
   obtain⟨AE,hi3⟩:=Va;obtain⟨hr,hl4,HL⟩:=fin (some .ret) W3 AE;exact⟨_,_,hr,.inr ⟨rfl,hIx _ _ _ (Lo.putObj W3 _ (by omega)) hi3,hl4,(HL _ (.inl rfl)).trans hk⟩⟩
  |exit id=>exact Va.elim
  |goto t=>exact Va.elim
  |panic ch=>exact Va.elim
  |outgrown=>exact Va.elim
 rintro e W2 ⟨⟨v,rfl⟩,(⟨hi,hl,hk⟩|⟨pre,hpre,hi,hl,hk⟩)⟩
 .exact ⟨none,_,by have:=run_endLoop (P:=Tryz.prog) hl (by rw[hrec];simp);rw[hrec]at this;exact this,hdone _ (hI _ _ _ (Lo.putObj W2 _ (by omega)) hi) ((World.putObj_heap_other (by omega)).trans hk)⟩
 exact⟨some .ret,_,by have:=run_endLoop (P:=Tryz.prog) hl (by rw[hrec];simp);rw[hrec]at this;exact this,hstop pre _ hpre (hIx _ _ _ (Lo.putObj W2 _ (by omega)) hi) ((World.putObj_heap_other (by omega)).trans hk)⟩
end Go.Proofs.YtbeckacfibledaaGreatDoor.sl
namespace Go.Proofs.YtbeckacfibledaaGreatDoor.sl
open Go.RowKit Go.Shelf Go.Lib
attribute [local go_sem] Oper.semAt_some
def dV:au->cA
 |[]=>[[]]
 |c::r=>if c=10 then []::dV r else match dV r with
  |p::ps=>(c::p)::ps
  |[]=>[[c]]
theorem qI:∀l,dV l≠[]
 |[]=>by simp[dV]
 |c::r=>by
  rw[dV];split
  .simp
  split<;>simp
theorem ud:∀l:au,(Lib.indexByte l 10 = -1/\dV l=[l])\/∃o:Nat,Lib.indexByte l 10=o/\o<l.length/\dV l=l.take o::dV (l.drop (o+1))
 |[]=>.inl ⟨rfl,rfl⟩
 |c::r=>by
  rw[Lib.indexByte,dV];by_cases a:c=10
  .subst a;exact .inr ⟨0,by simp,by simp,by simp⟩
  rw[aa (by simpa using a),aa a];rcases ud r with⟨b,d⟩|⟨o,b,d,e⟩
  .left
   rw[b,d];exact⟨rfl,rfl⟩
  right
  refine⟨o+1,?_,by simp;omega,?_⟩
  .rw[b,aa (by simp)];rfl
  rw[e];simp
abbrev xy (l:au):ByteArray:=⟨l.toArray⟩
theorem extract_mk (l:au)(a b:Nat):(xy l).extract a b=xy ((l.take b).drop a):=by
 apply ByteArray.ext;apply kN;simp[lM]
theorem yc:∀(n:Nat) (l:au),l.length<n->nm.vJ 10 (xy l) ((dV l).map xy)
 |0,l,h=>absurd h (ql _)
 |n+1,l,h=>by
  rcases ud l with⟨a,b⟩|⟨o,a,b,c⟩
  .rw[b];exact .last _ (by simpa using a)
  rw[c,dH];have d:xy (l.take o)=(xy l).extract 0 o:=by rw[extract_mk];simp
  have e2:xy (l.drop (o+1))=(xy l).extract (o+1) (xy l).size:=by rw[extract_mk];simp[ByteArray.size,cz]
  rw[d];refine .cut _ o _ (by simpa using a) (by simpa[ByteArray.size] using b) ?_;rw[<-e2];exact yc n _ (by rw[bB];omega)
noncomputable def kJ (a:cA)(b:au):au->cA
 |[]=>(b.reverse::a).reverse
 |c::r=>Ev.ah (Nat.beq c.toNat 10) (kJ (b.reverse::a) [] r) (kJ a (c::b) r)
theorem qJ:∀(l:au) (a:cA) (b:au),kJ a b l=a.reverse++(match dV l with|p::ps=>(b.reverse++p)::ps | []=>[])
 |[],a,b=>by simp[kJ,dV]
 |c::r,a,b=>by
  rw[kJ,Ev.ay,dV,qJ r,qJ r];have d:=qI r;by_cases e:c=10
  .subst e;rw[ag (by decide),ag rfl];cases f:dV r with
   |nil=>exact absurd f d
   |cons p ps=>simp
  rw[aa (by simp only[aQ];intro h;exact e (lp.1 h)),aa e];cases f:dV r with
  |nil=>exact absurd f d
  |cons p ps=>simp
theorem yd (l:au):kJ [] [] l=dV l:=by
 rw[qJ];cases a:dV l with
 |nil=>exact absurd a (qI l)
 |cons p ps=>simp
theorem wQ (s:ByteArray):nm.vJ 10 s ((kJ [] [] s.data.toList).map xy):=by
 have h:=yc (s.data.toList.length+1) s.data.toList (Nat.lt_succ_self _);rw[yd];have e:xy s.data.toList=s:=by obtain⟨d⟩:=s;simp
 rw[e]at h;exact h
theorem go_step (md:Region.Mode)(ops:Array Oper)(fuel t:Nat)(listed:iS)(acc:cY):Region.linearise.go md ops (fuel+1) t listed acc =
 match (Region.ready md ops listed)[t%(Region.ready md ops listed).length]? with
 |some i=>Region.linearise.go md ops fuel (t/(Region.ready md ops listed).length) (listed.setIfInBounds i true) (i::acc)
 |none=>acc.reverse:=rfl
theorem orders {ops:Array Oper}(hsz:ops.size=5)(r0:Region.ready .any ops #[false,false,false,false,false]=[0,1])(r1:Region.ready .any ops #[true,false,false,false,false]=[1])
 (r2:Region.ready .any ops #[false,true,false,false,false]=[0,2]) (r3:Region.ready .any ops #[true,true,false,false,false]=[2]) (r4:Region.ready .any ops #[false,true,true,false,false]=[0])
 (r5:Region.ready .any ops #[true,true,true,false,false]=[3]) (r6:Region.ready .any ops #[true,true,true,true,false]=[4]) (t:Nat) :
 Region.linearise .any ops t=[0,1,2,3,4]\/Region.linearise .any ops t=[1,0,2,3,4]\/Region.linearise .any ops t=[1,2,0,3,4]:=by
 have e:Region.linearise .any ops t=Region.linearise.go .any ops 5 t #[false,false,false,false,false] []:=by
  unfold Region.linearise;rw[hsz];rfl
 have two:∀t:Nat,t%2=0\/t%2=1:=λt=>by omega
 rw[e,go_step,r0];rcases two t with h|h
 .left
  simp only[aJ,bK,cj,Nat.reduceAdd,h];show Region.linearise.go .any ops 4 (t/2) #[true,false,false,false,false] [0]=_;rw[go_step,r1];simp only[aJ,bK,cj,iq];show Region.linearise.go .any ops 3 (t/2/1) #[true,true,false,false,false] [1,0]=_;rw[go_step,r3];simp only[aJ,bK,cj,iq];show Region.linearise.go .any ops 2 (t/2/1/1) #[true,true,true,false,false] [2,1,0]=_;rw[go_step,r5];simp only[aJ,bK,cj,iq]
  show Region.linearise.go .any ops 1 (t/2/1/1/1) #[true,true,true,true,false] [3,2,1,0]=_;rw[go_step,r6];simp only[aJ,bK,cj,iq];rfl
 right
 simp only[aJ,bK,cj,Nat.reduceAdd,h];show (Region.linearise.go .any ops 4 (t/2) #[false,true,false,false,false] [1]=_\/Region.linearise.go .any ops 4 (t/2) #[false,true,false,false,false] [1]=_);rw[go_step,r2];rcases two (t/2) with h2|h2
 .left
  simp only[aJ,bK,cj,Nat.reduceAdd,h2];show Region.linearise.go .any ops 3 (t/2/2) #[true,true,false,false,false] [0,1]=_;rw[go_step,r3];simp only[aJ,bK,cj,iq];show Region.linearise.go .any ops 2 (t/2/2/1) #[true,true,true,false,false] [2,0,1]=_;rw[go_step,r5];simp only[aJ,bK,cj,iq];show Region.linearise.go .any ops 1 (t/2/2/1/1) #[true,true,true,true,false] [3,2,0,1]=_;rw[go_step,r6]
  simp only[aJ,bK,cj,iq];rfl
 right
 simp only[aJ,bK,cj,Nat.reduceAdd,h2];show Region.linearise.go .any ops 3 (t/2/2) #[false,true,true,false,false] [2,1]=_;rw[go_step,r4];simp only[aJ,bK,cj,iq];show Region.linearise.go .any ops 2 (t/2/2/1) #[true,true,true,false,false] [0,2,1]=_;rw[go_step,r5];simp only[aJ,bK,cj,iq];show Region.linearise.go .any ops 1 (t/2/2/1/1) #[true,true,true,true,false] [3,0,2,1]=_;rw[go_step,r6]
 simp only[aJ,bK,cj,iq];rfl
theorem adb {F:Fence}{n:Nat}{P:Program}{id:Nat}{b c d f g:Oper}{Q:Exit->Act->World->Prop}{a:Act}{w:World}(i:P.follows .mixedOrders=true)
 (h:∀t,Region.linearise .any [b,c,d,f,g].toArray t=[0,1,2,3,4]\/Region.linearise .any [b,c,d,f,g].toArray t=[1,0,2,3,4]\/Region.linearise .any [b,c,d,f,g].toArray t=[1,2,0,3,4])
 (j:wpListIn F n P [b,c,d,f,g].toArray Q [b,c,d,f,g] a { w with drawn:=w.drawn+1 }) (k:wpListIn F n P [b,c,d,f,g].toArray Q [c,b,d,f,g] a { w with drawn:=w.drawn+1 })
 (l:wpListIn F n P [b,c,d,f,g].toArray Q [c,d,b,f,g] a { w with drawn:=w.drawn+1 }):(Code.region id [b,c,d,f,g].toArray true).wpIn F n P Q a w:=by
 refine wpIn_region_draw λt=>?_
 simp only[Region.schedule,i,Bool.true_or,gy];rcases h t with e|e|e<;>rw[e]
 .exact j
 .exact k
 exact l
end Go.Proofs.YtbeckacfibledaaGreatDoor.sl
namespace Go.Proofs.YtbeckacfibledaaGreatDoor.sl
open Go.RowKit Go.Shelf Go.Lib
attribute [local go_sem] Oper.semAt_some
theorem QN {s:ByteArray}{xs:List ByteArray}(h:nm.vJ 10 s xs):∀x∈xs,x.size<=s.size:=by
 induction h with
 |last s _=>intro x a;simp at a;rw[a];exact aG _
 |cut s i rest _ hi _ b =>
  intro x a;rcases bD.1 a with rfl|a
  .simp[lF];omega
  have:=b x a;simp[lF]at this;omega
theorem C4 {P:Program}{n n' l a:Nat}{f:FuncId}{tmps:dW}{assign body:Code}{w:World}{R:Ending->World->Prop}(h:RoundIn Fence.wide n P l f tmps assign body w R):RoundIn (Fence.wide.inRound a) n' P l f tmps assign body w R :=
 ⟨trivial,λc cs _=>h.2 c cs (room_wide _)⟩
structure F6 (B0 l:Nat)(O:Nat->Prop)(W:World):Prop where
 size:B0+4<=W.heap.size
 b0:¬O B0
 b1:¬O (B0+1)
 b2:¬O (B0+2)
 b3:¬O (B0+3)
 b4:¬O (B0+4)
 b5:¬O (B0+5)
 box:W.cell? ⟨B0,0,none⟩=some (.func (.yield l) #[] #[])
theorem F6.lo {a l:Nat}{O:Nat->Prop}{W b:World}(h:F6 a l O W)(c:Lo (a+4) (a+1) W b):F6 a l O b :=
 ⟨bA h.size c.size,h.b0,h.b1,h.b2,h.b3,h.b4,h.b5,(nm.fF (c.block a (by have:=h.size;omega) (by omega) (by omega) (by omega))).trans h.box⟩
theorem F6.beside {c l:Nat}{O:Nat->Prop}{W d:World}(h:F6 c l O W)(f:∀r,O r->r<W.heap.size)(a:Lo (c+4) (c+1) W d):Ev.Fu O W d :=
 ⟨a.os,a.tape,a.output,a.size,λr b=>a.block r (f r b) (λe=>h.b1 (e ▸ b)) (λe=>h.b4 (e ▸ b)) (λe=>h.b5 (e ▸ b))⟩
theorem K6 {O:Nat->Prop}{W a:World}(b:∀r,O r->r<W.heap.size)(h:Below W.heap.size W a):Ev.Fu O W a :=
 ⟨h.os,h.tape,h.output,h.size,λr c=>h.block r (b r c)⟩
set_option maxRecDepth 100000 in
set_option maxHeartbeats 4000000 in
theorem Yu (trim:ByteArray->ByteArray)(Yv:∀(s:ByteArray) (w:World),s.size<=2000000->Calls Tryz.prog 42 #[.string s,.string ⟨#[13]⟩] w λe w'=>e = .returned (.string (trim s))/\Below w.heap.size w w')
 (hm:Tryz.prog.follows .mixedOrders=true) (s:ByteArray) (hz:s.size<=2000000):Ev.Km Tryz.prog 40 s (((kJ [] [] s.data.toList).map xy).map λx=>.string (trim x)):=by
 refine⟨λargs w=>by simp[go_sem],λn l rs W O J Jx hn hc hf hno hJ hJx hO hOx hY h0=>?_⟩;have Mn:rs<W.heap.size:=World.block_lt_of_cell? _ _ hc;refine callsIn_wide (n:=n) |>.2 (callsIn_wide (n:=20) |>.1 ?_);refine callsIn_of_wp_marks Tryz.func40 rfl trivial ?_ rfl;simp only[Tryz.ntmps40,jI,aJ,bK,Nat.reduceAdd,Nat.reduceSub,mh,mj,oD,mV,cE,cB];have hc1:(W.alloc (.cells #[.func (.yield l) #[] #[]] 23)).cell? ⟨rs,0,none⟩=some (.string s):=(nm.fF (Below.heap_alloc _ _ _ Mn)).trans hc
 gi_wp2_with (refine⟨trivial,?_⟩;gi_at_call 41;refine(callsIn_wide.2 (nm.call69 _ _ _)).mono ?_;rintro e w' ⟨rfl,rfl⟩)
 obtain⟨B0,Vf⟩:∃B0,B0=W.heap.size:=⟨_,rfl⟩;obtain⟨W1,D2⟩:∃W1,W1=((((W.alloc (.cells #[.func (.yield l) #[] #[]] 23)).alloc (.cells #[.string s] 9)).alloc (.cells #[.string ⟨#[10]⟩] 9)).alloc (.cells #[.int .i64 0] 3)):=⟨_,rfl⟩;have hsz:W1.heap.size=B0+4:=by rw[D2,Vf];simp
 have cell:∀(X:World) (v:Value) (t:TypeId),(X.alloc (.cells #[v] t)).cell? ⟨X.heap.size,0,none⟩=some v:=λX v t=>by
  have h:=World.alloc_heap_new X (.cells #[v] t);unfold World.cell?;simp only[h];rfl
 have asH:∀(X:World) (v:Value) (t:TypeId),(X.alloc (.cells #[v] t)).frozen? ⟨X.heap.size,0,none⟩=false:=λX v t=>by
  have h:=World.alloc_heap_new X (.cells #[v] t);unfold World.frozen?;simp only[h];rfl
 have up:∀(X:World) (o:Obj) (b:Nat),b<X.heap.size->(X.alloc o).heap[b]? = X.heap[b]? := λX o b h=>Below.heap_alloc _ _ _ h
 have asI:W1.cell? ⟨B0,0,none⟩=some (.func (.yield l) #[] #[]):=by
  rw[D2,Vf];refine(nm.fF ?_).trans (cell W _ 23);rw[up _ _ _ (by simp<;>omega),up _ _ _ (by simp<;>omega),up _ _ _ (by simp)]
 have hs1:W1.cell? ⟨B0+1,0,none⟩=some (.string s):=by
  have:=cell (W.alloc (.cells #[.func (.yield l) #[] #[]] 23)) (.string s) 9;rw[World.size_alloc]at this;rw[D2,Vf];refine(nm.fF ?_).trans this;rw[up _ _ _ (by simp<;>omega),up _ _ _ (by simp)]
 have hf1:W1.frozen? ⟨B0+1,0,none⟩=false:=by
  have:=asH (W.alloc (.cells #[.func (.yield l) #[] #[]] 23)) (.string s) 9;rw[World.size_alloc]at this;rw[D2,Vf];refine(nm.sD ?_).trans this;rw[up _ _ _ (by simp<;>omega),up _ _ _ (by simp)]
 have hp1:W1.cell? ⟨B0+1+1,0,none⟩=some (.string ⟨#[10]⟩):=by
  have:=cell ((W.alloc (.cells #[.func (.yield l) #[] #[]] 23)).alloc (.cells #[.string s] 9)) (.string ⟨#[10]⟩) 9;rw[World.size_alloc,World.size_alloc]at this;rw[D2,Vf];refine(nm.fF ?_).trans this;rw[up _ _ _ (by simp)]
 have hv1:W1.cell? ⟨B0+1+2,0,none⟩=some (.int .i64 0):=by
  have:=cell (((W.alloc (.cells #[.func (.yield l) #[] #[]] 23)).alloc (.cells #[.string s] 9)).alloc (.cells #[.string ⟨#[10]⟩] 9)) (.int .i64 0) 3;rw[World.size_alloc,World.size_alloc,World.size_alloc]at this;rw[D2,Vf];exact this
 have ahj:Below W.heap.size W W1:=by
  rw[D2];exact((((Below.refl _ W).alloc (aG _) _).alloc (by simp) _).alloc (by simp<;>omega) _).alloc (by simp<;>omega) _
 have hJ1:J 0 O W1:=hJ _ _ _ _ h0 (K6 (hO _ _ _ h0) ahj);have hOB:∀k,B0<=k->¬O k:=λk hk ho=>by have:=hO _ _ _ h0 k ho;omega
 have hP1:F6 B0 l O W1:=⟨by omega,hOB _ (by omega),hOB _ (by omega),hOB _ (by omega),hOB _ (by omega),hOB _ (by omega),hOB _ (by omega),asI⟩;rw[<-D2,<-Vf];have hfin:∀(K:Nat),K=(((kJ [] [] s.data.toList).map xy).map λx=>Value.string (trim x)).length->K=((kJ [] [] s.data.toList).map xy).length:=λK h=>by rw[h];simp
 refine CY (m:=B0+4) (Bs:=B0+1) (Bp:=B0+1+1) (Bv:=B0+1+2) (by omega) hsz rfl (by omega) (by omega) (by omega) (by omega) (by omega) (wQ s) hz hs1 hf1 hp1 hv1
  (λpre X=>∃O,J pre.length O X/\F6 B0 l O X) (λpre X=>∃O,Jx O X/\F6 B0 l O X)
  (λpre X X' hl=>λ⟨O,h1,h2⟩=>⟨O,hJ _ _ _ _ h1 (h2.beside (hO _ _ _ h1) hl),h2.lo hl⟩)
  (λpre X X' hl=>λ⟨O,h1,h2⟩=>⟨O,hJx _ _ _ h1 (h2.beside (hOx _ _ h1) hl),h2.lo hl⟩)
  ⟨O,hJ1,hP1⟩
  (λx=>{ tmps := #[.func (.yield l) #[] #[],.pointer (some ⟨rs,0,none⟩),.pointer (some ⟨B0,0,none⟩),.string x,.string s,
   .func (.func 118) #[] #[.pointer (some ⟨B0+1+1,0,none⟩),.pointer (some ⟨B0+1,0,none⟩),.pointer (some ⟨B0+1+2,0,none⟩)],.string x,undef,undef,undef,undef,undef],defers:=[] }) ?assign ?body ?done ?stop
 case assign =>
  intro l2 x X K hK;have e:((#[6]:Array Tmp).zip (#[.string x]:dW)).foldl (λt (p,v)=>t.setIfInBounds p v) (#[.func (.yield l) #[] #[],.pointer (some ⟨rs,0,none⟩),.pointer (some ⟨B0,0,none⟩),undef,.string s,
   .func (.func 118) #[] #[.pointer (some ⟨B0+1+1,0,none⟩),.pointer (some ⟨B0+1,0,none⟩),.pointer (some ⟨B0+1+2,0,none⟩)],undef,undef,undef,undef,undef,undef]:dW) =
   #[.func (.yield l) #[] #[],.pointer (some ⟨rs,0,none⟩),.pointer (some ⟨B0,0,none⟩),undef,.string s,
   .func (.func 118) #[] #[.pointer (some ⟨B0+1+1,0,none⟩),.pointer (some ⟨B0+1,0,none⟩),.pointer (some ⟨B0+1+2,0,none⟩)],.string x,undef,undef,undef,undef,undef]:=by simp
  dsimp only
  rw[e]
  gi_wp2
  exact hK
 case body =>
  rintro l2 pre x X hXs ⟨O2,hJ2,QO⟩ hpx
  gi_wp2
  have hxz:x.size<=2000000:=by
   obtain⟨tl,htl⟩:=hpx;exact bA (QN (wQ s) x (by rw[<-htl];simp)) hz
  have aoa:((((kJ [] [] s.data.toList).map xy).map λx=>Value.string (trim x)))[pre.length]? = some (.string (trim x)):=by
   obtain⟨tl,htl⟩:=hpx;rw[dg,<-htl];simp
  have rest:∀(Wd W2:World),Wd.heap=X.heap->Wd.os=X.os->Wd.tape=X.tape->Wd.output=X.output->Below Wd.heap.size Wd W2->J pre.length O2 W2/\F6 B0 l O2 W2/\X.heap.size<=W2.heap.size/\(∀r,r<X.heap.size->W2.heap[r]? = X.heap[r]?):=by
   intro Wd W2 e1 e2 e3 e4 hb;have hk:∀r,r<X.heap.size->W2.heap[r]? = X.heap[r]? := λr hr=>(hb.block r (by rw[e1];exact hr)).trans (by rw[e1])
   have hs:X.heap.size<=W2.heap.size:=by have:=hb.size;rw[e1]at this;exact this
   exact⟨hJ _ _ _ _ hJ2 ⟨hb.os.trans e2,hb.tape.trans e3,hb.output.trans e4,hs,λr hr=>hk r (hO _ _ _ hJ2 r hr)⟩,
    ⟨bA QO.size hs,QO.b0,QO.b1,QO.b2,QO.b3,QO.b4,QO.b5,(nm.fF (hk B0 (by omega))).trans QO.box⟩,hs,hk⟩
  have fin:∀(W2 W3:World) (O3:Nat->Prop),F6 B0 l O2 W2->X.heap.size<=W2.heap.size->(∀r,r<X.heap.size->W2.heap[r]? = X.heap[r]?)->W2.heap.size<=W3.heap.size->(∀r,O3 r->O2 r\/W2.heap.size<=r)->(∀r,r<W2.heap.size->¬O2 r->W3.heap[r]? = W2.heap[r]?) ->
   F6 B0 l O3 W3/\∀r,r=B0+4\/r=B0+4+1\/r=B0+1\/r=B0+1+1\/r=B0+1+2->W3.heap[r]? = X.heap[r]? := by
   intro W2 W3 O3 hP hs hk hs3 hO3 AE;have no:∀r,r<W2.heap.size->¬O2 r->¬O3 r:=λr hr hn h=>by
    rcases hO3 r h with h|h
    .exact hn h
    omega
   refine⟨⟨by omega,no _ (by omega) hP.b0,no _ (by omega) hP.b1,no _ (by omega) hP.b2,no _ (by omega) hP.b3,no _ (by omega) hP.b4,no _ (by omega) hP.b5,(nm.fF (AE B0 (by omega) hP.b0)).trans hP.box⟩,λr hr=>?_⟩;have hn:¬O2 r:=by
    rcases hr with rfl|rfl|rfl|rfl|rfl
    .exact hP.b4
    .exact hP.b5
    .exact hP.b1
    .exact hP.b2
    exact hP.b3
   exact(AE r (by omega) hn).trans (hk r (by omega))
  have hY':∀W2,J pre.length O2 W2->YieldAt Fence.wide n Tryz.prog l #[.string (trim x)] W2 _:=λW2 h=>hY _ _ W2 _ h aoa
  refine adb hm (orders (by rfl) (by kernel_rfl) (by kernel_rfl) (by kernel_rfl) (by kernel_rfl) (by kernel_rfl) (by kernel_rfl) (by kernel_rfl)) ?_ ?_ ?_
  .generalize S8:({ X with drawn:=X.drawn+1 }:World)=Wd;have e1:Wd.heap=X.heap:=by rw[<-S8]
   have e2:Wd.os=X.os:=by rw[<-S8]
   have e3:Wd.tape=X.tape:=by rw[<-S8]
   have e4:Wd.output=X.output:=by rw[<-S8]
   have F7:Wd.cell? ⟨B0,0,none⟩=some (.func (.yield l) #[] #[]):=(nm.fF (by rw[e1])).trans QO.box;have ht:CallsIn (Fence.wide.inRound l2) 17 Tryz.prog 42 #[.string x,.string ⟨#[13]⟩] Wd _:=callsIn_wide (n:=17) |>.2 (Yv x Wd hxz);refine wpListIn_plain rfl λK hK=>?_
   simp[go_sem,F7];refine hK _ _ ?_;refine wpListIn_plain rfl λK hK=>?_
   simp[go_sem,F7];refine hK _ _ ?_;refine wpListIn_plain rfl λK hK=>?_
   simp[go_sem];refine⟨trivial,ht.mono ?_⟩;rintro e W2 ⟨rfl,hb⟩;obtain⟨hJ4,Yw,hs4,HL⟩:=rest Wd W2 e1 e2 e3 e4 hb;have Yx:=Yw.box;obtain⟨fn,tm,asg,bd,hy,hR⟩:=hY' W2 hJ4;refine hK _ _ ?_;refine wpListIn_plain rfl λK hK=>?_
   simp[go_sem,hy];refine(C4 hR).mono ?_;rintro e W3 ⟨O3,hs3,hO3,AE,⟨rfl,QI⟩|⟨rfl,QI⟩⟩
   .refine hK _ _ ?_;obtain⟨Yy,Yz⟩:=fin W2 W3 O3 Yw hs4 HL hs3 hO3 AE;refine wpListIn_plain rfl λK hK=>?_
    simp[go_sem];refine hK _ _ ?_
    gi_wp2
    refine⟨Yz,O3,?_,Yy⟩;rw[aA];exact QI
   refine hK _ _ ?_;obtain⟨Yy,Yz⟩:=fin W2 W3 O3 Yw hs4 HL hs3 hO3 AE;refine wpListIn_plain rfl λK hK=>?_
   simp[go_sem];refine hK _ _ ?_
   gi_wp2
   exact⟨Yz,O3,QI,Yy⟩
  .generalize S8:({ X with drawn:=X.drawn+1 }:World)=Wd;have e1:Wd.heap=X.heap:=by rw[<-S8]
   have e2:Wd.os=X.os:=by rw[<-S8]
   have e3:Wd.tape=X.tape:=by rw[<-S8]
   have e4:Wd.output=X.output:=by rw[<-S8]
   have F7:Wd.cell? ⟨B0,0,none⟩=some (.func (.yield l) #[] #[]):=(nm.fF (by rw[e1])).trans QO.box;have ht:CallsIn (Fence.wide.inRound l2) 17 Tryz.prog 42 #[.string x,.string ⟨#[13]⟩] Wd _:=callsIn_wide (n:=17) |>.2 (Yv x Wd hxz);refine wpListIn_plain rfl λK hK=>?_
   simp[go_sem,F7];refine hK _ _ ?_;refine wpListIn_plain rfl λK hK=>?_
   simp[go_sem,F7];refine hK _ _ ?_;refine wpListIn_plain rfl λK hK=>?_
   simp[go_sem];refine⟨trivial,ht.mono ?_⟩;rintro e W2 ⟨rfl,hb⟩;obtain⟨hJ4,Yw,hs4,HL⟩:=rest Wd W2 e1 e2 e3 e4 hb;have Yx:=Yw.box;obtain⟨fn,tm,asg,bd,hy,hR⟩:=hY' W2 hJ4;refine hK _ _ ?_;refine wpListIn_plain rfl λK hK=>?_
   simp[go_sem,hy];refine(C4 hR).mono ?_;rintro e W3 ⟨O3,hs3,hO3,AE,⟨rfl,QI⟩|⟨rfl,QI⟩⟩
   .refine hK _ _ ?_;obtain⟨Yy,Yz⟩:=fin W2 W3 O3 Yw hs4 HL hs3 hO3 AE;refine wpListIn_plain rfl λK hK=>?_
    simp[go_sem];refine hK _ _ ?_
    gi_wp2
    refine⟨Yz,O3,?_,Yy⟩;rw[aA];exact QI
   refine hK _ _ ?_;obtain⟨Yy,Yz⟩:=fin W2 W3 O3 Yw hs4 HL hs3 hO3 AE;refine wpListIn_plain rfl λK hK=>?_
   simp[go_sem];refine hK _ _ ?_
   gi_wp2
   exact⟨Yz,O3,QI,Yy⟩
  generalize S8:({ X with drawn:=X.drawn+1 }:World)=Wd;have e1:Wd.heap=X.heap:=by rw[<-S8]
  have e2:Wd.os=X.os:=by rw[<-S8]
  have e3:Wd.tape=X.tape:=by rw[<-S8]
  have e4:Wd.output=X.output:=by rw[<-S8]
  have F7:Wd.cell? ⟨B0,0,none⟩=some (.func (.yield l) #[] #[]):=(nm.fF (by rw[e1])).trans QO.box;have ht:CallsIn (Fence.wide.inRound l2) 17 Tryz.prog 42 #[.string x,.string ⟨#[13]⟩] Wd _:=callsIn_wide (n:=17) |>.2 (Yv x Wd hxz);refine wpListIn_plain rfl λK hK=>?_
  simp[go_sem,F7];refine hK _ _ ?_;refine wpListIn_plain rfl λK hK=>?_
  simp[go_sem];refine⟨trivial,ht.mono ?_⟩;rintro e W2 ⟨rfl,hb⟩;obtain⟨hJ4,Yw,hs4,HL⟩:=rest Wd W2 e1 e2 e3 e4 hb;have Yx:=Yw.box;obtain⟨fn,tm,asg,bd,hy,hR⟩:=hY' W2 hJ4;refine hK _ _ ?_;refine wpListIn_plain rfl λK hK=>?_
  simp[go_sem,Yx];refine hK _ _ ?_;refine wpListIn_plain rfl λK hK=>?_
  simp[go_sem,hy];refine(C4 hR).mono ?_;rintro e W3 ⟨O3,hs3,hO3,AE,⟨rfl,QI⟩|⟨rfl,QI⟩⟩
  .refine hK _ _ ?_;obtain⟨Yy,Yz⟩:=fin W2 W3 O3 Yw hs4 HL hs3 hO3 AE;refine wpListIn_plain rfl λK hK=>?_
   simp[go_sem];refine hK _ _ ?_
   gi_wp2
   refine⟨Yz,O3,?_,Yy⟩;rw[aA];exact QI
  refine hK _ _ ?_;obtain⟨Yy,Yz⟩:=fin W2 W3 O3 Yw hs4 HL hs3 hO3 AE;refine wpListIn_plain rfl λK hK=>?_
  simp[go_sem];refine hK _ _ ?_
  gi_wp2
  exact⟨Yz,O3,QI,Yy⟩
 case done =>
  rintro X ⟨O2,hJ2,QO⟩ hK;refine⟨by simp,.inl ⟨_,_,rfl,run_takeDeferred hK,?_⟩⟩;refine⟨_,results_none rfl _ _ _,⟨_,rfl⟩,O2,.inl ?_⟩;have:=hJ _ _ _ _ hJ2 (QO.beside (hO _ _ _ hJ2) (Lo.putObj X (.deferred none) (.inl rfl)));rw[cO];exact this
 case stop =>
  rintro pre X hpre ⟨O2,hJ2,QO⟩ hK
  gi_wp2
  refine⟨by simp,.inl ⟨_,_,rfl,run_takeDeferred hK,?_⟩⟩;exact⟨_,results_none rfl _ _ _,⟨_,rfl⟩,O2,.inr (hJx _ _ _ hJ2 (QO.beside (hOx _ _ hJ2) (Lo.putObj X (.deferred none) (.inl rfl))))⟩
end Go.Proofs.YtbeckacfibledaaGreatDoor.sl
namespace Go.Proofs.YtbeckacfibledaaGreatDoor.sl
open Go.Tv Go.Ev Go.Proofs.YtbeckacfibledaaGreatDoor.nm
noncomputable section
def gh (s:au):au:=ah (!bN (s.length:Int) 1) (ah (decide (dZ s ((s.length:Int)-1) s.length=[13])) (dZ s 0 ((s.length:Int)-1)) s) s
theorem Vg (s:au):aT X1 (e0 AV) nm.gC 200 42 [.str s,.str [13]] aH.empty (λv _=>some v) =
 ah (!bN (s.length:Int) 1) (ah (!bN (IntKind.wrap .i64 ((s.length:Int)-1)) 0 && !bN (Int.ofNat s.length) (IntKind.wrap .i64 ((s.length:Int)-1)))
  (ah (decide (dZ s (IntKind.wrap .i64 ((s.length:Int)-1)) s.length=[13])) (ah (!bN (IntKind.wrap .i64 ((s.length:Int)-1)) 0 && !bN (Int.ofNat s.length) (IntKind.wrap .i64 ((s.length:Int)-1)))
   (some (.str (dZ s 0 (IntKind.wrap .i64 ((s.length:Int)-1))))) none) (some (.str s))) none) (some (.str s)):=by kernel_rfl
theorem YA (s:au)(h:s.length<=2000000):aT X1 (e0 AV) nm.gC 200 42 [.str s,.str [13]] aH.empty (λv _=>some v)=some (.str (gh s)):=by
 rw[Vg,gh];by_cases b:s.length=0
 .rw[rC (by omega)];rfl
 rw[gB (a:=(s.length:Int)) (by omega),i64_in (n:=(s.length:Int)-1) (by omega) (by omega),gB (a:=(s.length:Int)-1) (by omega),gB (a:=Int.ofNat s.length) (by simp only[eR];omega)];show ah _ _ _=some (AV.str (ah _ _ _));cases decide (dZ s ((s.length:Int)-1) s.length=[13])<;>rfl
theorem QS (s:ByteArray)(h:s.size<=2000000)(w:World):Calls Tryz.prog 42 #[.string s,.string ⟨#[13]⟩] w λe w'=>e = .returned (.string ⟨(gh s.data.toList).toArray⟩)/\RowKit.Below w.heap.size w w' :=
 KX (X:=X1) j6 mixed wF (v:=.str (gh s.data.toList)) (λS x a=>a.kH) rfl
  (λS E b c d f=>BN (nm.nk 42) Yi (YA s.data.toList (by rw[mU];exact h)) S E b c d f) (cJ _) (Yj w) (args':=[.string s,.string ⟨#[13]⟩]) (LV.cons (nm.AF w s) (LV.cons (nm.AF w ⟨#[13]⟩) LV.nil)) rfl
end
end Go.Proofs.YtbeckacfibledaaGreatDoor.sl
namespace Go.Proofs.YtbeckacfibledaaGreatDoor.rg
open Go.Tv Go.Ev
noncomputable section
def yg (s:ByteArray):aW:=(sl.kJ [] [] s.data.toList).map λx=>.string ⟨(sl.gh x).toArray⟩
def kS (f:FuncId)(args:aW):fS :=
 ah (Nat.beq f (sL 40)) (match args with
  |[.pointer (some ⟨_,_,some _⟩),.string s]=>ah (Nat.ble (nm.xl s.data.toList 0) 2000000) (some (.tuple (yg s).toArray)) none
  |_=>none) (kR f args)
theorem Vh (s:ByteArray):yg s=((sl.kJ [] [] s.data.toList).map sl.xy).map λx=>Value.string ⟨(sl.gh x.data.toList).toArray⟩:=by
 unfold yg;rw[nC];rfl
theorem aoc {GR:List kV}{b1:kV}(g:GR[8]? = some b1)(i:b1.live=true)(j:b1.cells=space):lR Tryz.prog GR kS:=by
 have c:=an8 g i j;refine⟨λf args v h a w k=>?_,λf u h=>?_,λf s items h d=>?_⟩
 .unfold kS at h;rw[ay]at h;split at h
  .split at h
   .cases a
   cases h
  exact c.calls f args v h a w k
 .unfold kS at h;rw[ay]at h;split at h
  .cases h
  exact c.Xi f u h
 unfold kS at h;rw[ay]at h;split at h
 .rename_i b;have b:=bt b;have b:f=40:=by
   exact Nat.add_left_cancel (n:=4294967296) b
  subst b;simp only[jk]at h;rw[ay]at h;split at h
  .rename_i l;cases h;have e:(yg s).toArray.toList=yg s:=rfl;rw[e,Vh];exact sl.Yu (λx=>⟨(sl.gh x.data.toList).toArray⟩) (λx w m=>sl.QS x m w) nm.mixed s (nm.S7 s l)
  cases h
 exact c.Xj f s items h d
end
end Go.Proofs.YtbeckacfibledaaGreatDoor.rg
