/- A range over strings.SplitSeq: the law for a loop's body that reads and writes cells of its own. source.lines: what it hands on. source.lines: the law of its iterator. strings.TrimSuffix with a carriage return. What is known of names, registers and the lines of a source, for the evaluator. -/
import Derived.Test.YtbeckacfibledaaGreatDoorGza
import Derived.Test.YtbeckacfibledaaGreatDoorLya
import Derived.Test.YtbeckacfibledaaGreatDoorLyc
import Derived.Lib.IndexLaws
import Derived.Test.YtbeckacfibledaaGreatDoorGzb
set_option linter.unusedVariables false
set_option linter.unusedSimpArgs false

namespace Go.Proofs.YtbeckacfibledaaGreatDoor.sl
open Go.RowKit Go.Shelf Go.Lib
structure Lo (m Bs:Nat)(W W':World):Prop where
 os:W'.os=W.os
 tape:W'.tape=W.tape
 output:W'.output=W.output
 size:W.heap.size<=W'.heap.size
 block:∀k,k<W.heap.size->k≠Bs->k≠m->k≠m+1->W'.heap[k]? = W.heap[k]?
theorem Lo.alloc {m Bs:Nat}(W:World)(o:Obj):Lo m Bs W (W.alloc o):=by
 have:=(Below.refl W.heap.size W).alloc (aC _) o;exact⟨this.os,this.tape,this.output,this.size,λk hk _ _ _=>this.block k hk⟩
theorem Lo.putObj {m Bs r:Nat}(W:World)(o:Obj)(h:r=m\/r=m+1):Lo m Bs W (W.putObj r o) :=
 ⟨rfl,rfl,rfl,by simp,λk hk _ _ _=>World.putObj_heap_other (by omega)⟩
theorem cT (W:World)(b k:Nat)(v:Value)(h:k≠b):(W.setCell ⟨b,0,none⟩ v).heap[k]? = W.heap[k]? :=
 Below.heap_setCell _ _ _ k (λe=>h (by rw[e]))
theorem Lo.setCell {m Bs:Nat}(W:World)(v:Value):Lo m Bs W (W.setCell ⟨Bs,0,none⟩ v):=by
 have hb:=(Below.refl 0 W).setCell (p:=⟨Bs,0,none⟩) (ct _) v;exact⟨hb.os,hb.tape,hb.output,hb.size,λk _ hk _ _=>cT W Bs k v hk⟩
def V3 (m Bs Bp Bv:Nat)(I Ix:List ByteArray->World->Prop)(xs:List ByteArray)(W:World):Exit->Act->World->Prop
 |.normal,_,W'=>(∀r,r=m\/r=m+1\/r=Bs\/r=Bp\/r=Bv->W'.heap[r]? = W.heap[r]?)/\I xs W'
 |.ret,_,W'=>(∀r,r=m\/r=m+1\/r=Bs\/r=Bp\/r=Bv->W'.heap[r]? = W.heap[r]?)/\Ix xs W'
 |_,_,_=>False
theorem BQ {g:Operand}{p:Tmp}{assign body:Code}{Q:Exit->Act->World->Prop}{a:Act}{w:World}{n:Nat}(h2:2<=n){m Bs Bp Bv:Nat}(hm:w.heap.size=m)
 (hg:a.eval g = .func (.func 118) #[] #[.pointer (some ⟨Bp,0,none⟩),.pointer (some ⟨Bs,0,none⟩),.pointer (some ⟨Bv,0,none⟩)])
 (hBs:Bs<m) (hBp:Bp<m) (hBv:Bv<m) (hne:Bp≠Bs) (hnv:Bv≠Bs) {s0:ByteArray} {xs:List ByteArray} (hx:nm.uy 10 s0 xs) (hz:s0.size<=2000000)
 (hs:w.cell? ⟨Bs,0,none⟩=some (.string s0)) (hfr:w.frozen? ⟨Bs,0,none⟩=false) (hp:w.cell? ⟨Bp,0,none⟩=some (.string ⟨#[10]⟩)) (hv:w.cell? ⟨Bv,0,none⟩=some (.int .i64 0))
 (I Ix:List ByteArray->World->Prop) (hI:∀pre W W',Lo m Bs W W'->I pre W->I pre W') (hIx:∀pre W W',Lo m Bs W W'->Ix pre W->Ix pre W') (h0:I [] w) (a₁:ByteArray->Act)
 (hassign:∀(l:Nat) (x:ByteArray) (W:World) (K:Act->World->Prop),K (a₁ x) W ->
  assign.wpIn (Fence.wide.inRound l) (n-1-1) Tryz.prog (Exit.then K (λ_ _ _=>False)) { tmps:=((#[p]:Array Tmp).zip (#[.string x]:Array Value)).foldl (λt (p,v)=>t.setIfInBounds p v) a.tmps,defers:=[] } W)
 (hbody:∀(l:Nat) (pre:List ByteArray) (x:ByteArray) (W:World),m+2<=W.heap.size->I pre W->pre++[x] <+: xs->body.wpIn (Fence.wide.inRound l) (n-1-1) Tryz.prog (V3 m Bs Bp Bv I Ix (pre++[x]) W) (a₁ x) W)
 (hdone:∀(W:World),I xs W->W.heap[m]? = some (.deferred (some []))->Q .normal { a with defers:={ target:=.collected m,args := #[] }::a.defers } W)
 (hstop:∀(pre:List ByteArray) (W:World),pre <+: xs->Ix pre W->W.heap[m]? = some (.deferred (some []))->Code.ret.wpIn Fence.wide n Tryz.prog Q { a with defers:={ target:=.collected m,args := #[] }::a.defers } W) :
 (Code.rangeFunc g #[p] assign body).wpIn Fence.wide n Tryz.prog Q a w:=by
 subst hm;refine wpIn_rangeFunc ?_;intro fn hfn;obtain⟨rec,hrec⟩:∃rec:LoopState->Option Code->Loop,rec=λst pe=>{ state:=st,pending:=pe,fn,tmps:=a.tmps,params := #[p],assign,body,defers:=w.heap.size }:=⟨_,rfl⟩
 obtain⟨W1,CX⟩:∃W1,(w.alloc (.deferred (some []))).alloc (.loop (rec .ready none))=W1:=⟨_,rfl⟩;have hL1:W1.heap[w.heap.size+1]? = some (.loop (rec .ready none)):=by
  rw[<-CX];have:=World.alloc_heap_new (w.alloc (.deferred (some []))) (.loop (rec .ready none));rwa[World.size_alloc]at this
 have hK1:W1.heap[w.heap.size]? = some (.deferred (some [])):=by
  rw[<-CX];exact(Below.heap_alloc _ _ _ (by simp)).trans (World.alloc_heap_new w _)
 have hI1:I [] W1:=by
  rw[<-CX];exact hI _ _ _ (Lo.alloc _ _) (hI _ _ _ (Lo.alloc _ _) h0)
 have yo:Below w.heap.size w W1:=by rw[<-CX];exact((Below.refl _ w).alloc (aC _) _).alloc (by simp) _
 refine⟨w.heap.size+1,[{ target:=.collected w.heap.size,args := #[] }],W1,{ target:=.fn (.func 118) #[.pointer (some ⟨Bp,0,none⟩),.pointer (some ⟨Bs,0,none⟩),.pointer (some ⟨Bv,0,none⟩)],args := #[.func (.yield (w.heap.size+1)) #[] #[]] },W1,118,
  #[.func (.yield (w.heap.size+1)) #[] #[]] ++ #[.pointer (some ⟨Bp,0,none⟩),.pointer (some ⟨Bs,0,none⟩),.pointer (some ⟨Bv,0,none⟩)],W1,?_,?_,?_,?_,λ_=>by omega,?_⟩
 .rw[<-CX,hrec];exact run_enterLoop_outer _ _ _ _ _
 .simp only[resolve,hg];simp[go_sem]
 .intro f' _;trivial
 .simp[invoke,go_sem]
 refine(nm.LW 10 (n-1) (by omega) (w.heap.size+1) Bs Bp Bv s0 xs hx hz
  (λpre W=>I pre W/\W.heap[w.heap.size+1]? = some (.loop (rec .ready none))/\W.heap[w.heap.size]? = some (.deferred (some [])))
  (λpre W=>Ix pre W/\W.heap[w.heap.size+1]? = some (.loop (rec .done (some .ret)))/\W.heap[w.heap.size]? = some (.deferred (some [])))
  (λpre W v hJ=>⟨hI _ _ _ (Lo.setCell W v) hJ.1,(cT W Bs _ v (by omega)).trans hJ.2.1,(cT W Bs _ v (by omega)).trans hJ.2.2⟩) hne hnv ?_ W1
  ((nm.eG (yo.block _ hBs)).trans hs) ((nm.qQ (yo.block _ hBs)).trans hfr) ((nm.eG (yo.block _ hBp)).trans hp) ((nm.eG (yo.block _ hBv)).trans hv) ⟨hI1,hL1,hK1⟩).mono ?_
 .rintro pre x W ⟨hi,hl,hk⟩ hpx;have hlt:w.heap.size+1<W.heap.size:=(aB.1 hl).1;have hy:=run_yield (P:=Tryz.prog) (args := #[.string x]) hl (by rw[hrec];rfl);rw[hrec]at hy;refine⟨fn,_,assign,body,hy,roundIn_of_wpIn hfn (hassign _ x W _ ⟨_,run_beginRound hl (by rw[hrec]),?_⟩)⟩;have A6:(W.putObj (w.heap.size+1) (.loop { rec .ready none with state:=.busy })).heap[w.heap.size+1]? = some (.loop { rec .ready none with state:=.busy }):=World.putObj_heap_same hlt;have hk2:∀r,r≠w.heap.size+1->(W.putObj (w.heap.size+1) (.loop { rec .ready none with state:=.busy })).heap[r]? = W.heap[r]? := λr hr=>World.putObj_heap_other hr
  refine wpIn_mono (hbody _ pre x _ (by simp;omega) (hI _ _ _ (Lo.putObj W _ (by omega)) hi) hpx) ?_;have fin:∀(jump:Option Code) (W3:World),(∀r,r=w.heap.size\/r=w.heap.size+1\/r=Bs\/r=Bp\/r=Bv->W3.heap[r]? = (W.putObj (w.heap.size+1) (.loop { rec .ready none with state:=.busy })).heap[r]?) ->
   (Instr.endRound (w.heap.size+1) jump).run Tryz.prog W3 = .ok (.bool jump.isNone) (W3.putObj (w.heap.size+1) (.loop (rec (if jump.isNone then .ready else .done) jump))) /\
   (W3.putObj (w.heap.size+1) (.loop (rec (if jump.isNone then .ready else .done) jump))).heap[w.heap.size+1]? = some (.loop (rec (if jump.isNone then .ready else .done) jump)) /\
   (∀r,r=w.heap.size\/r=Bs\/r=Bp\/r=Bv->(W3.putObj (w.heap.size+1) (.loop (rec (if jump.isNone then .ready else .done) jump))).heap[r]? = W.heap[r]?):=λjump W3 zn=>by
   have hl3:=(zn _ (.inr (.inl rfl))).trans A6;have:=run_endRound (P:=Tryz.prog) jump hl3;rw[hrec]at this ⊢;refine⟨this,World.putObj_heap_same (aB.1 hl3).1,λr hr=>?_⟩;have Ez:r≠w.heap.size+1:=by omega
   rw[World.putObj_heap_other Ez,zn r (by omega),hk2 r Ez]
  rintro e a3 W3 SW;cases e with
  |normal =>
   obtain⟨zn,hi3⟩:=SW;obtain⟨hr,hl4,F3⟩:=fin none W3 zn;exact⟨_,_,hr,.inl ⟨rfl,⟨hI _ _ _ (Lo.putObj W3 _ (by omega)) hi3,hl4,(F3 _ (.inl rfl)).trans hk⟩,F3 _ (.inr (.inl rfl)),F3 _ (.inr (.inr (.inl rfl))),F3 _ (.inr (.inr (.inr rfl)))⟩⟩
  |ret =>
   obtain⟨zn,hi3⟩:=SW;obtain⟨hr,hl4,F3⟩:=fin (some .ret) W3 zn;exact⟨_,_,hr,.inr ⟨rfl,hIx _ _ _ (Lo.putObj W3 _ (by omega)) hi3,hl4,(F3 _ (.inl rfl)).trans hk⟩⟩
  |exit id=>exact SW.elim
  |goto t=>exact SW.elim
  |panic ch=>exact SW.elim
  |outgrown=>exact SW.elim
 rintro e W2 ⟨⟨v,rfl⟩,(⟨hi,hl,hk⟩|⟨pre,hpre,hi,hl,hk⟩)⟩
 .exact ⟨none,_,by have:=run_endLoop (P:=Tryz.prog) hl (by rw[hrec];simp);rw[hrec]at this;exact this,hdone _ (hI _ _ _ (Lo.putObj W2 _ (by omega)) hi) ((World.putObj_heap_other (by omega)).trans hk)⟩
 exact⟨some .ret,_,by have:=run_endLoop (P:=Tryz.prog) hl (by rw[hrec];simp);rw[hrec]at this;exact this,hstop pre _ hpre (hIx _ _ _ (Lo.putObj W2 _ (by omega)) hi) ((World.putObj_heap_other (by omega)).trans hk)⟩
end Go.Proofs.YtbeckacfibledaaGreatDoor.sl
namespace Go.Proofs.YtbeckacfibledaaGreatDoor.sl
open Go.RowKit Go.Shelf Go.Lib
attribute [local go_sem] Oper.semAt_some
def dh:List UInt8->List (List UInt8)
 |[]=>[[]]
 |c::r=>if c=10 then []::dh r else match dh r with
  |p::ps=>(c::p)::ps
  |[]=>[[c]]
theorem pn:∀l,dh l≠[]
 |[]=>by simp[dh]
 |c::r=>by
  rw[dh];split
  .simp
  split<;>simp
theorem sK:∀l:List UInt8,(Lib.indexByte l 10 = -1/\dh l=[l])\/∃o:Nat,Lib.indexByte l 10=o/\o<l.length/\dh l=l.take o::dh (l.drop (o+1))
 |[]=>.inl ⟨rfl,rfl⟩
 |c::r=>by
  rw[Lib.indexByte,dh];by_cases hc:c=10
  .subst hc;exact .inr ⟨0,by simp,by simp,by simp⟩
  rw[aa (by simpa using hc),aa hc];rcases sK r with⟨h1,h2⟩|⟨o,h1,h2,h3⟩
  .left
   rw[h1,h2];exact⟨rfl,rfl⟩
  right
  refine⟨o+1,?_,by simp;omega,?_⟩
  .rw[h1,aa (by simp)];rfl
  rw[h3];simp
abbrev we (l:List UInt8):ByteArray:=⟨l.toArray⟩
theorem extract_mk (l:List UInt8)(a b:Nat):(we l).extract a b=we ((l.take b).drop a):=by
 apply ByteArray.ext;apply jC;simp[pF]
theorem xb:∀(n:Nat) (l:List UInt8),l.length<n->nm.uy 10 (we l) ((dh l).map we)
 |0,l,h=>absurd h (oK _)
 |n+1,l,h=>by
  rcases sK l with⟨h1,h2⟩|⟨o,h1,h2,h3⟩
  .rw[h2];exact .last _ (by simpa using h1)
  rw[h3,cP];have e1:we (l.take o)=(we l).extract 0 o:=by rw[extract_mk];simp
  have e2:we (l.drop (o+1))=(we l).extract (o+1) (we l).size:=by rw[extract_mk];simp[ByteArray.size,cU]
  rw[e1];refine .cut _ o _ (by simpa using h1) (by simpa[ByteArray.size] using h2) ?_;rw[<-e2];exact xb n _ (by rw[bQ];omega)
noncomputable def jy (acc:List (List UInt8))(cur:List UInt8):List UInt8->List (List UInt8)
 |[]=>(cur.reverse::acc).reverse
 |c::r=>Ev.ah (Nat.beq c.toNat 10) (jy (cur.reverse::acc) [] r) (jy acc (c::cur) r)
theorem pq:∀(l:List UInt8) (acc:List (List UInt8)) (cur:List UInt8),jy acc cur l=acc.reverse++(match dh l with|p::ps=>(cur.reverse++p)::ps | []=>[])
 |[],acc,cur=>by simp[jy,dh]
 |c::r,acc,cur=>by
  rw[jy,Ev.ax,dh,pq r,pq r];have hne:=pn r;by_cases hc:c=10
  .subst hc;rw[ag (by decide),ag rfl];cases hr:dh r with
   |nil=>exact absurd hr hne
   |cons p ps=>simp
  rw[aa (by simp only[aO];intro h;exact hc (jO.1 h)),aa hc];cases hr:dh r with
  |nil=>exact absurd hr hne
  |cons p ps=>simp
theorem xd (l:List UInt8):jy [] [] l=dh l:=by
 rw[pq];cases hr:dh l with
 |nil=>exact absurd hr (pn l)
 |cons p ps=>simp
theorem vz (s:ByteArray):nm.uy 10 s ((jy [] [] s.data.toList).map we):=by
 have h:=xb (s.data.toList.length+1) s.data.toList (Nat.lt_succ_self _);rw[xd];have e:we s.data.toList=s:=by obtain⟨d⟩:=s;simp
 rw[e]at h;exact h
theorem go_step (md:Region.Mode)(ops:Array Oper)(fuel t:Nat)(listed:Array Bool)(acc:List Nat):Region.linearise.go md ops (fuel+1) t listed acc =
 match (Region.ready md ops listed)[t%(Region.ready md ops listed).length]? with
 |some i=>Region.linearise.go md ops fuel (t/(Region.ready md ops listed).length) (listed.setIfInBounds i true) (i::acc)
 |none=>acc.reverse:=rfl
theorem orders {ops:Array Oper}(hsz:ops.size=5)(r0:Region.ready .any ops #[false,false,false,false,false]=[0,1])(r1:Region.ready .any ops #[true,false,false,false,false]=[1])
 (r2:Region.ready .any ops #[false,true,false,false,false]=[0,2]) (r3:Region.ready .any ops #[true,true,false,false,false]=[2]) (r4:Region.ready .any ops #[false,true,true,false,false]=[0])
 (r5:Region.ready .any ops #[true,true,true,false,false]=[3]) (r6:Region.ready .any ops #[true,true,true,true,false]=[4]) (t:Nat) :
 Region.linearise .any ops t=[0,1,2,3,4]\/Region.linearise .any ops t=[1,0,2,3,4]\/Region.linearise .any ops t=[1,2,0,3,4]:=by
 have e:Region.linearise .any ops t=Region.linearise.go .any ops 5 t #[false,false,false,false,false] []:=by
  unfold Region.linearise;rw[hsz];rfl
 have two:∀t:Nat,t%2=0\/t%2=1:=λt=>by omega
 rw[e,go_step,r0];rcases two t with h|h
 .left
  simp only[aJ,bA,bX,Nat.reduceAdd,h];show Region.linearise.go .any ops 4 (t/2) #[true,false,false,false,false] [0]=_;rw[go_step,r1];simp only[aJ,bA,bX,fZ];show Region.linearise.go .any ops 3 (t/2/1) #[true,true,false,false,false] [1,0]=_;rw[go_step,r3];simp only[aJ,bA,bX,fZ];show Region.linearise.go .any ops 2 (t/2/1/1) #[true,true,true,false,false] [2,1,0]=_;rw[go_step,r5];simp only[aJ,bA,bX,fZ]
  show Region.linearise.go .any ops 1 (t/2/1/1/1) #[true,true,true,true,false] [3,2,1,0]=_;rw[go_step,r6];simp only[aJ,bA,bX,fZ];rfl
 right
 simp only[aJ,bA,bX,Nat.reduceAdd,h];show (Region.linearise.go .any ops 4 (t/2) #[false,true,false,false,false] [1]=_\/Region.linearise.go .any ops 4 (t/2) #[false,true,false,false,false] [1]=_);rw[go_step,r2];rcases two (t/2) with h2|h2
 .left
  simp only[aJ,bA,bX,Nat.reduceAdd,h2];show Region.linearise.go .any ops 3 (t/2/2) #[true,true,false,false,false] [0,1]=_;rw[go_step,r3];simp only[aJ,bA,bX,fZ];show Region.linearise.go .any ops 2 (t/2/2/1) #[true,true,true,false,false] [2,0,1]=_;rw[go_step,r5];simp only[aJ,bA,bX,fZ];show Region.linearise.go .any ops 1 (t/2/2/1/1) #[true,true,true,true,false] [3,2,0,1]=_;rw[go_step,r6]
  simp only[aJ,bA,bX,fZ];rfl
 right
 simp only[aJ,bA,bX,Nat.reduceAdd,h2];show Region.linearise.go .any ops 3 (t/2/2) #[false,true,true,false,false] [2,1]=_;rw[go_step,r4];simp only[aJ,bA,bX,fZ];show Region.linearise.go .any ops 2 (t/2/2/1) #[true,true,true,false,false] [0,2,1]=_;rw[go_step,r5];simp only[aJ,bA,bX,fZ];show Region.linearise.go .any ops 1 (t/2/2/1/1) #[true,true,true,true,false] [3,0,2,1]=_;rw[go_step,r6]
 simp only[aJ,bA,bX,fZ];rfl
theorem aaB {F:Fence}{n:Nat}{P:Program}{id:Nat}{o0 o1 o2 o3 o4:Oper}{Q:Exit->Act->World->Prop}{a:Act}{w:World}(hm:P.follows .mixedOrders=true)
 (ao4:∀t,Region.linearise .any [o0,o1,o2,o3,o4].toArray t=[0,1,2,3,4]\/Region.linearise .any [o0,o1,o2,o3,o4].toArray t=[1,0,2,3,4]\/Region.linearise .any [o0,o1,o2,o3,o4].toArray t=[1,2,0,3,4])
 (h1:wpListIn F n P [o0,o1,o2,o3,o4].toArray Q [o0,o1,o2,o3,o4] a { w with drawn:=w.drawn+1 }) (h2:wpListIn F n P [o0,o1,o2,o3,o4].toArray Q [o1,o0,o2,o3,o4] a { w with drawn:=w.drawn+1 })
 (h3:wpListIn F n P [o0,o1,o2,o3,o4].toArray Q [o1,o2,o0,o3,o4] a { w with drawn:=w.drawn+1 }):(Code.region id [o0,o1,o2,o3,o4].toArray true).wpIn F n P Q a w:=by
 refine wpIn_region_draw λt=>?_
 simp only[Region.schedule,hm,Bool.true_or,fF];rcases ao4 t with e|e|e<;>rw[e]
 .exact h1
 .exact h2
 exact h3
end Go.Proofs.YtbeckacfibledaaGreatDoor.sl
namespace Go.Proofs.YtbeckacfibledaaGreatDoor.sl
open Go.RowKit Go.Shelf Go.Lib
attribute [local go_sem] Oper.semAt_some
theorem OW {s:ByteArray}{xs:List ByteArray}(h:nm.uy 10 s xs):∀x∈xs,x.size<=s.size:=by
 induction h with
 |last s _=>intro x hx;simp at hx;rw[hx];exact aC _
 |cut s i rest _ hi _ ih =>
  intro x hx;rcases bt.1 hx with rfl|hx
  .simp[j4];omega
  have:=ih x hx;simp[j4]at this;omega
theorem BV {P:Program}{n n' l l':Nat}{f:FuncId}{tmps:Array Value}{assign body:Code}{w:World}{R:Ending->World->Prop}(h:RoundIn Fence.wide n P l f tmps assign body w R):RoundIn (Fence.wide.inRound l') n' P l f tmps assign body w R :=
 ⟨trivial,λc cs _=>h.2 c cs (room_wide _)⟩
structure EN (B0 l:Nat)(O:Nat->Prop)(W:World):Prop where
 size:B0+4<=W.heap.size
 b0:¬O B0
 b1:¬O (B0+1)
 b2:¬O (B0+2)
 b3:¬O (B0+3)
 b4:¬O (B0+4)
 b5:¬O (B0+5)
 box:W.cell? ⟨B0,0,none⟩=some (.func (.yield l) #[] #[])
theorem EN.lo {B0 l:Nat}{O:Nat->Prop}{W W':World}(h:EN B0 l O W)(hl:Lo (B0+4) (B0+1) W W'):EN B0 l O W' :=
 ⟨br h.size hl.size,h.b0,h.b1,h.b2,h.b3,h.b4,h.b5,(nm.eG (hl.block B0 (by have:=h.size;omega) (by omega) (by omega) (by omega))).trans h.box⟩
theorem EN.beside {B0 l:Nat}{O:Nat->Prop}{W W':World}(h:EN B0 l O W)(hO:∀r,O r->r<W.heap.size)(hl:Lo (B0+4) (B0+1) W W'):Ev.Ed O W W' :=
 ⟨hl.os,hl.tape,hl.output,hl.size,λr hr=>hl.block r (hO r hr) (λe=>h.b1 (e ▸ hr)) (λe=>h.b4 (e ▸ hr)) (λe=>h.b5 (e ▸ hr))⟩
theorem Jr {O:Nat->Prop}{W W':World}(hO:∀r,O r->r<W.heap.size)(h:Below W.heap.size W W'):Ev.Ed O W W' :=
 ⟨h.os,h.tape,h.output,h.size,λr hr=>h.block r (hO r hr)⟩
set_option maxRecDepth 100000 in
set_option maxHeartbeats 4000000 in
theorem Wi (trim:ByteArray->ByteArray)(Wj:∀(s:ByteArray) (w:World),s.size<=2000000->Calls Tryz.prog 42 #[.string s,.string ⟨#[13]⟩] w λe w'=>e = .returned (.string (trim s))/\Below w.heap.size w w')
 (hm:Tryz.prog.follows .mixedOrders=true) (s:ByteArray) (hz:s.size<=2000000):Ev.IP Tryz.prog 40 s (((jy [] [] s.data.toList).map we).map λx=>.string (trim x)):=by
 refine⟨λargs w=>by simp[go_sem],λn l rs W O J Jx hn hc hf hno hJ hJx hO hOx hY h0=>?_⟩;have Ky:rs<W.heap.size:=World.block_lt_of_cell? _ _ hc;refine callsIn_wide (n:=n) |>.2 (callsIn_wide (n:=20) |>.1 ?_);refine callsIn_of_wp_marks Tryz.func40 rfl trivial ?_ rfl;simp only[Tryz.ntmps40,iQ,aJ,bA,Nat.reduceAdd,Nat.reduceSub,kN,kO,m9,lM,eS,fR];have hc1:(W.alloc (.cells #[.func (.yield l) #[] #[]] 23)).cell? ⟨rs,0,none⟩=some (.string s):=(nm.eG (Below.heap_alloc _ _ _ Ky)).trans hc
 gi_wp2_with (refine⟨trivial,?_⟩;gi_at_call 41;refine(callsIn_wide.2 (nm.call69 _ _ _)).mono ?_;rintro e w' ⟨rfl,rfl⟩)
 obtain⟨B0,S7⟩:∃B0,B0=W.heap.size:=⟨_,rfl⟩;obtain⟨W1,CX⟩:∃W1,W1=((((W.alloc (.cells #[.func (.yield l) #[] #[]] 23)).alloc (.cells #[.string s] 9)).alloc (.cells #[.string ⟨#[10]⟩] 9)).alloc (.cells #[.int .i64 0] 3)):=⟨_,rfl⟩;have hsz:W1.heap.size=B0+4:=by rw[CX,S7];simp
 have cell:∀(X:World) (v:Value) (t:TypeId),(X.alloc (.cells #[v] t)).cell? ⟨X.heap.size,0,none⟩=some v:=λX v t=>by
  have h:=World.alloc_heap_new X (.cells #[v] t);unfold World.cell?;simp only[h];rfl
 have ao5:∀(X:World) (v:Value) (t:TypeId),(X.alloc (.cells #[v] t)).frozen? ⟨X.heap.size,0,none⟩=false:=λX v t=>by
  have h:=World.alloc_heap_new X (.cells #[v] t);unfold World.frozen?;simp only[h];rfl
 have up:∀(X:World) (o:Obj) (b:Nat),b<X.heap.size->(X.alloc o).heap[b]? = X.heap[b]? := λX o b h=>Below.heap_alloc _ _ _ h
 have ao6:W1.cell? ⟨B0,0,none⟩=some (.func (.yield l) #[] #[]):=by
  rw[CX,S7];refine(nm.eG ?_).trans (cell W _ 23);rw[up _ _ _ (by simp<;>omega),up _ _ _ (by simp<;>omega),up _ _ _ (by simp)]
 have hs1:W1.cell? ⟨B0+1,0,none⟩=some (.string s):=by
  have:=cell (W.alloc (.cells #[.func (.yield l) #[] #[]] 23)) (.string s) 9;rw[World.size_alloc]at this;rw[CX,S7];refine(nm.eG ?_).trans this;rw[up _ _ _ (by simp<;>omega),up _ _ _ (by simp)]
 have hf1:W1.frozen? ⟨B0+1,0,none⟩=false:=by
  have:=ao5 (W.alloc (.cells #[.func (.yield l) #[] #[]] 23)) (.string s) 9;rw[World.size_alloc]at this;rw[CX,S7];refine(nm.qQ ?_).trans this;rw[up _ _ _ (by simp<;>omega),up _ _ _ (by simp)]
 have hp1:W1.cell? ⟨B0+1+1,0,none⟩=some (.string ⟨#[10]⟩):=by
  have:=cell ((W.alloc (.cells #[.func (.yield l) #[] #[]] 23)).alloc (.cells #[.string s] 9)) (.string ⟨#[10]⟩) 9;rw[World.size_alloc,World.size_alloc]at this;rw[CX,S7];refine(nm.eG ?_).trans this;rw[up _ _ _ (by simp)]
 have hv1:W1.cell? ⟨B0+1+2,0,none⟩=some (.int .i64 0):=by
  have:=cell (((W.alloc (.cells #[.func (.yield l) #[] #[]] 23)).alloc (.cells #[.string s] 9)).alloc (.cells #[.string ⟨#[10]⟩] 9)) (.int .i64 0) 3;rw[World.size_alloc,World.size_alloc,World.size_alloc]at this;rw[CX,S7];exact this
 have aex:Below W.heap.size W W1:=by
  rw[CX];exact((((Below.refl _ W).alloc (aC _) _).alloc (by simp) _).alloc (by simp<;>omega) _).alloc (by simp<;>omega) _
 have hJ1:J 0 O W1:=hJ _ _ _ _ h0 (Jr (hO _ _ _ h0) aex);have hOB:∀k,B0<=k->¬O k:=λk hk ho=>by have:=hO _ _ _ h0 k ho;omega
 have hP1:EN B0 l O W1:=⟨by omega,hOB _ (by omega),hOB _ (by omega),hOB _ (by omega),hOB _ (by omega),hOB _ (by omega),hOB _ (by omega),ao6⟩;rw[<-CX,<-S7];have hfin:∀(K:Nat),K=(((jy [] [] s.data.toList).map we).map λx=>Value.string (trim x)).length->K=((jy [] [] s.data.toList).map we).length:=λK h=>by rw[h];simp
 refine BQ (m:=B0+4) (Bs:=B0+1) (Bp:=B0+1+1) (Bv:=B0+1+2) (by omega) hsz rfl (by omega) (by omega) (by omega) (by omega) (by omega) (vz s) hz hs1 hf1 hp1 hv1
  (λpre X=>∃O,J pre.length O X/\EN B0 l O X) (λpre X=>∃O,Jx O X/\EN B0 l O X)
  (λpre X X' hl=>λ⟨O,h1,h2⟩=>⟨O,hJ _ _ _ _ h1 (h2.beside (hO _ _ _ h1) hl),h2.lo hl⟩)
  (λpre X X' hl=>λ⟨O,h1,h2⟩=>⟨O,hJx _ _ _ h1 (h2.beside (hOx _ _ h1) hl),h2.lo hl⟩)
  ⟨O,hJ1,hP1⟩
  (λx=>{ tmps := #[.func (.yield l) #[] #[],.pointer (some ⟨rs,0,none⟩),.pointer (some ⟨B0,0,none⟩),.string x,.string s,
   .func (.func 118) #[] #[.pointer (some ⟨B0+1+1,0,none⟩),.pointer (some ⟨B0+1,0,none⟩),.pointer (some ⟨B0+1+2,0,none⟩)],.string x,undef,undef,undef,undef,undef],defers:=[] }) ?assign ?body ?done ?stop
 case assign =>
  intro l2 x X K hK;have e:((#[6]:Array Tmp).zip (#[.string x]:Array Value)).foldl (λt (p,v)=>t.setIfInBounds p v) (#[.func (.yield l) #[] #[],.pointer (some ⟨rs,0,none⟩),.pointer (some ⟨B0,0,none⟩),undef,.string s,
   .func (.func 118) #[] #[.pointer (some ⟨B0+1+1,0,none⟩),.pointer (some ⟨B0+1,0,none⟩),.pointer (some ⟨B0+1+2,0,none⟩)],undef,undef,undef,undef,undef,undef]:Array Value) =
   #[.func (.yield l) #[] #[],.pointer (some ⟨rs,0,none⟩),.pointer (some ⟨B0,0,none⟩),undef,.string s,
   .func (.func 118) #[] #[.pointer (some ⟨B0+1+1,0,none⟩),.pointer (some ⟨B0+1,0,none⟩),.pointer (some ⟨B0+1+2,0,none⟩)],.string x,undef,undef,undef,undef,undef]:=by simp
  dsimp only
  rw[e]
  gi_wp2
  exact hK
 case body =>
  rintro l2 pre x X hXs ⟨O2,hJ2,OX⟩ hpx
  gi_wp2
  have hxz:x.size<=2000000:=by
   obtain⟨tl,htl⟩:=hpx;exact br (OW (vz s) x (by rw[<-htl];simp)) hz
  have akO:((((jy [] [] s.data.toList).map we).map λx=>Value.string (trim x)))[pre.length]? = some (.string (trim x)):=by
   obtain⟨tl,htl⟩:=hpx;rw[cB,<-htl];simp
  have rest:∀(Wd W2:World),Wd.heap=X.heap->Wd.os=X.os->Wd.tape=X.tape->Wd.output=X.output->Below Wd.heap.size Wd W2->J pre.length O2 W2/\EN B0 l O2 W2/\X.heap.size<=W2.heap.size/\(∀r,r<X.heap.size->W2.heap[r]? = X.heap[r]?):=by
   intro Wd W2 e1 e2 e3 e4 hb;have hk:∀r,r<X.heap.size->W2.heap[r]? = X.heap[r]? := λr hr=>(hb.block r (by rw[e1];exact hr)).trans (by rw[e1])
   have hs:X.heap.size<=W2.heap.size:=by have:=hb.size;rw[e1]at this;exact this
   exact⟨hJ _ _ _ _ hJ2 ⟨hb.os.trans e2,hb.tape.trans e3,hb.output.trans e4,hs,λr hr=>hk r (hO _ _ _ hJ2 r hr)⟩,
    ⟨br OX.size hs,OX.b0,OX.b1,OX.b2,OX.b3,OX.b4,OX.b5,(nm.eG (hk B0 (by omega))).trans OX.box⟩,hs,hk⟩
  have fin:∀(W2 W3:World) (O3:Nat->Prop),EN B0 l O2 W2->X.heap.size<=W2.heap.size->(∀r,r<X.heap.size->W2.heap[r]? = X.heap[r]?)->W2.heap.size<=W3.heap.size->(∀r,O3 r->O2 r\/W2.heap.size<=r)->(∀r,r<W2.heap.size->¬O2 r->W3.heap[r]? = W2.heap[r]?) ->
   EN B0 l O3 W3/\∀r,r=B0+4\/r=B0+4+1\/r=B0+1\/r=B0+1+1\/r=B0+1+2->W3.heap[r]? = X.heap[r]? := by
   intro W2 W3 O3 hP hs hk hs3 ZB zn;have no:∀r,r<W2.heap.size->¬O2 r->¬O3 r:=λr hr hn h=>by
    rcases ZB r h with h|h
    .exact hn h
    omega
   refine⟨⟨by omega,no _ (by omega) hP.b0,no _ (by omega) hP.b1,no _ (by omega) hP.b2,no _ (by omega) hP.b3,no _ (by omega) hP.b4,no _ (by omega) hP.b5,(nm.eG (zn B0 (by omega) hP.b0)).trans hP.box⟩,λr hr=>?_⟩;have hn:¬O2 r:=by
    rcases hr with rfl|rfl|rfl|rfl|rfl
    .exact hP.b4
    .exact hP.b5
    .exact hP.b1
    .exact hP.b2
    exact hP.b3
   exact(zn r (by omega) hn).trans (hk r (by omega))
  have hY':∀W2,J pre.length O2 W2->YieldAt Fence.wide n Tryz.prog l #[.string (trim x)] W2 _:=λW2 h=>hY _ _ W2 _ h akO
  refine aaB hm (orders (by rfl) (by kernel_rfl) (by kernel_rfl) (by kernel_rfl) (by kernel_rfl) (by kernel_rfl) (by kernel_rfl) (by kernel_rfl)) ?_ ?_ ?_
  .generalize Q2:({ X with drawn:=X.drawn+1 }:World)=Wd;have e1:Wd.heap=X.heap:=by rw[<-Q2]
   have e2:Wd.os=X.os:=by rw[<-Q2]
   have e3:Wd.tape=X.tape:=by rw[<-Q2]
   have e4:Wd.output=X.output:=by rw[<-Q2]
   have EO:Wd.cell? ⟨B0,0,none⟩=some (.func (.yield l) #[] #[]):=(nm.eG (by rw[e1])).trans OX.box;have ht:CallsIn (Fence.wide.inRound l2) 17 Tryz.prog 42 #[.string x,.string ⟨#[13]⟩] Wd _:=callsIn_wide (n:=17) |>.2 (Wj x Wd hxz);refine wpListIn_plain rfl λK hK=>?_
   simp[go_sem,EO];refine hK _ _ ?_;refine wpListIn_plain rfl λK hK=>?_
   simp[go_sem,EO];refine hK _ _ ?_;refine wpListIn_plain rfl λK hK=>?_
   simp[go_sem];refine⟨trivial,ht.mono ?_⟩;rintro e W2 ⟨rfl,hb⟩;obtain⟨hJ4,Wk,hs4,F3⟩:=rest Wd W2 e1 e2 e3 e4 hb;have Wl:=Wk.box;obtain⟨fn,tm,asg,bd,hy,hR⟩:=hY' W2 hJ4;refine hK _ _ ?_;refine wpListIn_plain rfl λK hK=>?_
   simp[go_sem,hy];refine(BV hR).mono ?_;rintro e W3 ⟨O3,hs3,ZB,zn,⟨rfl,OS⟩|⟨rfl,OS⟩⟩
   .refine hK _ _ ?_;obtain⟨Wm,Wn⟩:=fin W2 W3 O3 Wk hs4 F3 hs3 ZB zn;refine wpListIn_plain rfl λK hK=>?_
    simp[go_sem];refine hK _ _ ?_
    gi_wp2
    refine⟨Wn,O3,?_,Wm⟩;rw[aA];exact OS
   refine hK _ _ ?_;obtain⟨Wm,Wn⟩:=fin W2 W3 O3 Wk hs4 F3 hs3 ZB zn;refine wpListIn_plain rfl λK hK=>?_
   simp[go_sem];refine hK _ _ ?_
   gi_wp2
   exact⟨Wn,O3,OS,Wm⟩
  .generalize Q2:({ X with drawn:=X.drawn+1 }:World)=Wd;have e1:Wd.heap=X.heap:=by rw[<-Q2]
   have e2:Wd.os=X.os:=by rw[<-Q2]
   have e3:Wd.tape=X.tape:=by rw[<-Q2]
   have e4:Wd.output=X.output:=by rw[<-Q2]
   have EO:Wd.cell? ⟨B0,0,none⟩=some (.func (.yield l) #[] #[]):=(nm.eG (by rw[e1])).trans OX.box;have ht:CallsIn (Fence.wide.inRound l2) 17 Tryz.prog 42 #[.string x,.string ⟨#[13]⟩] Wd _:=callsIn_wide (n:=17) |>.2 (Wj x Wd hxz);refine wpListIn_plain rfl λK hK=>?_
   simp[go_sem,EO];refine hK _ _ ?_;refine wpListIn_plain rfl λK hK=>?_
   simp[go_sem,EO];refine hK _ _ ?_;refine wpListIn_plain rfl λK hK=>?_
   simp[go_sem];refine⟨trivial,ht.mono ?_⟩;rintro e W2 ⟨rfl,hb⟩;obtain⟨hJ4,Wk,hs4,F3⟩:=rest Wd W2 e1 e2 e3 e4 hb;have Wl:=Wk.box;obtain⟨fn,tm,asg,bd,hy,hR⟩:=hY' W2 hJ4;refine hK _ _ ?_;refine wpListIn_plain rfl λK hK=>?_
   simp[go_sem,hy];refine(BV hR).mono ?_;rintro e W3 ⟨O3,hs3,ZB,zn,⟨rfl,OS⟩|⟨rfl,OS⟩⟩
   .refine hK _ _ ?_;obtain⟨Wm,Wn⟩:=fin W2 W3 O3 Wk hs4 F3 hs3 ZB zn;refine wpListIn_plain rfl λK hK=>?_
    simp[go_sem];refine hK _ _ ?_
    gi_wp2
    refine⟨Wn,O3,?_,Wm⟩;rw[aA];exact OS
   refine hK _ _ ?_;obtain⟨Wm,Wn⟩:=fin W2 W3 O3 Wk hs4 F3 hs3 ZB zn;refine wpListIn_plain rfl λK hK=>?_
   simp[go_sem];refine hK _ _ ?_
   gi_wp2
   exact⟨Wn,O3,OS,Wm⟩
  generalize Q2:({ X with drawn:=X.drawn+1 }:World)=Wd;have e1:Wd.heap=X.heap:=by rw[<-Q2]
  have e2:Wd.os=X.os:=by rw[<-Q2]
  have e3:Wd.tape=X.tape:=by rw[<-Q2]
  have e4:Wd.output=X.output:=by rw[<-Q2]
  have EO:Wd.cell? ⟨B0,0,none⟩=some (.func (.yield l) #[] #[]):=(nm.eG (by rw[e1])).trans OX.box;have ht:CallsIn (Fence.wide.inRound l2) 17 Tryz.prog 42 #[.string x,.string ⟨#[13]⟩] Wd _:=callsIn_wide (n:=17) |>.2 (Wj x Wd hxz);refine wpListIn_plain rfl λK hK=>?_
  simp[go_sem,EO];refine hK _ _ ?_;refine wpListIn_plain rfl λK hK=>?_
  simp[go_sem];refine⟨trivial,ht.mono ?_⟩;rintro e W2 ⟨rfl,hb⟩;obtain⟨hJ4,Wk,hs4,F3⟩:=rest Wd W2 e1 e2 e3 e4 hb;have Wl:=Wk.box;obtain⟨fn,tm,asg,bd,hy,hR⟩:=hY' W2 hJ4;refine hK _ _ ?_;refine wpListIn_plain rfl λK hK=>?_
  simp[go_sem,Wl];refine hK _ _ ?_;refine wpListIn_plain rfl λK hK=>?_
  simp[go_sem,hy];refine(BV hR).mono ?_;rintro e W3 ⟨O3,hs3,ZB,zn,⟨rfl,OS⟩|⟨rfl,OS⟩⟩
  .refine hK _ _ ?_;obtain⟨Wm,Wn⟩:=fin W2 W3 O3 Wk hs4 F3 hs3 ZB zn;refine wpListIn_plain rfl λK hK=>?_
   simp[go_sem];refine hK _ _ ?_
   gi_wp2
   refine⟨Wn,O3,?_,Wm⟩;rw[aA];exact OS
  refine hK _ _ ?_;obtain⟨Wm,Wn⟩:=fin W2 W3 O3 Wk hs4 F3 hs3 ZB zn;refine wpListIn_plain rfl λK hK=>?_
  simp[go_sem];refine hK _ _ ?_
  gi_wp2
  exact⟨Wn,O3,OS,Wm⟩
 case done =>
  rintro X ⟨O2,hJ2,OX⟩ hK;refine⟨by simp,.inl ⟨_,_,rfl,run_takeDeferred hK,?_⟩⟩;refine⟨_,results_none rfl _ _ _,⟨_,rfl⟩,O2,.inl ?_⟩;have:=hJ _ _ _ _ hJ2 (OX.beside (hO _ _ _ hJ2) (Lo.putObj X (.deferred none) (.inl rfl)));rw[cg];exact this
 case stop =>
  rintro pre X hpre ⟨O2,hJ2,OX⟩ hK
  gi_wp2
  refine⟨by simp,.inl ⟨_,_,rfl,run_takeDeferred hK,?_⟩⟩;exact⟨_,results_none rfl _ _ _,⟨_,rfl⟩,O2,.inr (hJx _ _ _ hJ2 (OX.beside (hOx _ _ hJ2) (Lo.putObj X (.deferred none) (.inl rfl))))⟩
end Go.Proofs.YtbeckacfibledaaGreatDoor.sl
namespace Go.Proofs.YtbeckacfibledaaGreatDoor.sl
open Go.Tv Go.Ev Go.Proofs.YtbeckacfibledaaGreatDoor.nm
noncomputable section
def sL (s:List UInt8):List UInt8:=ah (!bC (s.length:Int) 1) (ah (decide (dX s ((s.length:Int)-1) s.length=[13])) (dX s 0 ((s.length:Int)-1)) s) s
theorem S8 (s:List UInt8):aT X1 (e0 AV) nm.gO 200 42 [.str s,.str [13]] aG.empty (λv _=>some v) =
 ah (!bC (s.length:Int) 1) (ah (!bC (IntKind.wrap .i64 ((s.length:Int)-1)) 0 && !bC (Int.ofNat s.length) (IntKind.wrap .i64 ((s.length:Int)-1)))
  (ah (decide (dX s (IntKind.wrap .i64 ((s.length:Int)-1)) s.length=[13])) (ah (!bC (IntKind.wrap .i64 ((s.length:Int)-1)) 0 && !bC (Int.ofNat s.length) (IntKind.wrap .i64 ((s.length:Int)-1)))
   (some (.str (dX s 0 (IntKind.wrap .i64 ((s.length:Int)-1))))) none) (some (.str s))) none) (some (.str s)):=by kernel_rfl
theorem Wp (s:List UInt8)(h:s.length<=2000000):aT X1 (e0 AV) nm.gO 200 42 [.str s,.str [13]] aG.empty (λv _=>some v)=some (.str (sL s)):=by
 rw[S8,sL];by_cases h0:s.length=0
 .rw[pZ (by omega)];rfl
 rw[fL (a:=(s.length:Int)) (by omega),i64_in (n:=(s.length:Int)-1) (by omega) (by omega),fL (a:=(s.length:Int)-1) (by omega),fL (a:=Int.ofNat s.length) (by simp only[dU];omega)];show ah _ _ _=some (AV.str (ah _ _ _));cases decide (dX s ((s.length:Int)-1) s.length=[13])<;>rfl
theorem OY (s:ByteArray)(h:s.size<=2000000)(w:World):Calls Tryz.prog 42 #[.string s,.string ⟨#[13]⟩] w λe w'=>e = .returned (.string ⟨(sL s.data.toList).toArray⟩)/\RowKit.Below w.heap.size w w' :=
 Jm (X:=X1) jd mixed vi (v:=.str (sL s.data.toList)) (λS x hx=>hx.jw) rfl
  (λS E bJ hr hg hl=>Ar (nm.nk 42) V5 (Wp s.data.toList (by rw[lK];exact h)) S E bJ hr hg hl) (ct _) (V6 w) (args':=[.string s,.string ⟨#[13]⟩]) (LV.cons (nm.xe w s) (LV.cons (nm.xe w ⟨#[13]⟩) LV.nil)) rfl
end
end Go.Proofs.YtbeckacfibledaaGreatDoor.sl
namespace Go.Proofs.YtbeckacfibledaaGreatDoor.rg
open Go.Tv Go.Ev
noncomputable section
def xk (s:ByteArray):List Value:=(sl.jy [] [] s.data.toList).map λx=>.string ⟨(sl.sL x).toArray⟩
def kS (f:FuncId)(args:List Value):Option Value :=
 ah (Nat.beq f (qZ 40)) (match args with
  |[.pointer (some ⟨_,_,some _⟩),.string s]=>ah (Nat.ble (nm.vW s.data.toList 0) 2000000) (some (.tuple (xk s).toArray)) none
  |_=>none) (kR f args)
theorem S9 (s:ByteArray):xk s=((sl.jy [] [] s.data.toList).map sl.we).map λx=>Value.string ⟨(sl.sL x.data.toList).toArray⟩:=by
 unfold xk;rw[j8];rfl
theorem akQ {GR:List jJ}{b1:jJ}(hb:GR[8]? = some b1)(hl:b1.live=true)(hc:b1.cells=space):kq Tryz.prog GR kS:=by
 have hR:=akM hb hl hc;refine⟨λf args v h hfree w hw=>?_,λf u h=>?_,λf s items h hfr=>?_⟩
 .unfold kS at h;rw[ax]at h;split at h
  .split at h
   .cases hfree
   cases h
  exact hR.calls f args v h hfree w hw
 .unfold kS at h;rw[ax]at h;split at h
  .cases h
  exact hR.U6 f u h
 unfold kS at h;rw[ax]at h;split at h
 .rename_i hf;have hf:=bf hf;have hf:f=40:=by
   exact Nat.add_left_cancel (n:=4294967296) hf
  subst hf;simp only[iB]at h;rw[ax]at h;split at h
  .rename_i hz;cases h;have e:(xk s).toArray.toList=xk s:=rfl;rw[e,S9];exact sl.Wi (λx=>⟨(sl.sL x.data.toList).toArray⟩) (λx w hx=>sl.OY x hx w) nm.mixed s (nm.Q1 s hz)
  cases h
 exact hR.U7 f s items h hfr
end
end Go.Proofs.YtbeckacfibledaaGreatDoor.rg
