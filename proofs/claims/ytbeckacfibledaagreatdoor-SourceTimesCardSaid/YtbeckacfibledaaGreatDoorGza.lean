/- A range over strings.SplitSeq: the law for a loop's body that reads and writes cells of its own. -/
import Derived.RangeFuncNested
import Derived.RangeFuncBound
import Derived.RangeFuncCalls
import Derived.RangeFuncLeaves
import Derived.Shelf.Abstract
import Derived.WalkKit
import Derived.OwnWalkIn
import Derived.TacticsInMore
import Derived.LoopNIn
import Derived.LoopIn
import Derived.Lib.Bytealg
import Derived.Test.YtbeckacfibledaaGreatDoorRows
import Derived.Test.YtbeckacfibledaaGreatDoorLya
import Derived.Lib.IndexLaws
import Derived.Test.YtbeckacfibledaaGreatDoorLyg
set_option linter.unusedVariables false
set_option linter.unusedSimpArgs false

namespace Go.Proofs.YtbeckacfibledaaGreatDoor.nm
open Go.RowKit Go.Shelf Go.Lib
set_option maxRecDepth 100000 in
set_option maxHeartbeats 1000000 in
theorem aio (s:ByteArray)(c:Int)(w:World):Calls Tryz.prog 161 #[.string s,.int .u8 c] w λe w'=>e = .returned (.int .i64 (Lib.indexByte s.data.toList c.toNat.toUInt8))/\w'=w:=by
 go_enter Tryz.func161,Tryz.ntmps161
 go_wp2
 rw[run_callFunc_extern Tryz.func173 (by kernel_rfl) (by kernel_rfl) (by kernel_rfl) (e:=Extern.BytealgIndexByte.indexByte) (by kernel_rfl),Lib.run_indexByteString];simp only[Result.andThen];rw[Oper.upon_value]
 go_wp2
 go_ret
 exact⟨rfl,rfl⟩
set_option maxRecDepth 100000 in
set_option maxHeartbeats 1000000 in
theorem aip (c:UInt8)(s:ByteArray)(w:World):Calls Tryz.prog 147 #[.string s,.string ⟨#[c]⟩] w λe w'=>e = .returned (.int .i64 (Lib.indexByte s.data.toList c))/\w'=w:=by
 go_enter Tryz.func147,Tryz.ntmps147
 go_wp2_with (go_at_call 161;refine(aio _ _ _).mono ?_;rintro e w' ⟨rfl,rfl⟩)
 .rename_i h
  go_ret
  have hs:s.data.toList=[c]:=by
   have:=eq_of_beq h;rw[ByteArray.toList_eq]at this;exact this.symm
  refine⟨?_,rfl⟩;rw[hs];simp[Lib.indexByte]
 go_ret
 refine⟨?_,rfl⟩;congr 2
set_option maxRecDepth 100000 in
set_option maxHeartbeats 1000000 in
theorem Ye (c:UInt8)(s:ByteArray)(w:World):Calls Tryz.prog 120 #[.string s,.string ⟨#[c]⟩] w λe w'=>e = .returned (.int .i64 (Lib.indexByte s.data.toList c))/\w'=w:=by
 go_enter Tryz.func120,Tryz.ntmps120
 go_wp2_with (go_at_call 147;refine(aip _ _ _).mono ?_;rintro e w' ⟨rfl,rfl⟩)
 go_ret
 exact⟨rfl,rfl⟩
inductive vJ (c:UInt8):ByteArray->List ByteArray->Prop
 |last (s:ByteArray) (h:Lib.indexByte s.data.toList c = -1):vJ c s [s]
 |cut (s:ByteArray) (i:Nat) (rest:List ByteArray) (h:Lib.indexByte s.data.toList c=i) (hi:i<s.size) (hr:vJ c (s.extract (i+1) s.size) rest):vJ c s (s.extract 0 i::rest)
theorem fF {W a:World}{b o:Nat}(h:a.heap[b]? = W.heap[b]?):a.cell? ⟨b,o,none⟩=W.cell? ⟨b,o,none⟩:=by
 unfold World.cell?;simp only[h]
theorem sD {W a:World}{b o:Nat}(h:a.heap[b]? = W.heap[b]?):a.frozen? ⟨b,o,none⟩=W.frozen? ⟨b,o,none⟩:=by
 unfold World.frozen?;simp only[h]
def leftOf (B:Nat)(w:World):Nat:=match w.cell? ⟨B,0,none⟩ with|some (.string s)=>s.size|_=>0
set_option maxRecDepth 100000 in
set_option maxHeartbeats 1000000 in
theorem NN (c:UInt8)(n:Nat)(hn:1<=n)(l Bs Bp Bv:Nat)(s0:ByteArray)(xs:List ByteArray)(hx:vJ c s0 xs)(hz:s0.size<=2000000)(J Jx:List ByteArray->World->Prop)
 (hJs:∀pre W v,J pre W->J pre (W.setCell ⟨Bs,0,none⟩ v)) (hne:Bp≠Bs) (hnv:Bv≠Bs)
 (hY:∀pre x W,J pre W->pre++[x] <+: xs->YieldAt Fence.wide (n-1) Tryz.prog l #[.string x] W λe W' =>
  (e = .returned (.bool true)/\J (pre++[x]) W'/\(W'.heap[Bs]? = W.heap[Bs]? /\ W'.heap[Bp]? = W.heap[Bp]? /\ W'.heap[Bv]? = W.heap[Bv]?))\/(e = .returned (.bool false)/\Jx (pre++[x]) W'))
 (W:World) (hs:W.cell? ⟨Bs,0,none⟩=some (.string s0)) (hfr:W.frozen? ⟨Bs,0,none⟩=false) (hp:W.cell? ⟨Bp,0,none⟩=some (.string ⟨#[c]⟩)) (hv:W.cell? ⟨Bv,0,none⟩=some (.int .i64 0)) (h0:J [] W) :
 CallsIn Fence.wide n Tryz.prog 118 #[.func (.yield l) #[] #[],.pointer (some ⟨Bp,0,none⟩),.pointer (some ⟨Bs,0,none⟩),.pointer (some ⟨Bv,0,none⟩)] W λe W' =>
  (∃v,e = .returned v)/\(J xs W'\/∃pre,pre <+: xs/\Jx pre W'):=by
 refine callsIn_of_wp Tryz.func118 rfl trivial ?_ rfl;simp only[Tryz.ntmps118,jI,aJ,bK,Nat.reduceAdd,Nat.reduceSub,mh,mj,oD,mV,cE,cB]
 gi_wp2
 gi_loopw [] (λwr=>∃(pre rest:List ByteArray) (s:ByteArray),xs=pre++rest/\vJ c s rest/\s.size<=2000000/\wr.cell? ⟨Bs,0,none⟩=some (.string s)/\wr.frozen? ⟨Bs,0,none⟩=false/\wr.cell? ⟨Bp,0,none⟩=some (.string ⟨#[c]⟩)/\wr.cell? ⟨Bv,0,none⟩=some (.int .i64 0)/\J pre wr)
  (λwr=>leftOf Bs wr)
 case atStart=>exact⟨[],xs,s0,rfl,hx,hz,hs,hfr,hp,hv,h0⟩
 case round =>
  obtain⟨pre,rest,s,hxs,hpt,hsz,hcs,hcf,hcp,hcv,hJ⟩:=hrel;cases hpt with
  |last _ h =>
   obtain⟨fn,tmps,assign,body,hy,hR⟩:=hY pre s wr hJ (by rw[hxs];exact List.prefix_refl _);have Yf:CallsIn Fence.wide (n-1) Tryz.prog 120 #[.string s,.string ⟨#[c]⟩] wr λe w'=>e = .returned (.int .i64 (-1))/\w'=wr:=by
    have:=callsIn_wide (n:=n-1) |>.2 (Ye c s wr);rwa[h]at this
   gi_wp2_with (refine⟨trivial,?_⟩;gi_at_call 120;refine Yf.mono ?_;rintro e w' ⟨rfl,rfl⟩)
   refine hR.mono ?_;rintro e W3 (⟨rfl,QI,_⟩|⟨rfl,aiq⟩)
   .gi_wp2
    go_end0
    exact⟨⟨_,rfl⟩,.inl (by rw[hxs];exact QI)⟩
   gi_wp2
   go_end0
   exact⟨⟨_,rfl⟩,.inr ⟨pre++[s],by rw[hxs];exact List.prefix_refl _,aiq⟩⟩
  |cut _ i rest h hi hr =>
   obtain⟨fn,tmps,assign,body,hy,hR⟩:=hY pre (s.extract 0 i) wr hJ ⟨rest,by rw[hxs];simp⟩;have Yf:CallsIn Fence.wide (n-1) Tryz.prog 120 #[.string s,.string ⟨#[c]⟩] wr λe w'=>e = .returned (.int .i64 (i:Int))/\w'=wr:=by
    have:=callsIn_wide (n:=n-1) |>.2 (Ye c s wr);rwa[h]at this
   gi_wp2_with (refine⟨trivial,?_⟩;gi_at_call 120;refine Yf.mono ?_;rintro e w' ⟨rfl,rfl⟩)
   refine hR.mono ?_;rintro e W3 (⟨rfl,QI,hk1,hk2,AE⟩|⟨rfl,aiq⟩)
   .have asv:W3.cell? ⟨Bs,0,none⟩=some (.string s):=(fF hk1).trans hcs;have asw:W3.frozen? ⟨Bs,0,none⟩=false:=(sD hk1).trans hcf;have asx:W3.cell? ⟨Bp,0,none⟩=some (.string ⟨#[c]⟩):=(fF hk2).trans hcp;have asy:W3.cell? ⟨Bv,0,none⟩=some (.int .i64 0):=(fF AE).trans hcv
    gi_wp2
    have awx:(s.extract (i+1) s.size).size=s.size-(i+1):=by simp[lF]
    have hc4:=World.cell?_setCell_same' W3 ⟨Bs,0,none⟩ (.string (s.extract (i+1) s.size)) (by rw[asv];rfl)
    go_roundw
    case rel =>
     refine⟨pre++[s.extract 0 i],rest,s.extract (i+1) s.size,by rw[hxs];simp,hr,by omega,hc4,by rw[World.frozen?_setCell];exact asw,?_,?_,hJs _ _ _ QI⟩
     .rw[World.cell?_setCell_other _ _ _ _ (by simp)];exact asx
     rw[World.cell?_setCell_other _ _ _ _ (by simp)];exact asy
    case measure =>
     unfold leftOf;rw[hc4,hcs];show (s.extract (i+1) s.size).size<s.size;omega
   gi_wp2
   refine bodyPost_ret (results_none rfl _ _ _) rfl ?_;exact⟨⟨_,rfl⟩,.inr ⟨pre++[s.extract 0 i],⟨rest,by rw[hxs];simp⟩,aiq⟩⟩
structure Lo (m Bs:Nat)(W W':World):Prop where
 os:W'.os=W.os
 tape:W'.tape=W.tape
 output:W'.output=W.output
 size:W.heap.size<=W'.heap.size
 block:∀k,k<m->k≠Bs->W'.heap[k]? = W.heap[k]?
theorem Lo.alloc {m Bs:Nat}(W:World)(o:Obj)(h:m<=W.heap.size):Lo m Bs W (W.alloc o):=by
 have:=(Below.refl m W).alloc h o;exact⟨this.os,this.tape,this.output,this.size,λk a _=>this.block k a⟩
theorem Lo.putObj {m Bs r:Nat}(W:World)(o:Obj)(h:m<=r):Lo m Bs W (W.putObj r o) :=
 ⟨rfl,rfl,rfl,by simp,λk a _=>World.putObj_heap_other (by omega)⟩
theorem dM (W:World)(b k:Nat)(v:Value)(h:k≠b):(W.setCell ⟨b,0,none⟩ v).heap[k]? = W.heap[k]? :=
 Below.heap_setCell _ _ _ k (λe=>h (by rw[e]))
theorem Lo.setCell {m Bs:Nat}(W:World)(v:Value):Lo m Bs W (W.setCell ⟨Bs,0,none⟩ v):=by
 have a:=(Below.refl 0 W).setCell (p:=⟨Bs,0,none⟩) (cJ _) v;exact⟨a.os,a.tape,a.output,a.size,λk _ b=>dM W Bs k v b⟩
def Yg (m Bs Bp Bv:Nat)(I b:List ByteArray->World->Prop)(xs:List ByteArray)(W:World):Exit->Act->World->Prop
 |.normal,_,a=>(∀r,r=m\/r=m+1\/r=Bs\/r=Bp\/r=Bv->a.heap[r]? = W.heap[r]?)/\I xs a
 |.ret,_,a=>(∀r,r=m\/r=m+1\/r=Bs\/r=Bp\/r=Bv->a.heap[r]? = W.heap[r]?)/\b xs a
 |_,_,_=>False
theorem CY {g:Operand}{p:Tmp}{assign body:Code}{Q:Exit->Act->World->Prop}{a:Act}{w:World}{n:Nat}(h2:2<=n){m Bs Bp Bv:Nat}(hm:w.heap.size=m)
 (hg:a.eval g = .func (.func 118) #[] #[.pointer (some ⟨Bp,0,none⟩),.pointer (some ⟨Bs,0,none⟩),.pointer (some ⟨Bv,0,none⟩)])
 (hBs:Bs<m) (hBp:Bp<m) (hBv:Bv<m) (hne:Bp≠Bs) (hnv:Bv≠Bs) {s0:ByteArray} {xs:List ByteArray} (hx:vJ 32 s0 xs) (hz:s0.size<=2000000)
 (hs:w.cell? ⟨Bs,0,none⟩=some (.string s0)) (hfr:w.frozen? ⟨Bs,0,none⟩=false) (hp:w.cell? ⟨Bp,0,none⟩=some (.string ⟨#[32]⟩)) (hv:w.cell? ⟨Bv,0,none⟩=some (.int .i64 0))
 (I Ix:List ByteArray->World->Prop) (hI:∀pre W W',Lo m Bs W W'->I pre W->I pre W') (hIx:∀pre W W',Lo m Bs W W'->Ix pre W->Ix pre W') (h0:I [] w) (a₁:ByteArray->Act)
 (hassign:∀(l:Nat) (x:ByteArray) (W:World) (K:Act->World->Prop),K (a₁ x) W ->
  assign.wpIn (Fence.wide.inRound l) (n-1-1) Tryz.prog (Exit.then K (λ_ _ _=>False)) { tmps:=((#[p]:Array Tmp).zip (#[.string x]:dW)).foldl (λt (p,v)=>t.setIfInBounds p v) a.tmps,defers:=[] } W)
 (hbody:∀(l:Nat) (pre:List ByteArray) (x:ByteArray) (W:World),I pre W->pre++[x] <+: xs->body.wpIn (Fence.wide.inRound l) (n-1-1) Tryz.prog (Yg m Bs Bp Bv I Ix (pre++[x]) W) (a₁ x) W)
 (hdone:∀(W:World),I xs W->W.heap[m]? = some (.deferred (some []))->Q .normal { a with defers:={ target:=.collected m,args := #[] }::a.defers } W)
 (hstop:∀(pre:List ByteArray) (W:World),pre <+: xs->Ix pre W->W.heap[m]? = some (.deferred (some []))->Code.ret.wpIn Fence.wide n Tryz.prog Q { a with defers:={ target:=.collected m,args := #[] }::a.defers } W) :
 (Code.rangeFunc g #[p] assign body).wpIn Fence.wide n Tryz.prog Q a w:=by
 subst hm;refine wpIn_rangeFunc ?_;intro fn hfn;obtain⟨rec,hrec⟩:∃rec:LoopState->Option Code->Loop,rec=λst pe=>{ state:=st,pending:=pe,fn,tmps:=a.tmps,params := #[p],assign,body,defers:=w.heap.size }:=⟨_,rfl⟩
 obtain⟨W1,D2⟩:∃W1,(w.alloc (.deferred (some []))).alloc (.loop (rec .ready none))=W1:=⟨_,rfl⟩;have hL1:W1.heap[w.heap.size+1]? = some (.loop (rec .ready none)):=by
  rw[<-D2];have:=World.alloc_heap_new (w.alloc (.deferred (some []))) (.loop (rec .ready none));rwa[World.size_alloc]at this
 have hK1:W1.heap[w.heap.size]? = some (.deferred (some [])):=by
  rw[<-D2];exact(Below.heap_alloc _ _ _ (by simp)).trans (World.alloc_heap_new w _)
 have hI1:I [] W1:=by
  rw[<-D2];exact hI _ _ _ (Lo.alloc _ _ (by simp)) (hI _ _ _ (Lo.alloc _ _ (aG _)) h0)
 have zq:Below w.heap.size w W1:=by rw[<-D2];exact((Below.refl _ w).alloc (aG _) _).alloc (by simp) _
 refine⟨w.heap.size+1,[{ target:=.collected w.heap.size,args := #[] }],W1,{ target:=.fn (.func 118) #[.pointer (some ⟨Bp,0,none⟩),.pointer (some ⟨Bs,0,none⟩),.pointer (some ⟨Bv,0,none⟩)],args := #[.func (.yield (w.heap.size+1)) #[] #[]] },W1,118,
  #[.func (.yield (w.heap.size+1)) #[] #[]] ++ #[.pointer (some ⟨Bp,0,none⟩),.pointer (some ⟨Bs,0,none⟩),.pointer (some ⟨Bv,0,none⟩)],W1,?_,?_,?_,?_,λ_=>by omega,?_⟩
 .rw[<-D2,hrec];exact run_enterLoop_outer _ _ _ _ _
 .simp only[resolve,hg];simp[go_sem]
 .intro f' _;trivial
 .simp[invoke,go_sem]
 refine(NN 32 (n-1) (by omega) (w.heap.size+1) Bs Bp Bv s0 xs hx hz
  (λpre W=>I pre W/\W.heap[w.heap.size+1]? = some (.loop (rec .ready none))/\W.heap[w.heap.size]? = some (.deferred (some [])))
  (λpre W=>Ix pre W/\W.heap[w.heap.size+1]? = some (.loop (rec .done (some .ret)))/\W.heap[w.heap.size]? = some (.deferred (some [])))
  (λpre W v hJ=>⟨hI _ _ _ (Lo.setCell W v) hJ.1,(dM W Bs _ v (by omega)).trans hJ.2.1,(dM W Bs _ v (by omega)).trans hJ.2.2⟩) hne hnv ?_ W1
  ((fF (zq.block _ hBs)).trans hs) ((sD (zq.block _ hBs)).trans hfr) ((fF (zq.block _ hBp)).trans hp) ((fF (zq.block _ hBv)).trans hv) ⟨hI1,hL1,hK1⟩).mono ?_
 .rintro pre x W ⟨hi,hl,hk⟩ hpx;have hlt:w.heap.size+1<W.heap.size:=(aF.1 hl).1;have hy:=run_yield (P:=Tryz.prog) (args := #[.string x]) hl (by rw[hrec];rfl);rw[hrec]at hy;refine⟨fn,_,assign,body,hy,roundIn_of_wpIn hfn (hassign _ x W _ ⟨_,run_beginRound hl (by rw[hrec]),?_⟩)⟩;have Ck:(W.putObj (w.heap.size+1) (.loop { rec .ready none with state:=.busy })).heap[w.heap.size+1]? = some (.loop { rec .ready none with state:=.busy }):=World.putObj_heap_same hlt;have hk2:∀r,r≠w.heap.size+1->(W.putObj (w.heap.size+1) (.loop { rec .ready none with state:=.busy })).heap[r]? = W.heap[r]? := λr hr=>World.putObj_heap_other hr
  refine wpIn_mono (hbody _ pre x _ (hI _ _ _ (Lo.putObj W _ (by omega)) hi) hpx) ?_;have fin:∀(jump:Option Code) (W3:World),(∀r,r=w.heap.size\/r=w.heap.size+1\/r=Bs\/r=Bp\/r=Bv->W3.heap[r]? = (W.putObj (w.heap.size+1) (.loop { rec .ready none with state:=.busy })).heap[r]?) ->
   (Instr.endRound (w.heap.size+1) jump).run Tryz.prog W3 = .ok (.bool jump.isNone) (W3.putObj (w.heap.size+1) (.loop (rec (if jump.isNone then .ready else .done) jump))) /\
   (W3.putObj (w.heap.size+1) (.loop (rec (if jump.isNone then .ready else .done) jump))).heap[w.heap.size+1]? = some (.loop (rec (if jump.isNone then .ready else .done) jump)) /\
   (∀r,r=w.heap.size\/r=Bs\/r=Bp\/r=Bv->(W3.putObj (w.heap.size+1) (.loop (rec (if jump.isNone then .ready else .done) jump))).heap[r]? = W.heap[r]?):=λjump W3 AE=>by
   have hl3:=(AE _ (.inr (.inl rfl))).trans Ck;have:=run_endRound (P:=Tryz.prog) jump hl3;rw[hrec]at this ⊢;refine⟨this,World.putObj_heap_same (aF.1 hl3).1,λr hr=>?_⟩;have FP:r≠w.heap.size+1:=by omega
   rw[World.putObj_heap_other FP,AE r (by omega),hk2 r FP]
  rintro e a3 W3 Va;cases e with
  |normal =>
   obtain⟨AE,hi3⟩:=Va;obtain⟨hr,hl4,HL⟩:=fin none W3 AE;exact⟨_,_,hr,.inl ⟨rfl,⟨hI _ _ _ (Lo.putObj W3 _ (by omega)) hi3,hl4,(HL _ (.inl rfl)).trans hk⟩,HL _ (.inr (.inl rfl)),HL _ (.inr (.inr (.inl rfl))),HL _ (.inr (.inr (.inr rfl)))⟩⟩
  |ret =>
   obtain⟨AE,hi3⟩:=Va;obtain⟨hr,hl4,HL⟩:=fin (some .ret) W3 AE;exact⟨_,_,hr,.inr ⟨rfl,hIx _ _ _ (Lo.putObj W3 _ (by omega)) hi3,hl4,(HL _ (.inl rfl)).trans hk⟩⟩
  |exit id=>exact Va.elim
  |goto t=>exact Va.elim
  |panic ch=>exact Va.elim
  |outgrown=>exact Va.elim
 rintro e W2 ⟨⟨v,rfl⟩,(⟨hi,hl,hk⟩|⟨pre,hpre,hi,hl,hk⟩)⟩
 .exact ⟨none,_,by have:=run_endLoop (P:=Tryz.prog) hl (by rw[hrec];simp);rw[hrec]at this;exact this,hdone _ (hI _ _ _ (Lo.putObj W2 _ (by omega)) hi) ((World.putObj_heap_other (by omega)).trans hk)⟩
 exact⟨some .ret,_,by have:=run_endLoop (P:=Tryz.prog) hl (by rw[hrec];simp);rw[hrec]at this;exact this,hstop pre _ hpre (hIx _ _ _ (Lo.putObj W2 _ (by omega)) hi) ((World.putObj_heap_other (by omega)).trans hk)⟩
end Go.Proofs.YtbeckacfibledaaGreatDoor.nm
namespace Go.Proofs.YtbeckacfibledaaGreatDoor.nm
open Go.RowKit Go.Shelf Go.Lib
attribute [local go_sem] Oper.semAt_some
set_option maxRecDepth 100000 in
set_option maxHeartbeats 1000000 in
theorem call101 (s t:ByteArray)(w:World):Calls Tryz.prog 78 #[.string s,.string t,.int .i64 0] w λe w'=>e = .returned (.func (.func 118) #[] #[.pointer (some ⟨w.heap.size+1,0,none⟩),.pointer (some ⟨w.heap.size,0,none⟩),.pointer (some ⟨w.heap.size+2,0,none⟩)]) /\
 w'=((w.alloc (.cells #[.string s] 9)).alloc (.cells #[.string t] 9)).alloc (.cells #[.int .i64 0] 3):=by
 go_enter Tryz.func78,Tryz.ntmps78
 go_wp2
 go_ret
 exact⟨rfl,rfl⟩
set_option maxRecDepth 100000 in
set_option maxHeartbeats 1000000 in
theorem call69 (s t:ByteArray)(w:World):Calls Tryz.prog 41 #[.string s,.string t] w λe w'=>e = .returned (.func (.func 118) #[] #[.pointer (some ⟨w.heap.size+1,0,none⟩),.pointer (some ⟨w.heap.size,0,none⟩),.pointer (some ⟨w.heap.size+2,0,none⟩)]) /\
 w'=((w.alloc (.cells #[.string s] 9)).alloc (.cells #[.string t] 9)).alloc (.cells #[.int .i64 0] 3):=by
 go_enter Tryz.func41,Tryz.ntmps41
 go_wp2_with (go_at_call 78;refine(call101 _ _ _).mono ?_;rintro e w' ⟨rfl,rfl⟩)
 go_ret
 exact⟨rfl,rfl⟩
theorem sF {fn:Func}{p q:Tmp}{ty tz:TypeId}(h:fn.results = #[.cell p ty,.cell q tz]){P:Program}{w:World}{tmps:dW}{a b:Addr}{v u:Value}(ha:∀w,(isAgg ty).run P w = .ok false w)(hb:∀w,(isAgg tz).run P w = .ok false w)
 (hp:tmps.getD p undef = .pointer (some a)) (hq:tmps.getD q undef = .pointer (some b)) (hc:w.cell? a=some v) (hd:w.cell? b=some u) :
 (results fn tmps).run P w = .ok (.tuple #[v,u]) w:=by
 have hp':tmps[p]?.getD undef = .pointer (some a):=by simpa using hp
 have hq':tmps[q]?.getD undef = .pointer (some b):=by simpa using hq
 simp[results,h,go_sem,hp',hc,ha,hb,hq',hd]
def Var (W:World)(b:Nat)(v:Value):Prop:=W.cell? ⟨b,0,none⟩=some v/\W.frozen? ⟨b,0,none⟩=false
theorem Var.new (W:World)(v:Value)(t:TypeId):Var (W.alloc (.cells #[v] t)) W.heap.size v:=by
 have h:=World.alloc_heap_new W (.cells #[v] t);constructor
 .unfold World.cell?;simp only[h];rfl
 unfold World.frozen?;simp only[h];rfl
theorem Var.heap {W a:World}{b:Nat}{v:Value}(h:Var W b v)(e:a.heap[b]? = W.heap[b]?):Var a b v:=⟨(fF e).trans h.1,(sD e).trans h.2⟩
theorem Var.lt {W:World}{b:Nat}{v:Value}(h:Var W b v):b<W.heap.size:=World.block_lt_of_cell? _ _ h.1
theorem Var.alloc {W:World}{b:Nat}{v:Value}(h:Var W b v)(o:Obj):Var (W.alloc o) b v:=h.heap (Below.heap_alloc _ _ _ h.lt)
theorem Var.set {W:World}{b:Nat}{v:Value}(h:Var W b v)(u:Value):Var (W.setCell ⟨b,0,none⟩ u) b u:=⟨World.cell?_setCell_same' _ _ _ (by rw[h.1];rfl),by rw[World.frozen?_setCell];exact h.2⟩
theorem Var.other {W:World}{b c:Nat}{v:Value}(h:Var W b v)(a:b≠c)(u:Value):Var (W.setCell ⟨c,0,none⟩ u) b v:=h.heap (dM W c b u a)
theorem Lo.var {m Bs b:Nat}{W a:World}{v:Value}(h:Lo m Bs W a)(c:Var W b v)(d:b<m)(e:b≠Bs):Var a b v:=c.heap (h.block b d e)
theorem Lo.below {m Bs B:Nat}{w W b:World}(h:Lo m Bs W b)(a:Below B w W)(d:B<=m)(e:B<=Bs):Below B w b :=
 ⟨h.os.trans a.os,h.tape.trans a.tape,h.output.trans a.output,bA a.size h.size,λk c=>(h.block k (by omega) (by omega)).trans (a.block k c)⟩
def dV:au->cA
 |[]=>[[]]
 |c::r=>if c=32 then []::dV r else match dV r with
  |p::ps=>(c::p)::ps
  |[]=>[[c]]
theorem qI:∀l,dV l≠[]
 |[]=>by simp[dV]
 |c::r=>by
  rw[dV];split
  .simp
  split<;>simp
theorem ud:∀l:au,(Lib.indexByte l 32 = -1/\dV l=[l])\/∃o:Nat,Lib.indexByte l 32=o/\o<l.length/\dV l=l.take o::dV (l.drop (o+1))
 |[]=>.inl ⟨rfl,rfl⟩
 |c::r=>by
  rw[Lib.indexByte,dV];by_cases a:c=32
  .subst a;exact .inr ⟨0,by simp,by simp,by simp⟩
  rw[aa (by simpa using a),aa a];rcases ud r with⟨b,d⟩|⟨o,b,d,e⟩
  .left
   rw[b,d];exact⟨rfl,rfl⟩
  right
  refine⟨o+1,?_,by simp;omega,?_⟩
  .rw[b,aa (by simp)];rfl
  rw[e];simp
abbrev xy (l:au):ByteArray:=⟨l.toArray⟩
theorem extract_mk (l:au)(a b:Nat):(xy l).extract a b=xy ((l.take b).drop a):=by
 apply ByteArray.ext;apply kN;simp[lM]
theorem yc:∀(n:Nat) (l:au),l.length<n->vJ 32 (xy l) ((dV l).map xy)
 |0,l,h=>absurd h (ql _)
 |n+1,l,h=>by
  rcases ud l with⟨a,b⟩|⟨o,a,b,c⟩
  .rw[b];exact .last _ (by simpa using a)
  rw[c,dH];have d:xy (l.take o)=(xy l).extract 0 o:=by rw[extract_mk];simp
  have e2:xy (l.drop (o+1))=(xy l).extract (o+1) (xy l).size:=by rw[extract_mk];simp[ByteArray.size,cz]
  rw[d];refine .cut _ o _ (by simpa using a) (by simpa[ByteArray.size] using b) ?_;rw[<-e2];exact yc n _ (by rw[bB];omega)
noncomputable def kJ (a:cA)(b:au):au->cA
 |[]=>(b.reverse::a).reverse
 |c::r=>Ev.ah (Nat.beq c.toNat 32) (kJ (b.reverse::a) [] r) (kJ a (c::b) r)
theorem qJ:∀(l:au) (a:cA) (b:au),kJ a b l=a.reverse++(match dV l with|p::ps=>(b.reverse++p)::ps | []=>[])
 |[],a,b=>by simp[kJ,dV]
 |c::r,a,b=>by
  rw[kJ,Ev.ay,dV,qJ r,qJ r];have d:=qI r;by_cases e:c=32
  .subst e;rw[ag (by decide),ag rfl];cases f:dV r with
   |nil=>exact absurd f d
   |cons p ps=>simp
  rw[aa (by simp only[aQ];intro h;exact e (lp.1 h)),aa e];cases f:dV r with
  |nil=>exact absurd f d
  |cons p ps=>simp
theorem yd (l:au):kJ [] [] l=dV l:=by
 rw[qJ];cases a:dV l with
 |nil=>exact absurd a (qI l)
 |cons p ps=>simp
def K4:List Oper->Option ByteArray
 |[]=>none
 |o::l=>match o.op with
  |.call c=>match c.args.toList with
   |[.const (.string s),.const (.string _)]=>some s
   |_=>K4 l
  |_=>K4 l
def QJ:Option ByteArray->Option ByteArray->Option ByteArray
 |some s,_=>some s
 |none,r=>r
noncomputable def ait (c:Code):Option ByteArray :=
 Code.rec (motive:=λ_=>Option ByteArray) none (λ_ ops _=>K4 ops.toList) (λ_ _ x y=>QJ x y) (λ_ _ _ x y=>QJ x y) (λ_ _ b=>b) (λ_ b=>b)
  (λ_ _ _ _ x y=>QJ x y) (λ_=>none) (λ_ b=>b) (λ_=>none) (λ_=>none) none (λ_=>none) c
noncomputable def oM:ByteArray:=match Tryz.f38.body with|some c=>(ait c).getD .empty|none=>.empty
noncomputable def fJ:cA:=kJ [] [] oM.data.toList
theorem wQ (s:ByteArray):vJ 32 s ((kJ [] [] s.data.toList).map xy):=by
 have h:=yc (s.data.toList.length+1) s.data.toList (Nat.lt_succ_self _);rw[yd];have e:xy s.data.toList=s:=by obtain⟨d⟩:=s;simp
 rw[e]at h;exact h
theorem Yh:vJ 32 oM (fJ.map xy):=wQ oM
theorem ac1:fJ.length=322:=by kernel_rfl
noncomputable def xl (l:au):Nat->Nat:=List.rec (motive:=λ_=>Nat->Nat) (λn=>n) (λ_ _ go n=>go (Nat.add n 1)) l
theorem K5:∀(l:au) (n:Nat),xl l n=n+l.length
 |[],n=>rfl
 |c::r,n=>by
  show xl r (n+1)=_;rw[K5 r];simp;omega
theorem aiu:Nat.ble (xl oM.data.toList 0) 2000000=true:=by kernel_rfl
theorem S7 (s:ByteArray)(h:Nat.ble (xl s.data.toList 0) 2000000=true):s.size<=2000000:=by
 have:=aB h;rw[K5,cj]at this;exact this
theorem ac2:oM.size<=2000000:=S7 oM aiu
theorem ac3 (s:ByteArray)(a:s=oM)(w:World):Calls Tryz.prog 41 #[.string s,.string ⟨#[32]⟩] w λe w'=>e = .returned (.func (.func 118) #[] #[.pointer (some ⟨w.heap.size+1,0,none⟩),.pointer (some ⟨w.heap.size,0,none⟩),.pointer (some ⟨w.heap.size+2,0,none⟩)]) /\
 w'=((w.alloc (.cells #[.string oM] 9)).alloc (.cells #[.string ⟨#[32]⟩] 9)).alloc (.cells #[.int .i64 0] 3):=by
 subst a;exact call69 _ _ _
end Go.Proofs.YtbeckacfibledaaGreatDoor.nm
namespace Go.Proofs.YtbeckacfibledaaGreatDoor.nm
open Go.Tv Go.Ev
noncomputable section
def X1:ji:={ P:=Tryz.prog,G:=0,gv:=λ_=>[] }
def gC:fe:=⟨.none,.none,[]⟩
def K0:Wu:=λ_=>none
def inl:FuncId->Bool:=λ_=>true
def e0 (β:Type):dz β:=uc X1 K0 inl 200 β 40
theorem Yi (β:Type):dO X1 (eM X1 rX) (e0 β):=mM (by intro id s g h;cases h) (λ_ _ _=>rfl) 200 40 β
theorem nk (f:FuncId)(args:aW):rX f args=none:=rfl
theorem j6:Ev.j6 Tryz.prog:=Ev.Na (by kernel_rfl)
theorem mixed:Tryz.prog.follows .mixedOrders=true:=by kernel_rfl
theorem Yj (w:World):gi X1 (wO w):=λg a _=>absurd a (ql g)
def Yk:List (au×Int):=[([111],0),([110,111],1),([98],2),([99],2),([110,97,101],2),([97,101],3),([110,98],3),([110,99],3),([101],4),([122],4),([110,101],5),([110,122],5),([98,101],6),([110,97],6),([97],7),([110,98,101],7),
 ([115],8),([110,115],9),([112],10),([112,101],10),([110,112],11),([112,111],11),([108],12),([110,103,101],12),([103,101],13),([110,108],13),([108,101],14),([110,103],14),([103],15),([110,108,101],15)]
def Yl (s:au)(l:List (au×Int)):bx :=
 List.rec (motive:=λ_=>bx) (some (.gI [.int .i64 0,.bool false])) (λq _ r=>ah (decide (q.1=s)) (some (.gI [.int .i64 q.2,.bool true])) r) l
def BO (s:au):List (au×Int)->Int×Bool
 |[]=>(0,false)
 |q::l=>if q.1=s then (q.2,true) else BO s l
def vK (s:au):Int×Bool:=BO s Yk
theorem aiv (s:au):aT X1 (e0 AV) gC 200 76 [.str s] aH.empty (λv _=>some v)=Yl s Yk:=by kernel_rfl
theorem NT (s:au):∀l,Yl s l=some (.gI [.int .i64 (BO s l).1,.bool (BO s l).2])
 |[]=>rfl
 |q::l=>by
  show ah (decide (q.1=s)) (some (.gI [.int .i64 q.2,.bool true])) (Yl s l)=_;rw[ay,BO,NT s l];by_cases h:q.1=s
  .simp[h]
  simp[h]
theorem AF (w:World)(a:ByteArray):VR (wO w) (.str a.data.toList) (.string a):=by
 have h:=VR.str (S:=wO w) a.data.toList;have e:(⟨a.data.toList.toArray⟩:ByteArray)=a:=by obtain⟨d⟩:=a;simp
 rw[e]at h;exact h
theorem NU {S:Wo}{a b:AV}{c d:Value}(f:∀x,VR S a x->x=c)(g:∀x,VR S b x->x=d){v:Value}(h:VR S (.gI [a,b]) v):v = .tuple #[c,d]:=by
 cases h with
 |gI l m i e =>
  match m,i with
  |[x,y],_ =>
   rw[f x (e 0 a x rfl rfl),g y (e 1 b y rfl rfl)]
theorem ac4 (s:ByteArray)(w:World):Calls Tryz.prog 76 #[.string s] w λe w'=>e = .returned (.tuple #[.int .i64 (vK s.data.toList).1,.bool (vK s.data.toList).2])/\RowKit.Below w.heap.size w w' :=
 KX (X:=X1) j6 mixed wF (v:=.gI [.int .i64 (vK s.data.toList).1,.bool (vK s.data.toList).2]) (λS x a=>NU (λ_ h=>h.gW) (λ_ h=>h.nO) a) rfl
  (λS E b c d f=>BN (nk 76) Yi ((aiv s.data.toList).trans (NT _ _)) S E b c d f) (cJ _) (Yj w) (args':=[.string s]) (LV.cons (AF w s) LV.nil) rfl
def ye (s p:au):au×Bool:=if s.take p.length=p then (s.drop p.length,true) else (s,false)
theorem aiw (s p:au):aT X1 (e0 AV) gC 200 75 [.str s,.str p] aH.empty (λv _=>some v) =
 ah (!bN ↑s.length ↑p.length) (ah (!bN ↑p.length 0 && !bN (Int.ofNat s.length) ↑p.length) (ah (!decide (dZ s 0 ↑p.length=p)) (some (.gI [.str s,.bool false]))
  (ah (!bN ↑p.length 0 && !bN (Int.ofNat s.length) ↑p.length) (some (.gI [.str (dZ s ↑p.length ↑s.length),.bool true])) none)) none) (some (.gI [.str s,.bool false])):=by kernel_rfl
theorem anW (s p:au):aT X1 (e0 AV) gC 200 75 [.str s,.str p] aH.empty (λv _=>some v)=some (.gI [.str (ye s p).1,.bool (ye s p).2]):=by
 rw[aiw];unfold ye;by_cases h:s.length<p.length
 .rw[rC (by omega),aa (λe=>by have:=bO List.length e;simp at this;omega)];rfl
 rw[gB (by omega),gB (a:=(p.length:Int)) (b:=0) (by omega),gB (a:=Int.ofNat s.length) (by simp;omega)];have d:dZ s 0 (p.length:Int)=s.take p.length:=by unfold dZ;simp
 have e2:dZ s (p.length:Int) (s.length:Int)=s.drop p.length:=by
  unfold dZ;simp only[bf];rw[cz (by rw[bB];omega)]
 rw[d,e2];by_cases c:s.take p.length=p
 .rw[ag c,bg c];rfl
 rw[aa c,aY c];rfl
theorem ac5 (s p:ByteArray)(w:World):Calls Tryz.prog 75 #[.string s,.string p] w λe w'=>e = .returned (.tuple #[.string (xy (ye s.data.toList p.data.toList).1),.bool (ye s.data.toList p.data.toList).2])/\RowKit.Below w.heap.size w w' :=
 KX (X:=X1) j6 mixed wF (v:=.gI [.str (ye s.data.toList p.data.toList).1,.bool (ye s.data.toList p.data.toList).2]) (λS x a=>NU (λ_ h=>h.kH) (λ_ h=>h.nO) a) rfl
  (λS E b c d f=>BN (nk 75) Yi (anW s.data.toList p.data.toList) S E b c d f) (cJ _) (Yj w) (args':=[.string s,.string p]) (LV.cons (AF w s) (LV.cons (AF w p) LV.nil)) rfl
end
end Go.Proofs.YtbeckacfibledaaGreatDoor.nm
