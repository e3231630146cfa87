/- A range over strings.SplitSeq: the law for a loop's body that reads and writes cells of its own. name.Name: the contract. cond.Parse, strings.CutPrefix, by runs of the symbolic layer. -/
import Derived.RangeFuncNested
import Derived.RangeFuncBound
import Derived.RangeFuncCalls
import Derived.RangeFuncLeaves
import Derived.Shelf.Abstract
import Derived.WalkKit
import Derived.OwnWalkIn
import Derived.TacticsInMore
import Derived.LoopNIn
import Derived.LoopIn
import Derived.Lib.Bytealg
import Derived.Test.YtpaddkkfefgkfaaGreatDoorRows
import Derived.Lib.IndexLaws
import Derived.Test.YtpaddkkfefgkfaaGreatDoorLyg
set_option linter.unusedVariables false
set_option linter.unusedSimpArgs false

namespace Go.Proofs.YtpaddkkfefgkfaaGreatDoor.nm
open Go.RowKit Go.Shelf Go.Lib
set_option maxRecDepth 100000 in
set_option maxHeartbeats 1000000 in
theorem Ya (s:ByteArray) (c:Int) (w:World):Calls Tryz.prog 188 #[.string s,.int .u8 c] w λe w'=>e = .returned (.int .i64 (Lib.indexByte s.data.toList c.toNat.toUInt8))/\w'=w:=by
 go_enter Tryz.func188,Tryz.ntmps188
 go_wp2
 rw[run_callFunc_extern Tryz.func203 (by kernel_rfl) (by kernel_rfl) (by kernel_rfl) (e:=Extern.BytealgIndexByte.indexByte) (by kernel_rfl),Lib.run_indexByteString]
 simp only[Result.andThen]
 rw[Oper.upon_value]
 go_wp2
 go_ret
 exact ⟨rfl,rfl⟩
set_option maxRecDepth 100000 in
set_option maxHeartbeats 1000000 in
theorem Yb (s:ByteArray) (w:World):Calls Tryz.prog 162 #[.string s,.string ⟨#[32]⟩] w λe w'=>e = .returned (.int .i64 (Lib.indexByte s.data.toList 32))/\w'=w:=by
 go_enter Tryz.func162,Tryz.ntmps162
 go_wp2_with (go_at_call 188;refine (Ya _ _ _).mono ?_;rintro e w' ⟨rfl,rfl⟩)
 .
  rename_i h
  go_ret
  have hs:s.data.toList=[32]:=by
   have:=eq_of_beq h;rw[ByteArray.toList_eq] at this;exact this.symm
  refine ⟨?_,rfl⟩;rw[hs];rfl
 go_ret
 exact ⟨rfl,rfl⟩
set_option maxRecDepth 100000 in
set_option maxHeartbeats 1000000 in
theorem Pm (s:ByteArray) (w:World):Calls Tryz.prog 128 #[.string s,.string ⟨#[32]⟩] w λe w'=>e = .returned (.int .i64 (Lib.indexByte s.data.toList 32))/\w'=w:=by
 go_enter Tryz.func128,Tryz.ntmps128
 go_wp2_with (go_at_call 162;refine (Yb _ _).mono ?_;rintro e w' ⟨rfl,rfl⟩)
 go_ret
 exact ⟨rfl,rfl⟩
inductive ug:ByteArray->List ByteArray->Prop
 |last (s:ByteArray) (h:Lib.indexByte s.data.toList 32 = -1):ug s [s]
 |cut (s:ByteArray) (i:Nat) (rest:List ByteArray) (h:Lib.indexByte s.data.toList 32=i) (hi:i<s.size) (hr:ug (s.extract (i+1) s.size) rest):ug s (s.extract 0 i::rest)
theorem fI {W W':World} {b o:Nat} (h:W'.heap[b]? = W.heap[b]?):W'.cell? ⟨b,o,none⟩=W.cell? ⟨b,o,none⟩:=by
 unfold World.cell?;simp only[h]
theorem qh {W W':World} {b o:Nat} (h:W'.heap[b]? = W.heap[b]?):W'.frozen? ⟨b,o,none⟩=W.frozen? ⟨b,o,none⟩:=by
 unfold World.frozen?;simp only[h]
def leftOf (B:Nat) (w:World):Nat:=match w.cell? ⟨B,0,none⟩ with|some (.string s)=>s.size|_=>0
set_option maxRecDepth 100000 in
set_option maxHeartbeats 1000000 in
theorem Pn (n:Nat) (hn:1<=n) (l Bs Bp Bv:Nat) (s0:ByteArray) (xs:List ByteArray) (hx:ug s0 xs) (hz:s0.size<=1000000) (J Jx:List ByteArray->World->Prop)
 (hJs:∀pre W v,J pre W->J pre (W.setCell ⟨Bs,0,none⟩ v)) (hne:Bp≠Bs) (hnv:Bv≠Bs)
 (hY:∀pre x W,J pre W->pre++[x] <+: xs->YieldAt Fence.wide (n-1) Tryz.prog l #[.string x] W λe W' =>
  (e = .returned (.bool true)/\J (pre++[x]) W'/\(W'.heap[Bs]? = W.heap[Bs]? /\ W'.heap[Bp]? = W.heap[Bp]? /\ W'.heap[Bv]? = W.heap[Bv]?))\/(e = .returned (.bool false)/\Jx (pre++[x]) W'))
 (W:World) (hs:W.cell? ⟨Bs,0,none⟩=some (.string s0)) (hfr:W.frozen? ⟨Bs,0,none⟩=false) (hp:W.cell? ⟨Bp,0,none⟩=some (.string ⟨#[32]⟩)) (hv:W.cell? ⟨Bv,0,none⟩=some (.int .i64 0)) (h0:J [] W) :
 CallsIn Fence.wide n Tryz.prog 126 #[.func (.yield l) #[] #[],.pointer (some ⟨Bp,0,none⟩),.pointer (some ⟨Bs,0,none⟩),.pointer (some ⟨Bv,0,none⟩)] W λe W' =>
  (∃v,e = .returned v)/\(J xs W'\/∃pre,pre <+: xs/\Jx pre W'):=by
 refine callsIn_of_wp Tryz.func126 rfl trivial ?_ rfl
 simp only[Tryz.ntmps126,List.size_toArray,List.length_cons,List.length_nil,Nat.reduceAdd,Nat.reduceSub,Array.replicate_succ,Array.replicate_zero,List.push_toArray,List.append_toArray,List.nil_append,List.cons_append]
 gi_wp2
 gi_loopw [] (λwr=>∃(pre rest:List ByteArray) (s:ByteArray),xs=pre++rest/\ug s rest/\s.size<=1000000/\wr.cell? ⟨Bs,0,none⟩=some (.string s)/\wr.frozen? ⟨Bs,0,none⟩=false/\wr.cell? ⟨Bp,0,none⟩=some (.string ⟨#[32]⟩)/\wr.cell? ⟨Bv,0,none⟩=some (.int .i64 0)/\J pre wr)
  (λwr=>leftOf Bs wr)
 case atStart=>exact ⟨[],xs,s0,rfl,hx,hz,hs,hfr,hp,hv,h0⟩
 case round =>
  obtain ⟨pre,rest,s,hxs,hpt,hsz,hcs,hcf,hcp,hcv,hJ⟩:=hrel;cases hpt with
  |
   last _ h =>
   obtain ⟨fn,tmps,assign,body,hy,hR⟩:=hY pre s wr hJ (by rw[hxs];exact List.prefix_refl _)
   have Po:CallsIn Fence.wide (n-1) Tryz.prog 128 #[.string s,.string ⟨#[32]⟩] wr λe w'=>e = .returned (.int .i64 (-1))/\w'=wr:=by
    have:=callsIn_wide (n:=n-1) |>.2 (Pm s wr);rwa[h] at this
   gi_wp2_with (refine ⟨trivial,?_⟩;gi_at_call 128;refine Po.mono ?_;rintro e w' ⟨rfl,rfl⟩)
   refine hR.mono ?_;rintro e W3 (⟨rfl,hJ3,_⟩|⟨rfl,Yc⟩)
   .
    gi_wp2
    go_end0
    exact ⟨⟨_,rfl⟩,.inl (by rw[hxs];exact hJ3)⟩
   gi_wp2
   go_end0
   exact ⟨⟨_,rfl⟩,.inr ⟨pre++[s],by rw[hxs];exact List.prefix_refl _,Yc⟩⟩
  |
   cut _ i rest h hi hr =>
   obtain ⟨fn,tmps,assign,body,hy,hR⟩:=hY pre (s.extract 0 i) wr hJ ⟨rest,by rw[hxs];simp⟩
   have Po:CallsIn Fence.wide (n-1) Tryz.prog 128 #[.string s,.string ⟨#[32]⟩] wr λe w'=>e = .returned (.int .i64 (i:Int))/\w'=wr:=by
    have:=callsIn_wide (n:=n-1) |>.2 (Pm s wr);rwa[h] at this
   gi_wp2_with (refine ⟨trivial,?_⟩;gi_at_call 128;refine Po.mono ?_;rintro e w' ⟨rfl,rfl⟩)
   refine hR.mono ?_;rintro e W3 (⟨rfl,hJ3,hk1,hk2,SF⟩|⟨rfl,Yc⟩)
   .
    have agS:W3.cell? ⟨Bs,0,none⟩=some (.string s):=(fI hk1).trans hcs;have agT:W3.frozen? ⟨Bs,0,none⟩=false:=(qh hk1).trans hcf;have agU:W3.cell? ⟨Bp,0,none⟩=some (.string ⟨#[32]⟩):=(fI hk2).trans hcp;have agV:W3.cell? ⟨Bv,0,none⟩=some (.int .i64 0):=(fI SF).trans hcv
    gi_wp2
    have akz:(s.extract (i+1) s.size).size=s.size-(i+1):=by simp[ByteArray.size_extract]
    have hc4:=World.cell?_setCell_same' W3 ⟨Bs,0,none⟩ (.string (s.extract (i+1) s.size)) (by rw[agS];rfl)
    go_roundw
    case rel =>
     refine ⟨pre++[s.extract 0 i],rest,s.extract (i+1) s.size,by rw[hxs];simp,hr,by omega,hc4,by rw[World.frozen?_setCell];exact agT,?_,?_,hJs _ _ _ hJ3⟩
     .
      rw[World.cell?_setCell_other _ _ _ _ (by simp)];exact agU
     rw[World.cell?_setCell_other _ _ _ _ (by simp)];exact agV
    case measure =>
     unfold leftOf;rw[hc4,hcs];show (s.extract (i+1) s.size).size<s.size;omega
   gi_wp2
   refine bodyPost_ret (results_none rfl _ _ _) rfl ?_;exact ⟨⟨_,rfl⟩,.inr ⟨pre++[s.extract 0 i],⟨rest,by rw[hxs];simp⟩,Yc⟩⟩
end Go.Proofs.YtpaddkkfefgkfaaGreatDoor.nm

namespace Go.Proofs.YtpaddkkfefgkfaaGreatDoor.nm
open Go.RowKit Go.Shelf Go.Lib
structure Lo (m Bs:Nat) (W W':World):Prop where
 os:W'.os=W.os
 tape:W'.tape=W.tape
 output:W'.output=W.output
 size:W.heap.size<=W'.heap.size
 block:∀k,k<m->k≠Bs->W'.heap[k]? = W.heap[k]?
theorem Lo.alloc {m Bs:Nat} (W:World) (o:Obj) (h:m<=W.heap.size):Lo m Bs W (W.alloc o):=by
 have:=(Below.refl m W).alloc h o
 exact ⟨this.os,this.tape,this.output,this.size,λk hk _=>this.block k hk⟩
theorem Lo.putObj {m Bs r:Nat} (W:World) (o:Obj) (h:m<=r):Lo m Bs W (W.putObj r o) :=
 ⟨rfl,rfl,rfl,by simp,λk hk _=>World.putObj_heap_other (by omega)⟩
theorem aR (W:World) (b k:Nat) (v:Value) (h:k≠b):(W.setCell ⟨b,0,none⟩ v).heap[k]? = W.heap[k]? :=
 Below.heap_setCell _ _ _ k (λe=>h (by rw[e]))
theorem Lo.setCell {m Bs:Nat} (W:World) (v:Value):Lo m Bs W (W.setCell ⟨Bs,0,none⟩ v):=by
 have hb:=(Below.refl 0 W).setCell (p:=⟨Bs,0,none⟩) (Nat.zero_le _) v
 exact ⟨hb.os,hb.tape,hb.output,hb.size,λk _ hk=>aR W Bs k v hk⟩
def acO (m Bs Bp Bv:Nat) (I Ix:List ByteArray->World->Prop) (xs:List ByteArray) (W:World):Exit->Act->World->Prop
 |.normal,_,W'=>(∀r,r=m\/r=m+1\/r=Bs\/r=Bp\/r=Bv->W'.heap[r]? = W.heap[r]?)/\I xs W'
 |.ret,_,W'=>(∀r,r=m\/r=m+1\/r=Bs\/r=Bp\/r=Bv->W'.heap[r]? = W.heap[r]?)/\Ix xs W'
 |_,_,_=>False
theorem B8 {g:Operand} {p:Tmp} {assign body:Code} {Q:Exit->Act->World->Prop} {a:Act} {w:World} {n:Nat} (h2:2<=n) {m Bs Bp Bv:Nat} (hm:w.heap.size=m)
 (hg:a.eval g = .func (.func 126) #[] #[.pointer (some ⟨Bp,0,none⟩),.pointer (some ⟨Bs,0,none⟩),.pointer (some ⟨Bv,0,none⟩)])
 (hBs:Bs<m) (hBp:Bp<m) (hBv:Bv<m) (hne:Bp≠Bs) (hnv:Bv≠Bs) {s0:ByteArray} {xs:List ByteArray} (hx:ug s0 xs) (hz:s0.size<=1000000)
 (hs:w.cell? ⟨Bs,0,none⟩=some (.string s0)) (hfr:w.frozen? ⟨Bs,0,none⟩=false) (hp:w.cell? ⟨Bp,0,none⟩=some (.string ⟨#[32]⟩)) (hv:w.cell? ⟨Bv,0,none⟩=some (.int .i64 0))
 (I Ix:List ByteArray->World->Prop) (hI:∀pre W W',Lo m Bs W W'->I pre W->I pre W') (hIx:∀pre W W',Lo m Bs W W'->Ix pre W->Ix pre W') (h0:I [] w) (a₁:ByteArray->Act)
 (hassign:∀(l:Nat) (x:ByteArray) (W:World) (K:Act->World->Prop),K (a₁ x) W ->
  assign.wpIn (Fence.wide.inRound l) (n-1-1) Tryz.prog (Exit.then K (λ_ _ _=>False)) { tmps:=((#[p]:Array Tmp).zip (#[.string x]:Array Value)).foldl (λt (p,v)=>t.setIfInBounds p v) a.tmps,defers:=[] } W)
 (hbody:∀(l:Nat) (pre:List ByteArray) (x:ByteArray) (W:World),I pre W->pre++[x] <+: xs->body.wpIn (Fence.wide.inRound l) (n-1-1) Tryz.prog (acO m Bs Bp Bv I Ix (pre++[x]) W) (a₁ x) W)
 (hdone:∀(W:World),I xs W->W.heap[m]? = some (.deferred (some []))->Q .normal { a with defers:={ target:=.collected m,args := #[] }::a.defers } W)
 (hstop:∀(pre:List ByteArray) (W:World),pre <+: xs->Ix pre W->W.heap[m]? = some (.deferred (some []))->Code.ret.wpIn Fence.wide n Tryz.prog Q { a with defers:={ target:=.collected m,args := #[] }::a.defers } W) :
 (Code.rangeFunc g #[p] assign body).wpIn Fence.wide n Tryz.prog Q a w:=by
 subst hm
 refine wpIn_rangeFunc ?_
 intro fn hfn
 obtain ⟨rec,hrec⟩:∃rec:LoopState->Option Code->Loop,rec=λst pe=>{ state:=st,pending:=pe,fn,tmps:=a.tmps,params := #[p],assign,body,defers:=w.heap.size }:=⟨_,rfl⟩
 obtain ⟨W1,SC⟩:∃W1,(w.alloc (.deferred (some []))).alloc (.loop (rec .ready none))=W1:=⟨_,rfl⟩
 have hL1:W1.heap[w.heap.size+1]? = some (.loop (rec .ready none)):=by
  rw[<-SC];have:=World.alloc_heap_new (w.alloc (.deferred (some []))) (.loop (rec .ready none));rwa[World.size_alloc] at this
 have hK1:W1.heap[w.heap.size]? = some (.deferred (some [])):=by
  rw[<-SC];exact (Below.heap_alloc _ _ _ (by simp)).trans (World.alloc_heap_new w _)
 have hI1:I [] W1:=by
  rw[<-SC];exact hI _ _ _ (Lo.alloc _ _ (by simp)) (hI _ _ _ (Lo.alloc _ _ (Nat.le_refl _)) h0)
 have AW:Below w.heap.size w W1:=by rw[<-SC];exact ((Below.refl _ w).alloc (Nat.le_refl _) _).alloc (by simp) _
 refine ⟨w.heap.size+1,[{ target:=.collected w.heap.size,args := #[] }],W1,{ target:=.fn (.func 126) #[.pointer (some ⟨Bp,0,none⟩),.pointer (some ⟨Bs,0,none⟩),.pointer (some ⟨Bv,0,none⟩)],args := #[.func (.yield (w.heap.size+1)) #[] #[]] },W1,126,
  #[.func (.yield (w.heap.size+1)) #[] #[]] ++ #[.pointer (some ⟨Bp,0,none⟩),.pointer (some ⟨Bs,0,none⟩),.pointer (some ⟨Bv,0,none⟩)],W1,?_,?_,?_,?_,λ_=>by omega,?_⟩
 .
  rw[<-SC,hrec];exact run_enterLoop_outer _ _ _ _ _
 .
  simp only[resolve,hg];simp[go_sem]
 .
  intro f' _;trivial
 .
  simp[invoke,go_sem]
 refine (Pn (n-1) (by omega) (w.heap.size+1) Bs Bp Bv s0 xs hx hz
  (λpre W=>I pre W/\W.heap[w.heap.size+1]? = some (.loop (rec .ready none))/\W.heap[w.heap.size]? = some (.deferred (some [])))
  (λpre W=>Ix pre W/\W.heap[w.heap.size+1]? = some (.loop (rec .done (some .ret)))/\W.heap[w.heap.size]? = some (.deferred (some [])))
  (λpre W v hJ=>⟨hI _ _ _ (Lo.setCell W v) hJ.1,(aR W Bs _ v (by omega)).trans hJ.2.1,(aR W Bs _ v (by omega)).trans hJ.2.2⟩) hne hnv ?_ W1
  ((fI (AW.block _ hBs)).trans hs) ((qh (AW.block _ hBs)).trans hfr) ((fI (AW.block _ hBp)).trans hp) ((fI (AW.block _ hBv)).trans hv) ⟨hI1,hL1,hK1⟩).mono ?_
 .
  rintro pre x W ⟨hi,hl,hk⟩ hpx;have hlt:w.heap.size+1<W.heap.size:=(Array.getElem?_eq_some_iff.1 hl).1;have hy:=run_yield (P:=Tryz.prog) (args := #[.string x]) hl (by rw[hrec];rfl)
  rw[hrec] at hy;refine ⟨fn,_,assign,body,hy,roundIn_of_wpIn hfn (hassign _ x W _ ⟨_,run_beginRound hl (by rw[hrec]),?_⟩)⟩
  have AF:(W.putObj (w.heap.size+1) (.loop { rec .ready none with state:=.busy })).heap[w.heap.size+1]? = some (.loop { rec .ready none with state:=.busy }):=World.putObj_heap_same hlt
  have hk2:∀r,r≠w.heap.size+1->(W.putObj (w.heap.size+1) (.loop { rec .ready none with state:=.busy })).heap[r]? = W.heap[r]? := λr hr=>World.putObj_heap_other hr
  refine wpIn_mono (hbody _ pre x _ (hI _ _ _ (Lo.putObj W _ (by omega)) hi) hpx) ?_
  have fin:∀(jump:Option Code) (W3:World),(∀r,r=w.heap.size\/r=w.heap.size+1\/r=Bs\/r=Bp\/r=Bv->W3.heap[r]? = (W.putObj (w.heap.size+1) (.loop { rec .ready none with state:=.busy })).heap[r]?) ->
   (Instr.endRound (w.heap.size+1) jump).run Tryz.prog W3 = .ok (.bool jump.isNone) (W3.putObj (w.heap.size+1) (.loop (rec (if jump.isNone then .ready else .done) jump))) /\
   (W3.putObj (w.heap.size+1) (.loop (rec (if jump.isNone then .ready else .done) jump))).heap[w.heap.size+1]? = some (.loop (rec (if jump.isNone then .ready else .done) jump)) /\
   (∀r,r=w.heap.size\/r=Bs\/r=Bp\/r=Bv->(W3.putObj (w.heap.size+1) (.loop (rec (if jump.isNone then .ready else .done) jump))).heap[r]? = W.heap[r]?):=λjump W3 SF=>by
   have hl3:=(SF _ (.inr (.inl rfl))).trans AF;have:=run_endRound (P:=Tryz.prog) jump hl3;rw[hrec] at this ⊢;refine ⟨this,World.putObj_heap_same (Array.getElem?_eq_some_iff.1 hl3).1,λr hr=>?_⟩
   have BV:r≠w.heap.size+1:=by omega
   rw[World.putObj_heap_other BV,SF r (by omega),hk2 r BV]
  rintro e a3 W3 hp3;cases e with
  |
   normal =>
   obtain ⟨SF,hi3⟩:=hp3;obtain ⟨hr,hl4,hk4⟩:=fin none W3 SF;exact ⟨_,_,hr,.inl ⟨rfl,⟨hI _ _ _ (Lo.putObj W3 _ (by omega)) hi3,hl4,(hk4 _ (.inl rfl)).trans hk⟩,hk4 _ (.inr (.inl rfl)),hk4 _ (.inr (.inr (.inl rfl))),hk4 _ (.inr (.inr (.inr rfl)))⟩⟩
  |
   ret =>
   obtain ⟨SF,hi3⟩:=hp3;obtain ⟨hr,hl4,hk4⟩:=fin (some .ret) W3 SF;exact ⟨_,_,hr,.inr ⟨rfl,hIx _ _ _ (Lo.putObj W3 _ (by omega)) hi3,hl4,(hk4 _ (.inl rfl)).trans hk⟩⟩
  |exit id=>exact hp3.elim
  |goto t=>exact hp3.elim
  |panic ch=>exact hp3.elim
  |outgrown=>exact hp3.elim
 rintro e W2 ⟨⟨v,rfl⟩,(⟨hi,hl,hk⟩|⟨pre,hpre,hi,hl,hk⟩)⟩
 .
  exact ⟨none,_,by have:=run_endLoop (P:=Tryz.prog) hl (by rw[hrec];simp);rw[hrec] at this;exact this,hdone _ (hI _ _ _ (Lo.putObj W2 _ (by omega)) hi) ((World.putObj_heap_other (by omega)).trans hk)⟩
 exact ⟨some .ret,_,by have:=run_endLoop (P:=Tryz.prog) hl (by rw[hrec];simp);rw[hrec] at this;exact this,hstop pre _ hpre (hIx _ _ _ (Lo.putObj W2 _ (by omega)) hi) ((World.putObj_heap_other (by omega)).trans hk)⟩
end Go.Proofs.YtpaddkkfefgkfaaGreatDoor.nm

namespace Go.Proofs.YtpaddkkfefgkfaaGreatDoor.nm
open Go.RowKit Go.Shelf Go.Lib
attribute [local go_sem] Oper.semAt_some
set_option maxRecDepth 100000 in
set_option maxHeartbeats 1000000 in
theorem call101 (s t:ByteArray) (w:World):Calls Tryz.prog 85 #[.string s,.string t,.int .i64 0] w λe w'=>e = .returned (.func (.func 126) #[] #[.pointer (some ⟨w.heap.size+1,0,none⟩),.pointer (some ⟨w.heap.size,0,none⟩),.pointer (some ⟨w.heap.size+2,0,none⟩)]) /\
 w'=((w.alloc (.cells #[.string s] 9)).alloc (.cells #[.string t] 9)).alloc (.cells #[.int .i64 0] 3):=by
 go_enter Tryz.func85,Tryz.ntmps85
 go_wp2
 go_ret
 exact ⟨rfl,rfl⟩
set_option maxRecDepth 100000 in
set_option maxHeartbeats 1000000 in
theorem call69 (s t:ByteArray) (w:World):Calls Tryz.prog 45 #[.string s,.string t] w λe w'=>e = .returned (.func (.func 126) #[] #[.pointer (some ⟨w.heap.size+1,0,none⟩),.pointer (some ⟨w.heap.size,0,none⟩),.pointer (some ⟨w.heap.size+2,0,none⟩)]) /\
 w'=((w.alloc (.cells #[.string s] 9)).alloc (.cells #[.string t] 9)).alloc (.cells #[.int .i64 0] 3):=by
 go_enter Tryz.func45,Tryz.ntmps45
 go_wp2_with (go_at_call 85;refine (call101 _ _ _).mono ?_;rintro e w' ⟨rfl,rfl⟩)
 go_ret
 exact ⟨rfl,rfl⟩
set_option maxRecDepth 100000 in
set_option maxHeartbeats 1000000 in
theorem call17 (n:Int) (w:World):Calls Tryz.prog 31 #[.int .i64 n] w λe w'=>e = .returned (.bool (decide (1<=n/\n<=322)))/\w'=w:=by
 go_enter Tryz.func31,Tryz.ntmps31
 go_wp2
 .
  rename_i h
  go_ret
  refine ⟨?_,rfl⟩;show Ending.returned (.bool (decide (n<=322)))=_;simp[h]
 rename_i h
 go_ret
 refine ⟨?_,rfl⟩
 show Ending.returned (.bool false)=_
 have:¬ 1<=n:=by omega
 simp[this]
theorem wY {fn:Func} {p:Tmp} {ty:TypeId} (h:fn.results = #[.cell p ty]) {P:Program} {w:World} {tmps:Array Value} {a:Addr} {v:Value} (ha:∀w,(isAgg ty).run P w = .ok false w) (hp:tmps.getD p undef = .pointer (some a)) (hc:w.cell? a=some v) :
 (results fn tmps).run P w = .ok v w:=by
 have hp':tmps[p]?.getD undef = .pointer (some a):=by simpa using hp
 simp[results,h,go_sem,hp',hc,ha]
theorem kD {fn:Func} {p q:Tmp} {ty tz:TypeId} (h:fn.results = #[.cell p ty,.cell q tz]) {P:Program} {w:World} {tmps:Array Value} {a b:Addr} {v u:Value} (ha:∀w,(isAgg ty).run P w = .ok false w) (hb:∀w,(isAgg tz).run P w = .ok false w)
 (hp:tmps.getD p undef = .pointer (some a)) (hq:tmps.getD q undef = .pointer (some b)) (hc:w.cell? a=some v) (hd:w.cell? b=some u) :
 (results fn tmps).run P w = .ok (.tuple #[v,u]) w:=by
 have hp':tmps[p]?.getD undef = .pointer (some a):=by simpa using hp
 have hq':tmps[q]?.getD undef = .pointer (some b):=by simpa using hq
 simp[results,h,go_sem,hp',hc,ha,hb,hq',hd]
def Var (W:World) (b:Nat) (v:Value):Prop:=W.cell? ⟨b,0,none⟩=some v/\W.frozen? ⟨b,0,none⟩=false
theorem Var.new (W:World) (v:Value) (t:TypeId):Var (W.alloc (.cells #[v] t)) W.heap.size v:=by
 have h:=World.alloc_heap_new W (.cells #[v] t)
 constructor
 .
  unfold World.cell?;simp only[h];rfl
 unfold World.frozen?;simp only[h];rfl
theorem Var.heap {W W':World} {b:Nat} {v:Value} (h:Var W b v) (e:W'.heap[b]? = W.heap[b]?):Var W' b v:=⟨(fI e).trans h.1,(qh e).trans h.2⟩
theorem Var.lt {W:World} {b:Nat} {v:Value} (h:Var W b v):b<W.heap.size:=World.block_lt_of_cell? _ _ h.1
theorem Var.alloc {W:World} {b:Nat} {v:Value} (h:Var W b v) (o:Obj):Var (W.alloc o) b v:=h.heap (Below.heap_alloc _ _ _ h.lt)
theorem Var.set {W:World} {b:Nat} {v:Value} (h:Var W b v) (u:Value):Var (W.setCell ⟨b,0,none⟩ u) b u:=⟨World.cell?_setCell_same' _ _ _ (by rw[h.1];rfl),by rw[World.frozen?_setCell];exact h.2⟩
theorem Var.other {W:World} {b c:Nat} {v:Value} (h:Var W b v) (hne:b≠c) (u:Value):Var (W.setCell ⟨c,0,none⟩ u) b v:=h.heap (aR W c b u hne)
theorem Lo.var {m Bs b:Nat} {W W':World} {v:Value} (h:Lo m Bs W W') (hv:Var W b v) (hb:b<m) (hn:b≠Bs):Var W' b v:=hv.heap (h.block b hb hn)
theorem Lo.below {m Bs B:Nat} {w W W':World} (h:Lo m Bs W W') (hb:Below B w W) (hB:B<=m) (hs:B<=Bs):Below B w W' :=
 ⟨h.os.trans hb.os,h.tape.trans hb.tape,h.output.trans hb.output,Nat.le_trans hb.size h.size,λk hk=>(h.block k (by omega) (by omega)).trans (hb.block k hk)⟩
def gk:List UInt8->List (List UInt8)
 |[]=>[[]]
 |
  c::r=>if c=32 then []::gk r else match gk r with
  |p::ps=>(c::p)::ps
  |[]=>[[c]]
theorem Ca:∀l,gk l≠[]
 |[]=>by simp[gk]
 |
  c::r=>by
  rw[gk];split
  .
   simp
  split<;>simp
theorem zx:∀l:List UInt8,(Lib.indexByte l 32 = -1/\gk l=[l])\/∃o:Nat,Lib.indexByte l 32=o/\o<l.length/\gk l=l.take o::gk (l.drop (o+1))
 |[]=>.inl ⟨rfl,rfl⟩
 |
  c::r=>by
  rw[Lib.indexByte,gk];by_cases hc:c=32
  .
   subst hc;exact .inr ⟨0,by simp,by simp,by simp⟩
  rw[if_neg (by simpa using hc),if_neg hc]
  rcases zx r with ⟨h1,h2⟩|⟨o,h1,h2,h3⟩
  .
   left
   rw[h1,h2];exact ⟨rfl,rfl⟩
  right
  refine ⟨o+1,?_,by simp;omega,?_⟩
  .
   rw[h1,if_neg (by simp)];rfl
  rw[h3];simp
abbrev x6 (l:List UInt8):ByteArray:=⟨l.toArray⟩
theorem extract_mk (l:List UInt8) (a b:Nat):(x6 l).extract a b=x6 ((l.take b).drop a):=by
 apply ByteArray.ext
 apply Array.ext'
 simp[List.drop_take]
theorem FX:∀(n:Nat) (l:List UInt8),l.length<n->ug (x6 l) ((gk l).map x6)
 |0,l,h=>absurd h (Nat.not_lt_zero _)
 |
  n+1,l,h=>by
  rcases zx l with ⟨h1,h2⟩|⟨o,h1,h2,h3⟩
  .
   rw[h2];exact .last _ (by simpa using h1)
  rw[h3,List.map_cons];have e1:x6 (l.take o)=(x6 l).extract 0 o:=by rw[extract_mk];simp
  have e2:x6 (l.drop (o+1))=(x6 l).extract (o+1) (x6 l).size:=by rw[extract_mk];simp[ByteArray.size,List.take_of_length_le]
  rw[e1];refine .cut _ o _ (by simpa using h1) (by simpa[ByteArray.size] using h2) ?_
  rw[<-e2];exact FX n _ (by rw[List.length_drop];omega)
noncomputable def qi (acc:List (List UInt8)) (cur:List UInt8):List UInt8->List (List UInt8)
 |[]=>(cur.reverse::acc).reverse
 |c::r=>Ev.pick2 (Nat.beq c.toNat 32) (qi (cur.reverse::acc) [] r) (qi acc (c::cur) r)
theorem vL:∀(l:List UInt8) (acc:List (List UInt8)) (cur:List UInt8),qi acc cur l=acc.reverse++(match gk l with|p::ps=>(cur.reverse++p)::ps | []=>[])
 |[],acc,cur=>by simp[qi,gk]
 |
  c::r,acc,cur=>by
  rw[qi,Ev.pick2_eq,gk,vL r,vL r];have hne:=Ca r;by_cases hc:c=32
  .
   subst hc;rw[if_pos (by decide),if_pos rfl]
   cases hr:gk r with
   |nil=>exact absurd hr hne
   |cons p ps=>simp
  rw[if_neg (by simp only[Nat.beq_eq];intro h;exact hc (UInt8.toNat_inj.1 h)),if_neg hc]
  cases hr:gk r with
  |nil=>exact absurd hr hne
  |cons p ps=>simp
theorem Pq (l:List UInt8):qi [] [] l=gk l:=by
 rw[vL]
 cases hr:gk l with
 |nil=>exact absurd hr (Ca l)
 |cons p ps=>simp
def Cb:Code->ByteArray
 |.seq a _=>Cb a
 |
  .region _ ops _=>match ops.toList with
  |
   o::_=>match o.op with
   |
    .call c=>match c.args.toList with
    |.const (.string s)::_=>s
    |_=>.empty
   |_=>.empty
  |_=>.empty
 |_=>.empty
def acP:Code->Code
 |.seq _ (.seq _ (.seq _ c))=>c
 |c=>c
noncomputable def cY:ByteArray:=match Tryz.f13.body with|some c=>Cb (acP c)|none=>.empty
noncomputable def Nr:List (List UInt8):=qi [] [] cY.data.toList
theorem Il (s:ByteArray):ug s ((qi [] [] s.data.toList).map x6):=by
 have h:=FX (s.data.toList.length+1) s.data.toList (Nat.lt_succ_self _)
 rw[Pq]
 have e:x6 s.data.toList=s:=by obtain ⟨d⟩:=s;simp
 rw[e] at h
 exact h
theorem FY:ug cY (Nr.map x6):=Il cY
set_option maxRecDepth 100000 in
set_option maxHeartbeats 1000000 in
theorem TI (op:Int) (h:¬(1<=op/\op<=322)) (w:World):Calls Tryz.prog 13 #[.int .i64 op] w λe w'=>e = .returned (.string ⟨#[]⟩)/\Below w.heap.size w w':=by
 have h17:∀w,Calls Tryz.prog 31 #[.int .i64 op] w λe w'=>e = .returned (.bool false)/\w'=w:=λw=>by
  have:=call17 op w;rwa[decide_eq_false h] at this
 go_enter Tryz.func13,Tryz.ntmps13
 go_wp2_with (go_at_call 31;refine (h17 _).mono ?_;rintro e w' ⟨rfl,rfl⟩)
 have c1:=Var.new (w.alloc (.cells #[.int .i64 op] 3)) (.string ⟨#[]⟩) 9
 rw[World.size_alloc] at c1
 refine bodyPost_ret_by (wY (by rfl) (run_isAgg_plain Tryz.underlying9 rfl) (a:=⟨w.heap.size+1,0,none⟩) (by rfl) c1.1) rfl ⟨rfl,?_⟩
 exact ((Below.refl _ w).alloc (Nat.le_refl _) _).alloc (by simp) _
theorem DN:Nr.length=322:=by kernel_rfl
noncomputable def rY (l:List UInt8):Nat->Nat:=List.rec (motive:=λ_=>Nat->Nat) (λn=>n) (λ_ _ go n=>go (Nat.add n 1)) l
theorem Kr:∀(l:List UInt8) (n:Nat),rY l n=n+l.length
 |[],n=>rfl
 |
  c::r,n=>by
  show rY r (n+1)=_;rw[Kr r];simp;omega
theorem Yd:Nat.ble (rY cY.data.toList 0) 1000000=true:=by kernel_rfl
theorem TJ (s:ByteArray) (h:Nat.ble (rY s.data.toList 0) 1000000=true):s.size<=1000000:=by
 have:=Nat.le_of_ble_eq_true h
 rw[Kr,Nat.zero_add] at this
 exact this
theorem Ks:cY.size<=1000000:=TJ cY Yd
theorem Kt (s:ByteArray) (hs:s=cY) (w:World):Calls Tryz.prog 45 #[.string s,.string ⟨#[32]⟩] w λe w'=>e = .returned (.func (.func 126) #[] #[.pointer (some ⟨w.heap.size+1,0,none⟩),.pointer (some ⟨w.heap.size,0,none⟩),.pointer (some ⟨w.heap.size+2,0,none⟩)]) /\
 w'=((w.alloc (.cells #[.string cY] 9)).alloc (.cells #[.string ⟨#[32]⟩] 9)).alloc (.cells #[.int .i64 0] 3):=by
 subst hs;exact call69 _ _ _
structure NI (w:World) (op:Int) (pre:List ByteArray) (W:World):Prop where
 below:Below w.heap.size w W
 v0:Var W w.heap.size (.int .i64 op)
 v1:Var W (w.heap.size+1) (.string ⟨#[]⟩)
 v2:Var W (w.heap.size+1+1) (.int .i64 (pre.length:Int))
 lt:(pre.length:Int)<op
structure NX (w:World) (op:Int) (pre:List ByteArray) (W:World):Prop where
 below:Below w.heap.size w W
 v1:Var W (w.heap.size+1) (.string (pre.getLast?.getD ⟨#[]⟩))
 eq:(pre.length:Int)=op
set_option maxRecDepth 100000 in
set_option maxHeartbeats 1000000 in
theorem Pr (op:Int) (h:1<=op/\op<=322) (w:World):Calls Tryz.prog 13 #[.int .i64 op] w λe w'=>e = .returned (.string (x6 (Nr.getD (op.toNat-1) [])))/\Below w.heap.size w w':=by
 have h17:∀w,CallsIn Fence.wide 9 Tryz.prog 31 #[.int .i64 op] w λe w'=>e = .returned (.bool true)/\w'=w:=λw=>by
  have:=callsIn_wide (n:=9) |>.2 (call17 op w);rwa[decide_eq_true h] at this
 refine callsIn_wide (n:=10) |>.1 ?_
 refine callsIn_of_wp_marks Tryz.func13 rfl trivial ?_ rfl
 simp only[Tryz.ntmps13,List.size_toArray,List.length_cons,List.length_nil,Nat.reduceAdd,Nat.reduceSub,Array.replicate_succ,Array.replicate_zero,List.push_toArray,List.append_toArray,List.nil_append,List.cons_append]
 gi_wp2_with first|(refine ⟨trivial,?_⟩;gi_at_call 31;refine (h17 _).mono ?_;rintro e w' ⟨rfl,rfl⟩)|(refine ⟨trivial,?_⟩;gi_at_call 45;refine (callsIn_wide.2 (Kt _ (by kernel_rfl) _)).mono ?_;rintro e w' ⟨rfl,rfl⟩)
 have u0:=Var.new w (.int .i64 op) 3
 have u1:=Var.new (w.alloc (.cells #[.int .i64 op] 3)) (.string ⟨#[]⟩) 9
 have u2:=Var.new ((w.alloc (.cells #[.int .i64 op] 3)).alloc (.cells #[.string ⟨#[]⟩] 9)) (.int .i64 0) 3
 have u3:=Var.new (((w.alloc (.cells #[.int .i64 op] 3)).alloc (.cells #[.string ⟨#[]⟩] 9)).alloc (.cells #[.int .i64 0] 3)) (.string cY) 9
 have u4:=Var.new ((((w.alloc (.cells #[.int .i64 op] 3)).alloc (.cells #[.string ⟨#[]⟩] 9)).alloc (.cells #[.int .i64 0] 3)).alloc (.cells #[.string cY] 9)) (.string ⟨#[32]⟩) 9
 have u5:=Var.new (((((w.alloc (.cells #[.int .i64 op] 3)).alloc (.cells #[.string ⟨#[]⟩] 9)).alloc (.cells #[.int .i64 0] 3)).alloc (.cells #[.string cY] 9)).alloc (.cells #[.string ⟨#[32]⟩] 9)) (.int .i64 0) 3
 have hb:Below w.heap.size w ((((((w.alloc (.cells #[.int .i64 op] 3)).alloc (.cells #[.string ⟨#[]⟩] 9)).alloc (.cells #[.int .i64 0] 3)).alloc (.cells #[.string cY] 9)).alloc (.cells #[.string ⟨#[32]⟩] 9)).alloc (.cells #[.int .i64 0] 3)) :=
  ((((((Below.refl _ w).alloc (Nat.le_refl _) _).alloc (by simp) _).alloc (by simp;omega) _).alloc (by simp;omega) _).alloc (by simp;omega) _).alloc (by simp;omega) _
 simp only[World.size_alloc] at u1 u2 u3 u4 u5
 have k0:=((((u0.alloc (.cells #[.string ⟨#[]⟩] 9)).alloc (.cells #[.int .i64 0] 3)).alloc (.cells #[.string cY] 9)).alloc (.cells #[.string ⟨#[32]⟩] 9)).alloc (.cells #[.int .i64 0] 3)
 have k1:=(((u1.alloc (.cells #[.int .i64 0] 3)).alloc (.cells #[.string cY] 9)).alloc (.cells #[.string ⟨#[32]⟩] 9)).alloc (.cells #[.int .i64 0] 3)
 have k2:=((u2.alloc (.cells #[.string cY] 9)).alloc (.cells #[.string ⟨#[32]⟩] 9)).alloc (.cells #[.int .i64 0] 3)
 have k3:=(u3.alloc (.cells #[.string ⟨#[32]⟩] 9)).alloc (.cells #[.int .i64 0] 3)
 have k4:=u4.alloc (.cells #[.int .i64 0] 3)
 have hsz:((((((w.alloc (.cells #[.int .i64 op] 3)).alloc (.cells #[.string ⟨#[]⟩] 9)).alloc (.cells #[.int .i64 0] 3)).alloc (.cells #[.string cY] 9)).alloc (.cells #[.string ⟨#[32]⟩] 9)).alloc (.cells #[.int .i64 0] 3)).heap.size=w.heap.size+6:=by simp
 refine B8 (m:=w.heap.size+6) (Bs:=w.heap.size+1+1+1) (Bp:=w.heap.size+1+1+1+1) (Bv:=w.heap.size+1+1+1+2) (by omega) hsz rfl (by omega) (by omega) (by omega) (by omega) (by omega) FY Ks k3.1 k3.2 k4.1 u5.1
  (NI w op) (NX w op)
  (λpre W W' hl hi=>⟨hl.below hi.below (by omega) (by omega),hl.var hi.v0 (by omega) (by omega),hl.var hi.v1 (by omega) (by omega),hl.var hi.v2 (by omega) (by omega),hi.lt⟩)
  (λpre W W' hl hi=>⟨hl.below hi.below (by omega) (by omega),hl.var hi.v1 (by omega) (by omega),hi.eq⟩)
  ⟨hb,k0,k1,k2,by simp;omega⟩
  (λx=>{ tmps := #[.int .i64 op,.pointer (some ⟨w.heap.size,0,none⟩),.pointer (some ⟨w.heap.size+1,0,none⟩),.pointer (some ⟨w.heap.size+1+1,0,none⟩),.string x,.int .i64 op,.bool true,.bool false,
   .func (.func 126) #[] #[.pointer (some ⟨w.heap.size+1+1+1+1,0,none⟩),.pointer (some ⟨w.heap.size+1+1+1,0,none⟩),.pointer (some ⟨w.heap.size+1+1+1+2,0,none⟩)],.string x,undef,undef,undef,undef,undef,undef],defers:=[] }) ?assign ?body ?done ?stop
 case assign =>
  intro l x W K hK
  gi_wp2
  exact hK
 case body =>
  rintro l pre x W ⟨hB,v0,v1,v2,hlt⟩ _;have c0:=v0.1;have c1:=v1.1;have f1:=v1.2;have c2:=v2.1;have f2:=v2.2
  gi_wp2
  .
   rename_i hx;have v2':=v2.set (.int .i64 ((pre.length:Int)+1));have v1':=v1.other (c:=w.heap.size+1+1) (by omega) (.int .i64 ((pre.length:Int)+1))
   refine ⟨λr hr=>(aR _ _ _ _ (by omega)).trans (aR _ _ _ _ (by omega)),?_,?_,?_⟩
   .
    exact (hB.setCell (p:=⟨w.heap.size+1+1,0,none⟩) (by simp;omega) _).setCell (p:=⟨w.heap.size+1,0,none⟩) (by simp) _
   .
    have:=v1'.set (.string x)
    simpa using this
   have:=eq_of_beq hx;simp only[List.length_append,List.length_cons,List.length_nil];omega
  rename_i hx;refine ⟨λr hr=>aR _ _ _ _ (by omega),?_,?_,?_,?_,?_⟩
  .
   exact hB.setCell (p:=⟨w.heap.size+1+1,0,none⟩) (by simp;omega) _
  .
   exact v0.other (by omega) _
  .
   exact v1.other (by omega) _
  .
   have:=v2.set (.int .i64 ((pre.length:Int)+1))
   simpa using this
  have:(pre.length:Int)+1≠op:=λe=>by simp[e] at hx
  simp only[List.length_append,List.length_cons,List.length_nil];omega
 case done =>
  rintro W ⟨_,_,_,_,hlt⟩ _;rw[List.length_map,DN] at hlt;omega
 case stop =>
  rintro pre W hpre ⟨hB,v1,he⟩ hK
  gi_wp2
  refine ⟨by simp,.inl ⟨_,_,rfl,run_takeDeferred hK,?_⟩⟩
  have v1':Var (W.putObj (w.heap.size+6) (.deferred none)) (w.heap.size+1) (.string (pre.getLast?.getD ⟨#[]⟩)):=v1.heap (World.putObj_heap_other (by omega))
  refine ⟨_,wY (by rfl) (run_isAgg_plain Tryz.underlying9 rfl) (a:=⟨w.heap.size+1,0,none⟩) (by rfl) v1'.1,?_,?_⟩
  .
   have hlen:pre.length=op.toNat:=by omega
   obtain ⟨t,ht⟩:=hpre
   have hl:pre.getLast? = (Nr.map x6)[op.toNat-1]? := by
    rw[<-ht,List.getElem?_append_left (by omega),List.getLast?_eq_getElem?,hlen]
   rw[hl,List.getElem?_map];have hlt:op.toNat-1<Nr.length:=by rw[DN];omega
   rw[List.getElem?_eq_getElem hlt,List.getD_eq_getElem?_getD,List.getElem?_eq_getElem hlt];rfl
  exact (Lo.putObj (m:=w.heap.size+6) (Bs:=w.heap.size) W (.deferred none) (Nat.le_refl _)).below hB (by omega) (Nat.le_refl _)
end Go.Proofs.YtpaddkkfefgkfaaGreatDoor.nm

namespace Go.Proofs.YtpaddkkfefgkfaaGreatDoor.nm
open Go.Tv Go.Ev
noncomputable section
def X1:cI:={ P:=Tryz.prog,G:=0,gv:=λ_=>[] }
def bV:bG:=⟨.none,.none,[]⟩
def K0:TD:=λ_=>none
def inl:FuncId->Bool:=λ_=>true
def e0 (β:Type):aT β:=kB X1 K0 inl 200 β 40
theorem V4 (β:Type):aV X1 (aY X1 j3) (e0 β):=dF (by intro id s g h;cases h) (λ_ _ _=>rfl) 200 40 β
theorem nk (f:FuncId) (args:List Value):j3 f args=none:=rfl
theorem cP:Ev.cP Tryz.prog:=Ev.Fm (by kernel_rfl)
theorem mixed:Tryz.prog.follows .mixedOrders=true:=by kernel_rfl
theorem V5 (w:World):bN X1 (iL w):=λg hg _=>absurd hg (Nat.not_lt_zero g)
def Pt:List (List UInt8×Int):=[([111],0),([110,111],1),([98],2),([99],2),([110,97,101],2),([97,101],3),([110,98],3),([110,99],3),([101],4),([122],4),([110,101],5),([110,122],5),([98,101],6),([110,97],6),([97],7),([110,98,101],7),
 ([115],8),([110,115],9),([112],10),([112,101],10),([110,112],11),([112,111],11),([108],12),([110,103,101],12),([103,101],13),([110,108],13),([108,101],14),([110,103],14),([103],15),([110,108,101],15)]
def Pu (s:List UInt8) (l:List (List UInt8×Int)):Option AV :=
 List.rec (motive:=λ_=>Option AV) (some (.cB [.int .i64 0,.bool false])) (λq _ r=>pick2 (decide (q.1=s)) (some (.cB [.int .i64 q.2,.bool true])) r) l
def uh (s:List UInt8):List (List UInt8×Int)->Int×Bool
 |[]=>(0,false)
 |q::l=>if q.1=s then (q.2,true) else uh s l
def nZ (s:List UInt8):Int×Bool:=uh s Pt
theorem Im (s:List UInt8):ag X1 (e0 AV) bV 200 89 [.str s] aa.empty (λv _=>some v)=Pu s Pt:=by kernel_rfl
theorem FZ (s:List UInt8):∀l,Pu s l=some (.cB [.int .i64 (uh s l).1,.bool (uh s l).2])
 |[]=>rfl
 |
  q::l=>by
  show pick2 (decide (q.1=s)) (some (.cB [.int .i64 q.2,.bool true])) (Pu s l)=_;rw[pick2_eq,uh,FZ s l];by_cases h:q.1=s
  .
   simp[h]
  simp[h]
theorem zy (w:World) (a:ByteArray):VR (iL w) (.str a.data.toList) (.string a):=by
 have h:=VR.str (S:=iL w) a.data.toList
 have e:(⟨a.data.toList.toArray⟩:ByteArray)=a:=by obtain ⟨d⟩:=a;simp
 rw[e] at h;exact h
theorem F1 {S:Wo} {a b:AV} {a' b':Value} (ha:∀x,VR S a x->x=a') (hb:∀x,VR S b x->x=b') {v:Value} (h:VR S (.cB [a,b]) v):v = .tuple #[a',b']:=by
 cases h with
 |
  cB l m hl hv =>
  match m,hl with
  |
   [x,y],_ =>
   rw[ha x (hv 0 a x rfl rfl),hb y (hv 1 b y rfl rfl)]
theorem TK (s:ByteArray) (w:World):Calls Tryz.prog 89 #[.string s] w λe w'=>e = .returned (.tuple #[.int .i64 (nZ s.data.toList).1,.bool (nZ s.data.toList).2])/\RowKit.Below w.heap.size w w' :=
 Ih (X:=X1) cP mixed sk (v:=.cB [.int .i64 (nZ s.data.toList).1,.bool (nZ s.data.toList).2]) (λS x hx=>F1 (λ_ h=>h.bQ) (λ_ h=>h.gi) hx) rfl
  (λS E ax hr hg hl=>x5 (nk 89) V4 ((Im s.data.toList).trans (FZ _ _)) S E ax hr hg hl) (Nat.zero_le _) (V5 w) (args':=[.string s]) (LV.cons (zy w s) LV.nil) rfl
def qj (s p:List UInt8):List UInt8×Bool:=if s.take p.length=p then (s.drop p.length,true) else (s,false)
theorem Ye (s p:List UInt8):ag X1 (e0 AV) bV 200 88 [.str s,.str p] aa.empty (λv _=>some v) =
 pick2 (!ltI ↑s.length ↑p.length) (pick2 (!ltI ↑p.length 0 && !ltI (Int.ofNat s.length) ↑p.length) (pick2 (!decide (bz s 0 ↑p.length=p)) (some (.cB [.str s,.bool false]))
  (pick2 (!ltI ↑p.length 0 && !ltI (Int.ofNat s.length) ↑p.length) (some (.cB [.str (bz s ↑p.length ↑s.length),.bool true])) none)) none) (some (.cB [.str s,.bool false])):=by kernel_rfl
theorem acQ (s p:List UInt8):ag X1 (e0 AV) bV 200 88 [.str s,.str p] aa.empty (λv _=>some v)=some (.cB [.str (qj s p).1,.bool (qj s p).2]):=by
 rw[Ye]
 unfold qj
 by_cases h:s.length<p.length
 .
  rw[kW (by omega),if_neg (λe=>by have:=congrArg List.length e;simp at this;omega)];rfl
 rw[cF (by omega),cF (a:=(p.length:Int)) (b:=0) (by omega),cF (a:=Int.ofNat s.length) (by simp;omega)]
 have e1:bz s 0 (p.length:Int)=s.take p.length:=by unfold bz;simp
 have e2:bz s (p.length:Int) (s.length:Int)=s.drop p.length:=by
  unfold bz;simp only[Int.toNat_natCast];rw[List.take_of_length_le (by rw[List.length_drop];omega)]
 rw[e1,e2]
 by_cases hp:s.take p.length=p
 .
  rw[if_pos hp,decide_eq_true hp];rfl
 rw[if_neg hp,decide_eq_false hp];rfl
theorem TL (s p:ByteArray) (w:World):Calls Tryz.prog 88 #[.string s,.string p] w λe w'=>e = .returned (.tuple #[.string (x6 (qj s.data.toList p.data.toList).1),.bool (qj s.data.toList p.data.toList).2])/\RowKit.Below w.heap.size w w' :=
 Ih (X:=X1) cP mixed sk (v:=.cB [.str (qj s.data.toList p.data.toList).1,.bool (qj s.data.toList p.data.toList).2]) (λS x hx=>F1 (λ_ h=>h.ef) (λ_ h=>h.gi) hx) rfl
  (λS E ax hr hg hl=>x5 (nk 88) V4 (acQ s.data.toList p.data.toList) S E ax hr hg hl) (Nat.zero_le _) (V5 w) (args':=[.string s,.string p]) (LV.cons (zy w s) (LV.cons (zy w p) LV.nil)) rfl
end
end Go.Proofs.YtpaddkkfefgkfaaGreatDoor.nm
