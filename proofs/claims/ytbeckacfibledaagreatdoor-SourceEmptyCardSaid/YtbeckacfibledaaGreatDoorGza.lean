/- A range over strings.SplitSeq: the law for a loop's body that reads and writes cells of its own. name.Name: the contract. cond.Parse, strings.CutPrefix, by runs of the symbolic layer. -/
import Derived.RangeFuncNested
import Derived.RangeFuncBound
import Derived.RangeFuncCalls
import Derived.RangeFuncLeaves
import Derived.Shelf.Abstract
import Derived.WalkKit
import Derived.OwnWalkIn
import Derived.TacticsInMore
import Derived.LoopNIn
import Derived.LoopIn
import Derived.Lib.Bytealg
import Derived.Test.YtbeckacfibledaaGreatDoorRows
import Derived.Test.YtbeckacfibledaaGreatDoorLya
import Derived.Lib.IndexLaws
import Derived.Test.YtbeckacfibledaaGreatDoorLyg
set_option linter.unusedVariables false
set_option linter.unusedSimpArgs false

namespace Go.Proofs.YtbeckacfibledaaGreatDoor.nm
open Go.RowKit Go.Shelf Go.Lib
set_option maxRecDepth 100000 in
set_option maxHeartbeats 1000000 in
theorem afC (s:ByteArray)(c:Int)(w:World):Calls Tryz.prog 161 #[.string s,.int .u8 c] w λe w'=>e = .returned (.int .i64 (Lib.indexByte s.data.toList c.toNat.toUInt8))/\w'=w:=by
 go_enter Tryz.func161,Tryz.ntmps161
 go_wp2
 rw[run_callFunc_extern Tryz.func173 (by kernel_rfl) (by kernel_rfl) (by kernel_rfl) (e:=Extern.BytealgIndexByte.indexByte) (by kernel_rfl),Lib.run_indexByteString];simp only[Result.andThen];rw[Oper.upon_value]
 go_wp2
 go_ret
 exact⟨rfl,rfl⟩
set_option maxRecDepth 100000 in
set_option maxHeartbeats 1000000 in
theorem afD (c:UInt8)(s:ByteArray)(w:World):Calls Tryz.prog 147 #[.string s,.string ⟨#[c]⟩] w λe w'=>e = .returned (.int .i64 (Lib.indexByte s.data.toList c))/\w'=w:=by
 go_enter Tryz.func147,Tryz.ntmps147
 go_wp2_with (go_at_call 161;refine(afC _ _ _).mono ?_;rintro e w' ⟨rfl,rfl⟩)
 .rename_i h
  go_ret
  have hs:s.data.toList=[c]:=by
   have:=eq_of_beq h;rw[ByteArray.toList_eq]at this;exact this.symm
  refine⟨?_,rfl⟩;rw[hs];simp[Lib.indexByte]
 go_ret
 refine⟨?_,rfl⟩;congr 2
set_option maxRecDepth 100000 in
set_option maxHeartbeats 1000000 in
theorem V1 (c:UInt8)(s:ByteArray)(w:World):Calls Tryz.prog 120 #[.string s,.string ⟨#[c]⟩] w λe w'=>e = .returned (.int .i64 (Lib.indexByte s.data.toList c))/\w'=w:=by
 go_enter Tryz.func120,Tryz.ntmps120
 go_wp2_with (go_at_call 147;refine(afD _ _ _).mono ?_;rintro e w' ⟨rfl,rfl⟩)
 go_ret
 exact⟨rfl,rfl⟩
inductive uy (c:UInt8):ByteArray->List ByteArray->Prop
 |last (s:ByteArray) (h:Lib.indexByte s.data.toList c = -1):uy c s [s]
 |cut (s:ByteArray) (i:Nat) (rest:List ByteArray) (h:Lib.indexByte s.data.toList c=i) (hi:i<s.size) (hr:uy c (s.extract (i+1) s.size) rest):uy c s (s.extract 0 i::rest)
theorem eG {W W':World}{b o:Nat}(h:W'.heap[b]? = W.heap[b]?):W'.cell? ⟨b,o,none⟩=W.cell? ⟨b,o,none⟩:=by
 unfold World.cell?;simp only[h]
theorem qQ {W W':World}{b o:Nat}(h:W'.heap[b]? = W.heap[b]?):W'.frozen? ⟨b,o,none⟩=W.frozen? ⟨b,o,none⟩:=by
 unfold World.frozen?;simp only[h]
def leftOf (B:Nat)(w:World):Nat:=match w.cell? ⟨B,0,none⟩ with|some (.string s)=>s.size|_=>0
set_option maxRecDepth 100000 in
set_option maxHeartbeats 1000000 in
theorem LW (c:UInt8)(n:Nat)(hn:1<=n)(l Bs Bp Bv:Nat)(s0:ByteArray)(xs:List ByteArray)(hx:uy c s0 xs)(hz:s0.size<=2000000)(J Jx:List ByteArray->World->Prop)
 (hJs:∀pre W v,J pre W->J pre (W.setCell ⟨Bs,0,none⟩ v)) (hne:Bp≠Bs) (hnv:Bv≠Bs)
 (hY:∀pre x W,J pre W->pre++[x] <+: xs->YieldAt Fence.wide (n-1) Tryz.prog l #[.string x] W λe W' =>
  (e = .returned (.bool true)/\J (pre++[x]) W'/\(W'.heap[Bs]? = W.heap[Bs]? /\ W'.heap[Bp]? = W.heap[Bp]? /\ W'.heap[Bv]? = W.heap[Bv]?))\/(e = .returned (.bool false)/\Jx (pre++[x]) W'))
 (W:World) (hs:W.cell? ⟨Bs,0,none⟩=some (.string s0)) (hfr:W.frozen? ⟨Bs,0,none⟩=false) (hp:W.cell? ⟨Bp,0,none⟩=some (.string ⟨#[c]⟩)) (hv:W.cell? ⟨Bv,0,none⟩=some (.int .i64 0)) (h0:J [] W) :
 CallsIn Fence.wide n Tryz.prog 118 #[.func (.yield l) #[] #[],.pointer (some ⟨Bp,0,none⟩),.pointer (some ⟨Bs,0,none⟩),.pointer (some ⟨Bv,0,none⟩)] W λe W' =>
  (∃v,e = .returned v)/\(J xs W'\/∃pre,pre <+: xs/\Jx pre W'):=by
 refine callsIn_of_wp Tryz.func118 rfl trivial ?_ rfl;simp only[Tryz.ntmps118,iQ,aJ,bA,Nat.reduceAdd,Nat.reduceSub,kN,kO,m9,lM,eS,fR]
 gi_wp2
 gi_loopw [] (λwr=>∃(pre rest:List ByteArray) (s:ByteArray),xs=pre++rest/\uy c s rest/\s.size<=2000000/\wr.cell? ⟨Bs,0,none⟩=some (.string s)/\wr.frozen? ⟨Bs,0,none⟩=false/\wr.cell? ⟨Bp,0,none⟩=some (.string ⟨#[c]⟩)/\wr.cell? ⟨Bv,0,none⟩=some (.int .i64 0)/\J pre wr)
  (λwr=>leftOf Bs wr)
 case atStart=>exact⟨[],xs,s0,rfl,hx,hz,hs,hfr,hp,hv,h0⟩
 case round =>
  obtain⟨pre,rest,s,hxs,hpt,hsz,hcs,hcf,hcp,hcv,hJ⟩:=hrel;cases hpt with
  |last _ h =>
   obtain⟨fn,tmps,assign,body,hy,hR⟩:=hY pre s wr hJ (by rw[hxs];exact List.prefix_refl _);have V2:CallsIn Fence.wide (n-1) Tryz.prog 120 #[.string s,.string ⟨#[c]⟩] wr λe w'=>e = .returned (.int .i64 (-1))/\w'=wr:=by
    have:=callsIn_wide (n:=n-1) |>.2 (V1 c s wr);rwa[h]at this
   gi_wp2_with (refine⟨trivial,?_⟩;gi_at_call 120;refine V2.mono ?_;rintro e w' ⟨rfl,rfl⟩)
   refine hR.mono ?_;rintro e W3 (⟨rfl,OS,_⟩|⟨rfl,afE⟩)
   .gi_wp2
    go_end0
    exact⟨⟨_,rfl⟩,.inl (by rw[hxs];exact OS)⟩
   gi_wp2
   go_end0
   exact⟨⟨_,rfl⟩,.inr ⟨pre++[s],by rw[hxs];exact List.prefix_refl _,afE⟩⟩
  |cut _ i rest h hi hr =>
   obtain⟨fn,tmps,assign,body,hy,hR⟩:=hY pre (s.extract 0 i) wr hJ ⟨rest,by rw[hxs];simp⟩;have V2:CallsIn Fence.wide (n-1) Tryz.prog 120 #[.string s,.string ⟨#[c]⟩] wr λe w'=>e = .returned (.int .i64 (i:Int))/\w'=wr:=by
    have:=callsIn_wide (n:=n-1) |>.2 (V1 c s wr);rwa[h]at this
   gi_wp2_with (refine⟨trivial,?_⟩;gi_at_call 120;refine V2.mono ?_;rintro e w' ⟨rfl,rfl⟩)
   refine hR.mono ?_;rintro e W3 (⟨rfl,OS,hk1,hk2,zn⟩|⟨rfl,afE⟩)
   .have aoT:W3.cell? ⟨Bs,0,none⟩=some (.string s):=(eG hk1).trans hcs;have aoU:W3.frozen? ⟨Bs,0,none⟩=false:=(qQ hk1).trans hcf;have aoV:W3.cell? ⟨Bp,0,none⟩=some (.string ⟨#[c]⟩):=(eG hk2).trans hcp;have aoW:W3.cell? ⟨Bv,0,none⟩=some (.int .i64 0):=(eG zn).trans hcv
    gi_wp2
    have asG:(s.extract (i+1) s.size).size=s.size-(i+1):=by simp[j4]
    have hc4:=World.cell?_setCell_same' W3 ⟨Bs,0,none⟩ (.string (s.extract (i+1) s.size)) (by rw[aoT];rfl)
    go_roundw
    case rel =>
     refine⟨pre++[s.extract 0 i],rest,s.extract (i+1) s.size,by rw[hxs];simp,hr,by omega,hc4,by rw[World.frozen?_setCell];exact aoU,?_,?_,hJs _ _ _ OS⟩
     .rw[World.cell?_setCell_other _ _ _ _ (by simp)];exact aoV
     rw[World.cell?_setCell_other _ _ _ _ (by simp)];exact aoW
    case measure =>
     unfold leftOf;rw[hc4,hcs];show (s.extract (i+1) s.size).size<s.size;omega
   gi_wp2
   refine bodyPost_ret (results_none rfl _ _ _) rfl ?_;exact⟨⟨_,rfl⟩,.inr ⟨pre++[s.extract 0 i],⟨rest,by rw[hxs];simp⟩,afE⟩⟩
structure Lo (m Bs:Nat)(W W':World):Prop where
 os:W'.os=W.os
 tape:W'.tape=W.tape
 output:W'.output=W.output
 size:W.heap.size<=W'.heap.size
 block:∀k,k<m->k≠Bs->W'.heap[k]? = W.heap[k]?
theorem Lo.alloc {m Bs:Nat}(W:World)(o:Obj)(h:m<=W.heap.size):Lo m Bs W (W.alloc o):=by
 have:=(Below.refl m W).alloc h o;exact⟨this.os,this.tape,this.output,this.size,λk hk _=>this.block k hk⟩
theorem Lo.putObj {m Bs r:Nat}(W:World)(o:Obj)(h:m<=r):Lo m Bs W (W.putObj r o) :=
 ⟨rfl,rfl,rfl,by simp,λk hk _=>World.putObj_heap_other (by omega)⟩
theorem cT (W:World)(b k:Nat)(v:Value)(h:k≠b):(W.setCell ⟨b,0,none⟩ v).heap[k]? = W.heap[k]? :=
 Below.heap_setCell _ _ _ k (λe=>h (by rw[e]))
theorem Lo.setCell {m Bs:Nat}(W:World)(v:Value):Lo m Bs W (W.setCell ⟨Bs,0,none⟩ v):=by
 have hb:=(Below.refl 0 W).setCell (p:=⟨Bs,0,none⟩) (ct _) v;exact⟨hb.os,hb.tape,hb.output,hb.size,λk _ hk=>cT W Bs k v hk⟩
def V3 (m Bs Bp Bv:Nat)(I Ix:List ByteArray->World->Prop)(xs:List ByteArray)(W:World):Exit->Act->World->Prop
 |.normal,_,W'=>(∀r,r=m\/r=m+1\/r=Bs\/r=Bp\/r=Bv->W'.heap[r]? = W.heap[r]?)/\I xs W'
 |.ret,_,W'=>(∀r,r=m\/r=m+1\/r=Bs\/r=Bp\/r=Bv->W'.heap[r]? = W.heap[r]?)/\Ix xs W'
 |_,_,_=>False
theorem BQ {g:Operand}{p:Tmp}{assign body:Code}{Q:Exit->Act->World->Prop}{a:Act}{w:World}{n:Nat}(h2:2<=n){m Bs Bp Bv:Nat}(hm:w.heap.size=m)
 (hg:a.eval g = .func (.func 118) #[] #[.pointer (some ⟨Bp,0,none⟩),.pointer (some ⟨Bs,0,none⟩),.pointer (some ⟨Bv,0,none⟩)])
 (hBs:Bs<m) (hBp:Bp<m) (hBv:Bv<m) (hne:Bp≠Bs) (hnv:Bv≠Bs) {s0:ByteArray} {xs:List ByteArray} (hx:uy 32 s0 xs) (hz:s0.size<=2000000)
 (hs:w.cell? ⟨Bs,0,none⟩=some (.string s0)) (hfr:w.frozen? ⟨Bs,0,none⟩=false) (hp:w.cell? ⟨Bp,0,none⟩=some (.string ⟨#[32]⟩)) (hv:w.cell? ⟨Bv,0,none⟩=some (.int .i64 0))
 (I Ix:List ByteArray->World->Prop) (hI:∀pre W W',Lo m Bs W W'->I pre W->I pre W') (hIx:∀pre W W',Lo m Bs W W'->Ix pre W->Ix pre W') (h0:I [] w) (a₁:ByteArray->Act)
 (hassign:∀(l:Nat) (x:ByteArray) (W:World) (K:Act->World->Prop),K (a₁ x) W ->
  assign.wpIn (Fence.wide.inRound l) (n-1-1) Tryz.prog (Exit.then K (λ_ _ _=>False)) { tmps:=((#[p]:Array Tmp).zip (#[.string x]:Array Value)).foldl (λt (p,v)=>t.setIfInBounds p v) a.tmps,defers:=[] } W)
 (hbody:∀(l:Nat) (pre:List ByteArray) (x:ByteArray) (W:World),I pre W->pre++[x] <+: xs->body.wpIn (Fence.wide.inRound l) (n-1-1) Tryz.prog (V3 m Bs Bp Bv I Ix (pre++[x]) W) (a₁ x) W)
 (hdone:∀(W:World),I xs W->W.heap[m]? = some (.deferred (some []))->Q .normal { a with defers:={ target:=.collected m,args := #[] }::a.defers } W)
 (hstop:∀(pre:List ByteArray) (W:World),pre <+: xs->Ix pre W->W.heap[m]? = some (.deferred (some []))->Code.ret.wpIn Fence.wide n Tryz.prog Q { a with defers:={ target:=.collected m,args := #[] }::a.defers } W) :
 (Code.rangeFunc g #[p] assign body).wpIn Fence.wide n Tryz.prog Q a w:=by
 subst hm;refine wpIn_rangeFunc ?_;intro fn hfn;obtain⟨rec,hrec⟩:∃rec:LoopState->Option Code->Loop,rec=λst pe=>{ state:=st,pending:=pe,fn,tmps:=a.tmps,params := #[p],assign,body,defers:=w.heap.size }:=⟨_,rfl⟩
 obtain⟨W1,CX⟩:∃W1,(w.alloc (.deferred (some []))).alloc (.loop (rec .ready none))=W1:=⟨_,rfl⟩;have hL1:W1.heap[w.heap.size+1]? = some (.loop (rec .ready none)):=by
  rw[<-CX];have:=World.alloc_heap_new (w.alloc (.deferred (some []))) (.loop (rec .ready none));rwa[World.size_alloc]at this
 have hK1:W1.heap[w.heap.size]? = some (.deferred (some [])):=by
  rw[<-CX];exact(Below.heap_alloc _ _ _ (by simp)).trans (World.alloc_heap_new w _)
 have hI1:I [] W1:=by
  rw[<-CX];exact hI _ _ _ (Lo.alloc _ _ (by simp)) (hI _ _ _ (Lo.alloc _ _ (aC _)) h0)
 have yo:Below w.heap.size w W1:=by rw[<-CX];exact((Below.refl _ w).alloc (aC _) _).alloc (by simp) _
 refine⟨w.heap.size+1,[{ target:=.collected w.heap.size,args := #[] }],W1,{ target:=.fn (.func 118) #[.pointer (some ⟨Bp,0,none⟩),.pointer (some ⟨Bs,0,none⟩),.pointer (some ⟨Bv,0,none⟩)],args := #[.func (.yield (w.heap.size+1)) #[] #[]] },W1,118,
  #[.func (.yield (w.heap.size+1)) #[] #[]] ++ #[.pointer (some ⟨Bp,0,none⟩),.pointer (some ⟨Bs,0,none⟩),.pointer (some ⟨Bv,0,none⟩)],W1,?_,?_,?_,?_,λ_=>by omega,?_⟩
 .rw[<-CX,hrec];exact run_enterLoop_outer _ _ _ _ _
 .simp only[resolve,hg];simp[go_sem]
 .intro f' _;trivial
 .simp[invoke,go_sem]
 refine(LW 32 (n-1) (by omega) (w.heap.size+1) Bs Bp Bv s0 xs hx hz
  (λpre W=>I pre W/\W.heap[w.heap.size+1]? = some (.loop (rec .ready none))/\W.heap[w.heap.size]? = some (.deferred (some [])))
  (λpre W=>Ix pre W/\W.heap[w.heap.size+1]? = some (.loop (rec .done (some .ret)))/\W.heap[w.heap.size]? = some (.deferred (some [])))
  (λpre W v hJ=>⟨hI _ _ _ (Lo.setCell W v) hJ.1,(cT W Bs _ v (by omega)).trans hJ.2.1,(cT W Bs _ v (by omega)).trans hJ.2.2⟩) hne hnv ?_ W1
  ((eG (yo.block _ hBs)).trans hs) ((qQ (yo.block _ hBs)).trans hfr) ((eG (yo.block _ hBp)).trans hp) ((eG (yo.block _ hBv)).trans hv) ⟨hI1,hL1,hK1⟩).mono ?_
 .rintro pre x W ⟨hi,hl,hk⟩ hpx;have hlt:w.heap.size+1<W.heap.size:=(aB.1 hl).1;have hy:=run_yield (P:=Tryz.prog) (args := #[.string x]) hl (by rw[hrec];rfl);rw[hrec]at hy;refine⟨fn,_,assign,body,hy,roundIn_of_wpIn hfn (hassign _ x W _ ⟨_,run_beginRound hl (by rw[hrec]),?_⟩)⟩;have A6:(W.putObj (w.heap.size+1) (.loop { rec .ready none with state:=.busy })).heap[w.heap.size+1]? = some (.loop { rec .ready none with state:=.busy }):=World.putObj_heap_same hlt;have hk2:∀r,r≠w.heap.size+1->(W.putObj (w.heap.size+1) (.loop { rec .ready none with state:=.busy })).heap[r]? = W.heap[r]? := λr hr=>World.putObj_heap_other hr
  refine wpIn_mono (hbody _ pre x _ (hI _ _ _ (Lo.putObj W _ (by omega)) hi) hpx) ?_;have fin:∀(jump:Option Code) (W3:World),(∀r,r=w.heap.size\/r=w.heap.size+1\/r=Bs\/r=Bp\/r=Bv->W3.heap[r]? = (W.putObj (w.heap.size+1) (.loop { rec .ready none with state:=.busy })).heap[r]?) ->
   (Instr.endRound (w.heap.size+1) jump).run Tryz.prog W3 = .ok (.bool jump.isNone) (W3.putObj (w.heap.size+1) (.loop (rec (if jump.isNone then .ready else .done) jump))) /\
   (W3.putObj (w.heap.size+1) (.loop (rec (if jump.isNone then .ready else .done) jump))).heap[w.heap.size+1]? = some (.loop (rec (if jump.isNone then .ready else .done) jump)) /\
   (∀r,r=w.heap.size\/r=Bs\/r=Bp\/r=Bv->(W3.putObj (w.heap.size+1) (.loop (rec (if jump.isNone then .ready else .done) jump))).heap[r]? = W.heap[r]?):=λjump W3 zn=>by
   have hl3:=(zn _ (.inr (.inl rfl))).trans A6;have:=run_endRound (P:=Tryz.prog) jump hl3;rw[hrec]at this ⊢;refine⟨this,World.putObj_heap_same (aB.1 hl3).1,λr hr=>?_⟩;have Ez:r≠w.heap.size+1:=by omega
   rw[World.putObj_heap_other Ez,zn r (by omega),hk2 r Ez]
  rintro e a3 W3 SW;cases e with
  |normal =>
   obtain⟨zn,hi3⟩:=SW;obtain⟨hr,hl4,F3⟩:=fin none W3 zn;exact⟨_,_,hr,.inl ⟨rfl,⟨hI _ _ _ (Lo.putObj W3 _ (by omega)) hi3,hl4,(F3 _ (.inl rfl)).trans hk⟩,F3 _ (.inr (.inl rfl)),F3 _ (.inr (.inr (.inl rfl))),F3 _ (.inr (.inr (.inr rfl)))⟩⟩
  |ret =>
   obtain⟨zn,hi3⟩:=SW;obtain⟨hr,hl4,F3⟩:=fin (some .ret) W3 zn;exact⟨_,_,hr,.inr ⟨rfl,hIx _ _ _ (Lo.putObj W3 _ (by omega)) hi3,hl4,(F3 _ (.inl rfl)).trans hk⟩⟩
  |exit id=>exact SW.elim
  |goto t=>exact SW.elim
  |panic ch=>exact SW.elim
  |outgrown=>exact SW.elim
 rintro e W2 ⟨⟨v,rfl⟩,(⟨hi,hl,hk⟩|⟨pre,hpre,hi,hl,hk⟩)⟩
 .exact ⟨none,_,by have:=run_endLoop (P:=Tryz.prog) hl (by rw[hrec];simp);rw[hrec]at this;exact this,hdone _ (hI _ _ _ (Lo.putObj W2 _ (by omega)) hi) ((World.putObj_heap_other (by omega)).trans hk)⟩
 exact⟨some .ret,_,by have:=run_endLoop (P:=Tryz.prog) hl (by rw[hrec];simp);rw[hrec]at this;exact this,hstop pre _ hpre (hIx _ _ _ (Lo.putObj W2 _ (by omega)) hi) ((World.putObj_heap_other (by omega)).trans hk)⟩
end Go.Proofs.YtbeckacfibledaaGreatDoor.nm
namespace Go.Proofs.YtbeckacfibledaaGreatDoor.nm
open Go.RowKit Go.Shelf Go.Lib
attribute [local go_sem] Oper.semAt_some
set_option maxRecDepth 100000 in
set_option maxHeartbeats 1000000 in
theorem call101 (s t:ByteArray)(w:World):Calls Tryz.prog 78 #[.string s,.string t,.int .i64 0] w λe w'=>e = .returned (.func (.func 118) #[] #[.pointer (some ⟨w.heap.size+1,0,none⟩),.pointer (some ⟨w.heap.size,0,none⟩),.pointer (some ⟨w.heap.size+2,0,none⟩)]) /\
 w'=((w.alloc (.cells #[.string s] 9)).alloc (.cells #[.string t] 9)).alloc (.cells #[.int .i64 0] 3):=by
 go_enter Tryz.func78,Tryz.ntmps78
 go_wp2
 go_ret
 exact⟨rfl,rfl⟩
set_option maxRecDepth 100000 in
set_option maxHeartbeats 1000000 in
theorem call69 (s t:ByteArray)(w:World):Calls Tryz.prog 41 #[.string s,.string t] w λe w'=>e = .returned (.func (.func 118) #[] #[.pointer (some ⟨w.heap.size+1,0,none⟩),.pointer (some ⟨w.heap.size,0,none⟩),.pointer (some ⟨w.heap.size+2,0,none⟩)]) /\
 w'=((w.alloc (.cells #[.string s] 9)).alloc (.cells #[.string t] 9)).alloc (.cells #[.int .i64 0] 3):=by
 go_enter Tryz.func41,Tryz.ntmps41
 go_wp2_with (go_at_call 78;refine(call101 _ _ _).mono ?_;rintro e w' ⟨rfl,rfl⟩)
 go_ret
 exact⟨rfl,rfl⟩
theorem qR {fn:Func}{p q:Tmp}{ty tz:TypeId}(h:fn.results = #[.cell p ty,.cell q tz]){P:Program}{w:World}{tmps:Array Value}{a b:Addr}{v u:Value}(ha:∀w,(isAgg ty).run P w = .ok false w)(hb:∀w,(isAgg tz).run P w = .ok false w)
 (hp:tmps.getD p undef = .pointer (some a)) (hq:tmps.getD q undef = .pointer (some b)) (hc:w.cell? a=some v) (hd:w.cell? b=some u) :
 (results fn tmps).run P w = .ok (.tuple #[v,u]) w:=by
 have hp':tmps[p]?.getD undef = .pointer (some a):=by simpa using hp
 have hq':tmps[q]?.getD undef = .pointer (some b):=by simpa using hq
 simp[results,h,go_sem,hp',hc,ha,hb,hq',hd]
def Var (W:World)(b:Nat)(v:Value):Prop:=W.cell? ⟨b,0,none⟩=some v/\W.frozen? ⟨b,0,none⟩=false
theorem Var.new (W:World)(v:Value)(t:TypeId):Var (W.alloc (.cells #[v] t)) W.heap.size v:=by
 have h:=World.alloc_heap_new W (.cells #[v] t);constructor
 .unfold World.cell?;simp only[h];rfl
 unfold World.frozen?;simp only[h];rfl
theorem Var.heap {W W':World}{b:Nat}{v:Value}(h:Var W b v)(e:W'.heap[b]? = W.heap[b]?):Var W' b v:=⟨(eG e).trans h.1,(qQ e).trans h.2⟩
theorem Var.lt {W:World}{b:Nat}{v:Value}(h:Var W b v):b<W.heap.size:=World.block_lt_of_cell? _ _ h.1
theorem Var.alloc {W:World}{b:Nat}{v:Value}(h:Var W b v)(o:Obj):Var (W.alloc o) b v:=h.heap (Below.heap_alloc _ _ _ h.lt)
theorem Var.set {W:World}{b:Nat}{v:Value}(h:Var W b v)(u:Value):Var (W.setCell ⟨b,0,none⟩ u) b u:=⟨World.cell?_setCell_same' _ _ _ (by rw[h.1];rfl),by rw[World.frozen?_setCell];exact h.2⟩
theorem Var.other {W:World}{b c:Nat}{v:Value}(h:Var W b v)(hne:b≠c)(u:Value):Var (W.setCell ⟨c,0,none⟩ u) b v:=h.heap (cT W c b u hne)
theorem Lo.var {m Bs b:Nat}{W W':World}{v:Value}(h:Lo m Bs W W')(hv:Var W b v)(hb:b<m)(hn:b≠Bs):Var W' b v:=hv.heap (h.block b hb hn)
theorem Lo.below {m Bs B:Nat}{w W W':World}(h:Lo m Bs W W')(hb:Below B w W)(hB:B<=m)(hs:B<=Bs):Below B w W' :=
 ⟨h.os.trans hb.os,h.tape.trans hb.tape,h.output.trans hb.output,br hb.size h.size,λk hk=>(h.block k (by omega) (by omega)).trans (hb.block k hk)⟩
def dh:List UInt8->List (List UInt8)
 |[]=>[[]]
 |c::r=>if c=32 then []::dh r else match dh r with
  |p::ps=>(c::p)::ps
  |[]=>[[c]]
theorem pn:∀l,dh l≠[]
 |[]=>by simp[dh]
 |c::r=>by
  rw[dh];split
  .simp
  split<;>simp
theorem sK:∀l:List UInt8,(Lib.indexByte l 32 = -1/\dh l=[l])\/∃o:Nat,Lib.indexByte l 32=o/\o<l.length/\dh l=l.take o::dh (l.drop (o+1))
 |[]=>.inl ⟨rfl,rfl⟩
 |c::r=>by
  rw[Lib.indexByte,dh];by_cases hc:c=32
  .subst hc;exact .inr ⟨0,by simp,by simp,by simp⟩
  rw[aa (by simpa using hc),aa hc];rcases sK r with⟨h1,h2⟩|⟨o,h1,h2,h3⟩
  .left
   rw[h1,h2];exact⟨rfl,rfl⟩
  right
  refine⟨o+1,?_,by simp;omega,?_⟩
  .rw[h1,aa (by simp)];rfl
  rw[h3];simp
abbrev we (l:List UInt8):ByteArray:=⟨l.toArray⟩
theorem extract_mk (l:List UInt8)(a b:Nat):(we l).extract a b=we ((l.take b).drop a):=by
 apply ByteArray.ext;apply jC;simp[pF]
theorem xb:∀(n:Nat) (l:List UInt8),l.length<n->uy 32 (we l) ((dh l).map we)
 |0,l,h=>absurd h (oK _)
 |n+1,l,h=>by
  rcases sK l with⟨h1,h2⟩|⟨o,h1,h2,h3⟩
  .rw[h2];exact .last _ (by simpa using h1)
  rw[h3,cP];have e1:we (l.take o)=(we l).extract 0 o:=by rw[extract_mk];simp
  have e2:we (l.drop (o+1))=(we l).extract (o+1) (we l).size:=by rw[extract_mk];simp[ByteArray.size,cU]
  rw[e1];refine .cut _ o _ (by simpa using h1) (by simpa[ByteArray.size] using h2) ?_;rw[<-e2];exact xb n _ (by rw[bQ];omega)
noncomputable def jy (acc:List (List UInt8))(cur:List UInt8):List UInt8->List (List UInt8)
 |[]=>(cur.reverse::acc).reverse
 |c::r=>Ev.ah (Nat.beq c.toNat 32) (jy (cur.reverse::acc) [] r) (jy acc (c::cur) r)
theorem pq:∀(l:List UInt8) (acc:List (List UInt8)) (cur:List UInt8),jy acc cur l=acc.reverse++(match dh l with|p::ps=>(cur.reverse++p)::ps | []=>[])
 |[],acc,cur=>by simp[jy,dh]
 |c::r,acc,cur=>by
  rw[jy,Ev.ax,dh,pq r,pq r];have hne:=pn r;by_cases hc:c=32
  .subst hc;rw[ag (by decide),ag rfl];cases hr:dh r with
   |nil=>exact absurd hr hne
   |cons p ps=>simp
  rw[aa (by simp only[aO];intro h;exact hc (jO.1 h)),aa hc];cases hr:dh r with
  |nil=>exact absurd hr hne
  |cons p ps=>simp
theorem xd (l:List UInt8):jy [] [] l=dh l:=by
 rw[pq];cases hr:dh l with
 |nil=>exact absurd hr (pn l)
 |cons p ps=>simp
def Jp:List Oper->Option ByteArray
 |[]=>none
 |o::l=>match o.op with
  |.call c=>match c.args.toList with
   |[.const (.string s),.const (.string _)]=>some s
   |_=>Jp l
  |_=>Jp l
def OT:Option ByteArray->Option ByteArray->Option ByteArray
 |some s,_=>some s
 |none,r=>r
noncomputable def afH (c:Code):Option ByteArray :=
 Code.rec (motive:=λ_=>Option ByteArray) none (λ_ ops _=>Jp ops.toList) (λ_ _ x y=>OT x y) (λ_ _ _ x y=>OT x y) (λ_ _ b=>b) (λ_ b=>b)
  (λ_ _ _ _ x y=>OT x y) (λ_=>none) (λ_ b=>b) (λ_=>none) (λ_=>none) none (λ_=>none) c
noncomputable def nB:ByteArray:=match Tryz.f38.body with|some c=>(afH c).getD .empty|none=>.empty
noncomputable def fK:List (List UInt8):=jy [] [] nB.data.toList
theorem vz (s:ByteArray):uy 32 s ((jy [] [] s.data.toList).map we):=by
 have h:=xb (s.data.toList.length+1) s.data.toList (Nat.lt_succ_self _);rw[xd];have e:we s.data.toList=s:=by obtain⟨d⟩:=s;simp
 rw[e]at h;exact h
theorem V4:uy 32 nB (fK.map we):=vz nB
theorem aar:fK.length=322:=by kernel_rfl
noncomputable def vW (l:List UInt8):Nat->Nat:=List.rec (motive:=λ_=>Nat->Nat) (λn=>n) (λ_ _ go n=>go (Nat.add n 1)) l
theorem Jq:∀(l:List UInt8) (n:Nat),vW l n=n+l.length
 |[],n=>rfl
 |c::r,n=>by
  show vW r (n+1)=_;rw[Jq r];simp;omega
theorem afI:Nat.ble (vW nB.data.toList 0) 2000000=true:=by kernel_rfl
theorem Q1 (s:ByteArray)(h:Nat.ble (vW s.data.toList 0) 2000000=true):s.size<=2000000:=by
 have:=az h;rw[Jq,bX]at this;exact this
theorem aas:nB.size<=2000000:=Q1 nB afI
theorem aat (s:ByteArray)(hs:s=nB)(w:World):Calls Tryz.prog 41 #[.string s,.string ⟨#[32]⟩] w λe w'=>e = .returned (.func (.func 118) #[] #[.pointer (some ⟨w.heap.size+1,0,none⟩),.pointer (some ⟨w.heap.size,0,none⟩),.pointer (some ⟨w.heap.size+2,0,none⟩)]) /\
 w'=((w.alloc (.cells #[.string nB] 9)).alloc (.cells #[.string ⟨#[32]⟩] 9)).alloc (.cells #[.int .i64 0] 3):=by
 subst hs;exact call69 _ _ _
end Go.Proofs.YtbeckacfibledaaGreatDoor.nm
namespace Go.Proofs.YtbeckacfibledaaGreatDoor.nm
open Go.Tv Go.Ev
noncomputable section
def X1:ij:={ P:=Tryz.prog,G:=0,gv:=λ_=>[] }
def gO:ei:=⟨.none,.none,[]⟩
def K0:Up:=λ_=>none
def inl:FuncId->Bool:=λ_=>true
def e0 (β:Type):cI β:=sJ X1 K0 inl 200 β 40
theorem V5 (β:Type):cX X1 (dR X1 qv) (e0 β):=lB (by intro id s g h;cases h) (λ_ _ _=>rfl) 200 40 β
theorem nk (f:FuncId)(args:List Value):qv f args=none:=rfl
theorem jd:Ev.jd Tryz.prog:=Ev.Lm (by kernel_rfl)
theorem mixed:Tryz.prog.follows .mixedOrders=true:=by kernel_rfl
theorem V6 (w:World):fm X1 (vt w):=λg hg _=>absurd hg (oK g)
def V7:List (List UInt8×Int):=[([111],0),([110,111],1),([98],2),([99],2),([110,97,101],2),([97,101],3),([110,98],3),([110,99],3),([101],4),([122],4),([110,101],5),([110,122],5),([98,101],6),([110,97],6),([97],7),([110,98,101],7),
 ([115],8),([110,115],9),([112],10),([112,101],10),([110,112],11),([112,111],11),([108],12),([110,103,101],12),([103,101],13),([110,108],13),([108,101],14),([110,103],14),([103],15),([110,108,101],15)]
def V8 (s:List UInt8)(l:List (List UInt8×Int)):Option AV :=
 List.rec (motive:=λ_=>Option AV) (some (.fH [.int .i64 0,.bool false])) (λq _ r=>ah (decide (q.1=s)) (some (.fH [.int .i64 q.2,.bool true])) r) l
def Au (s:List UInt8):List (List UInt8×Int)->Int×Bool
 |[]=>(0,false)
 |q::l=>if q.1=s then (q.2,true) else Au s l
def uz (s:List UInt8):Int×Bool:=Au s V7
theorem afJ (s:List UInt8):aT X1 (e0 AV) gO 200 76 [.str s] aG.empty (λv _=>some v)=V8 s V7:=by kernel_rfl
theorem LX (s:List UInt8):∀l,V8 s l=some (.fH [.int .i64 (Au s l).1,.bool (Au s l).2])
 |[]=>rfl
 |q::l=>by
  show ah (decide (q.1=s)) (some (.fH [.int .i64 q.2,.bool true])) (V8 s l)=_;rw[ax,Au,LX s l];by_cases h:q.1=s
  .simp[h]
  simp[h]
theorem xe (w:World)(a:ByteArray):VR (vt w) (.str a.data.toList) (.string a):=by
 have h:=VR.str (S:=vt w) a.data.toList;have e:(⟨a.data.toList.toArray⟩:ByteArray)=a:=by obtain⟨d⟩:=a;simp
 rw[e]at h;exact h
theorem LY {S:Wo}{a b:AV}{a' b':Value}(ha:∀x,VR S a x->x=a')(hb:∀x,VR S b x->x=b'){v:Value}(h:VR S (.fH [a,b]) v):v = .tuple #[a',b']:=by
 cases h with
 |fH l m hl hv =>
  match m,hl with
  |[x,y],_ =>
   rw[ha x (hv 0 a x rfl rfl),hb y (hv 1 b y rfl rfl)]
theorem aau (s:ByteArray)(w:World):Calls Tryz.prog 76 #[.string s] w λe w'=>e = .returned (.tuple #[.int .i64 (uz s.data.toList).1,.bool (uz s.data.toList).2])/\RowKit.Below w.heap.size w w' :=
 Jm (X:=X1) jd mixed vi (v:=.fH [.int .i64 (uz s.data.toList).1,.bool (uz s.data.toList).2]) (λS x hx=>LY (λ_ h=>h.fT) (λ_ h=>h.mq) hx) rfl
  (λS E bJ hr hg hl=>Ar (nk 76) V5 ((afJ s.data.toList).trans (LX _ _)) S E bJ hr hg hl) (ct _) (V6 w) (args':=[.string s]) (LV.cons (xe w s) LV.nil) rfl
def xg (s p:List UInt8):List UInt8×Bool:=if s.take p.length=p then (s.drop p.length,true) else (s,false)
theorem afK (s p:List UInt8):aT X1 (e0 AV) gO 200 75 [.str s,.str p] aG.empty (λv _=>some v) =
 ah (!bC ↑s.length ↑p.length) (ah (!bC ↑p.length 0 && !bC (Int.ofNat s.length) ↑p.length) (ah (!decide (dX s 0 ↑p.length=p)) (some (.fH [.str s,.bool false]))
  (ah (!bC ↑p.length 0 && !bC (Int.ofNat s.length) ↑p.length) (some (.fH [.str (dX s ↑p.length ↑s.length),.bool true])) none)) none) (some (.fH [.str s,.bool false])):=by kernel_rfl
theorem akB (s p:List UInt8):aT X1 (e0 AV) gO 200 75 [.str s,.str p] aG.empty (λv _=>some v)=some (.fH [.str (xg s p).1,.bool (xg s p).2]):=by
 rw[afK];unfold xg;by_cases h:s.length<p.length
 .rw[pZ (by omega),aa (λe=>by have:=cr List.length e;simp at this;omega)];rfl
 rw[fL (by omega),fL (a:=(p.length:Int)) (b:=0) (by omega),fL (a:=Int.ofNat s.length) (by simp;omega)];have e1:dX s 0 (p.length:Int)=s.take p.length:=by unfold dX;simp
 have e2:dX s (p.length:Int) (s.length:Int)=s.drop p.length:=by
  unfold dX;simp only[bg];rw[cU (by rw[bQ];omega)]
 rw[e1,e2];by_cases hp:s.take p.length=p
 .rw[ag hp,aX hp];rfl
 rw[aa hp,aU hp];rfl
theorem aav (s p:ByteArray)(w:World):Calls Tryz.prog 75 #[.string s,.string p] w λe w'=>e = .returned (.tuple #[.string (we (xg s.data.toList p.data.toList).1),.bool (xg s.data.toList p.data.toList).2])/\RowKit.Below w.heap.size w w' :=
 Jm (X:=X1) jd mixed vi (v:=.fH [.str (xg s.data.toList p.data.toList).1,.bool (xg s.data.toList p.data.toList).2]) (λS x hx=>LY (λ_ h=>h.jw) (λ_ h=>h.mq) hx) rfl
  (λS E bJ hr hg hl=>Ar (nk 75) V5 (akB s.data.toList p.data.toList) S E bJ hr hg hl) (ct _) (V6 w) (args':=[.string s,.string p]) (LV.cons (xe w s) (LV.cons (xe w p) LV.nil)) rfl
end
end Go.Proofs.YtbeckacfibledaaGreatDoor.nm
