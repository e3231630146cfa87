/- A range over strings.SplitSeq: the law for a loop's body that reads and writes cells of its own. name.Name: the contract. cond.Parse, strings.CutPrefix, by runs of the symbolic layer. -/
import Derived.RangeFuncNested
import Derived.RangeFuncBound
import Derived.RangeFuncCalls
import Derived.RangeFuncLeaves
import Derived.Shelf.Abstract
import Derived.WalkKit
import Derived.OwnWalkIn
import Derived.TacticsInMore
import Derived.LoopNIn
import Derived.LoopIn
import Derived.Lib.Bytealg
import Derived.Test.YtbeckacfibledaaGreatDoorRows
import Derived.Test.YtbeckacfibledaaGreatDoorLya
import Derived.Lib.IndexLaws
import Derived.Test.YtbeckacfibledaaGreatDoorLyg
set_option linter.unusedVariables false
set_option linter.unusedSimpArgs false

namespace Go.Proofs.YtbeckacfibledaaGreatDoor.nm
open Go.RowKit Go.Shelf Go.Lib
set_option maxRecDepth 100000 in
set_option maxHeartbeats 1000000 in
theorem ae6 (s:ByteArray)(c:Int)(w:World):Calls Tryz.prog 161 #[.string s,.int .u8 c] w λe w'=>e = .returned (.int .i64 (Lib.indexByte s.data.toList c.toNat.toUInt8))/\w'=w:=by
 go_enter Tryz.func161,Tryz.ntmps161
 go_wp2
 rw[run_callFunc_extern Tryz.func173 (by kernel_rfl) (by kernel_rfl) (by kernel_rfl) (e:=Extern.BytealgIndexByte.indexByte) (by kernel_rfl),Lib.run_indexByteString];simp only[Result.andThen];rw[Oper.upon_value]
 go_wp2
 go_ret
 exact⟨rfl,rfl⟩
set_option maxRecDepth 100000 in
set_option maxHeartbeats 1000000 in
theorem ae7 (c:UInt8)(s:ByteArray)(w:World):Calls Tryz.prog 147 #[.string s,.string ⟨#[c]⟩] w λe w'=>e = .returned (.int .i64 (Lib.indexByte s.data.toList c))/\w'=w:=by
 go_enter Tryz.func147,Tryz.ntmps147
 go_wp2_with (go_at_call 161;refine(ae6 _ _ _).mono ?_;rintro e w' ⟨rfl,rfl⟩)
 .rename_i h
  go_ret
  have hs:s.data.toList=[c]:=by
   have:=eq_of_beq h;rw[ByteArray.toList_eq]at this;exact this.symm
  refine⟨?_,rfl⟩;rw[hs];simp[Lib.indexByte]
 go_ret
 refine⟨?_,rfl⟩;congr 2
set_option maxRecDepth 100000 in
set_option maxHeartbeats 1000000 in
theorem VE (c:UInt8)(s:ByteArray)(w:World):Calls Tryz.prog 120 #[.string s,.string ⟨#[c]⟩] w λe w'=>e = .returned (.int .i64 (Lib.indexByte s.data.toList c))/\w'=w:=by
 go_enter Tryz.func120,Tryz.ntmps120
 go_wp2_with (go_at_call 147;refine(ae7 _ _ _).mono ?_;rintro e w' ⟨rfl,rfl⟩)
 go_ret
 exact⟨rfl,rfl⟩
inductive uj (c:UInt8):ByteArray->List ByteArray->Prop
 |last (s:ByteArray) (h:Lib.indexByte s.data.toList c = -1):uj c s [s]
 |cut (s:ByteArray) (i:Nat) (rest:List ByteArray) (h:Lib.indexByte s.data.toList c=i) (hi:i<s.size) (hr:uj c (s.extract (i+1) s.size) rest):uj c s (s.extract 0 i::rest)
theorem eG {W W':World}{b o:Nat}(h:W'.heap[b]? = W.heap[b]?):W'.cell? ⟨b,o,none⟩=W.cell? ⟨b,o,none⟩:=by
 unfold World.cell?;simp only[h]
theorem qH {W W':World}{b o:Nat}(h:W'.heap[b]? = W.heap[b]?):W'.frozen? ⟨b,o,none⟩=W.frozen? ⟨b,o,none⟩:=by
 unfold World.frozen?;simp only[h]
def leftOf (B:Nat)(w:World):Nat:=match w.cell? ⟨B,0,none⟩ with|some (.string s)=>s.size|_=>0
set_option maxRecDepth 100000 in
set_option maxHeartbeats 1000000 in
theorem LG (c:UInt8)(n:Nat)(hn:1<=n)(l Bs Bp Bv:Nat)(s0:ByteArray)(xs:List ByteArray)(hx:uj c s0 xs)(hz:s0.size<=2000000)(J Jx:List ByteArray->World->Prop)
 (hJs:∀pre W v,J pre W->J pre (W.setCell ⟨Bs,0,none⟩ v)) (hne:Bp≠Bs) (hnv:Bv≠Bs)
 (hY:∀pre x W,J pre W->pre++[x] <+: xs->YieldAt Fence.wide (n-1) Tryz.prog l #[.string x] W λe W' =>
  (e = .returned (.bool true)/\J (pre++[x]) W'/\(W'.heap[Bs]? = W.heap[Bs]? /\ W'.heap[Bp]? = W.heap[Bp]? /\ W'.heap[Bv]? = W.heap[Bv]?))\/(e = .returned (.bool false)/\Jx (pre++[x]) W'))
 (W:World) (hs:W.cell? ⟨Bs,0,none⟩=some (.string s0)) (hfr:W.frozen? ⟨Bs,0,none⟩=false) (hp:W.cell? ⟨Bp,0,none⟩=some (.string ⟨#[c]⟩)) (hv:W.cell? ⟨Bv,0,none⟩=some (.int .i64 0)) (h0:J [] W) :
 CallsIn Fence.wide n Tryz.prog 118 #[.func (.yield l) #[] #[],.pointer (some ⟨Bp,0,none⟩),.pointer (some ⟨Bs,0,none⟩),.pointer (some ⟨Bv,0,none⟩)] W λe W' =>
  (∃v,e = .returned v)/\(J xs W'\/∃pre,pre <+: xs/\Jx pre W'):=by
 refine callsIn_of_wp Tryz.func118 rfl trivial ?_ rfl;simp only[Tryz.ntmps118,iL,aJ,bz,Nat.reduceAdd,Nat.reduceSub,kI,kJ,mV,lH,eR,fO]
 gi_wp2
 gi_loopw [] (λwr=>∃(pre rest:List ByteArray) (s:ByteArray),xs=pre++rest/\uj c s rest/\s.size<=2000000/\wr.cell? ⟨Bs,0,none⟩=some (.string s)/\wr.frozen? ⟨Bs,0,none⟩=false/\wr.cell? ⟨Bp,0,none⟩=some (.string ⟨#[c]⟩)/\wr.cell? ⟨Bv,0,none⟩=some (.int .i64 0)/\J pre wr)
  (λwr=>leftOf Bs wr)
 case atStart=>exact⟨[],xs,s0,rfl,hx,hz,hs,hfr,hp,hv,h0⟩
 case round =>
  obtain⟨pre,rest,s,hxs,hpt,hsz,hcs,hcf,hcp,hcv,hJ⟩:=hrel;cases hpt with
  |last _ h =>
   obtain⟨fn,tmps,assign,body,hy,hR⟩:=hY pre s wr hJ (by rw[hxs];exact List.prefix_refl _);have VF:CallsIn Fence.wide (n-1) Tryz.prog 120 #[.string s,.string ⟨#[c]⟩] wr λe w'=>e = .returned (.int .i64 (-1))/\w'=wr:=by
    have:=callsIn_wide (n:=n-1) |>.2 (VE c s wr);rwa[h]at this
   gi_wp2_with (refine⟨trivial,?_⟩;gi_at_call 120;refine VF.mono ?_;rintro e w' ⟨rfl,rfl⟩)
   refine hR.mono ?_;rintro e W3 (⟨rfl,Ou,_⟩|⟨rfl,ae8⟩)
   .gi_wp2
    go_end0
    exact⟨⟨_,rfl⟩,.inl (by rw[hxs];exact Ou)⟩
   gi_wp2
   go_end0
   exact⟨⟨_,rfl⟩,.inr ⟨pre++[s],by rw[hxs];exact List.prefix_refl _,ae8⟩⟩
  |cut _ i rest h hi hr =>
   obtain⟨fn,tmps,assign,body,hy,hR⟩:=hY pre (s.extract 0 i) wr hJ ⟨rest,by rw[hxs];simp⟩;have VF:CallsIn Fence.wide (n-1) Tryz.prog 120 #[.string s,.string ⟨#[c]⟩] wr λe w'=>e = .returned (.int .i64 (i:Int))/\w'=wr:=by
    have:=callsIn_wide (n:=n-1) |>.2 (VE c s wr);rwa[h]at this
   gi_wp2_with (refine⟨trivial,?_⟩;gi_at_call 120;refine VF.mono ?_;rintro e w' ⟨rfl,rfl⟩)
   refine hR.mono ?_;rintro e W3 (⟨rfl,Ou,hk1,hk2,zc⟩|⟨rfl,ae8⟩)
   .have aoo:W3.cell? ⟨Bs,0,none⟩=some (.string s):=(eG hk1).trans hcs;have aop:W3.frozen? ⟨Bs,0,none⟩=false:=(qH hk1).trans hcf;have aoq:W3.cell? ⟨Bp,0,none⟩=some (.string ⟨#[c]⟩):=(eG hk2).trans hcp;have aor:W3.cell? ⟨Bv,0,none⟩=some (.int .i64 0):=(eG zc).trans hcv
    gi_wp2
    have ar5:(s.extract (i+1) s.size).size=s.size-(i+1):=by simp[jX]
    have hc4:=World.cell?_setCell_same' W3 ⟨Bs,0,none⟩ (.string (s.extract (i+1) s.size)) (by rw[aoo];rfl)
    go_roundw
    case rel =>
     refine⟨pre++[s.extract 0 i],rest,s.extract (i+1) s.size,by rw[hxs];simp,hr,by omega,hc4,by rw[World.frozen?_setCell];exact aop,?_,?_,hJs _ _ _ Ou⟩
     .rw[World.cell?_setCell_other _ _ _ _ (by simp)];exact aoq
     rw[World.cell?_setCell_other _ _ _ _ (by simp)];exact aor
    case measure =>
     unfold leftOf;rw[hc4,hcs];show (s.extract (i+1) s.size).size<s.size;omega
   gi_wp2
   refine bodyPost_ret (results_none rfl _ _ _) rfl ?_;exact⟨⟨_,rfl⟩,.inr ⟨pre++[s.extract 0 i],⟨rest,by rw[hxs];simp⟩,ae8⟩⟩
structure Lo (m Bs:Nat)(W W':World):Prop where
 os:W'.os=W.os
 tape:W'.tape=W.tape
 output:W'.output=W.output
 size:W.heap.size<=W'.heap.size
 block:∀k,k<m->k≠Bs->W'.heap[k]? = W.heap[k]?
theorem Lo.alloc {m Bs:Nat}(W:World)(o:Obj)(h:m<=W.heap.size):Lo m Bs W (W.alloc o):=by
 have:=(Below.refl m W).alloc h o;exact⟨this.os,this.tape,this.output,this.size,λk hk _=>this.block k hk⟩
theorem Lo.putObj {m Bs r:Nat}(W:World)(o:Obj)(h:m<=r):Lo m Bs W (W.putObj r o) :=
 ⟨rfl,rfl,rfl,by simp,λk hk _=>World.putObj_heap_other (by omega)⟩
theorem cT (W:World)(b k:Nat)(v:Value)(h:k≠b):(W.setCell ⟨b,0,none⟩ v).heap[k]? = W.heap[k]? :=
 Below.heap_setCell _ _ _ k (λe=>h (by rw[e]))
theorem Lo.setCell {m Bs:Nat}(W:World)(v:Value):Lo m Bs W (W.setCell ⟨Bs,0,none⟩ v):=by
 have hb:=(Below.refl 0 W).setCell (p:=⟨Bs,0,none⟩) (ck _) v;exact⟨hb.os,hb.tape,hb.output,hb.size,λk _ hk=>cT W Bs k v hk⟩
def VG (m Bs Bp Bv:Nat)(I Ix:List ByteArray->World->Prop)(xs:List ByteArray)(W:World):Exit->Act->World->Prop
 |.normal,_,W'=>(∀r,r=m\/r=m+1\/r=Bs\/r=Bp\/r=Bv->W'.heap[r]? = W.heap[r]?)/\I xs W'
 |.ret,_,W'=>(∀r,r=m\/r=m+1\/r=Bs\/r=Bp\/r=Bv->W'.heap[r]? = W.heap[r]?)/\Ix xs W'
 |_,_,_=>False
theorem BC {g:Operand}{p:Tmp}{assign body:Code}{Q:Exit->Act->World->Prop}{a:Act}{w:World}{n:Nat}(h2:2<=n){m Bs Bp Bv:Nat}(hm:w.heap.size=m)
 (hg:a.eval g = .func (.func 118) #[] #[.pointer (some ⟨Bp,0,none⟩),.pointer (some ⟨Bs,0,none⟩),.pointer (some ⟨Bv,0,none⟩)])
 (hBs:Bs<m) (hBp:Bp<m) (hBv:Bv<m) (hne:Bp≠Bs) (hnv:Bv≠Bs) {s0:ByteArray} {xs:List ByteArray} (hx:uj 32 s0 xs) (hz:s0.size<=2000000)
 (hs:w.cell? ⟨Bs,0,none⟩=some (.string s0)) (hfr:w.frozen? ⟨Bs,0,none⟩=false) (hp:w.cell? ⟨Bp,0,none⟩=some (.string ⟨#[32]⟩)) (hv:w.cell? ⟨Bv,0,none⟩=some (.int .i64 0))
 (I Ix:List ByteArray->World->Prop) (hI:∀pre W W',Lo m Bs W W'->I pre W->I pre W') (hIx:∀pre W W',Lo m Bs W W'->Ix pre W->Ix pre W') (h0:I [] w) (a₁:ByteArray->Act)
 (hassign:∀(l:Nat) (x:ByteArray) (W:World) (K:Act->World->Prop),K (a₁ x) W ->
  assign.wpIn (Fence.wide.inRound l) (n-1-1) Tryz.prog (Exit.then K (λ_ _ _=>False)) { tmps:=((#[p]:Array Tmp).zip (#[.string x]:Array Value)).foldl (λt (p,v)=>t.setIfInBounds p v) a.tmps,defers:=[] } W)
 (hbody:∀(l:Nat) (pre:List ByteArray) (x:ByteArray) (W:World),I pre W->pre++[x] <+: xs->body.wpIn (Fence.wide.inRound l) (n-1-1) Tryz.prog (VG m Bs Bp Bv I Ix (pre++[x]) W) (a₁ x) W)
 (hdone:∀(W:World),I xs W->W.heap[m]? = some (.deferred (some []))->Q .normal { a with defers:={ target:=.collected m,args := #[] }::a.defers } W)
 (hstop:∀(pre:List ByteArray) (W:World),pre <+: xs->Ix pre W->W.heap[m]? = some (.deferred (some []))->Code.ret.wpIn Fence.wide n Tryz.prog Q { a with defers:={ target:=.collected m,args := #[] }::a.defers } W) :
 (Code.rangeFunc g #[p] assign body).wpIn Fence.wide n Tryz.prog Q a w:=by
 subst hm;refine wpIn_rangeFunc ?_;intro fn hfn;obtain⟨rec,hrec⟩:∃rec:LoopState->Option Code->Loop,rec=λst pe=>{ state:=st,pending:=pe,fn,tmps:=a.tmps,params := #[p],assign,body,defers:=w.heap.size }:=⟨_,rfl⟩
 obtain⟨W1,CK⟩:∃W1,(w.alloc (.deferred (some []))).alloc (.loop (rec .ready none))=W1:=⟨_,rfl⟩;have hL1:W1.heap[w.heap.size+1]? = some (.loop (rec .ready none)):=by
  rw[<-CK];have:=World.alloc_heap_new (w.alloc (.deferred (some []))) (.loop (rec .ready none));rwa[World.size_alloc]at this
 have hK1:W1.heap[w.heap.size]? = some (.deferred (some [])):=by
  rw[<-CK];exact(Below.heap_alloc _ _ _ (by simp)).trans (World.alloc_heap_new w _)
 have hI1:I [] W1:=by
  rw[<-CK];exact hI _ _ _ (Lo.alloc _ _ (by simp)) (hI _ _ _ (Lo.alloc _ _ (aC _)) h0)
 have x9:Below w.heap.size w W1:=by rw[<-CK];exact((Below.refl _ w).alloc (aC _) _).alloc (by simp) _
 refine⟨w.heap.size+1,[{ target:=.collected w.heap.size,args := #[] }],W1,{ target:=.fn (.func 118) #[.pointer (some ⟨Bp,0,none⟩),.pointer (some ⟨Bs,0,none⟩),.pointer (some ⟨Bv,0,none⟩)],args := #[.func (.yield (w.heap.size+1)) #[] #[]] },W1,118,
  #[.func (.yield (w.heap.size+1)) #[] #[]] ++ #[.pointer (some ⟨Bp,0,none⟩),.pointer (some ⟨Bs,0,none⟩),.pointer (some ⟨Bv,0,none⟩)],W1,?_,?_,?_,?_,λ_=>by omega,?_⟩
 .rw[<-CK,hrec];exact run_enterLoop_outer _ _ _ _ _
 .simp only[resolve,hg];simp[go_sem]
 .intro f' _;trivial
 .simp[invoke,go_sem]
 refine(LG 32 (n-1) (by omega) (w.heap.size+1) Bs Bp Bv s0 xs hx hz
  (λpre W=>I pre W/\W.heap[w.heap.size+1]? = some (.loop (rec .ready none))/\W.heap[w.heap.size]? = some (.deferred (some [])))
  (λpre W=>Ix pre W/\W.heap[w.heap.size+1]? = some (.loop (rec .done (some .ret)))/\W.heap[w.heap.size]? = some (.deferred (some [])))
  (λpre W v hJ=>⟨hI _ _ _ (Lo.setCell W v) hJ.1,(cT W Bs _ v (by omega)).trans hJ.2.1,(cT W Bs _ v (by omega)).trans hJ.2.2⟩) hne hnv ?_ W1
  ((eG (x9.block _ hBs)).trans hs) ((qH (x9.block _ hBs)).trans hfr) ((eG (x9.block _ hBp)).trans hp) ((eG (x9.block _ hBv)).trans hv) ⟨hI1,hL1,hK1⟩).mono ?_
 .rintro pre x W ⟨hi,hl,hk⟩ hpx;have hlt:w.heap.size+1<W.heap.size:=(aB.1 hl).1;have hy:=run_yield (P:=Tryz.prog) (args := #[.string x]) hl (by rw[hrec];rfl);rw[hrec]at hy;refine⟨fn,_,assign,body,hy,roundIn_of_wpIn hfn (hassign _ x W _ ⟨_,run_beginRound hl (by rw[hrec]),?_⟩)⟩;have CI:(W.putObj (w.heap.size+1) (.loop { rec .ready none with state:=.busy })).heap[w.heap.size+1]? = some (.loop { rec .ready none with state:=.busy }):=World.putObj_heap_same hlt;have hk2:∀r,r≠w.heap.size+1->(W.putObj (w.heap.size+1) (.loop { rec .ready none with state:=.busy })).heap[r]? = W.heap[r]? := λr hr=>World.putObj_heap_other hr
  refine wpIn_mono (hbody _ pre x _ (hI _ _ _ (Lo.putObj W _ (by omega)) hi) hpx) ?_;have fin:∀(jump:Option Code) (W3:World),(∀r,r=w.heap.size\/r=w.heap.size+1\/r=Bs\/r=Bp\/r=Bv->W3.heap[r]? = (W.putObj (w.heap.size+1) (.loop { rec .ready none with state:=.busy })).heap[r]?) ->
   (Instr.endRound (w.heap.size+1) jump).run Tryz.prog W3 = .ok (.bool jump.isNone) (W3.putObj (w.heap.size+1) (.loop (rec (if jump.isNone then .ready else .done) jump))) /\
   (W3.putObj (w.heap.size+1) (.loop (rec (if jump.isNone then .ready else .done) jump))).heap[w.heap.size+1]? = some (.loop (rec (if jump.isNone then .ready else .done) jump)) /\
   (∀r,r=w.heap.size\/r=Bs\/r=Bp\/r=Bv->(W3.putObj (w.heap.size+1) (.loop (rec (if jump.isNone then .ready else .done) jump))).heap[r]? = W.heap[r]?):=λjump W3 zc=>by
   have hl3:=(zc _ (.inr (.inl rfl))).trans CI;have:=run_endRound (P:=Tryz.prog) jump hl3;rw[hrec]at this ⊢;refine⟨this,World.putObj_heap_same (aB.1 hl3).1,λr hr=>?_⟩;have Em:r≠w.heap.size+1:=by omega
   rw[World.putObj_heap_other Em,zc r (by omega),hk2 r Em]
  rintro e a3 W3 SA;cases e with
  |normal =>
   obtain⟨zc,hi3⟩:=SA;obtain⟨hr,hl4,FQ⟩:=fin none W3 zc;exact⟨_,_,hr,.inl ⟨rfl,⟨hI _ _ _ (Lo.putObj W3 _ (by omega)) hi3,hl4,(FQ _ (.inl rfl)).trans hk⟩,FQ _ (.inr (.inl rfl)),FQ _ (.inr (.inr (.inl rfl))),FQ _ (.inr (.inr (.inr rfl)))⟩⟩
  |ret =>
   obtain⟨zc,hi3⟩:=SA;obtain⟨hr,hl4,FQ⟩:=fin (some .ret) W3 zc;exact⟨_,_,hr,.inr ⟨rfl,hIx _ _ _ (Lo.putObj W3 _ (by omega)) hi3,hl4,(FQ _ (.inl rfl)).trans hk⟩⟩
  |exit id=>exact SA.elim
  |goto t=>exact SA.elim
  |panic ch=>exact SA.elim
  |outgrown=>exact SA.elim
 rintro e W2 ⟨⟨v,rfl⟩,(⟨hi,hl,hk⟩|⟨pre,hpre,hi,hl,hk⟩)⟩
 .exact ⟨none,_,by have:=run_endLoop (P:=Tryz.prog) hl (by rw[hrec];simp);rw[hrec]at this;exact this,hdone _ (hI _ _ _ (Lo.putObj W2 _ (by omega)) hi) ((World.putObj_heap_other (by omega)).trans hk)⟩
 exact⟨some .ret,_,by have:=run_endLoop (P:=Tryz.prog) hl (by rw[hrec];simp);rw[hrec]at this;exact this,hstop pre _ hpre (hIx _ _ _ (Lo.putObj W2 _ (by omega)) hi) ((World.putObj_heap_other (by omega)).trans hk)⟩
end Go.Proofs.YtbeckacfibledaaGreatDoor.nm
namespace Go.Proofs.YtbeckacfibledaaGreatDoor.nm
open Go.RowKit Go.Shelf Go.Lib
attribute [local go_sem] Oper.semAt_some
set_option maxRecDepth 100000 in
set_option maxHeartbeats 1000000 in
theorem call101 (s t:ByteArray)(w:World):Calls Tryz.prog 78 #[.string s,.string t,.int .i64 0] w λe w'=>e = .returned (.func (.func 118) #[] #[.pointer (some ⟨w.heap.size+1,0,none⟩),.pointer (some ⟨w.heap.size,0,none⟩),.pointer (some ⟨w.heap.size+2,0,none⟩)]) /\
 w'=((w.alloc (.cells #[.string s] 9)).alloc (.cells #[.string t] 9)).alloc (.cells #[.int .i64 0] 3):=by
 go_enter Tryz.func78,Tryz.ntmps78
 go_wp2
 go_ret
 exact⟨rfl,rfl⟩
set_option maxRecDepth 100000 in
set_option maxHeartbeats 1000000 in
theorem call69 (s t:ByteArray)(w:World):Calls Tryz.prog 41 #[.string s,.string t] w λe w'=>e = .returned (.func (.func 118) #[] #[.pointer (some ⟨w.heap.size+1,0,none⟩),.pointer (some ⟨w.heap.size,0,none⟩),.pointer (some ⟨w.heap.size+2,0,none⟩)]) /\
 w'=((w.alloc (.cells #[.string s] 9)).alloc (.cells #[.string t] 9)).alloc (.cells #[.int .i64 0] 3):=by
 go_enter Tryz.func41,Tryz.ntmps41
 go_wp2_with (go_at_call 78;refine(call101 _ _ _).mono ?_;rintro e w' ⟨rfl,rfl⟩)
 go_ret
 exact⟨rfl,rfl⟩
theorem qI {fn:Func}{p q:Tmp}{ty tz:TypeId}(h:fn.results = #[.cell p ty,.cell q tz]){P:Program}{w:World}{tmps:Array Value}{a b:Addr}{v u:Value}(ha:∀w,(isAgg ty).run P w = .ok false w)(hb:∀w,(isAgg tz).run P w = .ok false w)
 (hp:tmps.getD p undef = .pointer (some a)) (hq:tmps.getD q undef = .pointer (some b)) (hc:w.cell? a=some v) (hd:w.cell? b=some u) :
 (results fn tmps).run P w = .ok (.tuple #[v,u]) w:=by
 have hp':tmps[p]?.getD undef = .pointer (some a):=by simpa using hp
 have hq':tmps[q]?.getD undef = .pointer (some b):=by simpa using hq
 simp[results,h,go_sem,hp',hc,ha,hb,hq',hd]
def Var (W:World)(b:Nat)(v:Value):Prop:=W.cell? ⟨b,0,none⟩=some v/\W.frozen? ⟨b,0,none⟩=false
theorem Var.new (W:World)(v:Value)(t:TypeId):Var (W.alloc (.cells #[v] t)) W.heap.size v:=by
 have h:=World.alloc_heap_new W (.cells #[v] t);constructor
 .unfold World.cell?;simp only[h];rfl
 unfold World.frozen?;simp only[h];rfl
theorem Var.heap {W W':World}{b:Nat}{v:Value}(h:Var W b v)(e:W'.heap[b]? = W.heap[b]?):Var W' b v:=⟨(eG e).trans h.1,(qH e).trans h.2⟩
theorem Var.lt {W:World}{b:Nat}{v:Value}(h:Var W b v):b<W.heap.size:=World.block_lt_of_cell? _ _ h.1
theorem Var.alloc {W:World}{b:Nat}{v:Value}(h:Var W b v)(o:Obj):Var (W.alloc o) b v:=h.heap (Below.heap_alloc _ _ _ h.lt)
theorem Var.set {W:World}{b:Nat}{v:Value}(h:Var W b v)(u:Value):Var (W.setCell ⟨b,0,none⟩ u) b u:=⟨World.cell?_setCell_same' _ _ _ (by rw[h.1];rfl),by rw[World.frozen?_setCell];exact h.2⟩
theorem Var.other {W:World}{b c:Nat}{v:Value}(h:Var W b v)(hne:b≠c)(u:Value):Var (W.setCell ⟨c,0,none⟩ u) b v:=h.heap (cT W c b u hne)
theorem Lo.var {m Bs b:Nat}{W W':World}{v:Value}(h:Lo m Bs W W')(hv:Var W b v)(hb:b<m)(hn:b≠Bs):Var W' b v:=hv.heap (h.block b hb hn)
theorem Lo.below {m Bs B:Nat}{w W W':World}(h:Lo m Bs W W')(hb:Below B w W)(hB:B<=m)(hs:B<=Bs):Below B w W' :=
 ⟨h.os.trans hb.os,h.tape.trans hb.tape,h.output.trans hb.output,br hb.size h.size,λk hk=>(h.block k (by omega) (by omega)).trans (hb.block k hk)⟩
def di:List UInt8->List (List UInt8)
 |[]=>[[]]
 |c::r=>if c=32 then []::di r else match di r with
  |p::ps=>(c::p)::ps
  |[]=>[[c]]
theorem oZ:∀l,di l≠[]
 |[]=>by simp[di]
 |c::r=>by
  rw[di];split
  .simp
  split<;>simp
theorem sA:∀l:List UInt8,(Lib.indexByte l 32 = -1/\di l=[l])\/∃o:Nat,Lib.indexByte l 32=o/\o<l.length/\di l=l.take o::di (l.drop (o+1))
 |[]=>.inl ⟨rfl,rfl⟩
 |c::r=>by
  rw[Lib.indexByte,di];by_cases hc:c=32
  .subst hc;exact .inr ⟨0,by simp,by simp,by simp⟩
  rw[aa (by simpa using hc),aa hc];rcases sA r with⟨h1,h2⟩|⟨o,h1,h2,h3⟩
  .left
   rw[h1,h2];exact⟨rfl,rfl⟩
  right
  refine⟨o+1,?_,by simp;omega,?_⟩
  .rw[h1,aa (by simp)];rfl
  rw[h3];simp
abbrev vU (l:List UInt8):ByteArray:=⟨l.toArray⟩
theorem extract_mk (l:List UInt8)(a b:Nat):(vU l).extract a b=vU ((l.take b).drop a):=by
 apply ByteArray.ext;apply jv;simp[o7]
theorem wS:∀(n:Nat) (l:List UInt8),l.length<n->uj 32 (vU l) ((di l).map vU)
 |0,l,h=>absurd h (oE _)
 |n+1,l,h=>by
  rcases sA l with⟨h1,h2⟩|⟨o,h1,h2,h3⟩
  .rw[h2];exact .last _ (by simpa using h1)
  rw[h3,cO];have e1:vU (l.take o)=(vU l).extract 0 o:=by rw[extract_mk];simp
  have e2:vU (l.drop (o+1))=(vU l).extract (o+1) (vU l).size:=by rw[extract_mk];simp[ByteArray.size,cU]
  rw[e1];refine .cut _ o _ (by simpa using h1) (by simpa[ByteArray.size] using h2) ?_;rw[<-e2];exact wS n _ (by rw[bQ];omega)
noncomputable def jt (acc:List (List UInt8))(cur:List UInt8):List UInt8->List (List UInt8)
 |[]=>(cur.reverse::acc).reverse
 |c::r=>Ev.ah (Nat.beq c.toNat 32) (jt (cur.reverse::acc) [] r) (jt acc (c::cur) r)
theorem o5:∀(l:List UInt8) (acc:List (List UInt8)) (cur:List UInt8),jt acc cur l=acc.reverse++(match di l with|p::ps=>(cur.reverse++p)::ps | []=>[])
 |[],acc,cur=>by simp[jt,di]
 |c::r,acc,cur=>by
  rw[jt,Ev.au,di,o5 r,o5 r];have hne:=oZ r;by_cases hc:c=32
  .subst hc;rw[ag (by decide),ag rfl];cases hr:di r with
   |nil=>exact absurd hr hne
   |cons p ps=>simp
  rw[aa (by simp only[aO];intro h;exact hc (jJ.1 h)),aa hc];cases hr:di r with
  |nil=>exact absurd hr hne
  |cons p ps=>simp
theorem wT (l:List UInt8):jt [] [] l=di l:=by
 rw[o5];cases hr:di l with
 |nil=>exact absurd hr (oZ l)
 |cons p ps=>simp
def Jd:List Oper->Option ByteArray
 |[]=>none
 |o::l=>match o.op with
  |.call c=>match c.args.toList with
   |[.const (.string s),.const (.string _)]=>some s
   |_=>Jd l
  |_=>Jd l
def Ov:Option ByteArray->Option ByteArray->Option ByteArray
 |some s,_=>some s
 |none,r=>r
noncomputable def afb (c:Code):Option ByteArray :=
 Code.rec (motive:=λ_=>Option ByteArray) none (λ_ ops _=>Jd ops.toList) (λ_ _ x y=>Ov x y) (λ_ _ _ x y=>Ov x y) (λ_ _ b=>b) (λ_ b=>b)
  (λ_ _ _ _ x y=>Ov x y) (λ_=>none) (λ_ b=>b) (λ_=>none) (λ_=>none) none (λ_=>none) c
noncomputable def nj:ByteArray:=match Tryz.f38.body with|some c=>(afb c).getD .empty|none=>.empty
noncomputable def iB:List (List UInt8):=jt [] [] nj.data.toList
theorem vl (s:ByteArray):uj 32 s ((jt [] [] s.data.toList).map vU):=by
 have h:=wS (s.data.toList.length+1) s.data.toList (Nat.lt_succ_self _);rw[wT];have e:vU s.data.toList=s:=by obtain⟨d⟩:=s;simp
 rw[e]at h;exact h
theorem VH:uj 32 nj (iB.map vU):=vl nj
theorem ZX:iB.length=322:=by kernel_rfl
noncomputable def vP (l:List UInt8):Nat->Nat:=List.rec (motive:=λ_=>Nat->Nat) (λn=>n) (λ_ _ go n=>go (Nat.add n 1)) l
theorem Je:∀(l:List UInt8) (n:Nat),vP l n=n+l.length
 |[],n=>rfl
 |c::r,n=>by
  show vP r (n+1)=_;rw[Je r];simp;omega
theorem afc:Nat.ble (vP nj.data.toList 0) 2000000=true:=by kernel_rfl
theorem QF (s:ByteArray)(h:Nat.ble (vP s.data.toList 0) 2000000=true):s.size<=2000000:=by
 have:=ay h;rw[Je,bV]at this;exact this
theorem ZY:nj.size<=2000000:=QF nj afc
theorem ZZ (s:ByteArray)(hs:s=nj)(w:World):Calls Tryz.prog 41 #[.string s,.string ⟨#[32]⟩] w λe w'=>e = .returned (.func (.func 118) #[] #[.pointer (some ⟨w.heap.size+1,0,none⟩),.pointer (some ⟨w.heap.size,0,none⟩),.pointer (some ⟨w.heap.size+2,0,none⟩)]) /\
 w'=((w.alloc (.cells #[.string nj] 9)).alloc (.cells #[.string ⟨#[32]⟩] 9)).alloc (.cells #[.int .i64 0] 3):=by
 subst hs;exact call69 _ _ _
end Go.Proofs.YtbeckacfibledaaGreatDoor.nm
namespace Go.Proofs.YtbeckacfibledaaGreatDoor.nm
open Go.Tv Go.Ev
noncomputable section
def X1:gY:={ P:=Tryz.prog,G:=0,gv:=λ_=>[] }
def gG:ez:=⟨.none,.none,[]⟩
def K0:T3:=λ_=>none
def inl:FuncId->Bool:=λ_=>true
def e0 (β:Type):cH β:=sy X1 K0 inl 200 β 40
theorem VI (β:Type):cX X1 (dR X1 qk) (e0 β):=lp (by intro id s g h;cases h) (λ_ _ _=>rfl) 200 40 β
theorem nk (f:FuncId)(args:List Value):qk f args=none:=rfl
theorem iX:Ev.iX Tryz.prog:=Ev.K8 (by kernel_rfl)
theorem mixed:Tryz.prog.follows .mixedOrders=true:=by kernel_rfl
theorem VJ (w:World):fk X1 (vi w):=λg hg _=>absurd hg (oE g)
def VK:List (List UInt8×Int):=[([111],0),([110,111],1),([98],2),([99],2),([110,97,101],2),([97,101],3),([110,98],3),([110,99],3),([101],4),([122],4),([110,101],5),([110,122],5),([98,101],6),([110,97],6),([97],7),([110,98,101],7),
 ([115],8),([110,115],9),([112],10),([112,101],10),([110,112],11),([112,111],11),([108],12),([110,103,101],12),([103,101],13),([110,108],13),([108,101],14),([110,103],14),([103],15),([110,108,101],15)]
def VL (s:List UInt8)(l:List (List UInt8×Int)):Option AV :=
 List.rec (motive:=λ_=>Option AV) (some (.fG [.int .i64 0,.bool false])) (λq _ r=>ah (decide (q.1=s)) (some (.fG [.int .i64 q.2,.bool true])) r) l
def Ad (s:List UInt8):List (List UInt8×Int)->Int×Bool
 |[]=>(0,false)
 |q::l=>if q.1=s then (q.2,true) else Ad s l
def uk (s:List UInt8):Int×Bool:=Ad s VK
theorem afd (s:List UInt8):aT X1 (e0 AV) gG 200 76 [.str s] aG.empty (λv _=>some v)=VL s VK:=by kernel_rfl
theorem LH (s:List UInt8):∀l,VL s l=some (.fG [.int .i64 (Ad s l).1,.bool (Ad s l).2])
 |[]=>rfl
 |q::l=>by
  show ah (decide (q.1=s)) (some (.fG [.int .i64 q.2,.bool true])) (VL s l)=_;rw[au,Ad,LH s l];by_cases h:q.1=s
  .simp[h]
  simp[h]
theorem wU (w:World)(a:ByteArray):VR (vi w) (.str a.data.toList) (.string a):=by
 have h:=VR.str (S:=vi w) a.data.toList;have e:(⟨a.data.toList.toArray⟩:ByteArray)=a:=by obtain⟨d⟩:=a;simp
 rw[e]at h;exact h
theorem LI {S:Wo}{a b:AV}{a' b':Value}(ha:∀x,VR S a x->x=a')(hb:∀x,VR S b x->x=b'){v:Value}(h:VR S (.fG [a,b]) v):v = .tuple #[a',b']:=by
 cases h with
 |fG l m hl hv =>
  match m,hl with
  |[x,y],_ =>
   rw[ha x (hv 0 a x rfl rfl),hb y (hv 1 b y rfl rfl)]
theorem Z0 (s:ByteArray)(w:World):Calls Tryz.prog 76 #[.string s] w λe w'=>e = .returned (.tuple #[.int .i64 (uk s.data.toList).1,.bool (uk s.data.toList).2])/\RowKit.Below w.heap.size w w' :=
 Ja (X:=X1) iX mixed uY (v:=.fG [.int .i64 (uk s.data.toList).1,.bool (uk s.data.toList).2]) (λS x hx=>LI (λ_ h=>h.fQ) (λ_ h=>h.mh) hx) rfl
  (λS E bK hr hg hl=>Ac (nk 76) VI ((afd s.data.toList).trans (LH _ _)) S E bK hr hg hl) (ck _) (VJ w) (args':=[.string s]) (LV.cons (wU w s) LV.nil) rfl
def wV (s p:List UInt8):List UInt8×Bool:=if s.take p.length=p then (s.drop p.length,true) else (s,false)
theorem afe (s p:List UInt8):aT X1 (e0 AV) gG 200 75 [.str s,.str p] aG.empty (λv _=>some v) =
 ah (!bB ↑s.length ↑p.length) (ah (!bB ↑p.length 0 && !bB (Int.ofNat s.length) ↑p.length) (ah (!decide (dX s 0 ↑p.length=p)) (some (.fG [.str s,.bool false]))
  (ah (!bB ↑p.length 0 && !bB (Int.ofNat s.length) ↑p.length) (some (.fG [.str (dX s ↑p.length ↑s.length),.bool true])) none)) none) (some (.fG [.str s,.bool false])):=by kernel_rfl
theorem aj3 (s p:List UInt8):aT X1 (e0 AV) gG 200 75 [.str s,.str p] aG.empty (λv _=>some v)=some (.fG [.str (wV s p).1,.bool (wV s p).2]):=by
 rw[afe];unfold wV;by_cases h:s.length<p.length
 .rw[qG (by omega),aa (λe=>by have:=cj List.length e;simp at this;omega)];rfl
 rw[fH (by omega),fH (a:=(p.length:Int)) (b:=0) (by omega),fH (a:=Int.ofNat s.length) (by simp;omega)];have e1:dX s 0 (p.length:Int)=s.take p.length:=by unfold dX;simp
 have e2:dX s (p.length:Int) (s.length:Int)=s.drop p.length:=by
  unfold dX;simp only[bg];rw[cU (by rw[bQ];omega)]
 rw[e1,e2];by_cases hp:s.take p.length=p
 .rw[ag hp,aX hp];rfl
 rw[aa hp,aU hp];rfl
theorem Z1 (s p:ByteArray)(w:World):Calls Tryz.prog 75 #[.string s,.string p] w λe w'=>e = .returned (.tuple #[.string (vU (wV s.data.toList p.data.toList).1),.bool (wV s.data.toList p.data.toList).2])/\RowKit.Below w.heap.size w w' :=
 Ja (X:=X1) iX mixed uY (v:=.fG [.str (wV s.data.toList p.data.toList).1,.bool (wV s.data.toList p.data.toList).2]) (λS x hx=>LI (λ_ h=>h.jr) (λ_ h=>h.mh) hx) rfl
  (λS E bK hr hg hl=>Ac (nk 75) VI (aj3 s.data.toList p.data.toList) S E bK hr hg hl) (ck _) (VJ w) (args':=[.string s,.string p]) (LV.cons (wU w s) (LV.cons (wU w p) LV.nil)) rfl
end
end Go.Proofs.YtbeckacfibledaaGreatDoor.nm
