/- name.Parse: the contract. What is known of name.Name and name.Parse, for the evaluator. Registers: the names of a class. -/
import Derived.Test.YtbeckacfibledaaGreatDoorGza
import Derived.Test.YtbeckacfibledaaGreatDoorLyg
import Derived.Test.YtbeckacfibledaaGreatDoorRows
set_option linter.unusedVariables false
set_option linter.unusedSimpArgs false

namespace Go.Proofs.YtbeckacfibledaaGreatDoor.nm
open Go.RowKit Go.Shelf Go.Lib
attribute [local go_sem] Oper.semAt_some
structure PI (w:World)(s:ByteArray)(pre:List ByteArray)(W:World):Prop where
 below:Below w.heap.size w W
 v0:Var W w.heap.size (.string s)
 v1:Var W (w.heap.size+1) (.int .i64 0)
 v2:Var W (w.heap.size+1+1) (.bool false)
 v3:Var W (w.heap.size+1+1+1) (.int .i64 (pre.length:Int))
 no:s ∉ pre
structure PX (w:World)(s:ByteArray)(pre:List ByteArray)(W:World):Prop where
 below:Below w.heap.size w W
 v1:Var W (w.heap.size+1) (.int .i64 (pre.length:Int))
 v2:Var W (w.heap.size+1+1) (.bool true)
 is:∃l,pre=l++[s]/\s ∉ l
structure TF (w:World)(s:ByteArray)(A:Nat)(W:World):Prop where
 below:Below w.heap.size w W
 v0:Var W w.heap.size (.string s)
 v1:Var W (w.heap.size+1) (.int .i64 0)
 v2:Var W (w.heap.size+1+1) (.bool false)
 df:W.heap[w.heap.size+7]? = some (.deferred (some []))
 hA:w.heap.size+7<A
 a0:W.cell? ⟨A,0,none⟩=some (.int .i64 68)
 a1:W.cell? ⟨A,1,none⟩=some (.int .i64 84)
 a2:W.cell? ⟨A,2,none⟩=some (.int .i64 100)
theorem TF.grow {w:World}{s:ByteArray}{A:Nat}{W W':World}(h:TF w s A W)(hb:Below W.heap.size W W'):TF w s A W':=by
 have hlt:∀{b:Nat} {v:Value} {o:Nat},W.cell? ⟨b,o,none⟩=some v->b<W.heap.size:=λhc=>World.block_lt_of_cell? _ _ hc
 have hd:w.heap.size+7<W.heap.size:=(aB.1 h.df).1;exact⟨h.below.trans (hb.mono h.below.size),h.v0.heap (hb.block _ (hlt h.v0.1)),h.v1.heap (hb.block _ (hlt h.v1.1)),h.v2.heap (hb.block _ (hlt h.v2.1)),(hb.block _ hd).trans h.df,h.hA,
  (eG (hb.block _ (hlt h.a0))).trans h.a0,(eG (hb.block _ (hlt h.a1))).trans h.a1,(eG (hb.block _ (hlt h.a2))).trans h.a2⟩
theorem afL {w:World}{s p:ByteArray}{A:Nat}{W:World}(h:TF w s A W){r:List UInt8}{b:Bool}(e:xg s.data.toList p.data.toList=(r,b)) :
 CallsIn Fence.wide 9 Tryz.prog 75 #[.string s,.string p] W λe W'=>e = .returned (.tuple #[.string (we r),.bool b])/\TF w s A W':=by
 refine(callsIn_wide (n:=9) |>.2 (aav s p W)).mono ?_;rw[e];rintro e W' ⟨rfl,hb⟩;exact⟨rfl,h.grow hb⟩
theorem SX {w:World}{s:ByteArray}{A:Nat}{r:List UInt8}{c:Int}{b:Bool}(e:uz r=(c,b)){W:World}(h:TF w s A W) :
 CallsIn Fence.wide 9 Tryz.prog 76 #[.string (we r)] W λe W'=>e = .returned (.tuple #[.int .i64 c,.bool b])/\TF w s A W':=by
 refine(callsIn_wide (n:=9) |>.2 (aau (we r) W)).mono ?_;have e':uz (we r).data.toList=(c,b):=e;rw[e'];rintro e W' ⟨rfl,hb⟩;exact⟨rfl,h.grow hb⟩
theorem aaw (w:World):(Instr.index 127 (.agg #[.string ⟨#[106]⟩,.string ⟨#[115,101,116]⟩,.string ⟨#[99,109,111,118]⟩]) (.int .i64 0)).run Tryz.prog w = .ok (.string ⟨#[106]⟩) w:=by kernel_rfl
theorem aax (w:World):(Instr.index 127 (.agg #[.string ⟨#[106]⟩,.string ⟨#[115,101,116]⟩,.string ⟨#[99,109,111,118]⟩]) (.int .i64 1)).run Tryz.prog w = .ok (.string ⟨#[115,101,116]⟩) w:=by kernel_rfl
theorem aay (w:World):(Instr.index 127 (.agg #[.string ⟨#[106]⟩,.string ⟨#[115,101,116]⟩,.string ⟨#[99,109,111,118]⟩]) (.int .i64 2)).run Tryz.prog w = .ok (.string ⟨#[99,109,111,118]⟩) w:=by kernel_rfl
noncomputable def xh (s:List UInt8):List (List UInt8×Int)->Int×Bool
 |[]=>(0,false)
 |q::l=>if (xg s q.1).2=true/\(uz (xg s q.1).1).2=true then (q.2+(uz (xg s q.1).1).1,true) else xh s l
def heads:List (List UInt8×Int):=[([106],68),([115,101,116],84),([99,109,111,118],100)]
def EL (s:List UInt8):List (List UInt8)->Int->Option Int
 |[],_=>none
 |p::l,k=>if p=s then some k else EL s l (k+1)
noncomputable def lC (s:List UInt8):Int×Bool :=
 match EL s fK 1 with
 |some k=>(k,true)
 |none=>xh s heads
theorem LZ {s:List UInt8}:∀{l:List (List UInt8)} {k:Int},s ∉ l->EL s l k=none
 |[],_,_=>rfl
 |p::l,k,h=>by
  rw[EL,aa (λe=>h (by rw[e];exact cF ..)),LZ (λhm=>h (bE _ hm))]
theorem L3 {s:List UInt8}:∀{l t:List (List UInt8)} {k:Int},s ∉ l->EL s (l++s::t) k=some (k+l.length)
 |[],t,k,_=>by rw[eS,EL,ag rfl];simp
 |p::l,t,k,h=>by
  rw[fR,EL,aa (λe=>h (by rw[e];exact cF ..)),L3 (λhm=>h (bE _ hm))];simp only[aJ];congr 1;omega
theorem Hl (s:List UInt8):∀l:List (List UInt8×Int),(∀q∈l,0<=q.2/\q.2<=15)->0<=(Au s l).1/\(Au s l).1<=15
 |[],_=>by simp[Au]
 |q::l,h=>by
  rw[Au];split
  .exact h q (cF ..)
  exact Hl s l λx hx=>h x (bE _ hx)
theorem BS (s:List UInt8):0<=(uz s).1/\(uz s).1<=15:=Hl s _ (by decide)
theorem mk_data (s:ByteArray):we s.data.toList=s:=by obtain⟨d⟩:=s;simp
theorem mem_mk {s:ByteArray}{l:List (List UInt8)}:s∈l.map we↔s.data.toList∈l:=by
 constructor
 .intro h;obtain⟨x,hx,rfl⟩:=bW.1 h;exact hx
 intro h;exact bW.2 ⟨_,h,mk_data s⟩
set_option maxRecDepth 100000 in
set_option maxHeartbeats 2000000 in
theorem V9 (s:ByteArray)(w:World)   : Calls Tryz.prog 38 #[.string s] w λe w'=>e = .returned (.tuple #[.int .i64 (lC s.data.toList).1,.bool (lC s.data.toList).2])/\Below w.heap.size w w':=by
 refine callsIn_wide (n:=10) |>.1 ?_;refine callsIn_of_wp_marks Tryz.func38 rfl trivial ?_ rfl;simp only[Tryz.ntmps38,iQ,aJ,bA,Nat.reduceAdd,Nat.reduceSub,kN,kO,m9,lM,eS,fR]
 gi_wp2_with (refine⟨trivial,?_⟩;gi_at_call 41;refine(callsIn_wide.2 (aat _ (by kernel_rfl) _)).mono ?_;rintro e w' ⟨rfl,rfl⟩)
 have u0:=Var.new w (.string s) 9;have u1:=Var.new (w.alloc (.cells #[.string s] 9)) (.int .i64 0) 3;have u2:=Var.new ((w.alloc (.cells #[.string s] 9)).alloc (.cells #[.int .i64 0] 3)) (.bool false) 4;have u3:=Var.new (((w.alloc (.cells #[.string s] 9)).alloc (.cells #[.int .i64 0] 3)).alloc (.cells #[.bool false] 4)) (.int .i64 0) 3;have u4:=Var.new ((((w.alloc (.cells #[.string s] 9)).alloc (.cells #[.int .i64 0] 3)).alloc (.cells #[.bool false] 4)).alloc (.cells #[.int .i64 0] 3)) (.string nB) 9;have u5:=Var.new (((((w.alloc (.cells #[.string s] 9)).alloc (.cells #[.int .i64 0] 3)).alloc (.cells #[.bool false] 4)).alloc (.cells #[.int .i64 0] 3)).alloc (.cells #[.string nB] 9)) (.string ⟨#[32]⟩) 9
 have u6:=Var.new ((((((w.alloc (.cells #[.string s] 9)).alloc (.cells #[.int .i64 0] 3)).alloc (.cells #[.bool false] 4)).alloc (.cells #[.int .i64 0] 3)).alloc (.cells #[.string nB] 9)).alloc (.cells #[.string ⟨#[32]⟩] 9)) (.int .i64 0) 3;have hb:Below w.heap.size w (((((((w.alloc (.cells #[.string s] 9)).alloc (.cells #[.int .i64 0] 3)).alloc (.cells #[.bool false] 4)).alloc (.cells #[.int .i64 0] 3)).alloc (.cells #[.string nB] 9)).alloc (.cells #[.string ⟨#[32]⟩] 9)).alloc (.cells #[.int .i64 0] 3)) :=
  (((((((Below.refl _ w).alloc (aC _) _).alloc (by simp) _).alloc (by simp;omega) _).alloc (by simp;omega) _).alloc (by simp;omega) _).alloc (by simp;omega) _).alloc (by simp;omega) _
 simp only[World.size_alloc]at u1 u2 u3 u4 u5 u6;have k0:=(((((u0.alloc (.cells #[.int .i64 0] 3)).alloc (.cells #[.bool false] 4)).alloc (.cells #[.int .i64 0] 3)).alloc (.cells #[.string nB] 9)).alloc (.cells #[.string ⟨#[32]⟩] 9)).alloc (.cells #[.int .i64 0] 3);have k1:=((((u1.alloc (.cells #[.bool false] 4)).alloc (.cells #[.int .i64 0] 3)).alloc (.cells #[.string nB] 9)).alloc (.cells #[.string ⟨#[32]⟩] 9)).alloc (.cells #[.int .i64 0] 3);have k2:=(((u2.alloc (.cells #[.int .i64 0] 3)).alloc (.cells #[.string nB] 9)).alloc (.cells #[.string ⟨#[32]⟩] 9)).alloc (.cells #[.int .i64 0] 3)
 have k3:=((u3.alloc (.cells #[.string nB] 9)).alloc (.cells #[.string ⟨#[32]⟩] 9)).alloc (.cells #[.int .i64 0] 3);have k4:=(u4.alloc (.cells #[.string ⟨#[32]⟩] 9)).alloc (.cells #[.int .i64 0] 3);have k5:=u5.alloc (.cells #[.int .i64 0] 3);have hsz:(((((((w.alloc (.cells #[.string s] 9)).alloc (.cells #[.int .i64 0] 3)).alloc (.cells #[.bool false] 4)).alloc (.cells #[.int .i64 0] 3)).alloc (.cells #[.string nB] 9)).alloc (.cells #[.string ⟨#[32]⟩] 9)).alloc (.cells #[.int .i64 0] 3)).heap.size=w.heap.size+7:=by simp
 refine BQ (m:=w.heap.size+7) (Bs:=w.heap.size+1+1+1+1) (Bp:=w.heap.size+1+1+1+1+1) (Bv:=w.heap.size+1+1+1+1+2) (by omega) hsz rfl (by omega) (by omega) (by omega) (by omega) (by omega) V4 aas k4.1 k4.2 k5.1 u6.1
  (PI w s) (PX w s)
  (λpre W W' hl hi=>⟨hl.below hi.below (by omega) (by omega),hl.var hi.v0 (by omega) (by omega),hl.var hi.v1 (by omega) (by omega),hl.var hi.v2 (by omega) (by omega),hl.var hi.v3 (by omega) (by omega),hi.no⟩)
  (λpre W W' hl hi=>⟨hl.below hi.below (by omega) (by omega),hl.var hi.v1 (by omega) (by omega),hl.var hi.v2 (by omega) (by omega),hi.is⟩)
  ⟨hb,k0,k1,k2,k3,by simp⟩
  (λx=>{ tmps := #[.string s,.pointer (some ⟨w.heap.size,0,none⟩),.pointer (some ⟨w.heap.size+1,0,none⟩),.pointer (some ⟨w.heap.size+1+1,0,none⟩),.pointer (some ⟨w.heap.size+1+1+1,0,none⟩),.string x,undef,undef,undef,undef,undef,undef,undef,
   .func (.func 118) #[] #[.pointer (some ⟨w.heap.size+1+1+1+1+1,0,none⟩),.pointer (some ⟨w.heap.size+1+1+1+1,0,none⟩),.pointer (some ⟨w.heap.size+1+1+1+1+2,0,none⟩)],.string x,
   undef,undef,undef,undef,undef,undef,undef,undef,undef,undef,undef,undef,undef,undef,undef,undef,undef,undef,undef,undef,undef,undef,undef,undef,undef,undef,undef,undef,undef,undef,undef,undef],defers:=[] }) ?assign ?body ?done ?stop
 case assign =>
  intro l x W K hK
  gi_wp2
  exact hK
 case body =>
  rintro l pre x W ⟨hB,v0,v1,v2,v3,hno⟩ hpx;have hlen:pre.length<322:=by
   have:=hpx.length_le;rw[cg,aar,aA]at this;simp at this;omega
  have c0:=v0.1;have c1:=v1.1;have f1:=v1.2;have c2:=v2.1;have f2:=v2.2;have c3:=v3.1;have f3:=v3.2
  gi_wp2
  .rename_i hx;have hxs:x=s:=by
    have:=eq_of_beq hx;rw[ByteArray.toList_eq,ByteArray.toList_eq]at this;rw[<-mk_data x,this,mk_data]
   refine⟨λr hr=>((cT _ _ _ _ (by omega)).trans (cT _ _ _ _ (by omega))).trans (cT _ _ _ _ (by omega)),?_,?_,?_,pre,by rw[hxs],hno⟩
   .exact ((hB.setCell (p:=⟨w.heap.size+1+1+1,0,none⟩) (by simp;omega) _).setCell (p:=⟨w.heap.size+1,0,none⟩) (by simp) _).setCell (p:=⟨w.heap.size+1+1,0,none⟩) (by simp;omega) _
   .have:=(((v1.other (c:=w.heap.size+1+1+1) (by omega) (.int .i64 ((pre.length:Int)+1))).set (.int .i64 ((pre.length:Int)+1))).other (c:=w.heap.size+1+1) (by omega) (.bool true));simpa using this
   exact(((v2.other (c:=w.heap.size+1+1+1) (by omega) (.int .i64 ((pre.length:Int)+1))).other (c:=w.heap.size+1) (by omega) (.int .i64 ((pre.length:Int)+1))).set (.bool true))
  rename_i hx;have hxs:s≠x:=λe=>by subst e;simp at hx
  refine⟨λr hr=>cT _ _ _ _ (by omega),?_,?_,?_,?_,?_,?_⟩
  .exact hB.setCell (p:=⟨w.heap.size+1+1+1,0,none⟩) (by simp;omega) _
  .exact v0.other (by omega) _
  .exact v1.other (by omega) _
  .exact v2.other (by omega) _
  .have:=v3.set (.int .i64 ((pre.length:Int)+1));simpa using this
  simp only[cz,cZ,kQ];exact⟨hno,hxs⟩
 case done =>
  rintro W ⟨hB,v0,v1,v2,v3,hno⟩ hK;have hno':s.data.toList ∉ fK:=λhm=>hno (mem_mk.2 hm)
  have hps:lC s.data.toList=xh s.data.toList heads:=by unfold lC;rw[LZ hno']
  have c0:=v0.1;have c1:=v1.1;have f1:=v1.2;have c2:=v2.1;have f2:=v2.2;have hd:w.heap.size+7<W.heap.size:=(aB.1 hK).1;have hrow:=World.alloc_heap_new W (.cells #[.int .i64 68,.int .i64 84,.int .i64 100] 126);have hT:TF w s W.heap.size (W.alloc (.cells #[.int .i64 68,.int .i64 84,.int .i64 100] 126)):=by
   refine⟨hB.alloc hB.size _,v0.alloc _,v1.alloc _,v2.alloc _,(Below.heap_alloc _ _ _ hd).trans hK,hd,?_,?_,?_⟩;all_goals (unfold World.cell?;simp only[hrow];rfl)
  obtain⟨A,hAe⟩:∃A,W.heap.size=A:=⟨_,rfl⟩;rw[hAe]at hT
  gi_wp2
  gi_loopw [23] (λv wr=>∃k:Nat,((k=0/\v = .int .i64 0)\/(k=1/\v = .int .i64 1)\/(k=2/\v = .int .i64 2)\/(k=3/\v = .int .i64 3))/\TF w s A wr/\xh s.data.toList heads=xh s.data.toList (heads.drop k)) (λv _=>3-(RowKit.intOf v).toNat)
  case atStart=>exact⟨0,.inl ⟨rfl,rfl⟩,hT,rfl⟩
  case round =>
   obtain⟨k,hk,hT,htr⟩:=hrel;rcases hk with⟨rfl,rfl⟩|⟨rfl,rfl⟩|⟨rfl,rfl⟩|⟨rfl,rfl⟩
   .obtain ⟨r,b,hc⟩:∃r b,xg s.data.toList (⟨#[106]⟩:ByteArray).data.toList=(r,b):=⟨_,_,rfl⟩;have hc':xg s.data.toList [106]=(r,b):=hc;obtain⟨c,t,hd⟩:∃c t,uz r=(c,t):=⟨_,_,rfl⟩;have Wa:=BS r;rw[hd]at Wa;have q0:=hT.v0.1;have Wb:=afL (p:=⟨#[106]⟩) hT hc;have i92:=aaw;have hstep:xh s.data.toList (heads.drop 0)=if b=true/\t=true then (68+c,true) else xh s.data.toList (heads.drop 1):=by
     show xh s.data.toList (([106],68)::heads.drop 1)=_;rw[xh,hc',hd]
    cases b with
    |false =>
     gi_wp2_with (refine⟨trivial,?_⟩;gi_at_call 75;refine Wb.mono ?_;rintro e W2 ⟨rfl,L4⟩)
     go_roundw
     case rel=>exact⟨1,.inr (.inl ⟨rfl,rfl⟩),L4,by rw[htr,hstep];simp⟩
     case measure=>simp[RowKit.intOf]
    |true =>
     cases t with
     |false =>
      gi_wp2_with first|(refine⟨trivial,?_⟩;gi_at_call 75;refine Wb.mono ?_;rintro e W2 ⟨rfl,L4⟩)|(refine⟨trivial,?_⟩;gi_at_call 76;refine(SX hd L4).mono ?_;rintro e W3 ⟨rfl,tH⟩)
      go_roundw
      case rel=>exact⟨1,.inr (.inl ⟨rfl,rfl⟩),tH,by rw[htr,hstep];simp⟩
      case measure=>simp[RowKit.intOf]
     |true =>
      gi_wp2_with first|(refine⟨trivial,?_⟩;gi_at_call 75;refine Wb.mono ?_;rintro e W2 ⟨rfl,L4⟩)|(refine⟨trivial,?_⟩;gi_at_call 76;refine(SX hd L4).mono ?_;rintro e W3 ⟨rfl,tH⟩;have b0:=tH.a0;have b1:=tH.a1;have b2:=tH.a2;have b3:=tH.v1.1;have b4:=tH.v1.2;have b5:=tH.v2.1;have b6:=tH.v2.2)
      have hh:=tH.hA;have U3:((W3.setCell ⟨w.heap.size+1,0,none⟩ (.int .i64 (68+c))).setCell ⟨w.heap.size+1+1,0,none⟩ (.bool true)).heap[w.heap.size+7]? = some (.deferred (some [])) :=
       ((cT _ _ _ _ (by omega)).trans (cT _ _ _ _ (by omega))).trans tH.df
      have g1:=(tH.v1.set (.int .i64 (68+c))).other (c:=w.heap.size+1+1) (by omega) (.bool true);have g2:=(tH.v2.other (c:=w.heap.size+1) (by omega) (.int .i64 (68+c))).set (.bool true);refine⟨by simp,.inl ⟨_,_,rfl,run_takeDeferred U3,?_⟩⟩;refine⟨_,qR (by rfl) (run_isAgg_plain Tryz.underlying3 rfl) (run_isAgg_plain Tryz.underlying4 rfl) (a:=⟨w.heap.size+1,0,none⟩) (b:=⟨w.heap.size+1+1,0,none⟩) (by rfl) (by rfl) (g1.heap (World.putObj_heap_other (by omega))).1 (g2.heap (World.putObj_heap_other (by omega))).1,?_,?_⟩
      .rw[hps,htr,hstep];rfl
      exact(Lo.putObj (m:=w.heap.size+7) (Bs:=w.heap.size) _ (.deferred none) (aC _)).below ((tH.below.setCell (p:=⟨w.heap.size+1,0,none⟩) (by simp) _).setCell (p:=⟨w.heap.size+1+1,0,none⟩) (by simp;omega) _) (by omega) (aC _)
   .obtain ⟨r,b,hc⟩:∃r b,xg s.data.toList (⟨#[115,101,116]⟩:ByteArray).data.toList=(r,b):=⟨_,_,rfl⟩;have hc':xg s.data.toList [115,101,116]=(r,b):=hc;obtain⟨c,t,hd⟩:∃c t,uz r=(c,t):=⟨_,_,rfl⟩;have Wa:=BS r;rw[hd]at Wa;have q0:=hT.v0.1;have Wb:=afL (p:=⟨#[115,101,116]⟩) hT hc;have i92:=aax;have hstep:xh s.data.toList (heads.drop 1)=if b=true/\t=true then (84+c,true) else xh s.data.toList (heads.drop 2):=by
     show xh s.data.toList (([115,101,116],84)::heads.drop 2)=_;rw[xh,hc',hd]
    cases b with
    |false =>
     gi_wp2_with (refine⟨trivial,?_⟩;gi_at_call 75;refine Wb.mono ?_;rintro e W2 ⟨rfl,L4⟩)
     go_roundw
     case rel=>exact⟨2,.inr (.inr (.inl ⟨rfl,rfl⟩)),L4,by rw[htr,hstep];simp⟩
     case measure=>simp[RowKit.intOf]
    |true =>
     cases t with
     |false =>
      gi_wp2_with first|(refine⟨trivial,?_⟩;gi_at_call 75;refine Wb.mono ?_;rintro e W2 ⟨rfl,L4⟩)|(refine⟨trivial,?_⟩;gi_at_call 76;refine(SX hd L4).mono ?_;rintro e W3 ⟨rfl,tH⟩)
      go_roundw
      case rel=>exact⟨2,.inr (.inr (.inl ⟨rfl,rfl⟩)),tH,by rw[htr,hstep];simp⟩
      case measure=>simp[RowKit.intOf]
     |true =>
      gi_wp2_with first|(refine⟨trivial,?_⟩;gi_at_call 75;refine Wb.mono ?_;rintro e W2 ⟨rfl,L4⟩)|(refine⟨trivial,?_⟩;gi_at_call 76;refine(SX hd L4).mono ?_;rintro e W3 ⟨rfl,tH⟩;have b0:=tH.a0;have b1:=tH.a1;have b2:=tH.a2;have b3:=tH.v1.1;have b4:=tH.v1.2;have b5:=tH.v2.1;have b6:=tH.v2.2)
      have hh:=tH.hA;have U3:((W3.setCell ⟨w.heap.size+1,0,none⟩ (.int .i64 (84+c))).setCell ⟨w.heap.size+1+1,0,none⟩ (.bool true)).heap[w.heap.size+7]? = some (.deferred (some [])) :=
       ((cT _ _ _ _ (by omega)).trans (cT _ _ _ _ (by omega))).trans tH.df
      have g1:=(tH.v1.set (.int .i64 (84+c))).other (c:=w.heap.size+1+1) (by omega) (.bool true);have g2:=(tH.v2.other (c:=w.heap.size+1) (by omega) (.int .i64 (84+c))).set (.bool true);refine⟨by simp,.inl ⟨_,_,rfl,run_takeDeferred U3,?_⟩⟩;refine⟨_,qR (by rfl) (run_isAgg_plain Tryz.underlying3 rfl) (run_isAgg_plain Tryz.underlying4 rfl) (a:=⟨w.heap.size+1,0,none⟩) (b:=⟨w.heap.size+1+1,0,none⟩) (by rfl) (by rfl) (g1.heap (World.putObj_heap_other (by omega))).1 (g2.heap (World.putObj_heap_other (by omega))).1,?_,?_⟩
      .rw[hps,htr,hstep];rfl
      exact(Lo.putObj (m:=w.heap.size+7) (Bs:=w.heap.size) _ (.deferred none) (aC _)).below ((tH.below.setCell (p:=⟨w.heap.size+1,0,none⟩) (by simp) _).setCell (p:=⟨w.heap.size+1+1,0,none⟩) (by simp;omega) _) (by omega) (aC _)
   .obtain ⟨r,b,hc⟩:∃r b,xg s.data.toList (⟨#[99,109,111,118]⟩:ByteArray).data.toList=(r,b):=⟨_,_,rfl⟩;have hc':xg s.data.toList [99,109,111,118]=(r,b):=hc;obtain⟨c,t,hd⟩:∃c t,uz r=(c,t):=⟨_,_,rfl⟩;have Wa:=BS r;rw[hd]at Wa;have q0:=hT.v0.1;have Wb:=afL (p:=⟨#[99,109,111,118]⟩) hT hc;have i92:=aay;have hstep:xh s.data.toList (heads.drop 2)=if b=true/\t=true then (100+c,true) else xh s.data.toList (heads.drop 3):=by
     show xh s.data.toList (([99,109,111,118],100)::heads.drop 3)=_;rw[xh,hc',hd]
    cases b with
    |false =>
     gi_wp2_with (refine⟨trivial,?_⟩;gi_at_call 75;refine Wb.mono ?_;rintro e W2 ⟨rfl,L4⟩)
     go_roundw
     case rel=>exact⟨3,.inr (.inr (.inr ⟨rfl,rfl⟩)),L4,by rw[htr,hstep];simp⟩
     case measure=>simp[RowKit.intOf]
    |true =>
     cases t with
     |false =>
      gi_wp2_with first|(refine⟨trivial,?_⟩;gi_at_call 75;refine Wb.mono ?_;rintro e W2 ⟨rfl,L4⟩)|(refine⟨trivial,?_⟩;gi_at_call 76;refine(SX hd L4).mono ?_;rintro e W3 ⟨rfl,tH⟩)
      go_roundw
      case rel=>exact⟨3,.inr (.inr (.inr ⟨rfl,rfl⟩)),tH,by rw[htr,hstep];simp⟩
      case measure=>simp[RowKit.intOf]
     |true =>
      gi_wp2_with first|(refine⟨trivial,?_⟩;gi_at_call 75;refine Wb.mono ?_;rintro e W2 ⟨rfl,L4⟩)|(refine⟨trivial,?_⟩;gi_at_call 76;refine(SX hd L4).mono ?_;rintro e W3 ⟨rfl,tH⟩;have b0:=tH.a0;have b1:=tH.a1;have b2:=tH.a2;have b3:=tH.v1.1;have b4:=tH.v1.2;have b5:=tH.v2.1;have b6:=tH.v2.2)
      have hh:=tH.hA;have U3:((W3.setCell ⟨w.heap.size+1,0,none⟩ (.int .i64 (100+c))).setCell ⟨w.heap.size+1+1,0,none⟩ (.bool true)).heap[w.heap.size+7]? = some (.deferred (some [])) :=
       ((cT _ _ _ _ (by omega)).trans (cT _ _ _ _ (by omega))).trans tH.df
      have g1:=(tH.v1.set (.int .i64 (100+c))).other (c:=w.heap.size+1+1) (by omega) (.bool true);have g2:=(tH.v2.other (c:=w.heap.size+1) (by omega) (.int .i64 (100+c))).set (.bool true);refine⟨by simp,.inl ⟨_,_,rfl,run_takeDeferred U3,?_⟩⟩;refine⟨_,qR (by rfl) (run_isAgg_plain Tryz.underlying3 rfl) (run_isAgg_plain Tryz.underlying4 rfl) (a:=⟨w.heap.size+1,0,none⟩) (b:=⟨w.heap.size+1+1,0,none⟩) (by rfl) (by rfl) (g1.heap (World.putObj_heap_other (by omega))).1 (g2.heap (World.putObj_heap_other (by omega))).1,?_,?_⟩
      .rw[hps,htr,hstep];rfl
      exact(Lo.putObj (m:=w.heap.size+7) (Bs:=w.heap.size) _ (.deferred none) (aC _)).below ((tH.below.setCell (p:=⟨w.heap.size+1,0,none⟩) (by simp) _).setCell (p:=⟨w.heap.size+1+1,0,none⟩) (by simp;omega) _) (by omega) (aC _)
   have b3:=hT.v1.1;have b4:=hT.v1.2;have b5:=hT.v2.1;have b6:=hT.v2.2
   gi_wp2
   have hh:=hT.hA;have U3:((wr.setCell ⟨w.heap.size+1,0,none⟩ (.int .i64 0)).setCell ⟨w.heap.size+1+1,0,none⟩ (.bool false)).heap[w.heap.size+7]? = some (.deferred (some [])) :=
    ((cT _ _ _ _ (by omega)).trans (cT _ _ _ _ (by omega))).trans hT.df
   have g1:=(hT.v1.set (.int .i64 0)).other (c:=w.heap.size+1+1) (by omega) (.bool false);have g2:=(hT.v2.other (c:=w.heap.size+1) (by omega) (.int .i64 0)).set (.bool false);refine⟨by simp,.inl ⟨_,_,rfl,run_takeDeferred U3,?_⟩⟩;refine⟨_,qR (by rfl) (run_isAgg_plain Tryz.underlying3 rfl) (run_isAgg_plain Tryz.underlying4 rfl) (a:=⟨w.heap.size+1,0,none⟩) (b:=⟨w.heap.size+1+1,0,none⟩) (by rfl) (by rfl) (g1.heap (World.putObj_heap_other (by omega))).1 (g2.heap (World.putObj_heap_other (by omega))).1,?_,?_⟩
   .rw[hps,htr];rfl
   exact(Lo.putObj (m:=w.heap.size+7) (Bs:=w.heap.size) _ (.deferred none) (aC _)).below ((hT.below.setCell (p:=⟨w.heap.size+1,0,none⟩) (by simp) _).setCell (p:=⟨w.heap.size+1+1,0,none⟩) (by simp;omega) _) (by omega) (aC _)
 case stop =>
  rintro pre W hpre ⟨hB,v1,v2,l,he,hno⟩ hK
  gi_wp2
  refine⟨by simp,.inl ⟨_,_,rfl,run_takeDeferred hK,?_⟩⟩;refine⟨_,qR (by rfl) (run_isAgg_plain Tryz.underlying3 rfl) (run_isAgg_plain Tryz.underlying4 rfl) (a:=⟨w.heap.size+1,0,none⟩) (b:=⟨w.heap.size+1+1,0,none⟩) (by rfl) (by rfl) (v1.heap (World.putObj_heap_other (by omega))).1 (v2.heap (World.putObj_heap_other (by omega))).1,?_,?_⟩
  .obtain ⟨t,ht⟩:=hpre;have hn:fK=l.map (λx=>x.data.toList)++s.data.toList::t.map (λx=>x.data.toList):=by
    have h1:=cr (List.map (λx:ByteArray=>x.data.toList)) ht;rw[j8,he]at h1;have h2:((λx:ByteArray=>x.data.toList)∘we)=id:=funext λ_=>rfl
    rw[h2,List.map_id]at h1;rw[<-h1];simp
   have hl:s.data.toList ∉ l.map (λx=>x.data.toList):=λhm=>by
    obtain⟨x,hx,hxe⟩:=bW.1 hm;exact hno (by rw[<-mk_data s,<-hxe,mk_data];exact hx)
   have hps:lC s.data.toList=((pre.length:Int),true):=by
    unfold lC;rw[hn,L3 hl,he];simp;omega
   rw[hps]
  exact(Lo.putObj (m:=w.heap.size+7) (Bs:=w.heap.size) W (.deferred none) (aC _)).below hB (by omega) (aC _)
end Go.Proofs.YtbeckacfibledaaGreatDoor.nm
namespace Go.Proofs.YtbeckacfibledaaGreatDoor.nm
open Go.RowKit
noncomputable section
def knN (f:FuncId)(args:List Value):Option Value :=
 Ev.ah (Nat.beq f 38) (match args with | [.string s]=>some (.tuple #[.int .i64 (lC s.data.toList).1,.bool (lC s.data.toList).2])|_=>none) none
theorem L5 (f:FuncId):knN f Ev.pM=none:=by
 unfold knN;rw[Ev.ax];split<;>rfl
theorem L6 (f:FuncId)(s:ByteArray):knN f [Ev.iB,.string s]=none:=by
 unfold knN;rw[Ev.ax];split<;>rfl
theorem afM:Ev.xZ Tryz.prog knN:=by
 refine Ev.xZ.of L5 (λf s=>L6 _ s) ?_;intro f args v h w;unfold knN at h;rw[Ev.ax]at h;split at h
 .rename_i hf;obtain rfl:=bf hf;split at h
  .cases h;exact V9 _ w
  cases h
 cases h
end
end Go.Proofs.YtbeckacfibledaaGreatDoor.nm
namespace Go.Proofs.YtbeckacfibledaaGreatDoor.rg
open Go.Tv Go.Ev
noncomputable section
def space:List Value:=(List.range 256).map λi=>.int .u8 (ah (Nat.beq i 32||(Nat.ble 9 i&&Nat.ble i 13)) 1 0)
def gv (g:Nat):List AV:=ah (Nat.beq g 8) (space.map Ow) []
def X0:ij:={ P:=Tryz.prog,G:=8+1,gv:=gv }
def gO:ei:=⟨.none,.none,[]⟩
def inl:FuncId->Bool:=λ_=>true
def K0:Up:=λ_=>none
def c0 (β:Type):cI β:=sJ X0 K0 inl 200 β 20
theorem Av (β:Type):cX X0 (dR X0 qv) (c0 β):=lB (by intro id s g h;cases h) (λ_ _ _=>rfl) 200 20 β
theorem nk (f:FuncId)(args:List Value):qv f args=none:=rfl
def run (f:FuncId)(args:List AV):Option (AV×aG):=aT X0 (c0 (AV×aG)) gO 200 f args aG.empty (λv H=>some (v,H))
def n1:List (List UInt8):=[[97,108],[99,108],[100,108],[98,108],[115,112,108],[98,112,108],[115,105,108],[100,105,108],[114,56,98],[114,57,98],[114,49,48,98],[114,49,49,98],[114,49,50,98],[114,49,51,98],[114,49,52,98],[114,49,53,98]]
def n2:List (List UInt8):=[[97,104],[99,104],[100,104],[98,104]]
def n3:List (List UInt8):=[[97,120],[99,120],[100,120],[98,120],[115,112],[98,112],[115,105],[100,105],[114,56,119],[114,57,119],[114,49,48,119],[114,49,49,119],[114,49,50,119],[114,49,51,119],[114,49,52,119],[114,49,53,119]]
def n4:List (List UInt8):=[[101,97,120],[101,99,120],[101,100,120],[101,98,120],[101,115,112],[101,98,112],[101,115,105],[101,100,105],[114,56,100],[114,57,100],[114,49,48,100],[114,49,49,100],[114,49,50,100],[114,49,51,100],[114,49,52,100],[114,49,53,100]]
def n5:List (List UInt8):=[[114,97,120],[114,99,120],[114,100,120],[114,98,120],[114,115,112],[114,98,112],[114,115,105],[114,100,105],[114,56],[114,57],[114,49,48],[114,49,49],[114,49,50],[114,49,51],[114,49,52],[114,49,53]]
def n6:List (List UInt8):=[[120,109,109,48],[120,109,109,49],[120,109,109,50],[120,109,109,51],[120,109,109,52],[120,109,109,53],[120,109,109,54],[120,109,109,55],[120,109,109,56],[120,109,109,57],[120,109,109,49,48],[120,109,109,49,49],[120,109,109,49,50],[120,109,109,49,51],[120,109,109,49,52],[120,109,109,49,53]]
def n7:List (List UInt8):=[[121,109,109,48],[121,109,109,49],[121,109,109,50],[121,109,109,51],[121,109,109,52],[121,109,109,53],[121,109,109,54],[121,109,109,55],[121,109,109,56],[121,109,109,57],[121,109,109,49,48],[121,109,109,49,49],[121,109,109,49,50],[121,109,109,49,51],[121,109,109,49,52],[121,109,109,49,53]]
def n8:List (List UInt8):=[[114,105,112]]
def Wc (c:Int):List (List UInt8):=ah (bI c 1) n1 (ah (bI c 2) n2 (ah (bI c 3) n3 (ah (bI c 4) n4 (ah (bI c 5) n5 (ah (bI c 6) n6 (ah (bI c 7) n7 (ah (bI c 8) n8 [])))))))
def L7 (c:Int):List fA:=[.room 9 .str (Wc c) (Wc c).length]
def qB (c:Int):Bool:=leaves (L7 c) (run 134 [.int .i64 c])
theorem afN:qB 1=true:=by kernel_rfl
theorem afO:qB 2=true:=by kernel_rfl
theorem afP:qB 3=true:=by kernel_rfl
theorem afQ:qB 4=true:=by kernel_rfl
theorem afR:qB 5=true:=by kernel_rfl
theorem afS:qB 6=true:=by kernel_rfl
theorem afT:qB 7=true:=by kernel_rfl
theorem afU:qB 8=true:=by kernel_rfl
def OU (args:List AV):Option (Bool×List fA) :=
 match args with
 |[.int .i64 c]=>some (!bC c 1 && !bC 8 c,L7 c)
 |_=>none
theorem in8 {c:Int}(h:(!bC c 1 && !bC 8 c)=true):c=1\/c=2\/c=3\/c=4\/c=5\/c=6\/c=7\/c=8:=by
 simp only[cD,ak,aS,bH]at h;omega
theorem akC:dc X0 (dR X0 qv) 134 OU :=
 VY (nk 134) Av gO 200 λargs rs hg=>by
  unfold OU at hg;split at hg
  .rename_i c;simp only[aq,ay]at hg;obtain⟨h1,rfl⟩:=hg;have h:qB c=true:=by
    rcases in8 h1 with rfl|rfl|rfl|rfl|rfl|rfl|rfl|rfl
    .exact afN
    .exact afO
    .exact afP
    .exact afQ
    .exact afR
    .exact afS
    .exact afT
    exact afU
   unfold qB run at h;exact h
  cases hg
def akD (a:UInt8):Int:=ah (!bC (cY a) 65) (ah (!bC 90 (cY a)) (IntKind.wrap .u8 (cY a+32)) (cY a)) (cY a)
def yK:List UInt8->List UInt8->Bool
 |[],[]=>true
 |a::s,x::t=>ah (bI (akD a) (cY x)) (yK s t) false
 |_,_=>false
def SY {β:Type}(k:AV->Option β):List (UInt8×UInt8)->Option β
 |[]=>k (.bool true)
 |(a,x)::l=>ah (!bC (cY a) 65) (ah (!bC 90 (cY a)) (ah (!bI (IntKind.wrap .u8 (cY a+32)) (cY x)) (k (.bool false)) (SY k l)) (ah (!bI (cY a) (cY x)) (k (.bool false)) (SY k l)))
  (ah (!bI (cY a) (cY x)) (k (.bool false)) (SY k l))
def Gh (s t:List UInt8)(rounds:Nat)(k:AV->Option AV):Option AV:=aT X0 (c0 AV) gO rounds 135 [.str s,.str t] aG.empty (λv _=>k v)
theorem We (s t:List UInt8)(k:AV->Option AV):Gh s t 0 k=ah (!bI ↑s.length ↑t.length) (k (.bool false)) none:=by kernel_rfl
theorem akE (k:AV->Option AV):Gh [] [] 9 k=SY k []:=by kernel_rfl
theorem akF (a0 x0:UInt8)(k:AV->Option AV):Gh [a0] [x0] 9 k=SY k [(a0,x0)]:=by kernel_rfl
theorem akG (a0 a1 x0 x1:UInt8)(k:AV->Option AV):Gh [a0,a1] [x0,x1] 9 k=SY k [(a0,x0),(a1,x1)]:=by kernel_rfl
theorem akH (a0 a1 a2 x0 x1 x2:UInt8)(k:AV->Option AV):Gh [a0,a1,a2] [x0,x1,x2] 9 k=SY k [(a0,x0),(a1,x1),(a2,x2)]:=by kernel_rfl
theorem akI (a0 a1 a2 a3 x0 x1 x2 x3:UInt8)(k:AV->Option AV):Gh [a0,a1,a2,a3] [x0,x1,x2,x3] 9 k=SY k [(a0,x0),(a1,x1),(a2,x2),(a3,x3)]:=by kernel_rfl
theorem akJ (a0 a1 a2 a3 a4 x0 x1 x2 x3 x4:UInt8)(k:AV->Option AV):Gh [a0,a1,a2,a3,a4] [x0,x1,x2,x3,x4] 9 k=SY k [(a0,x0),(a1,x1),(a2,x2),(a3,x3),(a4,x4)]:=by kernel_rfl
theorem zo {β:Type}(k:AV->Option β):∀l:List (UInt8×UInt8),SY k l=k (.bool (yK (l.map (·.1)) (l.map (·.2))))
 |[]=>rfl
 |(a,x)::l=>by
  simp only[SY,cP,yK,akD,zo k l];cases bC (cY a) 65<;>cases bC 90 (cY a)<;>simp only[Bool.not_true,Bool.not_false,akw,akx]
  .cases bI (IntKind.wrap .u8 (cY a+32)) (cY x)<;>rfl
  all_goals (cases bI (cY a) (cY x)<;>rfl)
theorem Ho:∀{s t:List UInt8},s.length≠t.length->yK s t=false
 |[],[],h=>absurd rfl h
 |[],_::_,_=>rfl
 |_::_,[],_=>rfl
 |a::s,x::t,h=>by
  simp only[yK,ax];split
  .exact Ho (by simpa using h)
  rfl
theorem D1 (s t:List UInt8)(h:t.length<=5)(k:AV->Option AV):∃rounds,Gh s t rounds k=k (.bool (yK s t)):=by
 by_cases hl:s.length=t.length
 .refine ⟨9,?_⟩
  match s,t,hl,h with
  |[],[],_,_=>exact(akE k).trans (zo k _)
  |[a0],[x0],_,_=>exact(akF a0 x0 k).trans (zo k _)
  |[a0,a1],[x0,x1],_,_=>exact(akG a0 a1 x0 x1 k).trans (zo k _)
  |[a0,a1,a2],[x0,x1,x2],_,_=>exact(akH a0 a1 a2 x0 x1 x2 k).trans (zo k _)
  |[a0,a1,a2,a3],[x0,x1,x2,x3],_,_=>exact(akI a0 a1 a2 a3 x0 x1 x2 x3 k).trans (zo k _)
  |[a0,a1,a2,a3,a4],[x0,x1,x2,x3,x4],_,_=>exact(akJ a0 a1 a2 a3 a4 x0 x1 x2 x3 x4 k).trans (zo k _)
  |_::_::_::_::_::_::_,_,hl,h=>simp at hl;omega
 refine⟨0,?_⟩;rw[We,Ho hl];have:bI (↑s.length:Int) (↑t.length)=false:=by rw[eF];simpa using λh=>hl (by omega)
 rw[this];rfl
def Wf (args:List AV):Option (Bool×List fA) :=
 match args with
 |[.str s,.str t]=>some (Nat.ble t.length 5,[.val (.bool (yK s t))])
 |_=>none
theorem akK:dc X0 (dR X0 qv) 135 Wf :=
 cS (nk 135) Av λargs rs hg=>by
  unfold Wf at hg;split at hg
  .rename_i s t;simp only[aq,ay]at hg;obtain⟨h1,rfl⟩:=hg;obtain⟨r,hr⟩:=D1 s t (az h1) some;exact⟨[.bool (yK s t)],gO,r,hr,rfl,rfl⟩
  cases hg
def K1:Up:=λf=>ah (Nat.beq f 134) (some ([none],OU)) (ah (Nat.beq f 135) (some ([none,none],Wf)) none)
def c1 (β:Type):cI β:=sJ X0 K1 inl 200 β 20
theorem akL (id:FuncId)(sig:List (Option Ty))(g:List AV->Option (Bool×List fA))(h:K1 id=some (sig,g)):dc X0 (dR X0 qv) id g:=by
 simp only[K1,ax,aO]at h;split at h
 .rename_i hf;cases h;subst hf;exact akC
 split at h
 .rename_i hf;cases h;subst hf;exact akK
 cases h
theorem Hp (β:Type):cX X0 (dR X0 qv) (c1 β):=lB akL (λ_ _ _=>rfl) 200 20 β
def num (c:Int):List (List UInt8)->Int->List (List UInt8×Int×Int)
 |[],_=>[]
 |s::l,i=>(s,c,i)::num c l (i+1)
def tbl:List (List UInt8×Int×Int):=num 1 n1 0++(num 2 n2 4++(num 3 n3 0++(num 4 n4 0++(num 5 n5 0++(num 6 n6 0++(num 7 n7 0++num 8 n8 0))))))
def trP {β:Type}(s:List UInt8)(k:Int->Int->Bool->Option β):List (List UInt8×Int×Int)->Option β
 |[]=>k 0 0 false
 |e::l=>ah (yK s e.1) (k e.2.1 e.2.2 true) (trP s k l)
theorem OV (s:List UInt8)(k:AV->Option AV):aT X0 (c1 AV) gO 20 106 [.str s] aG.empty (λv _=>k v)=trP s (λc n ok=>k (.fH [.agg [.int .i64 c,.int .i64 n],.bool ok])) tbl:=by kernel_rfl
def fnd (s:List UInt8):List (List UInt8×Int×Int)->Int×Int×Bool
 |[]=>(0,0,false)
 |e::l=>ah (yK s e.1) (e.2.1,e.2.2,true) (fnd s l)
def pR (s:List UInt8):Int×Int×Bool:=fnd s tbl
theorem Wg {β:Type}(s:List UInt8)(k:Int->Int->Bool->Option β):∀l,trP s k l=k (fnd s l).1 (fnd s l).2.1 (fnd s l).2.2
 |[]=>rfl
 |e::l=>by
  simp only[trP,fnd,Wg s k l,ax];split<;>rfl
theorem jd:Ev.jd Tryz.prog:=Ev.Lm (by kernel_rfl)
theorem mixed:Tryz.prog.follows .mixedOrders=true:=by kernel_rfl
theorem ju {w:World}{rows:List jJ}{b1:jJ}(hb:rows[8]? = some b1)(hl:b1.live=true)(hc:b1.cells=space)(hr:lg rows w):fm X0 (vt w):=by
 refine Hi hr λg hg he=>?_
 by_cases e:g=8
 .subst e;exact⟨b1,hb,hl,by rw[hc];rfl,by rw[hc];kernel_rfl⟩
 exact absurd (by show ah (Nat.beq g 8) (space.map Ow) []=[];rw[ax,aa (by rw[aO];exact e)]) he
theorem aaA {S:Wo}{c n:Int}{b:Bool}{v:Value}(h:VR S (.fH [.agg [.int .i64 c,.int .i64 n],.bool b]) v):v = .tuple #[.agg #[.int .i64 c,.int .i64 n],.bool b]:=by
 cases h with
 |fH l m hl hv =>
  match m,hl with
  |[x,y],_ =>
   have h2:=(hv 1 _ y rfl rfl).mq;have h1:=hv 0 _ x rfl rfl;subst h2;cases h1 with
   |agg l2 m2 A6 hv2 =>
    match m2,A6 with
    |[p,q],_ =>
     have e1:=(hv2 0 _ p rfl rfl).fT;have e2:=(hv2 1 _ q rfl rfl).fT;subst e1;subst e2;rfl
theorem SZ (s:ByteArray){w:World}(hG:8+1<=w.heap.size)(hg:fm X0 (vt w)):Calls Tryz.prog 106 #[.string s] w λe w'=>e = .returned (.tuple #[.agg #[.int .i64 (pR s.data.toList).1,.int .i64 (pR s.data.toList).2.1],.bool (pR s.data.toList).2.2])/\RowKit.Below w.heap.size w w' :=
 Jm (X:=X0) jd mixed vi (v:=.fH [.agg [.int .i64 (pR s.data.toList).1,.int .i64 (pR s.data.toList).2.1],.bool (pR s.data.toList).2.2]) (λS x hx=>aaA hx) rfl
  (λS E bJ hr hg hl=>Ar (nk 106) Hp ((OV s.data.toList some).trans (Wg s.data.toList _ tbl)) S E bJ hr hg hl) hG hg (args':=[.string s]) (LV.cons (nm.xe w s) LV.nil) rfl
def kR (f:FuncId)(args:List Value):Option Value :=
 ah (Nat.beq f 106) (match args with | [.string s]=>some (.tuple #[.agg #[.int .i64 (pR s.data.toList).1,.int .i64 (pR s.data.toList).2.1],.bool (pR s.data.toList).2.2])|_=>none) (nm.knN f args)
theorem akM {GR:List jJ}{b1:jJ}(hb:GR[8]? = some b1)(hl:b1.live=true)(hc:b1.cells=space):kq Tryz.prog GR kR:=by
 refine⟨λf args v h hfree w hw=>?_,λf u h=>?_,λf s items h _=>?_⟩
 .unfold kR at h;rw[ax]at h;split at h
  .rename_i hf;obtain rfl:=bf hf;split at h
   .cases h;have:8<GR.length:=(bx.1 hb).1;exact SZ _ (by have:=hw.1;omega) (ju hb hl hc hw)
   cases h
  exact nm.afM.calls f args v h hfree w (lg.nil w)
 .unfold kR at h;rw[ax]at h;split at h
  .cases h
  rw[nm.L5]at h;cases h
 unfold kR at h;rw[ax]at h;split at h
 .cases h
 rw[nm.L6]at h;cases h
def eqV:Value->Value->Bool
 |.int k a,.int k' b=>decide (k=k')&&bI a b
 |.string a,.string b=>oI a.data.toList b.data.toList
 |_,_=>false
theorem lV:∀{a b:List UInt8},oI a b=true->a=b
 |[],[],_=>rfl
 |[],_::_,h=>by cases h
 |_::_,[],h=>by cases h
 |x::a,y::b,h=>by
  unfold oI at h;rw[ax]at h;split at h
  .rename_i hx;have hx:x=y:=jO.1 (bf hx);rw[hx,lV h]
  cases h
theorem Wh {a b:Value}(h:eqV a b=true):a=b:=by
 unfold eqV at h;split at h
 .simp only[ak,aV,eF,eK]at h;rw[h.1,h.2]
 .rename_i a b;have:=lV h;congr 1
  exact ByteArray.ext (jC this)
 cases h
def S6:List Value->List Value->Bool
 |[],[]=>true
 |a::l,b::m=>ah (eqV a b) (S6 l m) false
 |_,_=>false
theorem Hq:∀{a b:List Value},S6 a b=true->a=b
 |[],[],_=>rfl
 |[],_::_,h=>by cases h
 |_::_,[],h=>by cases h
 |x::a,y::b,h=>by
  unfold S6 at h;rw[ax]at h;split at h
  .rename_i hx;rw[Wh hx,Hq h]
  cases h
def EM (f:FuncId)(args:List Value):List (FuncId×List Value)->Bool
 |[]=>false
 |q::T=>ah (Nat.beq f q.1) (ah (S6 args q.2) true (EM f args T)) (EM f args T)
theorem BU {f:FuncId}{args:List Value}:∀{T:List (FuncId×List Value)},EM f args T=true->(f,args)∈T
 |[],h=>by cases h
 |q::T,h=>by
  unfold EM at h;rw[ax,ax]at h;split at h
  .rename_i hf;split at h
   .rename_i ha;have e1:=bf hf;have e2:=Hq ha;obtain⟨a,b⟩:=q;subst e1;subst e2;exact cF ..
   exact bE _ (BU h)
  exact bE _ (BU h)
theorem Hr (f:FuncId)(s:ByteArray):∀T:List (FuncId×List Value),EM f [iB,.string s] T=false
 |[]=>rfl
 |q::T=>by
  have:S6 [iB,.string s] q.2=false:=by
   obtain⟨g,l⟩:=q;cases l with
   |nil=>rfl
   |cons x l=>cases x<;>rfl
  unfold EM;rw[this,Hr f s T];rw[ax,ax];split<;>rfl
theorem Hs (f:FuncId):∀T:List (FuncId×List Value),EM f pM T=false
 |[]=>rfl
 |q::T=>by
  have:S6 pM q.2=false:=by
   obtain⟨g,l⟩:=q;cases l with
   |nil=>rfl
   |cons x l=>cases x<;>rfl
  unfold EM;rw[this,Hs f T];rw[ax,ax];split<;>rfl
def kT (T:List (FuncId×List Value))(K:fe):fe:=λf args=>ah (EM f args T) (some (.bool true)) (K f args)
theorem akN {P:Program}{GR:List jJ}{K:fe}{T:List (FuncId×List Value)}(hK:kq P GR K)(h:∀q∈T,∀w,lg GR w->Calls P q.1 q.2.toArray w λe w'=>e = .returned (.bool true)/\RowKit.Below w.heap.size w w'):kq P GR (kT T K):=by
 refine⟨λf args v hk hfree w hw=>?_,λf u hk=>?_,λf s items hk hfr=>?_⟩
 .unfold kT at hk;rw[ax]at hk;split at hk
  .rename_i he;cases hk;exact h (f,args) (BU he) w hw
  exact hK.calls f args v hk hfree w hw
 .unfold kT at hk;rw[Hs]at hk;exact hK.U6 f u hk
 unfold kT at hk;rw[Hr]at hk;exact hK.U7 f s items hk hfr
end
end Go.Proofs.YtbeckacfibledaaGreatDoor.rg
