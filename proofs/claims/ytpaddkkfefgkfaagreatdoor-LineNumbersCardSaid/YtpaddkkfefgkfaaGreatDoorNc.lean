/- LineNumbers: the law's run, and that it answers true. -/
import Derived.Test.YtpaddkkfefgkfaaGreatDoorNb
import Derived.Test.YtpaddkkfefgkfaaGreatDoorGri
import Derived.Test.YtpaddkkfefgkfaaGreatDoorTb
set_option linter.unusedVariables false
set_option linter.unusedSimpArgs false
namespace Go.Proofs.YtpaddkkfefgkfaaGreatDoor.ps
open Go.Tv Go.Ev Go.Px Go.Pp Go.Proofs.YtpaddkkfefgkfaaGreatDoor.ex
set_option maxRecDepth 100000
noncomputable section
def Q7:List mQ:=(12,[],Yk)::(18,[none,none],gSy)::(26,[none],lt.UG)::S1
theorem air:bS ex.X0 cq Q7:=.cons LI (.cons Ew (.cons lt.LM tP))
def pNb:List Bool:=[true,true,true,true,true,true,true,false,true,false]
def YC:bI:=⟨dP [0,7,8,9,10] pNb,.none,[]⟩
def ais (L:List Int) (s:List UInt8) (i:Int):cB:=iB 87 [(0,.bF (.int .i64) L),(7,.bool true),(8,.ptr 0 0),(9,.str s),(10,.int .i64 i)]
def aam (lab:List UInt8) (sz:Int) (D:AV):Row:=.cells 38 [.str lab,.int .i64 2,.int .i64 sz,.int .i64 0,.int .i64 0,.bE,D,.bE,.bE]
def YD (L:List Int) (lab:List UInt8) (sz:Int) (q m:Nat) (s:List UInt8) (i:Int):Option AV:=dQ ex.X0 (cN Q7 LD _) YC q 5 pNb (λv _=>some v) m (ais L s i) (jF [aam lab sz .bE])
def SW (L:List Int) (lab:List UInt8) (sz:Int) (q m:Nat) (s:List UInt8) (D:List Dt) (i:Int) (n:Nat):Option AV:=dQ ex.X0 (cN Q7 LD _) YC q 5 pNb (λv _=>some v) m (ais L s i) (jF [aam lab sz (.own 1 n),.list 52 C4 D 0 false false])
def Ju (o:Option Int) (k:Int->Option AV):Option AV:=Option.rec (motive:=λ_=>Option AV) none k o
def Gk (L:List Int) (s:List UInt8) (i:Int) (J:List UInt8->List Nd->Option AV):Option AV :=
 (λnext:List UInt8->Option AV=>pick2 (ltI 0 i) (kD (s.length+1) (next (s++[44]))) (next s)) λs =>
  Ju (aO L i) λn=>Ju (aO L i) λn2=>pick2 (!ltI n2 (-9223372036854775808)&&ltI n2 9223372036854775808)
   (Ju (aO L i) λn3=>(λtl:List Nd->Option AV=>pick2 (ltI n3 0) (Ju (aO L i) λn4=>tl [(1,IntKind.wrap .i64 (0-n4),[],0,0),(5,0,[],0,0)]) (tl [(1,n,[],0,0)]))
    λx=>kD (s.length+1) (kD ((s++[32]).length+(lt.lp 16 [48,120] n2).length) (J (s++[32]++lt.lp 16 [48,120] n2) x))) none
def Cs (lab:List UInt8) (sz:Int) (s:List UInt8) (D:List Dt):Option AV:=some (.bool (yV s ⟨0,lab,2,sz,0,0,[],D,[],[],0,0⟩))
theorem FO (L:List Int) (lab:List UInt8) (sz:Int) (q m:Nat) (s:List UInt8) (D:List Dt) (i:Int) (n:Nat):SW L lab sz q (m+1) s D i n =
 pick2 (ltI i L.length) (Gk L s i λs x=>pick2 (Nat.ble (D.length+1) 1000000) (SW L lab sz q m s (D++[(([],x):Dt)]) (IntKind.wrap .i64 (i+1)) (D.length+1)) none) (Cs lab sz s D):=by kernel_rfl
theorem ad1 (L:List Int) (lab:List UInt8) (sz:Int) (q m:Nat) (s:List UInt8) (i:Int):YD L lab sz q (m+1) s i =
 pick2 (ltI i L.length) (Gk L s i λs x=>pick2 (Nat.ble 1 1000000) (SW L lab sz q m s [(([],x):Dt)] (IntKind.wrap .i64 (i+1)) 1) none) (Cs lab sz s []):=by kernel_rfl
def amd (o:Option (List UInt8)) (k:List UInt8->Option AV):Option AV:=Option.rec (motive:=λ_=>Option AV) none k o
def ad2 (L:List Int) (label:Bool) (q:Nat) (k:Int):Option AV :=
 pick2 (ltI L.length 1) yT (pick2 (ltI 20 L.length) yT (pick2 (ltI k 0) none (amd (aO oq k) λw =>
  (λsz:Int=>pick2 label (kD (6+w.length) (YD L eo sz q q (eo++[58,32]++w) 0)) (YD L [] sz q q w 0)) (IntKind.wrap .i64 (1*2 ^ (min k.toNat 64))))))
theorem YE (L:List Int) (which:Int) (label:Bool) (q:Nat):ag ex.X0 (cN Q7 LD _) YC q 5 [.bF (.int .i64) L,.int .i64 which,.bool label] aa.empty (λv _=>some v) =
 (λgo:Int->Option AV=>pick2 (ltI (Int.tmod which 4) 0) (go (IntKind.wrap .i64 (Int.tmod which 4+4))) (go (Int.tmod which 4))) λk=>ad2 L label q k:=by kernel_rfl
theorem se {n:Int} (h:jt n):(fR n).length<=20:=by
 unfold fR lt.lp
 have hu:n.natAbs<16 ^ 16:=by
  have:(16:Nat) ^ 16=18446744073709551616:=by decide
  rw[this];omega
 have:=lt.yh (b:=16) 16 n.natAbs []
 rw[lt.sR (by omega) 16 64 n.natAbs [] hu (by omega) (by omega)]
 simp only[List.length_append,List.length_nil] at this ⊢
 split<;>simp<;>omega
theorem N7 {L:List Int} {s:List UInt8} {i n:Int} {J:List UInt8->List Nd->Option AV} (hg:aO L i=some n) (hn:jt n) (hs:s.length<=1000) :
 Gk L s i J=J ((if 0<i then s++[44] else s)++[32]++fR n) (xN n):=by
 have hl:=se hn
 have go:∀s:List UInt8,s.length<=1001->(Ju (aO L i) λn=>Ju (aO L i) λn2=>pick2 (!ltI n2 (-9223372036854775808)&&ltI n2 9223372036854775808)
  (Ju (aO L i) λn3=>(λtl:List Nd->Option AV=>pick2 (ltI n3 0) (Ju (aO L i) λn4=>tl [(1,IntKind.wrap .i64 (0-n4),[],0,0),(5,0,[],0,0)]) (tl [(1,n,[],0,0)]))
   λx=>kD (s.length+1) (kD ((s++[32]).length+(lt.lp 16 [48,120] n2).length) (J (s++[32]++lt.lp 16 [48,120] n2) x))) none)=J (s++[32]++fR n) (xN n):=λs hs=>by
  rw[hg]
  show pick2 (!ltI n (-9223372036854775808)&&ltI n 9223372036854775808) (pick2 (ltI n 0) (kD (s.length+1) (kD ((s++[32]).length+(fR n).length) (J (s++[32]++fR n) [(1,IntKind.wrap .i64 (0-n),[],0,0),(5,0,[],0,0)])))
   (kD (s.length+1) (kD ((s++[32]).length+(fR n).length) (J (s++[32]++fR n) [(1,n,[],0,0)])))) none=_
  rw[cn (show -9223372036854775808<=n from hn.1),jo (show n<9223372036854775808 from hn.2),gF (by omega),gF (by simp;omega),gF (by omega),gF (by simp;omega)]
  show pick2 (ltI n 0) _ _=_;rw[aI];unfold xN;split
  .
   rename_i h;have:(0:Int)-n=(n.natAbs:Int):=by omega
   rw[this]
  rfl
 unfold Gk
 simp only
 rw[aI]
 split
 .
  rw[gF (by omega)]
  exact go (s++[44]) (by simp;omega)
 exact go s (by omega)
theorem Vf {L:List Int} (hL:L.length<=20) (hin:∀n∈L,jt n) (lab:List UInt8) (sz:Int) (q:Nat):∀(rest pre:List Int) (m:Nat) (s:List UInt8) (D:List Dt),L=pre++rest->0<pre.length->rest.length<m->s.length<=10+22*pre.length->D.length=pre.length ->
 SW L lab sz q m s D pre.length D.length=Cs lab sz (s++eX rest) (D++rest.map z6)
 |
  [],pre,m,s,D,he,h0,hm,hs,hD=>by
  obtain ⟨m,rfl⟩:∃m',m=m'+1:=⟨m-1,by simp at hm;omega⟩
  have hl:L.length=pre.length:=by rw[he];simp
  rw[FO,cn (by omega)]
  show Cs lab sz s D=_;simp[eX]
 |
  n::rest,pre,m,s,D,he,h0,hm,hs,hD=>by
  obtain ⟨m,rfl⟩:∃m',m=m'+1:=⟨m-1,by simp at hm;omega⟩
  have hl:L.length=pre.length+(rest.length+1):=by rw[he];simp
  have hg:aO L (pre.length:Int)=some n:=by rw[he];exact dR pre rest n
  have hn:=hin n (by rw[he];simp)
  have hnl:=se hn;rw[FO,jo (by omega),N7 hg hn (by omega),if_pos (by omega),cj (by omega),i64_in (n:=(pre.length:Int)+1) (by omega) (by omega)]
  have:=Vf hL hin lab sz q rest (pre++[n]) m (s++[44]++[32]++fR n) (D++[z6 n]) (by rw[he];simp) (by simp) (by simp at hm;omega) (by simp;omega) (by simp[hD])
  simp only[List.length_append,List.length_cons,List.length_nil,Nat.zero_add] at this;show SW L lab sz q m (s++[44]++[32]++fR n) (D++[z6 n]) ((pre.length:Int)+1) (D.length+1)=_;rw[show ((pre.length:Int)+1)=((pre.length+1:Nat):Int) by omega,this]
  simp[eX]
theorem Vg {L:List Int} (h1:1<=L.length) (hL:L.length<=20) (hin:∀n∈L,jt n) (lab:List UInt8) (sz:Int) {s:List UInt8} (hs:s.length<=10):∃n r,L=n::r/\YD L lab sz 22 22 s 0=Cs lab sz (s++cP n r) (z6 n::r.map z6):=by
 cases L with
 |nil=>simp at h1
 |
  cons n r =>
  refine ⟨n,r,rfl,?_⟩;have hn:=hin n (by simp)
  have hnl:=se hn;show YD (n::r) lab sz 22 (21+1) s 0=_;rw[ad1,jo (by simp),N7 (n:=n) rfl hn (by omega),if_neg (by omega)]
  have:=Vf hL hin lab sz 22 r [n] 21 (s++[32]++fR n) [z6 n] rfl (by simp) (by simp at hL;omega) (by simp;omega) rfl
  show SW (n::r) lab sz 22 21 (s++[32]++fR n) [z6 n] 1 1=_;refine this.trans ?_;simp[cP]
theorem Jv (label:Bool) {w:List UInt8} (hw:w∈oq) {n:Int} {r:List Int} (hn:jt n) (hr:∀x∈r,jt x) (hc:r.length<20) :
 Cs (if label=true then eo else []) (oo w) (jJ label w++cP n r) (z6 n::r.map z6)=some (.bool true):=by
 have hwl:=Cr hw
 have tl:∀L:List Int,(∀x∈L,jt x)->(eX L).length<=22*L.length:=λL=>by
  induction L with
  |nil=>intro _;simp[eX]
  |
   cons n L ih =>
   intro h;have:=ih (λx hx=>h x (by simp[hx]))
   have:=se (h n (by simp))
   simp only[eX,List.length_cons,List.length_append];omega
 have:=tl r hr
 have:=se hn
 have hh:(jJ label w).length<=8:=by cases label<;>simp[jJ,eo,hwl]
 unfold Cs
 have:=Qf label hw hn hr (by omega) (by simp[cP];omega)
 have e:(⟨0,if label=true then eo else [],2,oo w,0,0,[],z6 n::r.map z6,[],[],0,0⟩:RS)=N5 label w (z6 n::r.map z6):=rfl
 rw[e,this]
theorem ait {L:List Int} (hin:∀n∈L,jt n) (which:Int) (label:Bool):ag ex.X0 (cN Q7 LD _) YC 22 5 [.bF (.int .i64) L,.int .i64 which,.bool label] aa.empty (λv _=>some v)=some (.bool true):=by
 have key:∀(w:List UInt8) (sz:Int),w∈oq->sz=oo w->1<=L.length->L.length<=20->pick2 label (kD (6+w.length) (YD L eo sz 22 22 (eo++[58,32]++w) 0)) (YD L [] sz 22 22 w 0)=some (.bool true):=λw sz hw hs a1 a2=>by
  have hwl:=Cr hw;cases label with
  |
   true =>
   obtain ⟨n,r,rfl,e1⟩:=Vg a1 a2 hin eo sz (s:=eo++[58,32]++w) (by simp[eo,hwl])
   show kD (6+w.length) (YD (n::r) eo sz 22 22 (eo++[58,32]++w) 0)=_;rw[gF (by omega)]
   have:=Jv true hw (hin n (by simp)) (λx hx=>hin x (by simp[hx])) (r:=r) (by simp at a2;omega)
   rw[hs];rw[hs] at e1;exact e1.trans this
  |
   false =>
   obtain ⟨n,r,rfl,e1⟩:=Vg a1 a2 hin [] sz (s:=w) (by omega)
   have:=Jv false hw (hin n (by simp)) (λx hx=>hin x (by simp[hx])) (r:=r) (by simp at a2;omega)
   show YD (n::r) [] sz 22 22 w 0=_;rw[hs];rw[hs] at e1;exact e1.trans this
 have go:∀k:Int,0<=k->k<4->ad2 L label 22 k=some (.bool true):=λk h0 h1=>by
  unfold ad2;rw[aI,aI,cn (by omega)]
  split
  .
   rfl
  rename_i a1;split
  .
   rfl
  rename_i a2;have:k=0\/k=1\/k=2\/k=3:=by omega
  rcases this with rfl|rfl|rfl|rfl
  .
   exact key [100,98] (IntKind.wrap .i64 (1*2 ^ (min (0:Int).toNat 64))) (by decide) (by decide) (by omega) (by omega)
  .
   exact key [100,119] (IntKind.wrap .i64 (1*2 ^ (min (1:Int).toNat 64))) (by decide) (by decide) (by omega) (by omega)
  .
   exact key [100,100] (IntKind.wrap .i64 (1*2 ^ (min (2:Int).toNat 64))) (by decide) (by decide) (by omega) (by omega)
  exact key [100,113] (IntKind.wrap .i64 (1*2 ^ (min (3:Int).toNat 64))) (by decide) (by decide) (by omega) (by omega)
 have hm:=Int.tmod_lt_of_pos which (show (0:Int)<4 by omega)
 have hm2:=Int.lt_tmod_of_pos which (show (0:Int)<4 by omega)
 rw[YE]
 simp only
 rw[aI]
 split
 .
  rw[i64_in (n:=Int.tmod which 4+4) (by omega) (by omega)]
  exact go _ (by omega) (by omega)
 exact go _ (by omega) (by omega)
theorem YF {n:Int} (h:(Lit.int .i64 n).wf=true):jt n:=by
 simp only[Lit.wf,IntKind.min,IntKind.max,IntKind.bits,IntKind.signed,Bool.and_eq_true,decide_eq_true_eq] at h
 simp at h
 exact ⟨by omega,by omega⟩
end
end Go.Proofs.YtpaddkkfefgkfaaGreatDoor.ps
