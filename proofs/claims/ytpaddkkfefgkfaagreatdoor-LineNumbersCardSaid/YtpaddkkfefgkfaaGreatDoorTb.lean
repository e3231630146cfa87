/- LineBlanks: the law's run, and that it answers true. -/
import Derived.Test.YtpaddkkfefgkfaaGreatDoorTa
import Derived.Test.YtpaddkkfefgkfaaGreatDoorGri
set_option linter.unusedVariables false
set_option linter.unusedSimpArgs false
namespace Go.Proofs.YtpaddkkfefgkfaaGreatDoor.ps
open Go.Tv Go.Ev Go.Px Go.Pp Go.Proofs.YtpaddkkfefgkfaaGreatDoor.ex
set_option maxRecDepth 100000
noncomputable section
def Q5:List mQ:=(12,[],Yk)::(28,[some aQ],lt.Jb)::S1
theorem ain:bS ex.X0 cq Q5:=.cons LI (.cons lt.aai tP)
def yT:Option AV:=some (.bool true)
def nT:Option AV:=some (.bool false)
def pLb:List Bool:=[true,true,true,true,true,true,false,true,false]
def adS:bI:=⟨dP [0,2,7,8,10,11,12] pLb,.none,[]⟩
def jLb (ro:Bool) (s r bl:List UInt8) (L:List Tok) (q m:Nat) (i:Int) (t:List UInt8):Option AV:=dQ ex.X0 (cN Q5 LD _) adS q 6 pLb (λv _=>some v) m (iB 97 [(0,.str s),(2,.str r),(7,.bool true),(8,.own 0 L.length),(10,.str bl),(11,.str t),(12,.int .i64 i)]) (jF [.list 106 aQ L 0 false ro])
def kD (n:Nat) (X:Option AV):Option AV:=pick2 (Nat.ble n 9223372036854775807) X none
def fiT (s r t:List UInt8):Option AV :=
 kD (t.length+1) (kD ((t++[59]).length+r.length) (pick2 (ltI 1000 (t++[59]++r).length) yT (pick2 (We (cH s).1) (pick2 (LC (cH s).1 (cH (t++[59]++r)).1) (some (.bool (eqI (cH s).2.1 (cH (t++[59]++r)).2.1))) nT) none)))
theorem U3 (ro:Bool) (s r bl:List UInt8) (L:List Tok) (q m:Nat) (i:Int) (t:List UInt8):jLb ro s r bl L q (m+1) i t =
 pick2 (ltI i L.length) (pick2 (!ltI i 0 && !ltI (IntKind.wrap .i64 (i+1)) i && !ltI (Int.ofNat L.length) (IntKind.wrap .i64 (i+1)))
  (pick2 (eqI i 0||ltI i (Int.ofNat L.length)) (pick2 (Nat.ble (aR L i (IntKind.wrap .i64 (i+1))).length 1000&&(aR L i (IntKind.wrap .i64 (i+1))).all lt.eC) (pick2 (!eqI (lt.eD (aR L i (IntKind.wrap .i64 (i+1)))).2 0) nT
   (kD (t.length+(lt.eD (aR L i (IntKind.wrap .i64 (i+1)))).1.length) (kD ((t++(lt.eD (aR L i (IntKind.wrap .i64 (i+1)))).1).length+1) (kD ((t++(lt.eD (aR L i (IntKind.wrap .i64 (i+1)))).1++[32]).length+bl.length)
    (jLb true s r bl L q m (IntKind.wrap .i64 (i+1)) (t++(lt.eD (aR L i (IntKind.wrap .i64 (i+1)))).1++[32]++bl)))))) none) none) none) (fiT s r t):=by kernel_rfl
def Qs:List UInt8:=[32,32,32,32,32]
theorem Yv (s r:List UInt8) (many:Int) (q:Nat):ag ex.X0 (cN Q5 LD _) adS q 6 [.str s,.int .i64 many,.str r] aa.empty (λv _=>some v) =
 pick2 (ltI 300 s.length) yT (pick2 (ltI 100 r.length) yT (pick2 (!eqI (lt.aG s).2.1 0) yT ((λgo:Int->Option AV=>pick2 (ltI (Int.tmod many 6) 0) (go (IntKind.wrap .i64 (Int.tmod many 6+6))) (go (Int.tmod many 6)))
  λk=>pick2 (!ltI k 0 && !ltI 5 k) (jLb false s r (aR Qs 0 k) (lt.aG s).1 q q 0 (aR Qs 0 k)) none))):=by kernel_rfl
theorem Jn {s:List UInt8} {k:Nat} (hk:60<=k) (hs:s.length<=k) {a:Nat} {c:UInt8} {r:List UInt8} (hd:s.drop a=c::r) (h:(lt.bw s c a).2.2.1=0):(lt.bw s c a).1.2.2.1.length<=k:=by
 have c0:aR s (a:Int) (a:Int)=[]:=by unfold aR;simp
 unfold lt.bw at h ⊢
 split at h
 .
  rename_i hf;rw[if_pos hf];have h:(lt.o4 s a).2.2.1=0:=h;unfold lt.o4 at h ⊢;obtain ⟨m1,m2⟩:=lt.uR s a (s.drop a) a rfl (Nat.le_refl _) (by omega) (by rw[c0];rfl) h
  show (lt.eB s a (s.drop a) a).1.length<=k;omega
 rename_i hf
 rw[if_neg hf]
 split at h
 .
  rename_i hq;rw[if_pos hq];show (0:Nat)<=k;omega
 rename_i hq
 rw[if_neg hq]
 split at h
 .
  rename_i Nf;rw[if_pos Nf];have h:(lt.mq s a).2.2.1=0:=h;unfold lt.mq at h ⊢;show (lt.cy s a (s.drop (a+1)) (a+1)).1.length<=k;rw[lt.quoteL_cut' s a _ _ h];have:=lt.UX (s:=s) ((a:Int)+1) ((lt.cy s a (s.drop (a+1)) (a+1)).2.1-1);omega
 rename_i Nf
 rw[if_neg Nf]
 have h:(lt.j8 s a).2.2.1=0:=h
 unfold lt.j8 at h ⊢
 have hm:(lt.gC s a lt.j7).1∈lt.Cf:=lt.yj s a lt.j7 h
 have hl:∀S∈lt.Cf,S.length<=60:=by decide
 have:=hl _ hm
 show (lt.gC s a lt.j7).1.length<=k
 omega
theorem Qb (s:List UInt8) {k:Nat} (hk:60<=k) (hs:s.length<=k):∀(n:Nat) (left:List UInt8),left.length<=n->s.drop (s.length-left.length)=left->left.length<=s.length->∀y∈(lt.bh s n left).1,y.2.2.1.length<=k:=by
 intro n
 induction n with
 |zero=>intro left _ _ _ y hy;cases hy
 |
  succ n ih =>
  intro left h1 h3 h4
  match left,h1,h3,h4 with
  |[],_,_,_=>intro y hy;cases hy
  |
   c::r,h1,h3,h4 =>
   rw[List.length_cons] at h1 h3 h4
   have hr:s.drop (s.length-r.length)=r:=by
    have:s.length-r.length=s.length-(r.length+1)+1:=by omega
    rw[this,<-List.drop_drop,h3];rfl
   rw[lt.bh];split
   .
    exact ih r (by omega) hr (by omega)
   split
   .
    intro y hy;cases hy
   split
   .
    rename_i hp;have he:=lt.mZ h3 hp;intro y hy;rcases List.mem_cons.1 hy with rfl|hy
    .
     exact Jn hk hs h3 hp
    exact ih _ (by simp only[List.length_drop];omega) (by rw[List.length_drop];congr 1;omega) (by simp only[List.length_drop];omega) y hy
   intro y hy;cases hy
theorem Cl (s:List UInt8) {k:Nat} (hk:60<=k) (hs:s.length<=k):∀y∈(lt.aG s).1,y.2.2.1.length<=k:=by
 unfold lt.aG
 split
 .
  intro y hy;cases hy
 split
 .
  exact Qb s hk hs s.length s (Nat.le_refl _) (by simp) (Nat.le_refl _)
 intro y hy;cases hy
theorem Cm {y:Tok} {k:Nat} (hk:70<=k) (h:y.2.2.1.length<=k):(lt.aA y).length<=k+2:=by
 unfold lt.aA
 split
 .
  split
  .
   unfold lt.C6;rw[List.length_map,lt.wD];simp;omega
  unfold lt.lp;have:=lt.yh (b:=16) 64 y.2.1.natAbs [];simp only[List.length_append,List.length_nil] at this ⊢;split<;>simp<;>omega
 split
 .
  simp;omega
 omega
def Cn (bl:List UInt8):List Tok->List UInt8
 |[]=>[]
 |y::l=>lt.aA y++[32]++bl++Cn bl l
theorem Jo (bl e:List UInt8):∀l:List Tok,Cn bl l++e=nS bl e l
 |[]=>rfl
 |y::l=>by rw[Cn,nS,<-Jo bl e l];simp
theorem Jp {y:Tok} (hv:lt.aW y=true) (hw:(lt.aA y).length<=1000):lt.eD [y]=(lt.aA y,0):=by
 unfold lt.eD
 rw[if_pos (by rw[List.all_cons,hv];rfl)]
 show (if 1000<(lt.aA y).length then (([],3):List UInt8×Int) else lt.jI [] (lt.aA y))=_
 rw[if_neg (by omega)];rfl
theorem NW {L pre rest:List Tok} {y:Tok} (h:L=pre++y::rest):aR L (pre.length:Int) ((pre.length:Int)+1)=[y]:=by
 unfold aR
 rw[h,Int.toNat_natCast,List.drop_left]
 have:((pre.length:Int)+1).toNat-pre.length=1:=by omega
 rw[this];rfl
theorem gF {n:Nat} (h:n<=9223372036854775807) (X:Option AV):kD n X=X:=by unfold kD;rw[cj h]
theorem adT {s r bl:List UInt8} {L:List Tok} (hL:L.length<=1000) (uW:bl.length<=5) (q:Nat) (hy:∀y∈L,lt.aW y=true/\lt.eC y=true/\(lt.aA y).length<=1000):∀(rest pre:List Tok) (ro:Bool) (m:Nat) (t:List UInt8),L=pre++rest->rest.length<m->t.length<=5+1006*pre.length->jLb ro s r bl L q m pre.length t=fiT s r (t++Cn bl rest):=by
 intro rest
 induction rest with
 |
  nil =>
  intro pre ro m t he hm ht;obtain ⟨m,rfl⟩:∃m',m=m'+1:=⟨m-1,by simp at hm;omega⟩
  have hl:L.length=pre.length:=by rw[he];simp
  rw[U3,cn (by omega)]
  show fiT s r t=fiT s r (t++[]);rw[List.append_nil]
 |
  cons y rest ih =>
  intro pre ro m t he hm ht;obtain ⟨m,rfl⟩:∃m',m=m'+1:=⟨m-1,by simp at hm;omega⟩
  have hl:L.length=pre.length+(rest.length+1):=by rw[he];simp
  obtain ⟨h1,h2,h3⟩:=hy y (by rw[he];simp)
  rw[U3,i64_in (n:=(pre.length:Int)+1) (by omega) (by omega),NW he,Jp h1 h3,jo (by omega),cn (show (0:Int)<=(pre.length:Int) by omega),cn (show (pre.length:Int)<=(pre.length:Int)+1 by omega),cn (show (pre.length:Int)+1<=Int.ofNat L.length by simp only[Int.ofNat_eq_natCast];omega),
   jo (show (pre.length:Int)<Int.ofNat L.length by simp only[Int.ofNat_eq_natCast];omega)]
  have hc:([y].all lt.eC)=true:=by rw[List.all_cons,h2];rfl
  rw[hc,Bool.or_true];show kD (t.length+(lt.aA y).length) (kD ((t++lt.aA y).length+1) (kD ((t++lt.aA y++[32]).length+bl.length) (jLb true s r bl L q m ((pre.length:Int)+1) (t++lt.aA y++[32]++bl))))=_;rw[gF (by omega),gF (by simp;omega),gF (by simp;omega)]
  have hin:=ih (pre++[y]) true m (t++lt.aA y++[32]++bl) (by rw[he];simp) (by simp at hm;omega) (by simp;omega)
  rw[List.length_append] at hin;have hin:jLb true s r bl L q m ((pre.length:Int)+1) (t++lt.aA y++[32]++bl)=_:=hin;rw[hin,Cn];simp
theorem adU (k:Int):(aR Qs 0 k).all r8=true/\(aR Qs 0 k).length<=5:=by
 unfold aR
 refine ⟨?_,by simp[Qs];omega⟩
 rw[List.all_eq_true]
 intro x hx
 have hx:=List.mem_of_mem_take hx
 have:x∈Qs:=hx
 simp only[Qs,List.mem_cons,List.not_mem_nil,or_false,or_self] at this
 rw[this];decide
theorem U6 {s r bl:List UInt8} (hs:(lt.aG s).2.1=0) (hr:r.length<=100) (uW:bl.all r8=true) (hlen:(bl++Cn bl (lt.aG s).1).length<=2000000):fiT s r (bl++Cn bl (lt.aG s).1)=yT:=by
 unfold fiT
 rw[gF (by omega),gF (by simp at hlen ⊢;omega),aI]
 split
 .
  rfl
 rename_i hT
 have e:bl++Cn bl (lt.aG s).1++[59]++r=bl++nS bl (59::r) (lt.aG s).1:=by rw[<-Jo];simp
 rw[e] at hT ⊢
 obtain ⟨h1,h2⟩:=P9 uW (e:=59::r) (.inr ⟨r,rfl⟩) (lt.qe s).1 uW (by omega)
 obtain ⟨h3,h4⟩:=Qa hs (by rw[h1]) h2
 rw[zU,h3,h4]
 show some (AV.bool (eqI _ _))=_
 rw[Bm rfl];rfl
theorem Jq (bl:List UInt8) (uW:bl.length<=5):∀l:List Tok,(∀y∈l,(lt.aA y).length<=1000)->(Cn bl l).length<=1006*l.length
 |[],_=>by simp[Cn]
 |
  y::l,h=>by
  have h1:=Jq bl uW l (λz hz=>h z (by simp[hz]))
  have h2:=h y (by simp)
  rw[Cn];simp;omega
theorem aio (s r:List UInt8) (many:Int):ag ex.X0 (cN Q5 LD _) adS 1002 6 [.str s,.int .i64 many,.str r] aa.empty (λv _=>some v)=some (.bool true):=by
 rw[Yv,aI,aI,aN]
 split
 .
  rfl
 split
 .
  rfl
 split
 .
  rename_i h1 h2 h3;have hv:=lt.qe s;have hsh:=Cl s (k:=300) (by omega) (by omega)
  have hy:∀y∈(lt.aG s).1,lt.aW y=true/\lt.eC y=true/\(lt.aA y).length<=1000:=λy h=>⟨(hv.1 y h).1,(hv.1 y h).2,by have:=Cm (k:=300) (by omega) (hsh y h);omega⟩
  have go:∀k:Int,0<=k->k<=5->pick2 (!ltI k 0 && !ltI 5 k) (jLb false s r (aR Qs 0 k) (lt.aG s).1 1002 1002 0 (aR Qs 0 k)) none=yT:=λk k0 k1=>by
   obtain ⟨b1,b2⟩:=adU k;rw[cn (by omega),cn (by omega)]
   have:=adT (s:=s) (r:=r) hv.2 b2 1002 hy (lt.aG s).1 [] false 1002 (aR Qs 0 k) rfl (by omega) (by simp;omega)
   show jLb false s r (aR Qs 0 k) (lt.aG s).1 1002 1002 0 (aR Qs 0 k)=yT;refine Eq.trans this (U6 h3 (by omega) b1 ?_)
   have:=Jq _ b2 (lt.aG s).1 (λy h=>(hy y h).2.2)
   rw[List.length_append];omega
  have hm:=Int.tmod_lt_of_pos many (show (0:Int)<6 by omega)
  have hm2 : -6<Int.tmod many 6:=by
   have:=Int.lt_tmod_of_pos many (show (0:Int)<6 by omega)
   omega
  show pick2 (ltI (Int.tmod many 6) 0) _ _=_;rw[aI];split
  .
   rw[i64_in (n:=Int.tmod many 6+6) (by omega) (by omega)]
   exact go _ (by omega) (by omega)
  exact go _ (by omega) (by omega)
 rfl
end
end Go.Proofs.YtpaddkkfefgkfaaGreatDoor.ps
