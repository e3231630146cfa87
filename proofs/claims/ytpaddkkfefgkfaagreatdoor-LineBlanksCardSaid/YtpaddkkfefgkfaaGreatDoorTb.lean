/- LineBlanks: the law's run, and that it answers true. -/
import Derived.Test.YtpaddkkfefgkfaaGreatDoorTa
import Derived.Test.YtpaddkkfefgkfaaGreatDoorGri
namespace Go.Proofs.YtpaddkkfefgkfaaGreatDoor.ps
open Go.Tv Go.Ev Go.Px Go.Pp Go.Proofs.YtpaddkkfefgkfaaGreatDoor.ex
set_option maxRecDepth 100000
noncomputable section
def Q5:List qB:=(12,[],WI)::(28,[some aL],lt.Hl)::S1
theorem aej:cU ex.X0 eo Q5:=.cons JT (.cons lt.WL sy)
def yT:Option AV:=some (.bool true)
def nT:Option AV:=some (.bool false)
def pLb:List Bool:=[true,true,true,true,true,true,false,true,false]
def aam:bO:=⟨eX [0,2,7,8,10,11,12] pLb,.none,[]⟩
def WN (ro:Bool) (s r bl:List UInt8) (L:List Tok) (q m:Nat) (i:Int) (t:List UInt8):Option AV:=fJ ex.X0 (cN Q5 JN _) aam q 6 pLb (λv _=>some v) m (j8 97 [(0,.str s),(2,.str r),(7,.bool true),(8,.own 0 L.length),(10,.str bl),(11,.str t),(12,.int .i64 i)]) (ot [.list 106 aL L 0 false ro])
def jP (n:Nat) (X:Option AV):Option AV:=pick2 (Nat.ble n 9223372036854775807) X none
def fiT (s r t:List UInt8):Option AV :=
 jP (t.length+1) (jP ((t++[59]).length+r.length) (pick2 (ltI 1000 (t++[59]++r).length) yT (pick2 (Tb (ck s).1) (pick2 (JM (ck s).1 (ck (t++[59]++r)).1) (some (.bool (eqI (ck s).2.1 (ck (t++[59]++r)).2.1))) nT) none)))
theorem SG (ro:Bool) (s r bl:List UInt8) (L:List Tok) (q m:Nat) (i:Int) (t:List UInt8):WN ro s r bl L q (m+1) i t =
 pick2 (ltI i L.length) (pick2 (!ltI i 0 && !ltI (IntKind.wrap .i64 (i+1)) i && !ltI (Int.ofNat L.length) (IntKind.wrap .i64 (i+1)))
  (pick2 (eqI i 0||ltI i (Int.ofNat L.length)) (pick2 (Nat.ble (aI L i (IntKind.wrap .i64 (i+1))).length 1000&&(aI L i (IntKind.wrap .i64 (i+1))).all lt.dV) (pick2 (!eqI (lt.dW (aI L i (IntKind.wrap .i64 (i+1)))).2 0) nT
   (jP (t.length+(lt.dW (aI L i (IntKind.wrap .i64 (i+1)))).1.length) (jP ((t++(lt.dW (aI L i (IntKind.wrap .i64 (i+1)))).1).length+1) (jP ((t++(lt.dW (aI L i (IntKind.wrap .i64 (i+1)))).1++[32]).length+bl.length)
    (WN true s r bl L q m (IntKind.wrap .i64 (i+1)) (t++(lt.dW (aI L i (IntKind.wrap .i64 (i+1)))).1++[32]++bl)))))) none) none) none) (fiT s r t):=by kernel_rfl
def N3:List UInt8:=[32,32,32,32,32]
theorem VC (s r:List UInt8) (many:Int) (q:Nat):ag ex.X0 (cN Q5 JN _) aam q 6 [.str s,.int .i64 many,.str r] aa.empty (λv _=>some v) =
 pick2 (ltI 300 s.length) yT (pick2 (ltI 100 r.length) yT (pick2 (!eqI (lt.aG s).2.1 0) yT ((λgo:Int->Option AV=>pick2 (ltI (Int.tmod many 6) 0) (go (IntKind.wrap .i64 (Int.tmod many 6+6))) (go (Int.tmod many 6)))
  λk=>pick2 (!ltI k 0 && !ltI 5 k) (WN false s r (aI N3 0 k) (lt.aG s).1 q q 0 (aI N3 0 k)) none))):=by kernel_rfl
theorem Hz {s:List UInt8} {k:Nat} (hk:60<=k) (hs:s.length<=k) {a:Nat} {c:UInt8} {r:List UInt8} (hd:s.drop a=c::r) (h:(lt.bw s c a).2.2.1=0):(lt.bw s c a).1.2.2.1.length<=k:=by
 have c0:aI s (a:Int) (a:Int)=[]:=by unfold aI;simp
 unfold lt.bw at h ⊢
 split at h
 .
  rename_i hf;rw[if_pos hf];have h:(lt.ow s a).2.2.1=0:=h;unfold lt.ow at h ⊢;obtain ⟨m1,m2⟩:=lt.tL s a (s.drop a) a rfl (Nat.le_refl _) (by omega) (by rw[c0];rfl) h
  show (lt.dU s a (s.drop a) a).1.length<=k;omega
 rename_i hf
 rw[if_neg hf]
 split at h
 .
  rename_i hq;rw[if_pos hq];show (0:Nat)<=k;omega
 rename_i hq
 rw[if_neg hq]
 split at h
 .
  rename_i KV;rw[if_pos KV];have h:(lt.lp s a).2.2.1=0:=h;unfold lt.lp at h ⊢;show (lt.bW s a (s.drop (a+1)) (a+1)).1.length<=k;rw[lt.quoteL_cut' s a _ _ h];have:=lt.SC (s:=s) ((a:Int)+1) ((lt.bW s a (s.drop (a+1)) (a+1)).2.1-1);omega
 rename_i KV
 rw[if_neg KV]
 have h:(lt.jQ s a).2.2.1=0:=h
 unfold lt.jQ at h ⊢
 have hm:(lt.gi s a lt.ke).1∈lt.AO:=lt.wR s a lt.ke h
 have hl:∀S∈lt.AO,S.length<=60:=by decide
 have:=hl _ hm
 show (lt.gi s a lt.ke).1.length<=k
 omega
theorem NH (s:List UInt8) {k:Nat} (hk:60<=k) (hs:s.length<=k):∀(n:Nat) (left:List UInt8),left.length<=n->s.drop (s.length-left.length)=left->left.length<=s.length->∀y∈(lt.bp s n left).1,y.2.2.1.length<=k:=by
 intro n
 induction n with
 |zero=>intro left _ _ _ y hy;cases hy
 |
  succ n ih =>
  intro left h1 h3 h4
  match left,h1,h3,h4 with
  |[],_,_,_=>intro y hy;cases hy
  |
   c::r,h1,h3,h4 =>
   rw[List.length_cons] at h1 h3 h4
   have hr:s.drop (s.length-r.length)=r:=by
    have:s.length-r.length=s.length-(r.length+1)+1:=by omega
    rw[this,<-List.drop_drop,h3];rfl
   rw[lt.bp];split
   .
    exact ih r (by omega) hr (by omega)
   split
   .
    intro y hy;cases hy
   split
   .
    rename_i hp;have he:=lt.lZ h3 hp;intro y hy;rcases List.mem_cons.1 hy with rfl|hy
    .
     exact Hz hk hs h3 hp
    exact ih _ (by simp only[List.length_drop];omega) (by rw[List.length_drop];congr 1;omega) (by simp only[List.length_drop];omega) y hy
   intro y hy;cases hy
theorem A0 (s:List UInt8) {k:Nat} (hk:60<=k) (hs:s.length<=k):∀y∈(lt.aG s).1,y.2.2.1.length<=k:=by
 unfold lt.aG
 split
 .
  intro y hy;cases hy
 split
 .
  exact NH s hk hs s.length s (Nat.le_refl _) (by simp) (Nat.le_refl _)
 intro y hy;cases hy
theorem A3 {y:Tok} {k:Nat} (hk:70<=k) (h:y.2.2.1.length<=k):(lt.ax y).length<=k+2:=by
 unfold lt.ax
 split
 .
  split
  .
   unfold lt.BC;rw[List.length_map,lt.u9];simp;omega
  unfold lt.o9;have:=lt.AP (b:=16) 64 y.2.1.natAbs [];simp only[List.length_append,List.length_nil] at this ⊢;split<;>simp<;>omega
 split
 .
  simp;omega
 omega
def A4 (bl:List UInt8):List Tok->List UInt8
 |[]=>[]
 |y::l=>lt.ax y++[32]++bl++A4 bl l
theorem HA (bl e:List UInt8):∀l:List Tok,A4 bl l++e=mV bl e l
 |[]=>rfl
 |y::l=>by rw[A4,mV,<-HA bl e l];simp
theorem HB {y:Tok} (hv:lt.bI y=true) (hw:(lt.ax y).length<=1000):lt.dW [y]=(lt.ax y,0):=by
 unfold lt.dW
 rw[if_pos (by rw[List.all_cons,hv];rfl)]
 show (if 1000<(lt.ax y).length then (([],3):List UInt8×Int) else lt.jq [] (lt.ax y))=_
 rw[if_neg (by omega)];rfl
theorem Lx {L pre rest:List Tok} {y:Tok} (h:L=pre++y::rest):aI L (pre.length:Int) ((pre.length:Int)+1)=[y]:=by
 unfold aI
 rw[h,Int.toNat_natCast,List.drop_left]
 have:((pre.length:Int)+1).toNat-pre.length=1:=by omega
 rw[this];rfl
theorem gj {n:Nat} (h:n<=9223372036854775807) (X:Option AV):jP n X=X:=by unfold jP;rw[cP h]
theorem aan {s r bl:List UInt8} {L:List Tok} (hL:L.length<=1000) (tN:bl.length<=5) (q:Nat) (hy:∀y∈L,lt.bI y=true/\lt.dV y=true/\(lt.ax y).length<=1000):∀(rest pre:List Tok) (ro:Bool) (m:Nat) (t:List UInt8),L=pre++rest->rest.length<m->t.length<=5+1006*pre.length->WN ro s r bl L q m pre.length t=fiT s r (t++A4 bl rest):=by
 intro rest
 induction rest with
 |
  nil =>
  intro pre ro m t he hm ht;obtain ⟨m,rfl⟩:∃m',m=m'+1:=⟨m-1,by simp at hm;omega⟩
  have hl:L.length=pre.length:=by rw[he];simp
  rw[SG,cz (by omega)]
  show fiT s r t=fiT s r (t++[]);rw[List.append_nil]
 |
  cons y rest ih =>
  intro pre ro m t he hm ht;obtain ⟨m,rfl⟩:∃m',m=m'+1:=⟨m-1,by simp at hm;omega⟩
  have hl:L.length=pre.length+(rest.length+1):=by rw[he];simp
  obtain ⟨h1,h2,h3⟩:=hy y (by rw[he];simp)
  rw[SG,i64_in (n:=(pre.length:Int)+1) (by omega) (by omega),Lx he,HB h1 h3,lQ (by omega),cz (show (0:Int)<=(pre.length:Int) by omega),cz (show (pre.length:Int)<=(pre.length:Int)+1 by omega),cz (show (pre.length:Int)+1<=Int.ofNat L.length by simp only[Int.ofNat_eq_natCast];omega),
   lQ (show (pre.length:Int)<Int.ofNat L.length by simp only[Int.ofNat_eq_natCast];omega)]
  have hc:([y].all lt.dV)=true:=by rw[List.all_cons,h2];rfl
  rw[hc,Bool.or_true];show jP (t.length+(lt.ax y).length) (jP ((t++lt.ax y).length+1) (jP ((t++lt.ax y++[32]).length+bl.length) (WN true s r bl L q m ((pre.length:Int)+1) (t++lt.ax y++[32]++bl))))=_;rw[gj (by omega),gj (by simp;omega),gj (by simp;omega)]
  have hin:=ih (pre++[y]) true m (t++lt.ax y++[32]++bl) (by rw[he];simp) (by simp at hm;omega) (by simp;omega)
  rw[List.length_append] at hin;have hin:WN true s r bl L q m ((pre.length:Int)+1) (t++lt.ax y++[32]++bl)=_:=hin;rw[hin,A4];simp
theorem aao (k:Int):(aI N3 0 k).all qW=true/\(aI N3 0 k).length<=5:=by
 unfold aI
 refine ⟨?_,by simp[N3];omega⟩
 rw[List.all_eq_true]
 intro x hx
 have hx:=List.mem_of_mem_take hx
 have:x∈N3:=hx
 simp only[N3,List.mem_cons,List.not_mem_nil,or_false,or_self] at this
 rw[this];decide
theorem SH {s r bl:List UInt8} (hs:(lt.aG s).2.1=0) (hr:r.length<=100) (tN:bl.all qW=true) (hlen:(bl++A4 bl (lt.aG s).1).length<=2000000):fiT s r (bl++A4 bl (lt.aG s).1)=yT:=by
 unfold fiT
 rw[gj (by omega),gj (by simp at hlen ⊢;omega),aV]
 split
 .
  rfl
 rename_i hT
 have e:bl++A4 bl (lt.aG s).1++[59]++r=bl++mV bl (59::r) (lt.aG s).1:=by rw[<-HA];simp
 rw[e] at hT ⊢
 obtain ⟨h1,h2⟩:=NF tN (e:=59::r) (.inr ⟨r,rfl⟩) (lt.pg s).1 tN (by omega)
 obtain ⟨h3,h4⟩:=NG hs (by rw[h1]) h2
 rw[yz,h3,h4]
 show some (AV.bool (eqI _ _))=_
 rw[zU rfl];rfl
theorem HC (bl:List UInt8) (tN:bl.length<=5):∀l:List Tok,(∀y∈l,(lt.ax y).length<=1000)->(A4 bl l).length<=1006*l.length
 |[],_=>by simp[A4]
 |
  y::l,h=>by
  have h1:=HC bl tN l (λz hz=>h z (by simp[hz]))
  have h2:=h y (by simp)
  rw[A4];simp;omega
theorem aek (s r:List UInt8) (many:Int):ag ex.X0 (cN Q5 JN _) aam 1002 6 [.str s,.int .i64 many,.str r] aa.empty (λv _=>some v)=some (.bool true):=by
 rw[VC,aV,aV,bz]
 split
 .
  rfl
 split
 .
  rfl
 split
 .
  rename_i h1 h2 h3;have hv:=lt.pg s;have hsh:=A0 s (k:=300) (by omega) (by omega)
  have hy:∀y∈(lt.aG s).1,lt.bI y=true/\lt.dV y=true/\(lt.ax y).length<=1000:=λy h=>⟨(hv.1 y h).1,(hv.1 y h).2,by have:=A3 (k:=300) (by omega) (hsh y h);omega⟩
  have go:∀k:Int,0<=k->k<=5->pick2 (!ltI k 0 && !ltI 5 k) (WN false s r (aI N3 0 k) (lt.aG s).1 1002 1002 0 (aI N3 0 k)) none=yT:=λk k0 k1=>by
   obtain ⟨b1,b2⟩:=aao k;rw[cz (by omega),cz (by omega)]
   have:=aan (s:=s) (r:=r) hv.2 b2 1002 hy (lt.aG s).1 [] false 1002 (aI N3 0 k) rfl (by omega) (by simp;omega)
   show WN false s r (aI N3 0 k) (lt.aG s).1 1002 1002 0 (aI N3 0 k)=yT;refine Eq.trans this (SH h3 (by omega) b1 ?_)
   have:=HC _ b2 (lt.aG s).1 (λy h=>(hy y h).2.2)
   rw[List.length_append];omega
  have hm:=Int.tmod_lt_of_pos many (show (0:Int)<6 by omega)
  have hm2 : -6<Int.tmod many 6:=by
   have:=Int.lt_tmod_of_pos many (show (0:Int)<6 by omega)
   omega
  show pick2 (ltI (Int.tmod many 6) 0) _ _=_;rw[aV];split
  .
   rw[i64_in (n:=Int.tmod many 6+6) (by omega) (by omega)]
   exact go _ (by omega) (by omega)
  exact go _ (by omega) (by omega)
 rfl
end
end Go.Proofs.YtpaddkkfefgkfaaGreatDoor.ps
