/- Expressions: the contract of Eval. -/
import Derived.Test.YtpaddkkfefgkfaaGreatDoorQh
set_option linter.unusedVariables false
set_option linter.unusedSimpArgs false
namespace Go.Proofs.YtpaddkkfefgkfaaGreatDoor.ex
open Go.Tv Go.Ev Go.Px
set_option maxRecDepth 100000
noncomputable section
def pE:List Bool:=[true,true,true,true,false,true,false]
def anE:bG:=⟨cG [2,3,1,0,8,9,10,12,13,25,26,27] pE,.none,[]⟩
def jE (L:AV) (x:List Nd) (h s:Int) (r m:Nat) (v:List Int) (p:Bool) (i:Int):Option AV :=
 cK X0 (cN Zn [] AV) anE r 156 pE (λv _=>some v) m (fY 114 [(2,.int .i64 h),(3,.int .i64 s),(1,L),(0,.bA bW x),(8,.int .i64 0),(9,.bool false),(10,.int .i64 0),(12,.CE 0 200),(13,.bool p),(25,.bA bW x),(26,.int .i64 x.length),(27,.int .i64 i)]) (iC [.list 239 (.int .i64) v 0 true false])
def zg (v:List Int) (i:Int) (y:Int) (k:List Int->Option AV):Option AV:=Option.rec (motive:=λ_=>Option AV) none (λ_=>k (v.set i.toNat y)) (aS v i)
def Fx (v:List Int) (i:Int) (k:Int->Option AV):Option AV:=Option.rec (motive:=λ_=>Option AV) none k (aS v i)
def Li (e:Int):Option AV:=some (.bZ [.int .i64 0,.bool false,.int .i64 e])
def Pc (a:Int):Int:=IntKind.wrap .i64 (0-a)
def Pd (a:Int):Int:=IntKind.wrap .i64 ((BitVec.ofInt 64 (-1) ^^^ BitVec.ofInt 64 a).toNat)
def Xq (l:List Sym) (s:List UInt8):Sym:=(tZ l s).getD ([],0,false)
def BN (x:List Nd) (l:List Sym) (h s:Int) (v:List Int) (p:Bool) (i:Int) (go:List Int->Bool->Option AV):Option AV :=
 pick2 (ltI i x.length) (Option.rec (motive:=λ_=>Option AV) none (λnd =>
  pick2 (eqI nd.1 1) (zg v i nd.2.1 λv=>go v p)
  (pick2 (eqI nd.1 2) (pick2 (Nat.ble l.length 1000000) (pick2 (!(tZ l nd.2.2.1).isSome) (Li 6) (zg v i (Xq l nd.2.2.1).2.1 λv=>pick2 p (go v true) (go v (Xq l nd.2.2.1).2.2))) none)
  (pick2 (eqI nd.1 3) (zg v i h λv=>go v true)
  (pick2 (eqI nd.1 4) (zg v i s λv=>go v true)
  (pick2 (eqI nd.1 5) (Fx v nd.2.2.2.1 λa=>zg v i (Pc a) λv=>go v p)
  (pick2 (eqI nd.1 6) (Fx v nd.2.2.2.1 λa=>zg v i (Pd a) λv=>go v p)
  (Fx v nd.2.2.2.1 λa=>Fx v nd.2.2.2.2 λb=>pick2 (!(ua nd.1 a b).2) (Li 5) (zg v i (ua nd.1 a b).1 λv=>go v p)))))))) (aS x i))
 (Fx v (IntKind.wrap .i64 ((x.length:Int)-1)) λy=>some (.bZ [.int .i64 y,.bool p,.int .i64 0]))
theorem Xr (x:List Nd) (l:List Sym) (h s:Int) (r m:Nat) (v:List Int) (p:Bool) (i:Int):jE (.bA gN l) x h s r (m+1) v p i=BN x l h s v p i λv p=>jE (.bA gN l) x h s r m v p (IntKind.wrap .i64 (i+1)):=by kernel_rfl
theorem Xs (x:List Nd) (h s:Int) (r m:Nat) (v:List Int) (p:Bool) (i:Int):jE .br x h s r (m+1) v p i=BN x [] h s v p i λv p=>jE .br x h s r m v p (IntKind.wrap .i64 (i+1)):=by kernel_rfl
theorem SE (x:List Nd) (l:List Sym) (h s:Int) (r:Nat):ag X0 (cN Zn [] AV) anE r 156 [.bA bW x,.bA gN l,.int .i64 h,.int .i64 s] aa.empty (λv _=>some v) =
 pick2 (!eqI (gI ay x) 0) (Li (gI ay x)) (jE (.bA gN l) x h s r r (List.replicate 200 0) false 0):=by kernel_rfl
theorem SF (x:List Nd) (h s:Int) (r:Nat):ag X0 (cN Zn [] AV) anE r 156 [.bA bW x,.br,.int .i64 h,.int .i64 s] aa.empty (λv _=>some v) =
 pick2 (!eqI (gI ay x) 0) (Li (gI ay x)) (jE .br x h s r r (List.replicate 200 0) false 0):=by kernel_rfl
theorem uc {v:List Int} {i:Int} (h0:0<=i) (h1:i<v.length) (k:Int->Option AV):Fx v i k=k (ze v i):=by
 obtain ⟨n,rfl⟩:∃n:Nat,i=n:=⟨i.toNat,by omega⟩
 unfold Fx ze
 rw[lg,List.getElem?_eq_getElem (by omega)]
 show k v[n]=k ((v[n]?).getD 0)
 rw[List.getElem?_eq_getElem (by omega)];rfl
theorem SG {v:List Int} {n:Nat} (h1:n<v.length) (y:Int) (k:List Int->Option AV):zg v n y k=k (v.set n y):=by
 unfold zg
 rw[lg,List.getElem?_eq_getElem h1];rfl
def SH (q:Int×Bool×Int):AV:=.bZ [.int .i64 q.1,.bool q.2.1,.int .i64 q.2.2]
theorem abM {x:List Nd} {l:List Sym} {h s:Int} {J:Nat->List Int->Bool->Int->Option AV} (step:∀m v p i,J (m+1) v p i=BN x l h s v p i λv p=>J m v p (IntKind.wrap .i64 (i+1)))
 (hl:l.length<=1000000) (hx:x.length<=200) (hne:x≠[]):∀(rest pre:List Nd) (m:Nat) (v:List Int) (p:Bool),x=pre++rest->rest.length<m->v.length=200->Sx pre.length rest ->
  J m v p pre.length=some (SH (Zm Pc Pd ua l h s rest pre.length v p)):=by
 intro rest
 induction rest with
 |
  nil =>
  intro pre m v p he hm hv hb;obtain ⟨m,rfl⟩:∃m',m=m'+1:=⟨m-1,by simp at hm;omega⟩
  have hl':x.length=pre.length:=by rw[he];simp
  have hp:0<x.length:=List.length_pos_iff.2 hne;rw[step];unfold BN;rw[cA (by omega),i64_in (n:=(x.length:Int)-1) (by omega) (by omega)]
  show Fx v ((x.length:Int)-1) _=_;rw[uc (by omega) (by omega),hl'];rfl
 |
  cons nd rest ih =>
  intro pre m v p he hm hv hb;obtain ⟨m,rfl⟩:∃m',m=m'+1:=⟨m-1,by simp at hm;omega⟩
  have hl':x.length=pre.length+(rest.length+1):=by rw[he];simp
  have hg:aS x (pre.length:Int)=some nd:=by rw[he];exact eo pre rest nd
  obtain ⟨⟨b1,b2,b3⟩,hb'⟩:=hb
  have go:∀(y:Int) (q:Bool),J m (v.set pre.length y) q ((pre.length:Int)+1)=some (SH (Zm Pc Pd ua l h s rest (pre.length+1) (v.set pre.length y) q)):=λy q=>by
   have:=ih (pre++[nd]) m (v.set pre.length y) q (by rw[he];simp) (by simp at hm;omega) (by simp[hv]) (by simpa using hb')
   simpa using this
  have hi:pre.length<v.length:=by omega
  rw[step];unfold BN;rw[kG (by omega),hg,i64_in (n:=(pre.length:Int)+1) (by omega) (by omega)]
  show pick2 (eqI nd.1 1) _ _=_;unfold Zm zf
  have done:∀(y:Int) (q:Bool) (q':Bool),q'=(p||q)->zg v pre.length y (λv=>J m v q' ((pre.length:Int)+1))=some (SH (if ((0,y,q):Int×Int×Bool).1=0 then Zm Pc Pd ua l h s rest (pre.length+1) (v.set pre.length ((0,y,q):Int×Int×Bool).2.1) (p||((0,y,q):Int×Int×Bool).2.2) else (0,false,((0,y,q):Int×Int×Bool).1))):=λy q q' hq=>by
   rw[SG hi,if_pos rfl,go,hq]
  rw[az];by_cases h1:nd.1=1
  .
   simp only[if_pos h1];exact done _ _ _ (by simp)
  rw[if_neg h1,az];simp only[if_neg h1];by_cases h2:nd.1=2
  .
   simp only[if_pos h2];rw[fG hl];unfold Xq;cases hL:tZ l nd.2.2.1 with
   |none=>rfl
   |
    some q =>
    show zg v pre.length q.2.1 (λv=>pick2 p (J m v true _) (J m v q.2.2 _))=_
    cases p with
    |true=>exact done _ _ _ (by simp)
    |false=>exact done _ _ _ (by simp)
  rw[if_neg h2,az];simp only[if_neg h2];by_cases h3:nd.1=3
  .
   simp only[if_pos h3];exact done _ _ _ (by simp)
  rw[if_neg h3,az];simp only[if_neg h3];by_cases h4:nd.1=4
  .
   simp only[if_pos h4];exact done _ _ _ (by simp)
  rw[if_neg h4,az];simp only[if_neg h4];obtain ⟨c1,c2⟩:=b2 (by omega)
  by_cases h5:nd.1=5
  .
   simp only[if_pos h5];rw[uc c1 (by omega)];exact done _ _ _ (by simp)
  rw[if_neg h5,az];simp only[if_neg h5];by_cases h6:nd.1=6
  .
   simp only[if_pos h6];rw[uc c1 (by omega)];exact done _ _ _ (by simp)
  simp only[if_neg h6];obtain ⟨d1,d2⟩:=b3 (by omega)
  rw[uc c1 (by omega),uc d1 (by omega)]
  cases hB:(ua nd.1 (ze v nd.2.2.2.1) (ze v nd.2.2.2.2)).2 with
  |true=>rw[if_pos rfl];exact done _ _ _ (by simp)
  |false=>rw[if_neg Bool.false_ne_true];rfl
def rf (x:List Nd) (l:List Sym) (h s:Int):Int×Bool×Int:=if gI ay x=0 then Zm Pc Pd ua l h s x 0 (List.replicate 200 0) false else (0,false,gI ay x)
theorem abN {x:List Nd} {l:List Sym} {h s:Int} {T:Option AV} {J:Nat->List Int->Bool->Int->Option AV} (e:T=pick2 (!eqI (gI ay x) 0) (Li (gI ay x)) (J 202 (List.replicate 200 0) false 0))
 (step:∀m v p i,J (m+1) v p i=BN x l h s v p i λv p=>J m v p (IntKind.wrap .i64 (i+1))) (hl:l.length<=1000000):T=some (SH (rf x l h s)):=by
 rw[e,aT]
 unfold rf
 by_cases hc:gI ay x=0
 .
  rw[if_pos hc,if_pos hc];obtain ⟨h1,h2,h3⟩:=O7 hc;exact abM step hl h2 h1 x [] 202 _ false rfl (by omega) (List.length_replicate ..) h3
 rw[if_neg hc,if_neg hc];rfl
def gEv (args:List AV):Option (Bool×List aZ) :=
 match args with
 |
  [X,L,.int .i64 h,.int .i64 s]=>match Al bW X,Al gN L with
  |some x,some l=>some (Nat.ble l.length 1000000,[.val (.int .i64 (rf x l h s).1),.val (.bool (rf x l h s).2.1),.val (.int .i64 (rf x l h s).2.2)])
  |_,_=>none
 |_=>none
theorem SI (L:AV) (h s:Int) (r:Nat):ag X0 (cN Zn [] AV) anE r 156 [.br,L,.int .i64 h,.int .i64 s] aa.empty (λv _=>some v)=Li 2:=by kernel_rfl
theorem Xt:aI X0 cI 156 gEv :=
 aG (λargs=>lt.aQ rfl args) (bR Xp n0) λargs rs hg=>by
  unfold gEv at hg;split at hg
  case h_2=>cases hg
  split at hg
  case h_2=>cases hg
  rename_i h s _ _ x l hx hl;simp only[Option.some.injEq,Prod.mk.injEq] at hg;obtain ⟨h2,rfl⟩:=hg;have h2:=Nat.le_of_ble_eq_true h2;refine ⟨[.int .i64 (rf x l h s).1,.bool (rf x l h s).2.1,.int .i64 (rf x l h s).2.2],anE,202,?_,rfl,rfl⟩;rcases jr hx with rfl|⟨rfl,rfl⟩
  .
   rcases jr hl with rfl|⟨rfl,rfl⟩
   .
    exact abN (SE x l h s 202) (λm v p i=>Xr x l h s 202 m v p i) h2
   exact abN (SF x h s 202) (λm v p i=>Xs x h s 202 m v p i) h2
  rw[SI];rfl
def M14:List kH:=(156,[some bW,some gN,none,none],gEv)::Zn
end
end Go.Proofs.YtpaddkkfefgkfaaGreatDoor.ex
