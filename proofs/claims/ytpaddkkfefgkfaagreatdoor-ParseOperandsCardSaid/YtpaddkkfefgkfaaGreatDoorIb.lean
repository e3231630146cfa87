/- Instructions that may be: contracts of inst.Bits, inst.Check, SameArgs, SameInst. -/
import Derived.Test.YtpaddkkfefgkfaaGreatDoorIa
set_option linter.unusedVariables false
set_option linter.unusedSimpArgs false
namespace Go.Proofs.YtpaddkkfefgkfaaGreatDoor.ps.iq
open Go.Tv Go.Ev Go.Px Go.Pp Go.Proofs.YtpaddkkfefgkfaaGreatDoor.ex
set_option maxRecDepth 100000
noncomputable section
def B3 (op:Int) (l:List Arg):Int×Bool :=
 if cy op=false then (0,false) else if (qM op).1≠0 then qM op else match l with
  |[]=>(0,false)
  |a::_=>if U9 a=0 then (0,false) else (IntKind.wrap .i64 (8*U9 a),(qM op).2)
def aco:List (Option Tv.Ty):=[none,some j8]
def uk (op:Int) (l:List Arg):List AV:=[.int .i64 op,.bA j8 l]
def gIn (f:Int->List Arg->List aZ) (args:List AV):Option (Bool×List aZ) :=
 match ng [aco] args with
 |
  [.agg [.int .i64 op,L]]=>match xh j8 L with
  |some l=>some (true,f op l)
  |none=>none
 |_=>none
theorem Ys {f:FuncId} {M:List kH} (hM:cg X0 cI M) (hk:lt.inl f=true) {p:Int->List Arg->List AV} (hs:∀op l,(p op l).all kZ=true) (h:∀op l,∃an rounds,ag X0 (cN M [] AV) an rounds f [.agg (uk op l)] aa.empty (λv _=>some v)=some (Tv.jO (p op l))):aI X0 cI f (gIn λop l=>(p op l).map .val) :=
 Ls hk hM n0 [aco] λargs rs hg=>by
  unfold gIn at hg;split at hg
  case h_2=>cases hg
  rename_i op L hv;split at hg
  case h_2=>cases hg
  rename_i l hl;simp only[Option.some.injEq,Prod.mk.injEq] at hg;obtain ⟨_,rfl⟩:=hg;obtain ⟨an,r,h1⟩:=h op l;refine ⟨p op l,an,r,?_,rfl,hs op l⟩;rw[hv,eF hl];exact h1
def P0 (op:Int) (l:List Arg) (K:Int->Bool->Option AV):Option AV :=
 pick2 (!cy op) (K 0 false) (pick2 (!eqI (qM op).1 0) (K (qM op).1 (qM op).2) (pick2 (eqI l.length 0) (K 0 false) (Option.rec (motive:=λ_=>Option AV) none (λy=>pick2 (eqI (U9 y) 0) (K 0 false) (K (IntKind.wrap .i64 (8*U9 y)) (qM op).2)) (aS l 0))))
theorem P4 (op:Int) (l:List Arg) (K:Int->Bool->Option AV):P0 op l K=K (B3 op l).1 (B3 op l).2:=by
 unfold P0 B3
 cases cy op with
 |false=>rfl
 |
  true =>
  rw[if_neg (show ¬true=false by decide)]
  show pick2 (!eqI (qM op).1 0) _ _=_;rw[aT];by_cases h:(qM op).1=0
  .
   rw[if_pos h,if_neg (λq=>q h)]
   cases l with
   |nil=>rfl
   |
    cons a l =>
    show pick2 (eqI ((l.length+1:Nat):Int) 0) _ (pick2 (eqI (U9 a) 0) _ _)=_;rw[az,if_neg (by omega),az]
    simp only;split<;>rfl
  rw[if_neg h,if_pos h]
def Dz (a:gY):List Bool->gY
 |[]=>a
 |d::p=>pick2 d (.node none .none (Dz a p)) (.node none (Dz a p) .none)
def pI1:List Bool:=[true,true,true,false,true,false]
def pI2:List Bool:=[true,true,true,true,true,false,true,false]
def Tt:bG:=⟨Dz (.node none (cG [1,25,26,27] [true,false]) (cG [1,6,7,8,9,38,39,40] [true,false,true,false])) [true,true,true],.none,[]⟩
def acp (op:Int) (l:List Arg):aa:=iC [.cells 69 (uk op l)]
def jI1 (op:Int) (l:List Arg) (q m:Nat) (i:Int):Option AV:=cK X0 (cN U2 [] AV) Tt q 36 pI1 (λv _=>some v) m (fY 88 [(1,.ptr 0 0),(25,.bA j8 l),(26,.int .i64 l.length),(27,.int .i64 i)]) (acp op l)
def Tu (op:Int) (l:List Arg) (q m:Nat) (a b c n i:Int):Option AV:=cK X0 (cN U2 [] AV) Tt q 36 pI2 (λv _=>some v) m (fY 88 [(1,.ptr 0 0),(6,.int .i64 a),(7,.int .i64 b),(8,.int .i64 c),(9,.int .i64 n),(38,.bA j8 l),(39,.int .i64 l.length),(40,.int .i64 i)]) (acp op l)
def Tw (o:Option Arg) (k:Arg->Option AV):Option AV:=Option.rec (motive:=λ_=>Option AV) none k o
def Yt (op:Int) (l:List Arg) (a b c n:Int):Option AV :=
 pick2 (ltI 1 a) (iV 2) (pick2 (ltI 1 b) (iV 2) (pick2 (ltI 1 c) (iV 2) (pick2 (eqI c 0) (iV 0) (P0 op l λb s=>pick2 (eqI b 0) (iV 2) (iV (lH n b s).2)))))
theorem P5 (op:Int) (l:List Arg) (q m:Nat) (a b c n i:Int):Tu op l q (m+1) a b c n i =
 pick2 (ltI i l.length) (Tw (aS l i) λy=>pick2 (eqI y.1 2) (Tu op l q m (IntKind.wrap .i64 (a+1)) b c n (IntKind.wrap .i64 (i+1))) (pick2 (eqI y.1 4) (Tu op l q m a (IntKind.wrap .i64 (b+1)) c n (IntKind.wrap .i64 (i+1)))
  (pick2 (eqI y.1 3) (Tu op l q m a b (IntKind.wrap .i64 (c+1)) y.2.2.2 (IntKind.wrap .i64 (i+1))) (Tu op l q m a b c n (IntKind.wrap .i64 (i+1)))))) (Yt op l a b c n):=by kernel_rfl
theorem P6 (op:Int) (l:List Arg) (q m:Nat) (i:Int):jI1 op l q (m+1) i =
 pick2 (ltI i l.length) (Tw (aS l i) λy=>pick2 (!eqI (zf y) 0) (iV (zf y)) (jI1 op l q m (IntKind.wrap .i64 (i+1)))) (Tu op l q q 0 0 0 0 0):=by kernel_rfl
theorem Yu (op:Int) (l:List Arg) (q:Nat):ag X0 (cN U2 [] AV) Tt q 36 [.agg (uk op l)] aa.empty (λv _=>some v)=pick2 (!cy op) (iV 6) (pick2 (ltI 4 l.length) (iV 3) (jI1 op l q q 0)):=by kernel_rfl
def mH:List Arg->Int
 |[]=>0
 |a::l=>if zf a≠0 then zf a else mH l
def endF' (op:Int) (l:List Arg) (a b c n:Int):Int :=
 if 1<a\/1<b\/1<c then 2 else if c=0 then 0 else if (B3 op l).1=0 then 2 else (lH n (B3 op l).1 (B3 op l).2).2
def Tx (op:Int) (l:List Arg):List Arg->Int->Int->Int->Int->Int
 |[],a,b,c,n=>endF' op l a b c n
 |y::r,a,b,c,n=>if y.1=2 then Tx op l r (a+1) b c n else if y.1=4 then Tx op l r a (b+1) c n else if y.1=3 then Tx op l r a b (c+1) y.2.2.2 else Tx op l r a b c n
def nX (op:Int) (l:List Arg):Int :=
 if cy op=false then 6 else if 4<l.length then 3 else if mH l≠0 then mH l else Tx op l l 0 0 0 0
theorem Tz (op:Int) (l:List Arg) (a b c n:Int):Yt op l a b c n=iV (endF' op l a b c n):=by
 unfold Yt endF'
 rw[P4,aX,aX,aX,az,az]
 by_cases h1:1<a
 .
  rw[if_pos h1,if_pos (.inl h1)]
 rw[if_neg h1]
 by_cases h2:1<b
 .
  rw[if_pos h2,if_pos (.inr (.inl h2))]
 rw[if_neg h2]
 by_cases h3:1<c
 .
  rw[if_pos h3,if_pos (.inr (.inr h3))]
 rw[if_neg h3,if_neg (show ¬(1<a\/1<b\/1<c) by omega)]
 split
 .
  rfl
 split<;>rfl
theorem P7 {op:Int} {l:List Arg} (hl:l.length<=4) (q:Nat):∀(rest pre:List Arg) (m:Nat) (a b c n:Int),l=pre++rest->rest.length<m->0<=a->0<=b->0<=c->a<=pre.length->b<=pre.length->c<=pre.length->Tu op l q m a b c n pre.length=iV (Tx op l rest a b c n)
 |
  [],pre,m,a,b,c,n,he,hm,_,_,_,_,_,_=>by
  obtain ⟨m,rfl⟩:∃m',m=m'+1:=⟨m-1,by simp at hm;omega⟩
  have hl:l.length=pre.length:=by rw[he];simp
  rw[P5,cA (by omega)]
  exact Tz op l a b c n
 |
  y::rest,pre,m,a,b,c,n,he,hm,a0,b0,c0,a1,b1,c1=>by
  obtain ⟨m,rfl⟩:∃m',m=m'+1:=⟨m-1,by simp at hm;omega⟩
  have hl':l.length=pre.length+(rest.length+1):=by rw[he];simp
  have hg:aS l (pre.length:Int)=some y:=by rw[he];exact eo pre rest y
  have go:∀a b c n:Int,0<=a->0<=b->0<=c->a<=(pre.length:Int)+1->b<=(pre.length:Int)+1->c<=(pre.length:Int)+1->Tu op l q m a b c n ((pre.length:Int)+1)=iV (Tx op l rest a b c n):=λa b c n a0 b0 c0 a1 b1 c1=>by
   have:=P7 (op:=op) hl q rest (pre++[y]) m a b c n (by rw[he];simp) (by simp at hm;omega) a0 b0 c0 (by simp;omega) (by simp;omega) (by simp;omega)
   rw[List.length_append] at this;exact this
  rw[P5,kG (by omega),hg,i64_in (n:=(pre.length:Int)+1) (by omega) (by omega),i64_in (n:=a+1) (by omega) (by omega),i64_in (n:=b+1) (by omega) (by omega),i64_in (n:=c+1) (by omega) (by omega)]
  show pick2 (eqI y.1 2) _ (pick2 (eqI y.1 4) _ (pick2 (eqI y.1 3) _ _))=_;rw[az,az,az,go _ b c n (by omega) b0 c0 (by omega) (by omega) (by omega),go a _ c n a0 (by omega) c0 (by omega) (by omega) (by omega),go a b _ y.2.2.2 a0 b0 (by omega) (by omega) (by omega) (by omega),go a b c n a0 b0 c0 (by omega) (by omega) (by omega),Tx]
  split
  .
   rfl
  split
  .
   rfl
  split<;>rfl
theorem P8 {op:Int} {l:List Arg} (hl:l.length<=4):∀(rest pre:List Arg) (m:Nat),l=pre++rest->rest.length<m->jI1 op l 6 m pre.length=iV (if mH rest≠0 then mH rest else Tx op l l 0 0 0 0)
 |
  [],pre,m,he,hm=>by
  obtain ⟨m,rfl⟩:∃m',m=m'+1:=⟨m-1,by simp at hm;omega⟩
  have hl':l.length=pre.length:=by rw[he];simp
  rw[P6,cA (by omega)]
  show Tu op l 6 6 0 0 0 0 0=_;have:=P7 (op:=op) hl 6 l [] 6 0 0 0 0 rfl (by omega) (by omega) (by omega) (by omega) (by simp) (by simp) (by simp)
  refine Eq.trans this ?_;rw[if_neg (show ¬mH []≠0 from λh=>h rfl)]
 |
  y::rest,pre,m,he,hm=>by
  obtain ⟨m,rfl⟩:∃m',m=m'+1:=⟨m-1,by simp at hm;omega⟩
  have hl':l.length=pre.length+(rest.length+1):=by rw[he];simp
  have hg:aS l (pre.length:Int)=some y:=by rw[he];exact eo pre rest y
  have:=P8 (op:=op) hl rest (pre++[y]) m (by rw[he];simp) (by simp at hm;omega)
  rw[List.length_append] at this;have this:jI1 op l 6 m ((pre.length:Int)+1)=_:=this;rw[P6,kG (by omega),hg,i64_in (n:=(pre.length:Int)+1) (by omega) (by omega)]
  show pick2 (!eqI (zf y) 0) _ _=_;rw[aT,this,mH];by_cases h:zf y=0
  .
   rw[if_pos h,if_neg (show ¬zf y≠0 from λq=>q h)]
  rw[if_neg h,if_pos h,if_pos h]
theorem Yv:aI X0 cI 36 (gIn λop l=>[AV.int .i64 (nX op l)].map .val) :=
 Ys PZ rfl (λ_ _=>rfl) λop l=>⟨Tt,6,by
  rw[Yu,aX];unfold nX;cases cy op with
  |false=>rfl
  |
   true =>
   rw[if_neg (show ¬true=false by decide)]
   show (if (4:Int)<(l.length:Int) then _ else _)=_;by_cases h:4<l.length
   .
    rw[if_pos (by omega),if_pos h];rfl
   rw[if_neg (by omega),if_neg h]
   exact P8 (op:=op) (l:=l) (by omega) l [] 6 rfl (by omega)⟩
def pSg:List Bool:=[true,true,false,true,false]
def Yw:bG:=⟨cG [0,1,4,5] pSg,.none,[]⟩
def jSg (x y:List Arg) (q m:Nat) (i:Int):Option AV:=cK X0 (cN U2 [] AV) Yw q 71 pSg (λv _=>some v) m (fY 26 [(0,.bA j8 x),(1,.bA j8 y),(4,.bool false),(5,.int .i64 i)]) aa.empty
theorem P9 (x y:List Arg) (q m:Nat) (i:Int):jSg x y q (m+1) i=pick2 (ltI i x.length) (Tw (aS x i) λa=>Tw (aS y i) λb=>pick2 (!(decide (a.1=b.1)&&(decide (a.2.1.1=b.2.1.1)&&(decide (a.2.1.2=b.2.1.2)&&(decide (a.2.2.1.1.1=b.2.2.1.1.1)&&(decide (a.2.2.1.1.2=b.2.2.1.1.2)&&(decide (a.2.2.1.2.1.1=b.2.2.1.2.1.1)&&(decide (a.2.2.1.2.1.2=b.2.2.1.2.1.2)&&(decide (a.2.2.1.2.2.1=b.2.2.1.2.2.1)&&(decide (a.2.2.1.2.2.2.1=b.2.2.1.2.2.2.1)&&(decide (a.2.2.1.2.2.2.2=b.2.2.1.2.2.2.2)&&decide (a.2.2.2=b.2.2.2))))))))))))
 (some (.bool false)) (jSg x y q m (IntKind.wrap .i64 (i+1)))) (some (.bool true)):=by kernel_rfl
theorem TA (x y:List Arg) (q:Nat):ag X0 (cN U2 [] AV) Yw q 71 [.bA j8 x,.bA j8 y] aa.empty (λv _=>some v)=pick2 (!eqI x.length y.length) (some (.bool false)) (jSg x y q q 0):=by kernel_rfl
theorem acs (a b:Arg):(decide (a.1=b.1)&&(decide (a.2.1.1=b.2.1.1)&&(decide (a.2.1.2=b.2.1.2)&&(decide (a.2.2.1.1.1=b.2.2.1.1.1)&&(decide (a.2.2.1.1.2=b.2.2.1.1.2)&&(decide (a.2.2.1.2.1.1=b.2.2.1.2.1.1)&&(decide (a.2.2.1.2.1.2=b.2.2.1.2.1.2)&&(decide (a.2.2.1.2.2.1=b.2.2.1.2.2.1)&&(decide (a.2.2.1.2.2.2.1=b.2.2.1.2.2.2.1)&&(decide (a.2.2.1.2.2.2.2=b.2.2.1.2.2.2.2)&&decide (a.2.2.2=b.2.2.2)))))))))))=wP a b:=by
 obtain ⟨k,⟨c,n⟩,⟨⟨bc,bn⟩,⟨ic,ix⟩,sc,d,z⟩,v⟩:=a
 obtain ⟨k',⟨c',n'⟩,⟨⟨bc',bn'⟩,⟨ic',ix'⟩,sc',d',z'⟩,v'⟩:=b
 rw[Bool.eq_iff_iff,nW]
 simp only[Bool.and_eq_true,decide_eq_true_eq,Prod.mk.injEq]
 constructor
 .
  rintro ⟨h1,h2,h3,h4,h5,h6,h7,h8,h9,h10,h11⟩;exact ⟨h1,⟨h2,h3⟩,⟨⟨h4,h5⟩,⟨h6,h7⟩,h8,h9,h10⟩,h11⟩
 rintro ⟨h1,⟨h2,h3⟩,⟨⟨h4,h5⟩,⟨h6,h7⟩,h8,h9,h10⟩,h11⟩
 exact ⟨h1,h2,h3,h4,h5,h6,h7,h8,h9,h10,h11⟩
def gSg (args:List AV):Option (Bool×List aZ) :=
 match args with
 |
  [L,R]=>match xh j8 L,xh j8 R with
  |some x,some y=>some (Nat.ble x.length 900000,[.val (.bool (wP x y))])
  |_,_=>none
 |_=>none
theorem Yx:aI X0 cI 71 gSg :=
 aG (nk rfl) (bR PZ n0) λargs rs hg=>by
  unfold gSg at hg;split at hg
  case h_2=>cases hg
  split at hg
  case h_2=>cases hg
  rename_i x y hx hy;have e1:=eF hx;have e2:=eF hy;subst e1;subst e2;simp only[Option.some.injEq,Prod.mk.injEq] at hg;obtain ⟨h1,rfl⟩:=hg;have h1:=Nat.le_of_ble_eq_true h1;refine ⟨[.bool (wP x y)],Yw,x.length+1,?_,rfl,rfl⟩;rw[TA,aT];by_cases h:x.length=y.length
  .
   rw[if_pos (by omega)]
   have:=PT (x:=x) (y:=y) (by omega) h (ok:=λ_=>true) (F:=some (AV.bool false)) (T:=some (AV.bool true)) (j:=jSg x y (x.length+1)) (λm i a b hi ha hb _=>by
    rw[P9,kG hi,ha,hb];show pick2 (!_) _ _=_;rw[acs]) (λm=>by rw[P9,cA (by omega)]) x [] y (x.length+1) rfl rfl (by omega) (λ_ _=>rfl)
   have this:jSg x y (x.length+1) (x.length+1) 0=_:=this;rw[this];cases wP x y<;>rfl
  rw[if_neg (by omega),PS (λe=>h (by rw[e]))];rfl
def U4:List kH:=(36,[none],gIn λop l=>[AV.int .i64 (nX op l)].map .val)::(71,[some j8,some j8],gSg)::U2
theorem acu:cg X0 cI U4:=.cons Yv (.cons Yx PZ)
end
end Go.Proofs.YtpaddkkfefgkfaaGreatDoor.ps.iq
