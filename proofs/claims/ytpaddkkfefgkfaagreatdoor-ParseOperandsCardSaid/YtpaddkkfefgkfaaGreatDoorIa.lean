/- Operands that may be: contracts of operand.Check, reg.Size, operand.Size, name.Imm, operand.Imm. -/
import Derived.Test.YtpaddkkfefgkfaaGreatDoorQi
import Derived.Test.YtpaddkkfefgkfaaGreatDoorGri
set_option linter.unusedVariables false
set_option linter.unusedSimpArgs false
namespace Go.Proofs.YtpaddkkfefgkfaaGreatDoor.ps.iq
open Go.Tv Go.Ev Go.Px Go.Pp Go.Proofs.YtpaddkkfefgkfaaGreatDoor.ex
set_option maxRecDepth 100000
noncomputable section
abbrev Arg:=Int×(Int×Int)×Mm×Int
abbrev j8:Tv.Ty:=.pair (.int .i64) (.pair (.pair (.int .i64) (.int .i64)) (.pair (.pair (.pair (.int .i64) (.int .i64)) (.pair (.pair (.int .i64) (.int .i64)) (.pair (.int .i64) (.pair (.int .i64) (.int .i64))))) (.int .i64)))
def Tl (a:Arg):List AV:=[.int .i64 a.1,.int .i64 a.2.1.1,.int .i64 a.2.1.2,.int .i64 a.2.2.1.1.1,.int .i64 a.2.2.1.1.2,.int .i64 a.2.2.1.2.1.1,.int .i64 a.2.2.1.2.1.2,.int .i64 a.2.2.1.2.2.1,.int .i64 a.2.2.1.2.2.2.1,.int .i64 a.2.2.1.2.2.2.2,.int .i64 a.2.2.2]
def vI (m:Mm):Int:=ud m.1.1 m.1.2 m.2.1.1 m.2.1.2 m.2.2.1 m.2.2.2.1 m.2.2.2.2
def zf (a:Arg):Int :=
 if a.1=1 then (if bw a.2.1.1 a.2.1.2=false\/a.2.1.1=8 then 2 else 0)
 else if a.1=2 then vI a.2.2.1
 else if a.1=3 then 0
 else if a.1=4 then (if a.2.2.2 < -2147483648\/2147483647<a.2.2.2 then 5 else 0) else 2
def Ga (a:Arg):Option AV :=
 pick2 (eqI a.1 1) (pick2 (!bw a.2.1.1 a.2.1.2) (iV 2) (pick2 (eqI a.2.1.1 8) (iV 2) (iV 0)))
  (pick2 (eqI a.1 2) (iV (vI a.2.2.1)) (pick2 (eqI a.1 3) (iV 0) (pick2 (eqI a.1 4) (pick2 (ltI a.2.2.2 (-2147483648)) (iV 5) (pick2 (ltI 2147483647 a.2.2.2) (iV 5) (iV 0))) (iV 2))))
def Zt (f:Arg->Int) (args:List AV):Option (Bool×List aZ) :=
 match args with
 |[.agg [.int .i64 k,.int .i64 rc,.int .i64 rn,.int .i64 bc,.int .i64 bn,.int .i64 ic,.int .i64 ix,.int .i64 sc,.int .i64 d,.int .i64 z,.int .i64 n]]=>some (true,[.val (.int .i64 (f (k,(rc,rn),((bc,bn),(ic,ix),sc,d,z),n)))])
 |_=>none
theorem PW {f:FuncId} {p:Arg->Int} {M:List kH} (hM:cg X0 cI M) (hk:lt.inl f=true) (h:∀a:Arg,ag X0 (cN M [] AV) bK 5 f [.agg (Tl a)] aa.empty (λv _=>some v)=iV (p a)):aI X0 cI f (Zt p) :=
 aG (nk hk) (bR hM n0) λargs rs hg=>by
  unfold Zt at hg;split at hg
  .
   rename_i k rc rn bc bn ic ix sc d z n;simp only[Option.some.injEq,Prod.mk.injEq] at hg;obtain ⟨_,rfl⟩:=hg;exact ⟨[.int .i64 (p (k,(rc,rn),((bc,bn),(ic,ix),sc,d,z),n))],bK,5,h (k,(rc,rn),((bc,bn),(ic,ix),sc,d,z),n),rfl,rfl⟩
  cases hg
theorem HW (a:Arg):Ga a=iV (zf a):=by
 unfold Ga zf
 simp only[az,aX]
 by_cases h1:a.1=1
 .
  rw[if_pos h1,if_pos h1];cases bw a.2.1.1 a.2.1.2 with
  |false=>show iV 2=_;rw[if_pos (.inl rfl)]
  |
   true =>
   show (if a.2.1.1=8 then iV 2 else iV 0)=_;by_cases h8:a.2.1.1=8
   .
    rw[if_pos h8,if_pos (.inr h8)]
   rw[if_neg h8,if_neg (show ¬(true=false\/a.2.1.1=8) from λh=>by rcases h with h|h;cases h;exact h8 h)]
 rw[if_neg h1,if_neg h1]
 by_cases h2:a.1=2
 .
  rw[if_pos h2,if_pos h2]
 rw[if_neg h2,if_neg h2]
 by_cases h3:a.1=3
 .
  rw[if_pos h3,if_pos h3]
 rw[if_neg h3,if_neg h3]
 by_cases h4:a.1=4
 .
  rw[if_pos h4,if_pos h4];by_cases h5:a.2.2.2 < -2147483648
  .
   rw[if_pos h5,if_pos (.inl h5)]
  rw[if_neg h5];by_cases h6:2147483647<a.2.2.2
  .
   rw[if_pos h6,if_pos (.inr h6)]
  rw[if_neg h6,if_neg (show ¬(a.2.2.2 < -2147483648\/2147483647<a.2.2.2) by omega)]
 rw[if_neg h4,if_neg h4]
theorem HX:aI X0 cI 68 (Zt zf):=PW p5 rfl λa=>by
 have h:ag X0 (cN P2 [] AV) bK 5 68 [.agg (Tl a)] aa.empty (λv _=>some v)=Ga a:=by kernel_rfl
 rw[h,HW]
def zC (c n:Int):Int:=if bw c n=false then 0 else if c=7 then 32 else if c=6 then 16 else if c=5\/c=8 then 8 else if c=4 then 4 else if c=3 then 2 else 1
def szT (c:Int):Option AV:=pick2 (eqI c 4) (iV 4) (pick2 (eqI c 3) (iV 2) (iV 1))
def regT' (c n:Int):Option AV:=pick2 (!bw c n) (iV 0) (pick2 (eqI c 7) (iV 32) (pick2 (eqI c 6) (iV 16) (pick2 (eqI c 5) (pick2 (eqI c 5) (iV 8) (szT c)) (pick2 (eqI c 8) (iV 8) (szT c)))))
theorem regT'_eq (c n:Int):regT' c n=iV (zC c n):=by
 unfold regT' zC szT
 simp only[az]
 cases bw c n with
 |false=>rfl
 |
  true =>
  show (if c=7 then iV 32 else _)=iV (if (true=false) then 0 else _);rw[if_neg (show ¬(true=false) by decide)]
  by_cases h7:c=7
  .
   rw[if_pos h7,if_pos h7]
  rw[if_neg h7,if_neg h7];by_cases h6:c=6
  .
   rw[if_pos h6,if_pos h6]
  rw[if_neg h6,if_neg h6];by_cases h5:c=5
  .
   rw[if_pos h5,if_pos h5,if_pos (.inl h5)]
  rw[if_neg h5];by_cases h8:c=8
  .
   rw[if_pos h8,if_pos (.inr h8)]
  rw[if_neg h8,if_neg (show ¬(c=5\/c=8) by omega)]
  by_cases h4:c=4
  .
   rw[if_pos h4,if_pos h4]
  rw[if_neg h4,if_neg h4];by_cases h3:c=3
  .
   rw[if_pos h3,if_pos h3]
  rw[if_neg h3,if_neg h3]
def gRI (f:Int->Int->Int) (args:List AV):Option (Bool×List aZ) :=
 match args with
 |[.agg [.int .i64 c,.int .i64 n]]=>some (true,[.val (.int .i64 (f c n))])
 |_=>none
theorem Tn:aI X0 cI 157 (gRI zC) :=
 aG (nk rfl) (bR p5 n0) λargs rs hg=>by
  unfold gRI at hg;split at hg
  .
   rename_i c n;simp only[Option.some.injEq,Prod.mk.injEq] at hg;obtain ⟨_,rfl⟩:=hg;refine ⟨[.int .i64 (zC c n)],bK,5,?_,rfl,rfl⟩;have h:ag X0 (cN P2 [] AV) bK 5 157 [.agg [.int .i64 c,.int .i64 n]] aa.empty (λv _=>some v)=regT' c n:=by kernel_rfl
   rw[h,regT'_eq];rfl
  cases hg
def cy (op:Int):Bool:=decide (1<=op/\op<=322)
theorem Yo:aI X0 cI 31 (QT cy):=Dk rfl λn=>by
 have h:ag X0 (cN M6 [] AV) bK 5 31 [.int .i64 n] aa.empty (λv _=>some v)=pick2 (!ltI n 1) (some (.bool (!ltI 322 n))) (some (.bool false)):=by kernel_rfl
 rw[h,cj,ltI_spec]
 unfold cy
 by_cases h1:1<=n
 .
  rw[if_pos h1];refine congrArg (λx=>some (AV.bool x)) ?_;rw[Bool.eq_iff_iff];simp;omega
 rw[if_neg h1,decide_eq_false (by omega)]
def U1:List kH:=(68,[none],Zt zf)::(157,[none],gRI zC)::(31,[none],QT cy)::P2
theorem JN:cg X0 cI U1:=.cons HX (.cons Tn (.cons Yo p5))
def U9 (a:Arg):Int:=if zf a≠0 then 0 else if a.1=1 then zC a.2.1.1 a.2.1.2 else if a.1=2 then a.2.2.1.2.2.2.2 else 0
theorem H6:aI X0 cI 113 (Zt U9):=PW JN rfl λa=>by
 have h:ag X0 (cN U1 [] AV) bK 5 113 [.agg (Tl a)] aa.empty (λv _=>some v)=pick2 (!eqI (zf a) 0) (iV 0) (pick2 (eqI a.1 1) (iV (zC a.2.1.1 a.2.1.2)) (pick2 (eqI a.1 2) (iV a.2.2.1.2.2.2.2) (iV 0))):=by kernel_rfl
 rw[h,aT,az,az]
 unfold U9
 by_cases h0:zf a=0
 .
  rw[if_pos h0,if_neg (show ¬zf a≠0 from λq=>q h0)]
  split
  .
   rfl
  split<;>rfl
 rw[if_neg h0,if_pos h0]
def qM (op:Int):Int×Bool:=if op<1\/322<op then (0,false) else if (1<=op/\op<=10)\/op=16 then (0,true) else if op=48 then (64,true) else if op=51 then (16,false) else (8,false)
def rN (q:Int×Bool):Option AV:=some (.bZ [.int .i64 q.1,.bool q.2])
def PY (op:Int):Option AV:=pick2 (eqI op 48) (rN (64,true)) (pick2 (eqI op 51) (rN (16,false)) (rN (8,false)))
def FE (op:Int):Option AV:=pick2 (cy op) ([1,2,3,4,5,6,7,8,9,10].foldr (λq r=>pick2 (eqI op q) (pick2 (eqI op q) (rN (0,true)) (PY op)) r) (pick2 (eqI op 16) (rN (0,true)) (PY op))) (rN (0,false))
theorem Ds (op:Int):FE op=rN (qM op):=by
 unfold FE qM PY cy
 simp only[List.foldr_cons,List.foldr_nil,az]
 by_cases h0:op<1\/322<op
 .
  rw[if_pos h0,decide_eq_false (by omega)]
 rw[if_neg h0,decide_eq_true (by omega)]
 show (if op=1 then _ else _)=_
 by_cases h1:1<=op/\op<=10
 .
  have:op=1\/op=2\/op=3\/op=4\/op=5\/op=6\/op=7\/op=8\/op=9\/op=10:=by omega
  rcases this with rfl|rfl|rfl|rfl|rfl|rfl|rfl|rfl|rfl|rfl<;>simp
 rw[if_neg (show ¬op=1 by omega),if_neg (show ¬op=2 by omega),if_neg (show ¬op=3 by omega),if_neg (show ¬op=4 by omega),if_neg (show ¬op=5 by omega),if_neg (show ¬op=6 by omega),if_neg (show ¬op=7 by omega),if_neg (show ¬op=8 by omega),if_neg (show ¬op=9 by omega),if_neg (show ¬op=10 by omega)]
 by_cases Zl:op=16
 .
  rw[if_pos Zl,if_pos (.inr Zl)]
 rw[if_neg Zl,if_neg (show ¬((1<=op/\op<=10)\/op=16) by omega)]
 split
 .
  rfl
 split<;>rfl
def gIm (args:List AV):Option (Bool×List aZ) :=
 match args with
 |[.int .i64 op]=>some (true,[.val (.int .i64 (qM op).1),.val (.bool (qM op).2)])
 |_=>none
theorem Yp:aI X0 cI 112 gIm :=
 aG (nk rfl) (bR JN n0) λargs rs hg=>by
  unfold gIm at hg;split at hg
  .
   rename_i op;simp only[Option.some.injEq,Prod.mk.injEq] at hg;obtain ⟨_,rfl⟩:=hg;refine ⟨[.int .i64 (qM op).1,.bool (qM op).2],bK,5,?_,rfl,rfl⟩
   have h:ag X0 (cN U1 [] AV) bK 5 112 [.int .i64 op] aa.empty (λv _=>some v)=pick2 (!cy op) (rN (0,false)) (FE op):=by
    show _=pick2 (!cy op) (rN (0,false)) (pick2 (cy op) _ _);have e:ag X0 (cN U1 [] AV) bK 5 112 [.int .i64 op] aa.empty (λv _=>some v)=pick2 (!cy op) (rN (0,false)) ([1,2,3,4,5,6,7,8,9,10].foldr (λq r=>pick2 (eqI op q) (pick2 (eqI op q) (rN (0,true)) (PY op)) r) (pick2 (eqI op 16) (rN (0,true)) (PY op))):=by kernel_rfl
    rw[e];cases cy op<;>rfl
   rw[h,Ds];unfold qM cy;by_cases h0:op<1\/322<op
   .
    rw[if_pos h0,decide_eq_false (by omega)];rfl
   rw[if_neg h0,decide_eq_true (by omega)];rfl
  cases hg
def shN (b:Int):Nat:=min (Int.toNat (IntKind.wrap .i64 (64-b))) 64
def FK (n b:Int):Int:=IntKind.wrap .i64 (Int.fdiv (IntKind.wrap .u64 (IntKind.wrap .u64 n*2 ^ shN b)) (2 ^ shN b))
def Ia (n b:Int):Int:=Int.fdiv (IntKind.wrap .i64 (IntKind.wrap .u64 (IntKind.wrap .u64 n*2 ^ shN b))) (2 ^ shN b)
def rI (q:Int×Int):Option AV:=some (.bZ [.int .i64 q.1,.int .i64 q.2])
def acn (n b:Int) (s:Bool) (K:Option AV):Option AV:=pick2 (ltI (IntKind.wrap .i64 (64-b)) 0) none (pick2 (ltI (IntKind.wrap .i64 (64-b)) 0) none (pick2 (ltI (IntKind.wrap .i64 (64-b)) 0) none (pick2 (ltI (IntKind.wrap .i64 (64-b)) 0) none K)))
def Tp (n b:Int) (s:Bool):Option AV :=
 let R:Option AV:=pick2 s (rI (Ia n b,0)) (rI (FK n b,0))
 acn n b s (pick2 (!eqI n (FK n b)) (pick2 (!eqI n (Ia n b)) (rI (0,5)) R) R)
def lH (n b:Int) (s:Bool):Int×Int:=if b=8\/b=16\/b=32\/b=64 then (if n≠FK n b/\n≠Ia n b then (0,5) else (pick2 s (Ia n b) (FK n b),0)) else (0,2)
def imT (n b:Int) (s:Bool):Option AV:=[8,16,32].foldr (λq r=>pick2 (eqI b q) (pick2 (eqI b q) (Tp n b s) (rI (0,2))) r) (pick2 (eqI b 64) (Tp n b s) (rI (0,2)))
theorem Tq {n b:Int} {s:Bool} (hb:b=8\/b=16\/b=32\/b=64):Tp n b s=rI (lH n b s):=by
 have hw:IntKind.wrap .i64 (64-b)=64-b:=i64_in (by omega) (by omega)
 unfold Tp acn lH
 rw[if_pos hb,hw,cA (by omega)]
 show pick2 (!eqI n (FK n b)) _ _=_
 have hR:pick2 s (rI (Ia n b,0)) (rI (FK n b,0))=rI (pick2 s (Ia n b) (FK n b),0):=by cases s<;>rfl
 rw[aT,aT,hR]
 by_cases h1:n=FK n b
 .
  rw[if_pos h1,if_neg (λh=>h.1 h1)]
 rw[if_neg h1]
 by_cases h2:n=Ia n b
 .
  rw[if_pos h2,if_neg (λh=>h.2 h2)]
 rw[if_neg h2,if_pos ⟨h1,h2⟩]
theorem Yq (n b:Int) (s:Bool):imT n b s=rI (lH n b s):=by
 unfold imT
 simp only[List.foldr_cons,List.foldr_nil,az]
 by_cases hb:b=8\/b=16\/b=32\/b=64
 .
  rw[Tq hb];by_cases h1:b=8
  .
   rw[if_pos h1,if_pos h1]
  by_cases h2:b=16
  .
   rw[if_neg h1,if_pos h2,if_pos h2]
  by_cases h3:b=32
  .
   rw[if_neg h1,if_neg h2,if_pos h3,if_pos h3]
  rw[if_neg h1,if_neg h2,if_neg h3,if_pos (by omega)]
 unfold lH
 rw[if_neg hb,if_neg (show ¬b=8 by omega),if_neg (show ¬b=16 by omega),if_neg (show ¬b=32 by omega),if_neg (show ¬b=64 by omega)]
def gOI (args:List AV):Option (Bool×List aZ) :=
 match args with
 |[.int .i64 n,.int .i64 b,.bool s]=>some (true,[.val (.int .i64 (lH n b s).1),.val (.int .i64 (lH n b s).2)])
 |_=>none
theorem Yr:aI X0 cI 70 gOI :=
 aG (nk rfl) (bR JN n0) λargs rs hg=>by
  unfold gOI at hg;split at hg
  .
   rename_i n b s;simp only[Option.some.injEq,Prod.mk.injEq] at hg;obtain ⟨_,rfl⟩:=hg;refine ⟨[.int .i64 (lH n b s).1,.int .i64 (lH n b s).2],bK,5,?_,rfl,rfl⟩;have h:ag X0 (cN U1 [] AV) bK 5 70 [.int .i64 n,.int .i64 b,.bool s] aa.empty (λv _=>some v)=imT n b s:=by kernel_rfl
   rw[h,Yq];rfl
  cases hg
def U2:List kH:=(113,[none],Zt U9)::(112,[none],gIm)::(70,[none,none,none],gOI)::U1
theorem PZ:cg X0 cI U2:=.cons H6 (.cons Yp (.cons Yr JN))
end
end Go.Proofs.YtpaddkkfefgkfaaGreatDoor.ps.iq
