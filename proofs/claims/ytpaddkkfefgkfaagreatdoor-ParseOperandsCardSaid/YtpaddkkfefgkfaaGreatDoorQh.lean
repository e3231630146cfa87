/- Expressions: symbols looked up; operators of two operands. -/
import Derived.Test.YtpaddkkfefgkfaaGreatDoorQg
import Derived.Test.YtpaddkkfefgkfaaGreatDoorPz
set_option linter.unusedVariables false
set_option linter.unusedSimpArgs false
namespace Go.Proofs.YtpaddkkfefgkfaaGreatDoor.ex
open Go.Tv Go.Ev Go.Px
set_option maxRecDepth 100000
noncomputable section
def gN:Tv.Ty:=.pair .str (.pair (.int .i64) .bool)
def p18:List Bool:=[true,false,true,false]
def HK:bG:=⟨cG [0,1,4,5,6] p18,.none,[]⟩
def Lh (q:Sym):AV:=.agg [.str q.1,.int .i64 q.2.1,.bool q.2.2]
def Fw:Option Sym->AV
 |some q=>.bZ [Lh q,.bool true]
 |none=>.bZ [Lh ([],0,false),.bool false]
def Sy (f:FuncId) (l:List Sym) (s:List UInt8) (r m:Nat) (i:Int):Option AV:=cK X0 (cN [] [] AV) HK r f p18 (λv _=>some v) m (fY 26 [(0,.bA gN l),(1,.str s),(4,.ptr 0 0),(5,.bool false),(6,.int .i64 i)]) (iC [.cells 132 [.str [],.int .i64 0,.bool false]])
def cn (l:List Sym) (s:List UInt8) (i:Int) (go:Option AV):Option AV :=
 pick2 (!ltI i 0) (Option.rec (motive:=λ_=>Option AV) none (λy=>pick2 (decide (y.1=s)) (Option.rec (motive:=λ_=>Option AV) none (λy=>some (Fw (some y))) (aS l i)) go) (aS l i)) (some (Fw none))
theorem Sz (l:List Sym) (s:List UInt8) (r m:Nat) (i:Int):Sy 184 l s r (m+1) i=cn l s i (Sy 184 l s r m (IntKind.wrap .i64 (i-1))):=by kernel_rfl
theorem O8 (l:List Sym) (s:List UInt8) (r:Nat):ag X0 (cN [] [] AV) HK r 184 [.bA gN l,.str s] aa.empty (λv _=>some v)=Sy 184 l s r r (IntKind.wrap .i64 ((l.length:Int)-1)):=by kernel_rfl
theorem O9 (s:List UInt8):ag X0 (cN [] [] AV) HK 5 184 [.br,.str s] aa.empty (λv _=>some v)=some (Fw none):=by kernel_rfl
theorem Pa {f:FuncId} {l:List Sym} (hl:l.length<=1000000) {s:List UInt8} {r:Nat} (step:∀m i,Sy f l s r (m+1) i=cn l s i (Sy f l s r m (IntKind.wrap .i64 (i-1)))) :
 ∀(n:Nat) (pre Zj:List Sym) (m:Nat),pre.length=n->l=pre++Zj->n<m->Sy f l s r m ((n:Int)-1)=some (Fw (Dj pre.reverse s))
 |
  0,pre,Zj,m,hp,he,hm=>by
  obtain ⟨m,rfl⟩:∃m',m=m'+1:=⟨m-1,by omega⟩
  have:pre=[]:=List.length_eq_zero_iff.1 hp;subst this;rw[step];rfl
 |
  n+1,pre,Zj,m,hp,he,hm=>by
  obtain ⟨m,rfl⟩:∃m',m=m'+1:=⟨m-1,by omega⟩
  rcases List.eq_nil_or_concat pre with rfl|⟨pre',a,rfl⟩
  .
   simp at hp
  rw[List.concat_eq_append] at hp he ⊢;have hp':pre'.length=n:=by simpa using hp
  have QD:n<l.length:=by rw[he];simp;omega
  have hg:aS l (n:Int)=some a:=by rw[he,<-hp',List.append_assoc];exact eo pre' _ a
  have hin:=Pa hl step n pre' ([a]++Zj) m hp' (by rw[he];simp) (by omega)
  have e1:((n+1:Nat):Int)-1=n:=by omega
  rw[step,e1];unfold cn;rw[cA (by omega),hg,i64_in (n:=(n:Int)-1) (by omega) (by omega),hin]
  rw[List.reverse_append];show pick2 (decide (a.1=s)) (some (Fw (some a))) _=some (Fw (if a.1=s then some a else Dj pre'.reverse s));by_cases h:a.1=s
  .
   rw[decide_eq_true h,if_pos h]
  rw[decide_eq_false h,if_neg h]
def JA (args:List AV):Option (Bool×List aZ) :=
 match args with
 |
  [L,.str s]=>match Al gN L with
  |some l=>some (Nat.ble l.length 1000000,[.val (Lh ((tZ l s).getD ([],0,false))),.val (.bool (tZ l s).isSome)])
  |none=>none
 |_=>none
theorem SA (o:Option Sym):Fw o = .bZ [Lh (o.getD ([],0,false)),.bool o.isSome]:=by cases o<;>rfl
theorem Pb {f:FuncId} (hk:lt.inl f=true) (h0:∀s,ag X0 (cN [] [] AV) HK 5 f [.br,.str s] aa.empty (λv _=>some v)=some (Fw none)) (h1:∀l s r,ag X0 (cN [] [] AV) HK r f [.bA gN l,.str s] aa.empty (λv _=>some v)=Sy f l s r r (IntKind.wrap .i64 ((l.length:Int)-1)))
 (step:∀l s r m i,Sy f l s r (m+1) i=cn l s i (Sy f l s r m (IntKind.wrap .i64 (i-1)))):aI X0 cI f JA :=
 aG (λargs=>lt.aQ hk args) (bR .nil n0) λargs rs hg=>by
  unfold JA at hg;split at hg
  case h_2=>cases hg
  split at hg
  case h_2=>cases hg
  rename_i s _ l hx;simp only[Option.some.injEq,Prod.mk.injEq] at hg;obtain ⟨h2,rfl⟩:=hg;have h2:=Nat.le_of_ble_eq_true h2;rcases jr hx with rfl|⟨rfl,rfl⟩
  .
   refine ⟨[Lh ((tZ l s).getD ([],0,false)),.bool (tZ l s).isSome],HK,l.length+1,?_,rfl,rfl⟩;rw[h1,i64_in (n:=(l.length:Int)-1) (by omega) (by omega),Pa h2 (step l s _) l.length l [] _ rfl (List.append_nil l).symm (by omega),SA]
   rfl
  exact ⟨[Lh ([],0,false),.bool false],HK,5,h0 s,rfl,rfl⟩
theorem SB:aI X0 cI 184 JA:=Pb rfl O9 O8 Sz
section
variable {β:Type} (R:Int->Bool->Option β) (op a b:Int)
def Xj:Option β:=pick2 (eqI b 0) (R 0 false) (pick2 (eqI op 8) (pick2 (eqI b 0) none (R (IntKind.wrap .i64 (Int.tdiv a b)) true)) (pick2 (eqI b 0) none (R (Int.tmod a b) true)))
def shB:Option β:=pick2 (ltI b 0) (R 0 false) (pick2 (eqI op 12)
 (pick2 (ltI (IntKind.wrap .u64 b) 0) none (R (IntKind.wrap .i64 (IntKind.wrap .u64 (IntKind.wrap .u64 a*2 ^ min (Int.toNat (IntKind.wrap .u64 b)) 64))) true))
 (pick2 (ltI (IntKind.wrap .u64 b) 0) none (R (IntKind.wrap .i64 (Int.fdiv (IntKind.wrap .u64 a) (2 ^ min (Int.toNat (IntKind.wrap .u64 b)) 64))) true)))
def Xk:Option β:=pick2 (eqI op 14) (R (IntKind.wrap .i64 ↑(BitVec.toNat (BitVec.ofInt 64 a &&& BitVec.ofInt 64 b))) true)
 (pick2 (eqI op 15) (R (IntKind.wrap .i64 ↑(BitVec.toNat (BitVec.ofInt 64 a ^^^ BitVec.ofInt 64 b))) true) (R (IntKind.wrap .i64 ↑(BitVec.toNat (BitVec.ofInt 64 a ||| BitVec.ofInt 64 b))) true))
def Xl:Option β:=pick2 (eqI op 10) (R (IntKind.wrap .i64 (a+b)) true) (pick2 (eqI op 11) (R (IntKind.wrap .i64 (a-b)) true)
 (pick2 (eqI op 12) (pick2 (eqI op 12) (shB R op a b) (Xk R op a b)) (pick2 (eqI op 13) (shB R op a b) (Xk R op a b))))
def SC:Option β:=pick2 (eqI op 7) (R (IntKind.wrap .i64 (a*b)) true) (pick2 (eqI op 8) (pick2 (eqI op 8) (Xj R op a b) (Xl R op a b)) (pick2 (eqI op 9) (Xj R op a b) (Xl R op a b)))
end
theorem Xm (b:Int):0<=IntKind.wrap .u64 b:=by
 unfold IntKind.wrap
 have:IntKind.signed .u64=false:=rfl
 simp only[this,Bool.false_and]
 exact Int.emod_nonneg _ (by decide)
def ua (op a b:Int):Int×Bool:=((SC (λy k=>some (y,k)) op a b).getD (0,false))
theorem SD {β:Type} (R:Int->Bool->Option β) (op a b:Int):SC R op a b=R (ua op a b).1 (ua op a b).2:=by
 unfold ua SC Xj Xl shB Xk
 rw[cA (a:=IntKind.wrap .u64 b) (Xm b)]
 cases eqI op 7
 .
  cases eqI op 8
  .
   cases eqI op 9
   .
    cases eqI op 10
    .
     cases eqI op 11
     .
      cases eqI op 12
      .
       cases eqI op 13
       .
        cases eqI op 14
        .
         cases eqI op 15<;>rfl
        rfl
       cases ltI b 0<;>rfl
      cases ltI b 0<;>rfl
     rfl
    rfl
   cases eqI b 0<;>rfl
  cases eqI b 0<;>rfl
 rfl
theorem Xn (op a b:Int):ag X0 (cN [] [] AV) bK 5 185 [.int .i64 op,.int .i64 a,.int .i64 b] aa.empty (λv _=>some v)=SC (λy k=>some (.bZ [.int .i64 y,.bool k])) op a b:=by kernel_rfl
def gBi (args:List AV):Option (Bool×List aZ) :=
 match args with
 |[.int .i64 op,.int .i64 a,.int .i64 b]=>some (true,[.val (.int .i64 (ua op a b).1),.val (.bool (ua op a b).2)])
 |_=>none
theorem Xo:aI X0 cI 185 gBi :=
 aG (λargs=>lt.aQ rfl args) (bR .nil n0) λargs rs hg=>by
  unfold gBi at hg;split at hg
  case h_2=>cases hg
  rename_i op a b;simp only[Option.some.injEq,Prod.mk.injEq] at hg;obtain ⟨h1,rfl⟩:=hg;exact ⟨[.int .i64 (ua op a b).1,.bool (ua op a b).2],bK,5,(Xn op a b).trans (SD _ op a b),rfl,rfl⟩
def Zn:List kH:=(185,[none,none,none],gBi)::(184,[some gN,none],JA)::M10
theorem Xp:cg X0 cI Zn:=.cons Xo (.cons SB Xi)
end
end Go.Proofs.YtpaddkkfefgkfaaGreatDoor.ex
