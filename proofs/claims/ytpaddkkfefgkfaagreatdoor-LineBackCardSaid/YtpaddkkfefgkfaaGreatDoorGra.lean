/- The setting of the laws on lines: what is known, package-level variables. Names that have a meaning of their own: contracts out of what is known. Literals: contracts of the small functions. Literals: digits. Literals: the contracts of digits and parts. Literals: a text's literal. Literals: Scan. -/
import Derived.Test.YtpaddkkfefgkfaaGreatDoorLyg
import Derived.Test.YtpaddkkfefgkfaaGreatDoorGzb
set_option linter.unusedVariables false
set_option linter.unusedSimpArgs false

namespace Go.Proofs.YtpaddkkfefgkfaaGreatDoor.lt
open Go.Tv Go.Ev
noncomputable section
def inl:FuncId->Bool:=λf => !(Nat.beq f 12||(Nat.beq f 23||(Nat.beq f 50||(Nat.beq f 13||Nat.beq f 51))))
def kn:bP:=rg.kT [(12,[]),(23,[])] rg.kR
theorem aL {f:FuncId} (h:inl f=true) (args:List Value):kn f args=none:=by
 unfold inl at h
 simp only[Bool.not_eq_true',Bool.or_eq_false_iff] at h
 obtain ⟨h0,h1,h2,h3,h4⟩:=h
 have e:rg.vN f args [(12,[]),(23,[])]=false:=by
  unfold rg.vN;rw[h0];show rg.vN f args [(23,[])]=false;unfold rg.vN;rw[h1];rfl
 unfold kn rg.kT
 rw[e]
 show rg.kR f args=none
 unfold rg.kR
 rw[h2]
 show nm.TR f args=none
 unfold nm.TR
 rw[h3,h4]
def Mg (f:FuncId):List Tmp:=pick2 (Nat.beq f 183) [71,47] []
def Xg (gv:Nat->List AV):cI:={ P:=Tryz.prog,G:=8+1,gv:=gv,trs:=Mg,ar:=λt=>Nat.beq t 239||Nat.beq t 234 }
def bV:bG:=⟨.none,.none,[]⟩
def K0:TD:=λ_=>none
section
variable (gv:Nat->List AV)
def c0 (β:Type):aT β:=kB (Xg gv) K0 inl 200 β 20
theorem rS (β:Type):aV (Xg gv) (aY (Xg gv) kn) (c0 gv β):=dF (by intro id s g h;cases h) (λf h args=>aL h args) 200 20 β
end
def zB:List Value:=[.string ⟨#[36,36]⟩,.string ⟨#[60,60]⟩,.string ⟨#[62,62]⟩,.string ⟨#[43]⟩,.string ⟨#[45]⟩,.string ⟨#[42]⟩,.string ⟨#[47]⟩,.string ⟨#[37]⟩,.string ⟨#[38]⟩,.string ⟨#[124]⟩,.string ⟨#[94]⟩,.string ⟨#[126]⟩,.string ⟨#[40]⟩,.string ⟨#[41]⟩,.string ⟨#[91]⟩,.string ⟨#[93]⟩,.string ⟨#[44]⟩,.string ⟨#[58]⟩,.string ⟨#[36]⟩]
def zC:List Value:=[.int .u64 1,.int .u64 10,.int .u64 100,.int .u64 1000,.int .u64 10000,.int .u64 100000,.int .u64 1000000,.int .u64 10000000,.int .u64 100000000,.int .u64 1000000000,.int .u64 10000000000,.int .u64 100000000000,.int .u64 1000000000000,.int .u64 10000000000000,.int .u64 100000000000000,.int .u64 1000000000000000,.int .u64 10000000000000000,.int .u64 100000000000000000,.int .u64 1000000000000000000,.int .u64 10000000000000000000]
def PD:List Value:=[.int .u8 0,.int .u8 1,.int .u8 28,.int .u8 2,.int .u8 29,.int .u8 14,.int .u8 24,.int .u8 3,.int .u8 30,.int .u8 22,.int .u8 20,.int .u8 15,.int .u8 25,.int .u8 17,.int .u8 4,.int .u8 8,.int .u8 31,.int .u8 27,.int .u8 13,.int .u8 23,.int .u8 21,.int .u8 19,.int .u8 16,.int .u8 7,.int .u8 26,.int .u8 12,.int .u8 18,.int .u8 6,.int .u8 11,.int .u8 5,.int .u8 10,.int .u8 9]
def zD:List Value:=[.int .u8 0,.int .u8 1,.int .u8 56,.int .u8 2,.int .u8 57,.int .u8 49,.int .u8 28,.int .u8 3,.int .u8 61,.int .u8 58,.int .u8 42,.int .u8 50,.int .u8 38,.int .u8 29,.int .u8 17,.int .u8 4,.int .u8 62,.int .u8 47,.int .u8 59,.int .u8 36,.int .u8 45,.int .u8 43,.int .u8 51,.int .u8 22,.int .u8 53,.int .u8 39,.int .u8 33,.int .u8 30,.int .u8 24,.int .u8 18,.int .u8 12,.int .u8 5,.int .u8 63,.int .u8 55,.int .u8 48,.int .u8 27,.int .u8 60,.int .u8 41,.int .u8 37,.int .u8 16,.int .u8 46,.int .u8 35,.int .u8 44,.int .u8 21,.int .u8 52,.int .u8 32,.int .u8 23,.int .u8 11,.int .u8 54,.int .u8 26,.int .u8 40,.int .u8 15,.int .u8 34,.int .u8 20,.int .u8 31,.int .u8 10,.int .u8 25,.int .u8 14,.int .u8 19,.int .u8 9,.int .u8 13,.int .u8 8,.int .u8 7,.int .u8 6]
def iE (g:Nat):List AV:=pick2 (Nat.beq g 0) (zB.map Es) (pick2 (Nat.beq g 3) (zC.map Es) (pick2 (Nat.beq g 7) (PD.map Es) (pick2 (Nat.beq g 8) (zD.map Es) (rg.gv g))))
end
end Go.Proofs.YtpaddkkfefgkfaaGreatDoor.lt

namespace Go.Proofs.YtpaddkkfefgkfaaGreatDoor.lt
open Go.Tv Go.Ev
noncomputable section
theorem Gk {S:Wo} {s:List UInt8} {m:List Value} (h:LV S [.str s] m):m=[.string ⟨s.toArray⟩]:=by
 obtain ⟨x,m',rfl,h1,h2⟩:=h.cons_inv
 rw[h1.ef,h2.dM]
theorem P5 {S:Wo} {n:Int} {m:List Value} (h:LV S [.int .i64 n] m):m=[.int .i64 n]:=by
 obtain ⟨x,m',rfl,h1,h2⟩:=h.cons_inv
 rw[h1.bQ,h2.dM]
def gRP (args:List AV):Option (Bool×List bA) :=
 match args with
 |[.str s]=>some (true,[.val (.agg [.int .i64 (rg.pR s).1,.int .i64 (rg.pR s).2.1]),.val (.bool (rg.pR s).2.2)])
 |_=>none
def gNP (args:List AV):Option (Bool×List bA) :=
 match args with
 |[.str s]=>some (true,[.val (.int .i64 (nm.eH s).1),.val (.bool (nm.eH s).2)])
 |_=>none
def gNN (args:List AV):Option (Bool×List bA) :=
 match args with
 |[.int .i64 op]=>some (true,[.val (.str (nm.ql op))])
 |_=>none
theorem adG (gv:Nat->List AV):aO (Xg gv) (aY (Xg gv) kn) 50 gRP :=
 zH λargs rs hg=>by
  unfold gRP at hg;split at hg
  .
   rename_i s;simp only[Option.some.injEq,Prod.mk.injEq] at hg;obtain ⟨_,rfl⟩:=hg;refine ⟨_,_,.agg #[.int .i64 (rg.pR s).1,.int .i64 (rg.pR s).2.1],.bool (rg.pR s).2.2,rfl,rfl,rfl,λS=>?_,λS=>.bool _,λS ax hl=>?_⟩
   .
    exact .agg [.int .i64 (rg.pR s).1,.int .i64 (rg.pR s).2.1] [.int .i64 (rg.pR s).1,.int .i64 (rg.pR s).2.1] rfl (LV.cons (.int _ _) (LV.cons (.int _ _) LV.nil)).2
   rw[Gk hl];exact ⟨rfl,rfl,rfl⟩
  cases hg
theorem adH (gv:Nat->List AV):aO (Xg gv) (aY (Xg gv) kn) 51 gNP :=
 zH λargs rs hg=>by
  unfold gNP at hg;split at hg
  .
   rename_i s;simp only[Option.some.injEq,Prod.mk.injEq] at hg;obtain ⟨_,rfl⟩:=hg;refine ⟨_,_,.int .i64 (nm.eH s).1,.bool (nm.eH s).2,rfl,rfl,rfl,λS=>.int _ _,λS=>.bool _,λS ax hl=>?_⟩
   rw[Gk hl];exact ⟨rfl,rfl,rfl⟩
  cases hg
theorem adI (gv:Nat->List AV):aO (Xg gv) (aY (Xg gv) kn) 13 gNN :=
 B3 λargs rs hg=>by
  unfold gNN at hg;split at hg
  .
   rename_i op;simp only[Option.some.injEq,Prod.mk.injEq] at hg;obtain ⟨_,rfl⟩:=hg;refine ⟨_,.string ⟨(nm.ql op).toArray⟩,rfl,rfl,λS=>.str _,rfl,λS ax hl=>?_⟩
   rw[P5 hl];exact ⟨rfl,rfl⟩
  cases hg
def R1:List nY:=[(50,[none],gRP),(51,[none],gNP),(13,[none],gNN)]
theorem Wd (gv:Nat->List AV):cr (Xg gv) (aY (Xg gv) kn) R1:=.cons (adG gv) (.cons (adH gv) (.cons (adI gv) .nil))
def r1 (gv:Nat->List AV) (β:Type):aT β:=kB (Xg gv) (Me R1) inl 200 β 20
theorem adJ (gv:Nat->List AV) (β:Type):aV (Xg gv) (aY (Xg gv) kn) (r1 gv β):=dF (Wd gv) (λf h args=>aL h args) 200 20 β
def P6:List (List UInt8):=["db","dw","dd","dq","resb","resw","resd","resq","equ","times","align","org","struc","endstruc","dcx","byte","word","dword","qword","oword","yword","short","near","strict","rel"].map λs=>s.toUTF8.data.toList
def oneT' (s:List UInt8):List (List UInt8)->Option AV
 |[]=>some (.bool false)
 |[w]=>pick2 (decide (s=w)) (some (.bool true)) (some (.bool false))
 |w::v::l=>pick2 (decide (s=w)) (pick2 (decide (s=w)) (some (.bool true)) (some (.bool false))) (oneT' s (v::l))
def oO (s:List UInt8):Bool:=(rg.pR s).2.2||((nm.eH s).2||decide (s∈P6))
theorem oneT'_eq (s:List UInt8):∀l,oneT' s l=some (.bool (decide (s∈l)))
 |[]=>rfl
 |
  [w]=>by
  unfold oneT';by_cases h:s=w
  .
   rw[decide_eq_true h,decide_eq_true (List.mem_cons.2 (.inl h))]
  rw[decide_eq_false h,decide_eq_false (by simp[h])]
 |
  w::v::l=>by
  unfold oneT';rw[oneT'_eq s (v::l)];by_cases h:s=w
  .
   rw[decide_eq_true h,decide_eq_true (List.mem_cons.2 (.inl h))]
  rw[decide_eq_false h];show some (AV.bool (decide (s∈v::l)))=_;have:(s∈w::v::l)↔s∈v::l:=by simp[h]
  rw[decide_eq_decide.2 this]
set_option maxRecDepth 100000 in
theorem T2 (gv:Nat->List AV) (s:List UInt8):ag (Xg gv) (r1 gv AV) bV 20 16 [.str s] aa.empty (λv _=>some v) =
 pick2 (rg.pR s).2.2 (some (.bool true)) (pick2 (nm.eH s).2 (some (.bool true)) (oneT' s P6)):=by kernel_rfl
def YB (args:List AV):Option (Bool×List bA) :=
 match args with
 |[.str s]=>some (true,[.val (.bool (oO s))])
 |_=>none
theorem YC (gv:Nat->List AV):aO (Xg gv) (aY (Xg gv) kn) 16 YB :=
 aJ (λargs=>aL rfl args) (adJ gv) λargs rs hg=>by
  unfold YB at hg;split at hg
  .
   rename_i s;simp only[Option.some.injEq,Prod.mk.injEq] at hg;obtain ⟨_,rfl⟩:=hg;refine ⟨[.bool (oO s)],bV,20,?_,rfl,rfl⟩;rw[T2,oneT'_eq];unfold oO;cases (rg.pR s).2.2<;>cases (nm.eH s).2<;>rfl
  cases hg
end
end Go.Proofs.YtpaddkkfefgkfaaGreatDoor.lt

namespace Go.Proofs.YtpaddkkfefgkfaaGreatDoor.lt
open Go.Tv Go.Ev
set_option maxRecDepth 100000
noncomputable section
def fR (n:Int):Int:=if 48<=n/\n<=57 then n-48 else if 97<=n/\n<=102 then n-87 else if 65<=n/\n<=70 then n-55 else -1
def fB (n:Int):Bool:=decide (48<=n/\n<=57\/97<=n/\n<=122\/65<=n/\n<=90\/n=95)
theorem ac2 (gv:Nat->List AV) (n:Int):ag (Xg gv) (c0 gv AV) bV 5 96 [.int .u8 n] aa.empty (λv _=>some v)=some (.bool (fB n)):=by
 have h:ag (Xg gv) (c0 gv AV) bV 5 96 [.int .u8 n] aa.empty (λv _=>some v)=rR n 48 57 (some (.bool true)) (rR n 97 122 (some (.bool true)) (rR n 65 90 (some (.bool true)) (some (.bool (eqI n 95))))):=by kernel_rfl
 rw[h]
 simp only[zw,eqI_spec]
 unfold fB
 repeat' split
 all_goals congr 2
 all_goals first|(symm;rw[decide_eq_true_eq];omega)|(rw[Bool.eq_iff_iff,beq_iff_eq,decide_eq_true_eq];omega)
theorem ac3 (gv:Nat->List AV) (n:Int):ag (Xg gv) (c0 gv AV) bV 5 143 [.int .u8 n] aa.empty (λv _=>some v)=some (.int .i64 (fR n)):=by
 have h:ag (Xg gv) (c0 gv AV) bV 5 143 [.int .u8 n] aa.empty (λv _=>some v) =
  rR n 48 57 (some (.int .i64 (IntKind.wrap .i64 (IntKind.wrap .u8 (n-48))))) (rR n 97 102 (some (.int .i64 (IntKind.wrap .i64 (IntKind.wrap .i64 (IntKind.wrap .u8 (n-97))+10)))) (rR n 65 70 (some (.int .i64 (IntKind.wrap .i64 (IntKind.wrap .i64 (IntKind.wrap .u8 (n-65))+10)))) (some (.int .i64 (-1))))):=by kernel_rfl
 rw[h]
 simp only[zw]
 unfold fR
 split
 .
  rw[u8_in (by omega) (by omega),i64_in (by omega) (by omega)]
 split
 .
  rw[u8_in (by omega) (by omega),i64_in (n:=n-97) (by omega) (by omega),i64_in (by omega) (by omega)]
  congr 2;omega
 split
 .
  rw[u8_in (by omega) (by omega),i64_in (n:=n-65) (by omega) (by omega),i64_in (by omega) (by omega)]
  congr 2;omega
 rfl
noncomputable def PE (args:List AV):Option (Bool×List bA) :=
 match args with
 |[.int .u8 n]=>some (true,[.val (.bool (fB n))])
 |_=>none
noncomputable def Yh (args:List AV):Option (Bool×List bA) :=
 match args with
 |[.int .u8 n]=>some (true,[.val (.int .i64 (fR n))])
 |_=>none
theorem ac4 (gv:Nat->List AV):aO (Xg gv) (aY (Xg gv) kn) 96 PE :=
 aJ (λargs=>aL rfl args) (rS gv) λargs rs hg=>by
  unfold PE at hg;split at hg
  .
   rename_i n;simp only[Option.some.injEq,Prod.mk.injEq] at hg;obtain ⟨h1,rfl⟩:=hg;exact ⟨[.bool (fB n)],bV,5,ac2 gv n,rfl,rfl⟩
  cases hg
theorem ac5 (gv:Nat->List AV):aO (Xg gv) (aY (Xg gv) kn) 143 Yh :=
 aJ (λargs=>aL rfl args) (rS gv) λargs rs hg=>by
  unfold Yh at hg;split at hg
  .
   rename_i n;simp only[Option.some.injEq,Prod.mk.injEq] at hg;obtain ⟨h1,rfl⟩:=hg;exact ⟨[.int .i64 (fR n)],bV,5,ac3 gv n,rfl,rfl⟩
  cases hg
noncomputable def DP (x y:Int):AV :=
 let w:=IntKind.wrap .u64
 let x0:Int:=w ↑(BitVec.toNat (BitVec.ofInt 64 x &&& BitVec.ofInt 64 4294967295))
 let y0:Int:=w ↑(BitVec.toNat (BitVec.ofInt 64 y &&& BitVec.ofInt 64 4294967295))
 let x1:=Int.fdiv x 4294967296
 let y1:=Int.fdiv y 4294967296
 let t:=w (w (x1*y0)+Int.fdiv (w (x0*y0)) 4294967296)
 .cB [.int .u64 (w (w (w (x1*y1)+Int.fdiv t 4294967296)+Int.fdiv (w (w ↑(BitVec.toNat (BitVec.ofInt 64 t &&& BitVec.ofInt 64 4294967295))+w (x0*y1))) 4294967296)),.int .u64 (w (x*y))]
theorem Yi (gv:Nat->List AV) (x y:Int):ag (Xg gv) (c0 gv AV) bV 5 144 [.int .u64 x,.int .u64 y] aa.empty (λv _=>some v)=some (DP x y):=by kernel_rfl
theorem Yj {a:Int}:Int.fdiv a 4294967296=a/4294967296:=Int.fdiv_eq_ediv_of_nonneg _ (by omega)
theorem mul_eq {x y:Int} (h0:0<=x) (h1:x<18446744073709551616) (h2:0<=y) (h3:y<4294967296):DP x y = .cB [.int .u64 (x*y/18446744073709551616),.int .u64 (x*y%18446744073709551616)]:=by
 have low:∀{a:Int},0<=a->a<18446744073709551616->((BitVec.ofInt 64 a &&& BitVec.ofInt 64 4294967295).toNat:Int)=a%4294967296:=λ{a} ha hb=>DM ha hb 32 (by omega)
 have hx0:IntKind.wrap .u64 ↑(BitVec.toNat (BitVec.ofInt 64 x &&& BitVec.ofInt 64 4294967295))=x%4294967296:=by rw[low h0 h1,u64_in (by omega) (by omega)]
 have hy0:IntKind.wrap .u64 ↑(BitVec.toNat (BitVec.ofInt 64 y &&& BitVec.ofInt 64 4294967295))=y:=by rw[low h2 (by omega),u64_in (by omega) (by omega)];omega
 have hy1:y/4294967296=0:=by omega
 unfold DP
 simp only[hx0,hy0,Yj,hy1,Int.mul_zero]
 obtain ⟨a,ha⟩:∃a,x/4294967296*y=a:=⟨_,rfl⟩
 obtain ⟨b,hb⟩:∃b,x%4294967296*y=b:=⟨_,rfl⟩
 have hxy:x*y=a*4294967296+b:=by
  rw[<-ha,<-hb];have:=Int.mul_ediv_add_emod x 4294967296
  calc x*y=(4294967296*(x/4294967296)+x%4294967296)*y:=by rw[this]
   _=_:=by rw[Int.add_mul,Int.mul_assoc,Int.mul_comm 4294967296]
 have ha0:0<=a:=by rw[<-ha];exact Int.mul_nonneg (by omega) h2
 have hb0:0<=b:=by rw[<-hb];exact Int.mul_nonneg (by omega) h2
 have ha1:a<=4294967295*4294967295:=by
  rw[<-ha];exact Int.le_trans (Int.mul_le_mul_of_nonneg_right (show x/4294967296<=4294967295 by omega) h2) (Int.mul_le_mul_of_nonneg_left (show y<=4294967295 by omega) (by omega))
 have AW:b<=4294967295*4294967295:=by
  rw[<-hb];exact Int.le_trans (Int.mul_le_mul_of_nonneg_right (show x%4294967296<=4294967295 by omega) h2) (Int.mul_le_mul_of_nonneg_left (show y<=4294967295 by omega) (by omega))
 rw[ha,hb,hxy]
 have w1:IntKind.wrap .u64 b=b:=u64_in hb0 (by omega)
 have w2:IntKind.wrap .u64 a=a:=u64_in ha0 (by omega)
 have w3:IntKind.wrap .u64 (a+b/4294967296)=a+b/4294967296:=u64_in (by omega) (by omega)
 have w4:IntKind.wrap .u64 0=0:=u64_in (by omega) (by omega)
 rw[w1,w2,w3,low (by omega) (by omega),w4,Int.zero_add,Int.add_zero]
 have w5:IntKind.wrap .u64 ((a+b/4294967296)%4294967296)=(a+b/4294967296)%4294967296:=u64_in (by omega) (by omega)
 have w6:IntKind.wrap .u64 ((a+b/4294967296)/4294967296)=(a+b/4294967296)/4294967296:=u64_in (by omega) (by omega)
 rw[w5,w5,w6]
 have w7:(a+b/4294967296)%4294967296/4294967296=0:=by omega
 rw[w7,Int.add_zero,w6,qW]
 have e1:(a+b/4294967296)/4294967296=(a*4294967296+b)/18446744073709551616:=by omega
 rw[e1]
noncomputable def Yk (args:List AV):Option (Bool×List bA) :=
 match args with
 |[.int .u64 x,.int .u64 y]=>some (!ltI x 0&&ltI x 18446744073709551616 && !ltI y 0&&ltI y 4294967296,[.val (.int .u64 (x*y/18446744073709551616)),.val (.int .u64 (x*y%18446744073709551616))])
 |_=>none
theorem ac6 (gv:Nat->List AV):aO (Xg gv) (aY (Xg gv) kn) 144 Yk :=
 aJ (λargs=>aL rfl args) (rS gv) λargs rs hg=>by
  unfold Yk at hg;split at hg
  .
   rename_i x y;simp only[Option.some.injEq,Prod.mk.injEq,Bool.and_eq_true,ltI_spec,Bool.not_eq_true',decide_eq_false_iff_not,decide_eq_true_eq] at hg;obtain ⟨h1,rfl⟩:=hg;exact ⟨[.int .u64 (x*y/18446744073709551616),.int .u64 (x*y%18446744073709551616)],bV,5,(Yi gv x y).trans (congrArg some (mul_eq (x:=x) (y:=y) (by omega) (by omega) (by omega) (by omega))),rfl,rfl⟩
  cases hg
end
end Go.Proofs.YtpaddkkfefgkfaaGreatDoor.lt

namespace Go.Proofs.YtpaddkkfefgkfaaGreatDoor.lt
open Go.Tv Go.Ev
set_option maxRecDepth 100000
noncomputable def L1:List nY:=[(96,[none],PE),(143,[none],Yh),(144,[none,none],Yk)]
theorem V6 (gv:Nat->List AV):cr (Xg gv) (aY (Xg gv) kn) L1:=.cons (ac4 gv) (.cons (ac5 gv) (.cons (ac6 gv) .nil))
noncomputable def c1 (gv:Nat->List AV) (β:Type):aT β:=kB (Xg gv) (Me L1) inl 200 β 20
theorem Ku (gv:Nat->List AV) (β:Type):aV (Xg gv) (aY (Xg gv) kn) (c1 gv β):=dF (V6 gv) (λf h args=>aL h args) 200 20 β
noncomputable def anD:bG:=⟨.none,.node (some [0,1,7,8,9]) .none .none,[]⟩
noncomputable def stD (d:List UInt8) (b n i:Int) (wZ:Bool):cj:=hU 83 [(0,.str d),(1,.int .i64 b),(7,.int .u64 n),(8,.int .i64 i),(9,.bool wZ)]
noncomputable def jD (gv:Nat->List AV) (d:List UInt8) (b:Int) (r m:Nat) (n i:Int) (wZ:Bool):Option AV:=acN (Xg gv) (c1 gv AV) anD r 98 [true] 0 (λv _=>some v) m (stD d b n i wZ) aa.empty
def bD (n i:Int) (wZ:Bool):Option AV:=some (.cB [.int .u64 n,.int .i64 i,.bool wZ])
noncomputable def F9 (b n v:Int):Int:=Int.ofNat ((Int.toNat (n*IntKind.wrap .u64 b%18446744073709551616)+Int.toNat (IntKind.wrap .u64 v)+0)%Extern.MathBitsCarry.m64)
noncomputable def Mj (b n v:Int):Int:=Int.ofNat ((Int.toNat (n*IntKind.wrap .u64 b%18446744073709551616)+Int.toNat (IntKind.wrap .u64 v)+0)/Extern.MathBitsCarry.m64)
noncomputable def Ga (d:List UInt8) (b n i:Int) (wZ:Bool) (go:Int->Int->Bool->Option AV):Option AV :=
 pick2 (eqI i ↑d.length)
  (pick2 (eqI i 0) (bD 0 0 false) (bD n (-1) wZ))
  (Option.rec (motive:=λ_=>Option AV) none (λc=>pick2 (eqI (aF c) 95)
   (pick2 (eqI i 0) (bD 0 i false) (pick2 (eqI i (IntKind.wrap .i64 (↑d.length-1))) (bD 0 i false)
    (Option.rec (motive:=λ_=>Option AV) none (λc=>pick2 (eqI (aF c) 95) (bD 0 i false) (go n (IntKind.wrap .i64 (i+1)) wZ)) (aI d (IntKind.wrap .i64 (i-1))))))
   (Option.rec (motive:=λ_=>Option AV) none (λc=>pick2 (ltI (fR (aF c)) 0) (bD 0 i false) (pick2 (!ltI (fR (aF c)) b) (bD 0 i false)
    (pick2 (!ltI n 0&&ltI n 18446744073709551616 && !ltI (IntKind.wrap .u64 b) 0&&ltI (IntKind.wrap .u64 b) 4294967296)
     (pick2 wZ (go (F9 b n (fR (aF c))) (IntKind.wrap .i64 (i+1)) true)
      (pick2 (!eqI (n*IntKind.wrap .u64 b/18446744073709551616) 0) (go (F9 b n (fR (aF c))) (IntKind.wrap .i64 (i+1)) true)
       (go (F9 b n (fR (aF c))) (IntKind.wrap .i64 (i+1)) (!eqI (Mj b n (fR (aF c))) 0))))
     none))) (aI d i))) (aI d i))
theorem V7 (gv:Nat->List AV) (d:List UInt8) (b:Int) (r m:Nat) (n i:Int) (wZ:Bool):jD gv d b r (m+1) n i wZ=Ga d b n i wZ (jD gv d b r m):=by kernel_rfl
theorem Yl (gv:Nat->List AV) (d:List UInt8) (b:Int) (m:Nat):ag (Xg gv) (c1 gv AV) anD m 98 [.str d,.int .i64 b] aa.empty (λv _=>some v)=Ga d b 0 0 false (jD gv d b m m):=by kernel_rfl
def dI (b:Int):Bool->Bool->List UInt8->Nat->Option Nat
 |first,_,[],_=>if first then some 0 else none
 |first,prev,c::r,i=>if aF c=95 then (if first=true\/r=[]\/prev=true then some i else dI b false true r (i+1)) else if fR (aF c)<0\/b<=fR (aF c) then some i else dI b false false r (i+1)
def qo (b:Nat):List UInt8->Nat->Nat
 |[],N=>N
 |c::r,N=>if aF c=95 then qo b r N else qo b r (N*b+(fR (aF c)).toNat)
def kE (b:Nat) (d:List UInt8):Int×Int×Bool :=
 match dI b true false d 0 with
 |some i=>(0,(i:Int),false)
 |none=>(((qo b d 0%18446744073709551616:Nat):Int),-1,decide (18446744073709551616<=qo b d 0))
theorem Gb {b N v:Nat} (hb:b<=16) (hv:v<16):F9 b ((N%18446744073709551616:Nat):Int) v=(((N*b+v)%18446744073709551616:Nat):Int)/\((N:Int)<18446744073709551616->(((N%18446744073709551616:Nat):Int)*IntKind.wrap .u64 b/18446744073709551616=0↔N*b<18446744073709551616)/\(N*b<18446744073709551616->(Mj b ((N%18446744073709551616:Nat):Int) v=0↔N*b+v<18446744073709551616))):=by
 have wb:IntKind.wrap .u64 (b:Int)=b:=u64_in (by omega) (by omega)
 have wv:IntKind.wrap .u64 (v:Int)=v:=u64_in (by omega) (by omega)
 have e1:((N%18446744073709551616:Nat):Int)*(b:Int)%18446744073709551616=((N%18446744073709551616*b%18446744073709551616:Nat):Int):=by
  rw[Int.natCast_emod (N%18446744073709551616*b),Int.natCast_mul];rfl
 have hm:Extern.MathBitsCarry.m64=18446744073709551616:=by kernel_rfl
 unfold F9 Mj
 rw[wb,wv,e1,hm]
 simp only[Int.toNat_natCast,Nat.add_zero]
 refine ⟨?_,λhN=>?_⟩
 .
  show ((_:Nat):Int)=_
  congr 1
  rw[Nat.add_mod (N*b),Nat.mul_mod N b,Nat.add_mod (N%18446744073709551616*b%18446744073709551616),Nat.mod_mod,Nat.mul_mod (N%18446744073709551616) b,Nat.mod_mod]
 have hN':N%18446744073709551616=N:=Nat.mod_eq_of_lt (by omega)
 rw[hN']
 generalize hP:N*b=P
 refine ⟨?_,λhl=>?_⟩
 .
  have:((N:Int)*(b:Int))=(P:Int):=by rw[<-hP,Int.natCast_mul]
  rw[this];omega
 show ((((P%18446744073709551616+v)/18446744073709551616:Nat)):Int)=0↔_
 omega
theorem PF (n:Int):fR n<16:=by unfold fR;repeat' split<;>omega
theorem ac7 (gv:Nat->List AV) {b:Nat} (EK:2<=b) (hb:b<=16) (d:List UInt8) (hd:d.length<1000000) (r:Nat):∀(rest pre:List UInt8) (m:Nat) (N:Nat) (prev:Bool),d=pre++rest->rest.length<m->pre≠[]->(prev=true↔∃q,pre=q++[95]) ->
 jD gv d b r m ((N%18446744073709551616:Nat):Int) pre.length (decide (18446744073709551616<=N)) =
  match dI b false prev rest pre.length with
  |some i=>bD 0 i false
  |none=>bD ((qo b rest N%18446744073709551616:Nat):Int) (-1) (decide (18446744073709551616<=qo b rest N)):=by
 intro rest
 induction rest with
 |
  nil =>
  intro pre m N prev he hm hne PG;obtain ⟨m,rfl⟩:∃m',m=m'+1:=⟨m-1,by simp at hm;omega⟩
  rw[V7];unfold Ga;have hl:d.length=pre.length:=by rw[he];simp
  have hp:0<pre.length:=List.length_pos_iff.2 hne;rw[wW (a:=(pre.length:Int)) (b:=(d.length:Int)) (by omega),wX (a:=(pre.length:Int)) (b:=0) (by omega)]
  rfl
 |
  cons c rest ih =>
  intro pre m N prev he hm hne PG;obtain ⟨m,rfl⟩:∃m',m=m'+1:=⟨m-1,by simp at hm;omega⟩
  have hl:d.length=pre.length+(rest.length+1):=by rw[he];simp
  have hp:0<pre.length:=List.length_pos_iff.2 hne;have hg:aI d (pre.length:Int)=some c:=by rw[he];exact ei pre rest c
  have hnext:IntKind.wrap .i64 ((pre.length:Int)+1)=((pre++[c]).length:Int):=by rw[i64_in (by omega) (by omega)];simp
  have he':d=(pre++[c])++rest:=by rw[he];simp
  have hm':rest.length<m:=by simp at hm;omega
  rw[V7];unfold Ga;rw[wX (a:=(pre.length:Int)) (b:=(d.length:Int)) (by omega),wX (a:=(pre.length:Int)) (b:=0) (by omega),hg,hnext]
  show pick2 (eqI (aF c) 95) _ _=_;by_cases hc:aF c=95
  .
   rw[wW hc];show pick2 (eqI (pre.length:Int) (IntKind.wrap .i64 (↑d.length-1))) _ _=_;rw[i64_in (by omega) (by omega)]
   have hw:dI b false prev (c::rest) pre.length=if rest=[]\/prev=true then some pre.length else dI b false true rest (pre.length+1):=by
    rw[dI,if_pos hc];simp
   rw[hw];by_cases hr:rest=[]
   .
    rw[wW (by rw[hl,hr];simp),if_pos (.inl hr)]
   have hrl:0<rest.length:=List.length_pos_iff.2 hr;rw[wX (by omega)]
   obtain ⟨q,x,hq⟩:∃q x,pre=q++[x]:=⟨pre.dropLast,pre.getLast hne,(List.dropLast_concat_getLast hne).symm⟩
   have hgx:aI d (IntKind.wrap .i64 ((pre.length:Int)-1))=some x:=by
    rw[i64_in (by omega) (by omega)]
    have:(pre.length:Int)-1=(q.length:Int):=by rw[hq];simp
    rw[this,he,hq,List.append_assoc];exact ei q (c::rest) x
   rw[hgx];show pick2 (eqI (aF x) 95) _ _=_;by_cases hx:aF x=95
   .
    have:prev=true:=PG.2 ⟨q,by rw[hq];congr 2;exact DK (a:=x) (b:=95) hx⟩
    rw[wW hx,if_pos (.inr this)]
   have hpf:prev=false:=by
    cases hpv:prev with
    |false=>rfl
    |
     true =>
     obtain ⟨q',hq'⟩:=PG.1 hpv;rw[hq] at hq';have:=(List.append_inj' hq' rfl).2;simp at this;exact absurd (by rw[this];rfl) hx
   rw[wX hx,if_neg (by simp[hr,hpf])]
   have hcc:c=95:=DK (a:=c) (b:=95) hc;have:=ih (pre++[c]) m N true he' hm' (by simp) ⟨λ_=>⟨pre,by rw[hcc]⟩,λ_=>rfl⟩
   rw[List.length_append,List.length_singleton] at this;show jD gv d b r m _ ((pre++[c]).length:Int) _=_;rw[List.length_append,List.length_singleton,this];have hv:qo b (c::rest) N=qo b rest N:=by rw[qo,if_pos hc]
   rw[hv]
  rw[wX hc];show pick2 (ltI (fR (aF c)) 0) _ _=_
  have hw:dI b false prev (c::rest) pre.length=if fR (aF c)<0\/(b:Int)<=fR (aF c) then some pre.length else dI b false false rest (pre.length+1):=by
   rw[dI,if_neg hc]
  rw[hw];by_cases h0:fR (aF c)<0
  .
   rw[kW h0,if_pos (.inl h0)]
  rw[cF (by omega)]
  show pick2 (!ltI (fR (aF c)) b) _ _=_;by_cases h1:(b:Int)<=fR (aF c)
  .
   rw[cF h1,if_pos (.inr h1)];rfl
  rw[kW (by omega),if_neg (by omega)]
  have wb:IntKind.wrap .u64 (b:Int)=b:=u64_in (by omega) (by omega)
  have hcond:(!ltI ((N%18446744073709551616:Nat):Int) 0&&ltI ((N%18446744073709551616:Nat):Int) 18446744073709551616 && !ltI (IntKind.wrap .u64 (b:Int)) 0&&ltI (IntKind.wrap .u64 (b:Int)) 4294967296)=true:=by
   rw[wb,cF (by omega),kW (by omega),cF (by omega),kW (by omega)];rfl
  obtain ⟨v,hv⟩:∃v:Nat,fR (aF c)=v:=⟨(fR (aF c)).toNat,by omega⟩
  have Ym:v<16:=by have:=PF (aF c);omega
  obtain ⟨s1,s2⟩:=Gb (N:=N) hb Ym;have hval:qo b (c::rest) N=qo b rest (N*b+v):=by rw[qo,if_neg hc,hv];rfl
  have goal:∀wZ,wZ=decide (18446744073709551616<=N*b+v)->jD gv d b r m (F9 b ((N%18446744073709551616:Nat):Int) (fR (aF c))) ((pre++[c]).length:Int) wZ =
   match dI b false false rest (pre.length+1) with
   |some i=>bD 0 i false
   |none=>bD ((qo b (c::rest) N%18446744073709551616:Nat):Int) (-1) (decide (18446744073709551616<=qo b (c::rest) N)):=λwZ EG=>by
   have hno:¬ ∃q,pre++[c]=q++[95]:=λ⟨q,hq⟩=>by
    have:=(List.append_inj' hq rfl).2;simp at this;exact hc (by rw[this];rfl)
   have:=ih (pre++[c]) m (N*b+v) false he' hm' (by simp) ⟨λh=>(by cases h),λh=>absurd h hno⟩
   rw[hv,s1,EG,this,hval];simp
  show pick2 (_&&_&&_&&_) _ _=_;rw[hcond];show pick2 (decide (18446744073709551616<=N)) _ _=_;by_cases hN:18446744073709551616<=N
  .
   rw[decide_eq_true hN];have:N<=N*b:=Nat.le_mul_of_pos_right N (by omega)
   exact goal true (by rw[decide_eq_true];omega)
  rw[decide_eq_false hN];obtain ⟨t1,t2⟩:=s2 (by omega)
  show pick2 (!eqI _ 0) _ _=_;by_cases hP:N*b<18446744073709551616
  .
   rw[wW (t1.2 hP)];refine goal _ ?_;rw[hv];by_cases hS:N*b+v<18446744073709551616
   .
    rw[wW ((t2 hP).2 hS),decide_eq_false (by omega)];rfl
   rw[wX (λh=>hS ((t2 hP).1 h)),decide_eq_true (by omega)];rfl
  rw[wX (λh=>hP (t1.1 h))]
  exact goal true (by rw[decide_eq_true];omega)
end Go.Proofs.YtpaddkkfefgkfaaGreatDoor.lt

namespace Go.Proofs.YtpaddkkfefgkfaaGreatDoor.lt
open Go.Tv Go.Ev
set_option maxRecDepth 100000
theorem ag3 (gv:Nat->List AV) {b:Nat} (EK:2<=b) (hb:b<=16) (d:List UInt8) (hd:d.length<1000000) :
 ag (Xg gv) (c1 gv AV) anD (d.length+1) 98 [.str d,.int .i64 b] aa.empty (λv _=>some v)=bD (kE b d).1 (kE b d).2.1 (kE b d).2.2:=by
 rw[Yl]
 cases d with
 |nil=>rfl
 |
  cons c rest =>
  have hl:((c::rest).length:Int)=rest.length+1:=by simp
  unfold Ga;rw[wX (a:=0) (b:=((c::rest).length:Int)) (by omega),show aI (c::rest) 0=some c from rfl]
  show pick2 (eqI (aF c) 95) _ _=_;by_cases hc:aF c=95
  .
   have hw:dI b true false (c::rest) 0=some 0:=by rw[dI,if_pos hc,if_pos (.inl rfl)]
   rw[wW hc];unfold kE;rw[hw];rfl
  rw[wX hc];show pick2 (ltI (fR (aF c)) 0) _ _=_
  have hw:dI b true false (c::rest) 0=if fR (aF c)<0\/(b:Int)<=fR (aF c) then some 0 else dI b false false rest 1:=by
   rw[dI,if_neg hc]
  by_cases h0:fR (aF c)<0
  .
   rw[kW h0];unfold kE;rw[hw,if_pos (.inl h0)];rfl
  rw[cF (by omega)]
  show pick2 (!ltI (fR (aF c)) b) _ _=_;by_cases h1:(b:Int)<=fR (aF c)
  .
   rw[cF h1];unfold kE;rw[hw,if_pos (.inr h1)];rfl
  rw[kW (by omega)]
  have wb:IntKind.wrap .u64 (b:Int)=b:=u64_in (by omega) (by omega)
  have hcond:(!ltI 0 0&&ltI 0 18446744073709551616 && !ltI (IntKind.wrap .u64 (b:Int)) 0&&ltI (IntKind.wrap .u64 (b:Int)) 4294967296)=true:=by
   rw[wb,cF (a:=0) (by omega),kW (by omega),cF (by omega),kW (by omega)];rfl
  obtain ⟨v,hv⟩:∃v:Nat,fR (aF c)=v:=⟨(fR (aF c)).toNat,by omega⟩
  have Ym:v<16:=by have:=PF (aF c);omega
  obtain ⟨s1,s2⟩:=Gb (N:=0) hb Ym;show pick2 (_&&_&&_&&_) (pick2 (!eqI (0*IntKind.wrap .u64 (b:Int)/18446744073709551616) 0) _ (jD gv (c::rest) b _ _ (F9 b 0 (fR (aF c))) (IntKind.wrap .i64 (0+1)) (!eqI (Mj b 0 (fR (aF c))) 0))) none=_;rw[hcond,Int.zero_mul];show jD gv (c::rest) b _ _ (F9 b 0 (fR (aF c))) (IntKind.wrap .i64 (0+1)) (!eqI (Mj b 0 (fR (aF c))) 0)=_;have e0:((0%18446744073709551616:Nat):Int)=0:=by simp
  rw[e0,Nat.zero_mul,Nat.zero_add] at s1;rw[e0,Nat.zero_mul,Nat.zero_add] at s2;have ag4:Mj b 0 v=0:=((s2 (by omega)).2 (by omega)).2 (by omega)
  rw[hv,s1,ag4]
  have hno:¬ ∃q:List UInt8,[c]=q++[95]:=λ⟨q,hq⟩=>by
   have:=(List.append_inj' (s₁:=[]) hq rfl).2;simp at this;exact hc (by rw[this];rfl)
  have:=ac7 gv EK hb (c::rest) hd ((c::rest).length+1) rest [c] ((c::rest).length+1) v false rfl (by simp;omega) (by simp) ⟨λh=>(by cases h),λh=>absurd h hno⟩
  have e1:IntKind.wrap .i64 (0+1)=(([c]:List UInt8).length:Int):=by rw[i64_in (by omega) (by omega)];rfl
  have e2:(!eqI 0 0)=decide (18446744073709551616<=v):=by rw[decide_eq_false (by omega)];rfl
  rw[e1,e2,this];unfold kE;rw[hw,if_neg (by omega)]
  have hval:qo b (c::rest) 0=qo b rest v:=by rw[qo,if_neg hc,hv];simp
  rw[hval];show (match dI (b:Int) false false rest 1 with|some i=>_|none=>_)=_
  cases dI (b:Int) false false rest 1<;>rfl
noncomputable def DQ (args:List AV):Option (Bool×List bA) :=
 match args with
 |[.str d,.int .i64 b]=>some (!ltI b 2 && !ltI 16 b&&Nat.ble d.length 999999,[.val (.int .u64 (kE b.toNat d).1),.val (.int .i64 (kE b.toNat d).2.1),.val (.bool (kE b.toNat d).2.2)])
 |_=>none
theorem ac8 (gv:Nat->List AV):aO (Xg gv) (aY (Xg gv) kn) 98 DQ :=
 aJ (λargs=>aL rfl args) (Ku gv) λargs rs hg=>by
  unfold DQ at hg;split at hg
  .
   rename_i d b;simp only[Option.some.injEq,Prod.mk.injEq,Bool.and_eq_true,ltI_spec,Bool.not_eq_true',decide_eq_false_iff_not,Nat.ble_eq] at hg;obtain ⟨⟨⟨h1,h2⟩,h3⟩,rfl⟩:=hg;obtain ⟨n,rfl⟩:∃n:Nat,b=n:=⟨b.toNat,by omega⟩
   rw[Int.toNat_natCast];exact ⟨[.int .u64 (kE n d).1,.int .i64 (kE n d).2.1,.bool (kE n d).2.2],anD,d.length+1,ag3 gv (by omega) (by omega) d (by omega),rfl,rfl⟩
  cases hg
def zE (c:UInt8):Int:=IntKind.wrap .u8 ↑(BitVec.toNat (BitVec.ofInt 8 (aF c) ||| BitVec.ofInt 8 32))
def aD (w:List UInt8):Nat×Nat×Nat :=
 let second:Int:=if 2<w.length/\w.head? = some 48 then zE (w.getD 1 0) else 0
 if second=120 then (2,0,16) else if zE (w.getD (w.length-1) 0)=104 then (0,1,16) else if second=98 then (2,0,2) else if second=111 then (2,0,8) else (0,0,10)
noncomputable def A7 (a b c:Int):Option AV:=some (.cB [.int .i64 a,.int .i64 b,.int .i64 c])
noncomputable def Ge (w:List UInt8) (k:UInt8->Option AV):Option AV:=Option.rec (motive:=λ_=>Option AV) none k (aI w (IntKind.wrap .i64 (↑w.length-1)))
noncomputable def noP (w:List UInt8):Option AV:=Ge w λc=>pick2 (eqI (zE c) 104) (A7 0 (IntKind.wrap .i64 (↑w.length-1)) 16) (A7 0 ↑w.length 10)
theorem ac9 (gv:Nat->List AV) (w:List UInt8):ag (Xg gv) (c1 gv AV) bV 5 97 [.str w] aa.empty (λv _=>some v) =
 pick2 (ltI 2 ↑w.length) (Option.rec (motive:=λ_=>Option AV) none (λc=>pick2 (eqI (aF c) 48)
  (Option.rec (motive:=λ_=>Option AV) none (λc2=>Ge w λc=>pick2 (eqI (zE c2) 120) (A7 2 ↑w.length 16) (pick2 (eqI (zE c) 104) (A7 0 (IntKind.wrap .i64 (↑w.length-1)) 16)
   (pick2 (eqI (zE c2) 98) (A7 2 ↑w.length 2) (pick2 (eqI (zE c2) 111) (A7 2 ↑w.length 8) (A7 0 ↑w.length 10))))) (aI w 1))
  (noP w)) (aI w 0)) (noP w):=by kernel_rfl
theorem Kv {w:List UInt8} (h:w≠[]) (hl:w.length<1000000) (k:UInt8->Option AV):Ge w k=k (w.getD (w.length-1) 0):=by
 have hp:0<w.length:=List.length_pos_iff.2 h
 unfold Ge
 rw[i64_in (by omega) (by omega)]
 have:(w.length:Int)-1=((w.length-1:Nat):Int):=by omega
 rw[this,mq,List.getD_eq_getElem?_getD,List.getElem?_eq_getElem (by omega)];rfl
theorem ag5 (gv:Nat->List AV) {w:List UInt8} (h:w≠[]) (hl:w.length<1000000):ag (Xg gv) (c1 gv AV) bV 5 97 [.str w] aa.empty (λv _=>some v) =
 A7 (aD w).1 ((w.length-(aD w).2.1:Nat):Int) (aD w).2.2:=by
 have hp:0<w.length:=List.length_pos_iff.2 h
 have e1:IntKind.wrap .i64 (↑w.length-1)=((w.length-1:Nat):Int):=by rw[i64_in (by omega) (by omega)];omega
 have hno:∀second:Int,second=0->noP w=A7 (if second=120 then (2,0,16) else if zE (w.getD (w.length-1) 0)=104 then (0,1,16) else if second=98 then (2,0,2) else if second=111 then (2,0,8) else (0,0,10):Nat×Nat×Nat).1 ((w.length-(if second=120 then (2,0,16) else if zE (w.getD (w.length-1) 0)=104 then (0,1,16) else if second=98 then (2,0,2) else if second=111 then (2,0,8) else (0,0,10):Nat×Nat×Nat).2.1:Nat):Int) (if second=120 then (2,0,16) else if zE (w.getD (w.length-1) 0)=104 then (0,1,16) else if second=98 then (2,0,2) else if second=111 then (2,0,8) else (0,0,10):Nat×Nat×Nat).2.2:=λsecond h0=>by
  subst h0;unfold noP;rw[Kv h hl,aB,e1];split
  .
   rfl
  rfl
 rw[ac9]
 unfold aD
 by_cases hlen:2<w.length
 .
  rw[kW (by omega)]
  match w,h,hlen,hno,hl,e1 with
  |
   a::b::r,h,hlen,hno,hl,e1 =>
   rw[show aI (a::b::r) 0=some a from rfl,show aI (a::b::r) 1=some b from rfl];show pick2 (eqI (aF a) 48) _ _=_;by_cases ha:aF a=48
   .
    have ha':a=48:=DK (a:=a) (b:=48) ha;rw[wW ha];show Ge (a::b::r) _=_;rw[Kv h hl];simp only[aB,e1];rw[if_pos (show 2<(a::b::r).length/\(a::b::r).head? = some 48 from ⟨hlen,by rw[ha'];rfl⟩)]
    show _=A7 (if zE b=120 then _ else _:Nat×Nat×Nat).1 _ _;have hb:(a::b::r).getD 1 0=b:=rfl;simp only[hb]
    repeat' split
    all_goals rfl
   rw[wX ha]
   have hn:¬(2<(a::b::r).length/\(a::b::r).head? = some 48):=λ⟨_,h⟩=>by
    simp at h;exact ha (by rw[h];rfl)
   exact hno _ (if_neg hn)
 rw[cF (by omega)]
 exact hno _ (if_neg (by omega))
noncomputable def IA (args:List AV):Option (Bool×List bA) :=
 match args with
 |[.str w]=>some (!w.isEmpty&&Nat.ble w.length 999999,[.val (.int .i64 (aD w).1),.val (.int .i64 ((w.length-(aD w).2.1:Nat):Int)),.val (.int .i64 (aD w).2.2)])
 |_=>none
theorem ada (gv:Nat->List AV):aO (Xg gv) (aY (Xg gv) kn) 97 IA :=
 aJ (λargs=>aL rfl args) (Ku gv) λargs rs hg=>by
  unfold IA at hg;split at hg
  .
   rename_i w;simp only[Option.some.injEq,Prod.mk.injEq,Bool.and_eq_true,Bool.not_eq_true',List.isEmpty_eq_false_iff,Nat.ble_eq] at hg;obtain ⟨⟨h1,h2⟩,rfl⟩:=hg;exact ⟨[.int .i64 (aD w).1,.int .i64 ((w.length-(aD w).2.1:Nat):Int),.int .i64 (aD w).2.2],bV,5,ag5 gv h1 (by omega),rfl,rfl⟩
  cases hg
end Go.Proofs.YtpaddkkfefgkfaaGreatDoor.lt

namespace Go.Proofs.YtpaddkkfefgkfaaGreatDoor.lt
open Go.Tv Go.Ev
set_option maxRecDepth 100000
def pT:List Bool:=[true,true,false,true,false]
noncomputable def anT:bG:=⟨dG [0,1,6,7,8] pT,.none,[]⟩
noncomputable def stT (s:List UInt8) (at' n i:Int):cj:=hU 67 [(0,.str s),(1,.int .i64 at'),(6,.ptr 0 0),(7,.int .u64 n),(8,.int .i64 i)]
noncomputable def mT:aa:=kC [.cells 56 [.int .i64 0,.int .i64 0]]
noncomputable def jT (gv:Nat->List AV) (s:List UInt8) (at':Int) (r m:Nat) (n i:Int):Option AV:=dH (Xg gv) (c0 gv AV) anT r 95 pT (λv _=>some v) m (stT s at' n i) mT
def outT (n e f a:Int):Option AV:=some (.cB [.int .i64 n,.int .i64 e,.agg [.int .i64 f,.int .i64 a]])
noncomputable def Mk (at' i:Int):Int:=IntKind.wrap .i64 (IntKind.wrap .i64 (i-at')-1)
noncomputable def orT (n c k:Int):Int:=IntKind.wrap .u64 ↑(BitVec.toNat (BitVec.ofInt 64 n ||| BitVec.ofInt 64 (IntKind.wrap .u64 (IntKind.wrap .u64 c*2 ^ (min (Int.toNat (IntKind.wrap .i64 (8*k))) 64)))))
noncomputable def rV (at' n i:Int) (c:UInt8) (go:Int->Int->Option AV):Option AV :=
 pick2 (eqI (aF c) 39) (outT (IntKind.wrap .i64 n) (IntKind.wrap .i64 (i+1)) 0 0)
  (pick2 (ltI (aF c) 32) (outT 0 0 4 i) (pick2 (ltI 126 (aF c)) (outT 0 0 4 i) (pick2 (eqI (Mk at' i) 8) (outT 0 0 3 i)
   (pick2 (ltI (IntKind.wrap .i64 (8*Mk at' i)) 0) none (go (orT n (aF c) (Mk at' i)) (IntKind.wrap .i64 (i+1)))))))
noncomputable def PJ (s:List UInt8) (at' n i:Int) (go:Int->Int->Option AV):Option AV :=
 pick2 (ltI i ↑s.length)
  (Option.rec (motive:=λ_=>Option AV) none (λc=>pick2 (eqI (aF c) 39) (pick2 (eqI (Mk at' i) 0) (outT 0 0 4 i) (rV at' n i c go)) (rV at' n i c go)) (aI s i))
  (outT 0 0 4 ↑s.length)
theorem stepT' (gv:Nat->List AV) (s:List UInt8) (at':Int) (r m:Nat) (n i:Int):jT gv s at' r (m+1) n i=PJ s at' n i (jT gv s at' r m):=by kernel_rfl
theorem enterT' (gv:Nat->List AV) (s:List UInt8) (at':Int) (m:Nat):ag (Xg gv) (c0 gv AV) anT m 95 [.str s,.int .i64 at'] aa.empty (λv _=>some v)=jT gv s at' m m 0 (IntKind.wrap .i64 (at'+1)):=by kernel_rfl
def jb (len:Nat):List UInt8->Nat->Nat->Nat->Int×Int×Int×Int
 |[],_,_,_=>(0,0,4,len)
 |
  c::r,k,N,i =>
  if aF c=39 then (if k=0 then (0,0,4,i) else (IntKind.wrap .i64 N,i+1,0,0))
  else if aF c<32\/126<aF c then (0,0,4,i) else if k=8 then (0,0,3,i) else jb len r (k+1) (N+c.toNat*256 ^ k) (i+1)
theorem Yn {N k:Nat} {c:UInt8} (hk:k<8) (hN:N<256 ^ k):orT N (aF c) k=((N+c.toNat*256 ^ k:Nat):Int)/\N+c.toNat*256 ^ k<256 ^ (k+1):=by
 have hc:=c.toNat_lt
 have hlt:N+c.toNat*256 ^ k<256 ^ (k+1):=by
  rw[Nat.pow_succ,Nat.mul_comm (256 ^ k) 256];have:c.toNat*256 ^ k<=255*256 ^ k:=Nat.mul_le_mul_right _ (by omega)
  omega
 have h64:256 ^ (k+1)<=2 ^ 64:=by
  have:256 ^ (k+1)<=256 ^ 8:=Nat.pow_le_pow_right (by omega) (by omega)
  exact this
 have Yo:(2:Nat) ^ (8*k)=256 ^ k:=by rw[Nat.pow_mul]
 have hpos:0<256 ^ k:=Nat.pow_pos (by omega)
 have hle:c.toNat*256 ^ k<2 ^ 64:=by omega
 have ag6:N<2 ^ 64:=by omega
 refine ⟨?_,hlt⟩
 unfold orT
 rw[i64_in (by omega) (by omega)]
 have e1:min (Int.toNat (8*(k:Int))) 64=8*k:=by omega
 rw[e1]
 have e2:IntKind.wrap .u64 (aF c)=(c.toNat:Int):=u64_in (X8 c) (by have:=X9 c;omega)
 rw[e2]
 have e3:(c.toNat:Int)*2 ^ (8*k)=((c.toNat*256 ^ k:Nat):Int):=by
  rw[Int.natCast_mul,<-Yo,Int.natCast_pow];rfl
 rw[e3,u64_in (n:=((c.toNat*256 ^ k:Nat):Int)) (by omega) (by omega),BitVec.toNat_or,BitVec.ofInt_natCast,BitVec.ofInt_natCast,BitVec.toNat_ofNat,BitVec.toNat_ofNat,Nat.mod_eq_of_lt ag6,Nat.mod_eq_of_lt hle]
 have e4:N ||| c.toNat*256 ^ k=N+c.toNat*256 ^ k:=by
  have h:=Nat.shiftLeft_add_eq_or_of_lt (b:=N) (i:=8*k) (by rw[Yo];exact hN) c.toNat
  rw[Nat.shiftLeft_eq,Yo] at h;rw[Nat.or_comm,<-h,Nat.add_comm]
 rw[e4,u64_in (by omega) (by omega)]
theorem PK (gv:Nat->List AV) (s:List UInt8) (hs:s.length<1000000) (a r:Nat):∀(rest pre:List UInt8) (m k N:Nat),s=pre++rest->rest.length<m->pre.length=a+1+k->k<=8->N<256 ^ k ->
 jT gv s a r m N pre.length=outT (jb s.length rest k N pre.length).1 (jb s.length rest k N pre.length).2.1 (jb s.length rest k N pre.length).2.2.1 (jb s.length rest k N pre.length).2.2.2:=by
 intro rest
 induction rest with
 |
  nil =>
  intro pre m k N he hm hp hk hN;obtain ⟨m,rfl⟩:∃m',m=m'+1:=⟨m-1,by simp at hm;omega⟩
  rw[stepT'];unfold PJ;have hl:s.length=pre.length:=by rw[he];simp
  rw[cF (by omega)]
  rfl
 |
  cons c rest ih =>
  intro pre m k N he hm hp hk hN;obtain ⟨m,rfl⟩:∃m',m=m'+1:=⟨m-1,by simp at hm;omega⟩
  have hl:s.length=pre.length+(rest.length+1):=by rw[he];simp
  have hg:aI s (pre.length:Int)=some c:=by rw[he];exact ei pre rest c
  have hnext:IntKind.wrap .i64 ((pre.length:Int)+1)=((pre++[c]).length:Int):=by rw[i64_in (by omega) (by omega)];simp
  have adb:Mk (a:Int) (pre.length:Int)=(k:Int):=by
   unfold Mk;rw[i64_in (n:=(pre.length:Int)-a) (by omega) (by omega),i64_in (by omega) (by omega)];omega
  rw[stepT'];unfold PJ;rw[kW (by omega),hg,adb]
  show pick2 (eqI (aF c) 39) _ _=_
  have hw:jb s.length (c::rest) k N pre.length=if aF c=39 then (if k=0 then (0,0,4,(pre.length:Int)) else (IntKind.wrap .i64 N,(pre.length:Int)+1,0,0))
   else if aF c<32\/126<aF c then (0,0,4,(pre.length:Int)) else if k=8 then (0,0,3,(pre.length:Int)) else jb s.length rest (k+1) (N+c.toNat*256 ^ k) (pre.length+1):=by
   rw[jb]
  rw[hw];unfold rV;rw[adb,hnext];by_cases hc:aF c=39
  .
   rw[wW hc,if_pos hc];show pick2 (eqI (k:Int) 0) _ _=_;by_cases hk0:k=0
   .
    rw[wW (by omega),if_pos hk0]
   rw[wX (by omega),if_neg hk0]
   show outT _ ((pre++[c]).length:Int) 0 0=_;rw[List.length_append,List.length_singleton];rfl
  rw[wX hc,if_neg hc];show pick2 (ltI (aF c) 32) _ _=_;by_cases h32:aF c<32
  .
   rw[kW h32,if_pos (.inl h32)]
  rw[cF (by omega)]
  show pick2 (ltI 126 (aF c)) _ _=_;by_cases ade:126<aF c
  .
   rw[kW ade,if_pos (.inr ade)]
  rw[cF (by omega),if_neg (by omega)]
  show pick2 (eqI (k:Int) 8) _ _=_;by_cases hk8:k=8
  .
   rw[wW (by omega),if_pos hk8]
  rw[wX (by omega),if_neg hk8]
  show pick2 (ltI (IntKind.wrap .i64 (8*(k:Int))) 0) none _=_;rw[i64_in (by omega) (by omega),cF (by omega)]
  obtain ⟨o1,o2⟩:=Yn (c:=c) (show k<8 by omega) hN
  show jT gv s a r m (orT N (aF c) k) ((pre++[c]).length:Int)=_;rw[o1,ih (pre++[c]) m (k+1) (N+c.toNat*256 ^ k) (by rw[he];simp) (by simp at hm;omega) (by simp;omega) (by omega) o2,List.length_append,List.length_singleton]
def jn (s:List UInt8) (a:Nat):Int×Int×Int×Int:=jb s.length (s.drop (a+1)) 0 0 (a+1)
theorem runText (gv:Nat->List AV) (s:List UInt8) (hs:s.length<1000000) (a:Nat) (ha:a<s.length) :
 ag (Xg gv) (c0 gv AV) anT (s.length+1) 95 [.str s,.int .i64 a] aa.empty (λv _=>some v)=outT (jn s a).1 (jn s a).2.1 (jn s a).2.2.1 (jn s a).2.2.2:=by
 rw[enterT',i64_in (by omega) (by omega)]
 have hl:(s.take (a+1)).length=a+1:=by simp;omega
 have:=PK gv s hs a (s.length+1) (s.drop (a+1)) (s.take (a+1)) (s.length+1) 0 0 (by simp) (by simp;omega) (by omega) (by omega) (by simp)
 rw[hl] at this
 exact this
noncomputable def w9 (args:List AV):Option (Bool×List bA) :=
 match args with
 |[.str s,.int .i64 a]=>some (!ltI a 0&&ltI a ↑s.length&&Nat.ble s.length 999999,[.val (.int .i64 (jn s a.toNat).1),.val (.int .i64 (jn s a.toNat).2.1),.val (.agg [.int .i64 (jn s a.toNat).2.2.1,.int .i64 (jn s a.toNat).2.2.2])])
 |_=>none
theorem adf (gv:Nat->List AV):aO (Xg gv) (aY (Xg gv) kn) 95 w9 :=
 aJ (λargs=>aL rfl args) (rS gv) λargs rs hg=>by
  unfold w9 at hg;split at hg
  .
   rename_i s a;simp only[Option.some.injEq,Prod.mk.injEq,Bool.and_eq_true,ltI_spec,Bool.not_eq_true',decide_eq_false_iff_not,decide_eq_true_eq,Nat.ble_eq] at hg;obtain ⟨⟨⟨h1,h2⟩,h3⟩,rfl⟩:=hg;obtain ⟨n,rfl⟩:∃n:Nat,a=n:=⟨a.toNat,by omega⟩
   rw[Int.toNat_natCast];exact ⟨[.int .i64 (jn s n).1,.int .i64 (jn s n).2.1,.agg [.int .i64 (jn s n).2.2.1,.int .i64 (jn s n).2.2.2]],anT,s.length+1,runText gv s (by omega) n (by omega),rfl,rfl⟩
  cases hg
noncomputable def L2:List nY:=(95,[none,none],w9)::(97,[none],IA)::(98,[none,none],DQ)::L1
theorem adg (gv:Nat->List AV):cr (Xg gv) (aY (Xg gv) kn) L2:=.cons (adf gv) (.cons (ada gv) (.cons (ac8 gv) (V6 gv)))
noncomputable def c2 (gv:Nat->List AV) (β:Type):aT β:=kB (Xg gv) (Me L2) inl 200 β 20
theorem adh (gv:Nat->List AV) (β:Type):aV (Xg gv) (aY (Xg gv) kn) (c2 gv β):=dF (adg gv) (λf h args=>aL h args) 200 20 β
def pS:List Bool:=[true,true,true,true,true,false,false]
noncomputable def anS:bG:=⟨dG [0,1,6,7] pS,.none,[]⟩
noncomputable def stS (s:List UInt8) (at' e:Int):cj:=hU 102 [(0,.str s),(1,.int .i64 at'),(6,.ptr 0 0),(7,.int .i64 e)]
end Go.Proofs.YtpaddkkfefgkfaaGreatDoor.lt

namespace Go.Proofs.YtpaddkkfefgkfaaGreatDoor.lt
open Go.Tv Go.Ev
set_option maxRecDepth 100000
noncomputable def jS (gv:Nat->List AV) (s:List UInt8) (at':Int) (r m:Nat) (e:Int):Option AV:=dH (Xg gv) (c2 gv AV) anS r 56 pS (λv _=>some v) m (stS s at' e) mT
noncomputable def PL (s:List UInt8) (at' e lo:Int) (r:Int×Int×Bool):Option AV :=
 pick2 (!ltI r.2.1 0) (outT 0 0 4 (IntKind.wrap .i64 (lo+r.2.1))) (pick2 r.2.2 (outT 0 0 5 at') (outT (IntKind.wrap .i64 r.1) e 0 0))
noncomputable def PM (s:List UInt8) (at' e:Int) (w:List UInt8) (p:Nat×Nat×Nat):Option AV :=
 pick2 (!ltI (IntKind.wrap .i64 (at' + ↑p.1)) 0 && !ltI (IntKind.wrap .i64 (at' + ↑(w.length-p.2.1))) (IntKind.wrap .i64 (at' + ↑p.1)) && !ltI (Int.ofNat s.length) (IntKind.wrap .i64 (at' + ↑(w.length-p.2.1))))
  (pick2 (!ltI (p.2.2:Int) 2 && !ltI 16 (p.2.2:Int)&&Nat.ble (bz s (IntKind.wrap .i64 (at' + ↑p.1)) (IntKind.wrap .i64 (at' + ↑(w.length-p.2.1)))).length 999999)
   (PL s at' e (IntKind.wrap .i64 (at' + ↑p.1)) (kE (Int.toNat (p.2.2:Int)) (bz s (IntKind.wrap .i64 (at' + ↑p.1)) (IntKind.wrap .i64 (at' + ↑(w.length-p.2.1)))))) none) none
noncomputable def PN (s:List UInt8) (at' e:Int):Option AV :=
 pick2 (!ltI at' 0 && !ltI e at' && !ltI (Int.ofNat s.length) e)
  (pick2 (!(bz s at' e).isEmpty&&Nat.ble (bz s at' e).length 999999) (PM s at' e (bz s at' e) (aD (bz s at' e))) none) none
theorem dg (gv:Nat->List AV) (s:List UInt8) (at':Int) (r m:Nat) (e:Int):jS gv s at' r (m+1) e =
 pick2 (ltI e ↑s.length) (Option.rec (motive:=λ_=>Option AV) none (λc=>pick2 (fB (aF c)) (jS gv s at' r m (IntKind.wrap .i64 (e+1))) (PN s at' e)) (aI s e)) (PN s at' e):=by kernel_rfl
noncomputable def IB (s:List UInt8) (at':Int) (go:Option AV):Option AV :=
 Option.rec (motive:=λ_=>Option AV) none (λc=>pick2 (eqI (aF c) 39)
  (pick2 (!ltI at' 0&&ltI at' ↑s.length&&Nat.ble s.length 999999) (outT (jn s at'.toNat).1 (jn s at'.toNat).2.1 (jn s at'.toNat).2.2.1 (jn s at'.toNat).2.2.2) none) go) (aI s at')
theorem Yp (gv:Nat->List AV) (s:List UInt8) (at':Int) (m:Nat):ag (Xg gv) (c2 gv AV) anS m 56 [.str s,.int .i64 at'] aa.empty (λv _=>some v) =
 pick2 (ltI at' 0) (outT 0 0 6 0) (pick2 (!ltI at' ↑s.length) (outT 0 0 6 at')
  (Option.rec (motive:=λ_=>Option AV) none (λc=>pick2 (!eqI (aF c) 39)
   (Option.rec (motive:=λ_=>Option AV) none (λc=>pick2 (ltI (aF c) 48) (outT 0 0 6 at')
    (Option.rec (motive:=λ_=>Option AV) none (λc=>pick2 (ltI 57 (aF c)) (outT 0 0 6 at') (IB s at' (jS gv s at' m m at'))) (aI s at'))) (aI s at'))
   (IB s at' (jS gv s at' m m at'))) (aI s at'))):=by kernel_rfl
theorem adi (gv:Nat->List AV) (s:List UInt8) (hs:s.length<1000000) (at':Int) (r:Nat):∀(rest pre:List UInt8) (m:Nat),s=pre++rest->rest.length<m ->
 jS gv s at' r m pre.length=PN s at' ((pre.length+(rest.takeWhile λc=>fB (aF c)).length:Nat):Int):=by
 intro rest
 induction rest with
 |
  nil =>
  intro pre m he hm;obtain ⟨m,rfl⟩:∃m',m=m'+1:=⟨m-1,by simp at hm;omega⟩
  have hl:s.length=pre.length:=by rw[he];simp
  rw[dg,cF (by omega)]
  rfl
 |
  cons c rest ih =>
  intro pre m he hm;obtain ⟨m,rfl⟩:∃m',m=m'+1:=⟨m-1,by simp at hm;omega⟩
  have hl:s.length=pre.length+(rest.length+1):=by rw[he];simp
  have hg:aI s (pre.length:Int)=some c:=by rw[he];exact ei pre rest c
  have hnext:IntKind.wrap .i64 ((pre.length:Int)+1)=((pre++[c]).length:Int):=by rw[i64_in (by omega) (by omega)];simp
  rw[dg,kW (by omega),hg,hnext]
  show pick2 (fB (aF c)) _ _=_;cases hw:fB (aF c) with
  |
   true =>
   show jS gv s at' r m _=_;rw[ih (pre++[c]) m (by rw[he];simp) (by simp at hm;omega),List.takeWhile_cons,if_pos hw]
   simp only[List.length_append,List.length_cons,List.length_nil]
   congr 2;omega
  |
   false =>
   rw[List.takeWhile_cons,if_neg (by simp[hw])]
   simp
def mY (w:List UInt8) (a:Nat):Int×Int×Int×Int :=
 if 0<=(kE (aD w).2.2 ((w.take (w.length-(aD w).2.1)).drop (aD w).1)).2.1 then (0,0,4,(a:Int)+(aD w).1+(kE (aD w).2.2 ((w.take (w.length-(aD w).2.1)).drop (aD w).1)).2.1)
 else if (kE (aD w).2.2 ((w.take (w.length-(aD w).2.1)).drop (aD w).1)).2.2 then (0,0,5,(a:Int))
 else (IntKind.wrap .i64 (kE (aD w).2.2 ((w.take (w.length-(aD w).2.1)).drop (aD w).1)).1,(a:Int)+w.length,0,0)
def dN (s:List UInt8) (at':Int):Int×Int×Int×Int :=
 if at'<0 then (0,0,6,0) else if (s.length:Int)<=at' then (0,0,6,at')
 else if aF (s.getD at'.toNat 0)=39 then jn s at'.toNat
 else if 48<=aF (s.getD at'.toNat 0)/\aF (s.getD at'.toNat 0)<=57 then mY ((s.drop at'.toNat).takeWhile λc=>fB (aF c)) at'.toNat
 else (0,0,6,at')
theorem Gf (w:List UInt8) (h:w≠[]):(aD w).1+(aD w).2.1<=w.length/\2<=(aD w).2.2/\(aD w).2.2<=16:=by
 have hp:0<w.length:=List.length_pos_iff.2 h
 unfold aD
 by_cases hc:2<w.length/\w.head? = some 48
 .
  simp only[if_pos hc]
  repeat' split
  all_goals refine ⟨?_,?_,?_⟩<;>simp only<;>omega
 simp only[if_neg hc]
 repeat' split
 all_goals first|(refine ⟨?_,?_,?_⟩<;>simp only<;>omega)|(rename_i h _;simp at h)|(rename_i h;simp at h)
theorem zF (b:Int):∀(l:List UInt8) (first prev:Bool) (i j:Nat),dI b first prev l i=some j->j<=i+l.length
 |
  [],first,prev,i,j,h=>by
  rw[dI] at h;split at h
  .
   cases h;omega
  cases h
 |
  c::r,first,prev,i,j,h=>by
  rw[dI] at h;simp only[List.length_cons];split at h
  .
   split at h
   .
    cases h;omega
   have:=zF b r _ _ _ _ h;omega
  split at h
  .
   cases h;omega
  have:=zF b r _ _ _ _ h;omega
theorem TU (b:Nat) (d:List UInt8) : -1<=(kE b d).2.1/\(kE b d).2.1<=d.length:=by
 unfold kE
 split
 .
  rename_i i h;have:=zF b d true false 0 i h;simp only;omega
 simp only;omega
theorem TV {s w:List UInt8} (hs:s.length<1000000) {a:Nat} (ha:a+w.length<=s.length) (hw:w≠[]) (he:(s.drop a).take w.length=w) :
 PN s a ((a+w.length:Nat):Int)=outT (mY w a).1 (mY w a).2.1 (mY w a).2.2.1 (mY w a).2.2.2:=by
 obtain ⟨h1,h2,h3⟩:=Gf w hw
 have Ml:bz s (a:Int) ((a+w.length:Nat):Int)=w:=by
  unfold bz;simp only[Int.toNat_natCast];have:a+w.length-a=w.length:=by omega
  rw[this];exact he
 unfold PN
 rw[cF (a:=(a:Int)) (b:=0) (by omega),cF (a:=((a+w.length:Nat):Int)) (by omega),cF (a:=Int.ofNat s.length) (by show ((a+w.length:Nat):Int)<=(s.length:Int);omega),Ml]
 have hne:w.isEmpty=false:=by simpa using hw
 have OK:Nat.ble w.length 999999=true:=bO (by omega)
 rw[hne,OK]
 show PM s a _ w (aD w)=_
 unfold PM
 have e1:IntKind.wrap .i64 ((a:Int)+((aD w).1:Int))=((a+(aD w).1:Nat):Int):=by rw[i64_in (by omega) (by omega)];omega
 have e2:IntKind.wrap .i64 ((a:Int)+((w.length-(aD w).2.1:Nat):Int))=((a+(w.length-(aD w).2.1):Nat):Int):=by rw[i64_in (by omega) (by omega)];omega
 rw[e1,e2,cF (a:=((a+(aD w).1:Nat):Int)) (b:=0) (by omega),cF (a:=((a+(w.length-(aD w).2.1):Nat):Int)) (by omega),cF (a:=Int.ofNat s.length) (by show ((a+(w.length-(aD w).2.1):Nat):Int)<=(s.length:Int);omega)]
 have adj:bz s ((a+(aD w).1:Nat):Int) ((a+(w.length-(aD w).2.1):Nat):Int)=(w.take (w.length-(aD w).2.1)).drop (aD w).1:=Pk he _ _ (by omega)
 rw[adj,cF (a:=((aD w).2.2:Int)) (b:=2) (by omega),cF (a:=16) (by omega)]
 have ag7:Nat.ble ((w.take (w.length-(aD w).2.1)).drop (aD w).1).length 999999=true:=bO (by simp;omega)
 rw[ag7,Int.toNat_natCast]
 show PL s a _ _ _=_
 unfold PL mY
 have hd:=TU (aD w).2.2 ((w.take (w.length-(aD w).2.1)).drop (aD w).1)
 have hdl:((w.take (w.length-(aD w).2.1)).drop (aD w).1).length<=w.length:=by simp;omega
 generalize kE (aD w).2.2 ((w.take (w.length-(aD w).2.1)).drop (aD w).1)=rr at hd ⊢
 rw[cR]
 by_cases h0:0<=rr.2.1
 .
  rw[if_pos h0,if_pos h0,i64_in (by omega) (by omega)]
  show outT _ _ _ _=outT _ _ _ _
  congr 1
 rw[if_neg h0,if_neg h0,pick2_eq]
 by_cases h4:rr.2.2=true
 .
  rw[if_pos h4,if_pos h4]
 rw[if_neg h4,if_neg h4]
 show outT _ _ _ _=outT _ _ _ _
 congr 1
theorem IC (l:List UInt8) (p:UInt8->Bool):l.take (l.takeWhile p).length=l.takeWhile p:=by
 have h:=List.takeWhile_append_dropWhile (p:=p) (l:=l)
 have h2:(l.takeWhile p++l.dropWhile p).take (l.takeWhile p).length=l.takeWhile p:=List.take_left
 rw[h] at h2;exact h2
theorem A6 (gv:Nat->List AV) (s:List UInt8) (hs:s.length<1000000) (at':Int) :
 ag (Xg gv) (c2 gv AV) anS (s.length+1) 56 [.str s,.int .i64 at'] aa.empty (λv _=>some v)=outT (dN s at').1 (dN s at').2.1 (dN s at').2.2.1 (dN s at').2.2.2:=by
 rw[Yp]
 unfold dN
 rw[aW]
 by_cases h0:at'<0
 .
  rw[if_pos h0,if_pos h0]
 rw[if_neg h0,if_neg h0,cR]
 by_cases h1:(s.length:Int)<=at'
 .
  rw[if_pos h1,if_pos h1]
 rw[if_neg h1,if_neg h1]
 obtain ⟨a,rfl⟩:∃a:Nat,at'=a:=⟨at'.toNat,by omega⟩
 have ha:a<s.length:=by omega
 rw[Int.toNat_natCast]
 have hg:aI s (a:Int)=some (s.getD a 0):=by
  rw[mq,List.getD_eq_getElem?_getD,List.getElem?_eq_getElem ha];rfl
 unfold IB
 rw[hg]
 generalize hc:s.getD a 0=c
 show pick2 (!eqI (aF c) 39) (pick2 (ltI (aF c) 48) _ (pick2 (ltI 57 (aF c)) _ (pick2 (eqI (aF c) 39) _ _))) (pick2 (eqI (aF c) 39) _ _)=_
 simp only[aG,aB,aW]
 by_cases h39:aF c=39
 .
  simp only[if_pos h39];rw[cF (by omega),kW (by omega),bO (show s.length<=999999 by omega)]
  rw[Int.toNat_natCast];rfl
 simp only[if_neg h39]
 by_cases hd:48<=aF c/\aF c<=57
 .
  rw[if_neg (by omega),if_neg (by omega),if_pos hd]
  have hl:(s.take a).length=a:=by simp;omega
  have Kw:=adi gv s hs a (s.length+1) (s.drop a) (s.take a) (s.length+1) (by simp) (by simp;omega)
  rw[hl] at Kw;rw[Kw]
  have adk:s.drop a=c::s.drop (a+1):=by
   rw[List.drop_eq_getElem_cons ha,<-hc,List.getD_eq_getElem?_getD,List.getElem?_eq_getElem ha];rfl
  have hw:(s.drop a).takeWhile (λc=>fB (aF c))≠[]:=by
   rw[adk,List.takeWhile_cons,if_pos (by unfold fB;simp;omega)];simp
  have hle:((s.drop a).takeWhile λc=>fB (aF c)).length<=(s.drop a).length:=by
   have:=List.IsPrefix.length_le (List.takeWhile_prefix (l:=s.drop a) (λc=>fB (aF c)));exact this
  exact TV hs (by simp at hle;omega) hw (IC _ _)
 rw[if_neg hd]
 by_cases h48:aF c<48
 .
  rw[if_pos h48]
 rw[if_neg h48,if_pos (by omega)]
noncomputable def PS (args:List AV):Option (Bool×List bA) :=
 match args with
 |[.str s,.int .i64 a]=>some (Nat.ble s.length 999999,[.val (.int .i64 (dN s a).1),.val (.int .i64 (dN s a).2.1),.val (.agg [.int .i64 (dN s a).2.2.1,.int .i64 (dN s a).2.2.2])])
 |_=>none
theorem adl (gv:Nat->List AV):aO (Xg gv) (aY (Xg gv) kn) 56 PS :=
 aJ (λargs=>aL rfl args) (adh gv) λargs rs hg=>by
  unfold PS at hg;split at hg
  .
   rename_i s a;simp only[Option.some.injEq,Prod.mk.injEq,Nat.ble_eq] at hg;obtain ⟨h3,rfl⟩:=hg;exact ⟨[.int .i64 (dN s a).1,.int .i64 (dN s a).2.1,.agg [.int .i64 (dN s a).2.2.1,.int .i64 (dN s a).2.2.2]],anS,s.length+1,A6 gv s (by omega) a,rfl,rfl⟩
  cases hg
end Go.Proofs.YtpaddkkfefgkfaaGreatDoor.lt
