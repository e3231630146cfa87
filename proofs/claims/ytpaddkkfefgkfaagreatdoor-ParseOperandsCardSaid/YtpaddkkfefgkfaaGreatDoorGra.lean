/- The setting of the laws on lines: what is known, package-level variables. Names that have a meaning of their own: contracts out of what is known. Literals: contracts of the small functions. Literals: digits. Literals: the contracts of digits and parts. Literals: a text's literal. Literals: Scan. -/
import Derived.Test.YtpaddkkfefgkfaaGreatDoorLyg
import Derived.Test.YtpaddkkfefgkfaaGreatDoorGzb
set_option linter.unusedVariables false
set_option linter.unusedSimpArgs false

namespace Go.Proofs.YtpaddkkfefgkfaaGreatDoor.lt
open Go.Tv Go.Ev
noncomputable section
def inl:FuncId->Bool:=λf => !(Nat.beq f 12||(Nat.beq f 23||(Nat.beq f 50||(Nat.beq f 13||Nat.beq f 51))))
def kn:bO:=rg.kT [(12,[]),(23,[])] rg.kR
theorem aQ {f:FuncId} (h:inl f=true) (args:List Value):kn f args=none:=by
 unfold inl at h
 simp only[Bool.not_eq_true',Bool.or_eq_false_iff] at h
 obtain ⟨h0,h1,h2,h3,h4⟩:=h
 have e:rg.vp f args [(12,[]),(23,[])]=false:=by
  unfold rg.vp;rw[h0];show rg.vp f args [(23,[])]=false;unfold rg.vp;rw[h1];rfl
 unfold kn rg.kT
 rw[e]
 show rg.kR f args=none
 unfold rg.kR
 rw[h2]
 show nm.R3 f args=none
 unfold nm.R3
 rw[h3,h4]
def KS (f:FuncId):List Tmp:=pick2 (Nat.beq f 183) [71,47] []
def Xg (gv:Nat->List AV):cY:={ P:=Tryz.prog,G:=8+1,gv:=gv,Z7:=KS,ar:=λt=>Nat.beq t 239||Nat.beq t 234 }
def bK:bG:=⟨.none,.none,[]⟩
def K0:RM:=λ_=>none
section
variable (gv:Nat->List AV)
def c0 (β:Type):aU β:=jU (Xg gv) K0 inl 200 β 20
theorem tM (β:Type):aV (Xg gv) (bu (Xg gv) kn) (c0 gv β):=fy (by intro id s g h;cases h) (λf h args=>aQ h args) 200 20 β
end
def pL:List Value:=[.string ⟨#[36,36]⟩,.string ⟨#[60,60]⟩,.string ⟨#[62,62]⟩,.string ⟨#[43]⟩,.string ⟨#[45]⟩,.string ⟨#[42]⟩,.string ⟨#[47]⟩,.string ⟨#[37]⟩,.string ⟨#[38]⟩,.string ⟨#[124]⟩,.string ⟨#[94]⟩,.string ⟨#[126]⟩,.string ⟨#[40]⟩,.string ⟨#[41]⟩,.string ⟨#[91]⟩,.string ⟨#[93]⟩,.string ⟨#[44]⟩,.string ⟨#[58]⟩,.string ⟨#[36]⟩]
def pM:List Value:=[.int .u64 1,.int .u64 10,.int .u64 100,.int .u64 1000,.int .u64 10000,.int .u64 100000,.int .u64 1000000,.int .u64 10000000,.int .u64 100000000,.int .u64 1000000000,.int .u64 10000000000,.int .u64 100000000000,.int .u64 1000000000000,.int .u64 10000000000000,.int .u64 100000000000000,.int .u64 1000000000000000,.int .u64 10000000000000000,.int .u64 100000000000000000,.int .u64 1000000000000000000,.int .u64 10000000000000000000]
def N3:List Value:=[.int .u8 0,.int .u8 1,.int .u8 28,.int .u8 2,.int .u8 29,.int .u8 14,.int .u8 24,.int .u8 3,.int .u8 30,.int .u8 22,.int .u8 20,.int .u8 15,.int .u8 25,.int .u8 17,.int .u8 4,.int .u8 8,.int .u8 31,.int .u8 27,.int .u8 13,.int .u8 23,.int .u8 21,.int .u8 19,.int .u8 16,.int .u8 7,.int .u8 26,.int .u8 12,.int .u8 18,.int .u8 6,.int .u8 11,.int .u8 5,.int .u8 10,.int .u8 9]
def pN:List Value:=[.int .u8 0,.int .u8 1,.int .u8 56,.int .u8 2,.int .u8 57,.int .u8 49,.int .u8 28,.int .u8 3,.int .u8 61,.int .u8 58,.int .u8 42,.int .u8 50,.int .u8 38,.int .u8 29,.int .u8 17,.int .u8 4,.int .u8 62,.int .u8 47,.int .u8 59,.int .u8 36,.int .u8 45,.int .u8 43,.int .u8 51,.int .u8 22,.int .u8 53,.int .u8 39,.int .u8 33,.int .u8 30,.int .u8 24,.int .u8 18,.int .u8 12,.int .u8 5,.int .u8 63,.int .u8 55,.int .u8 48,.int .u8 27,.int .u8 60,.int .u8 41,.int .u8 37,.int .u8 16,.int .u8 46,.int .u8 35,.int .u8 44,.int .u8 21,.int .u8 52,.int .u8 32,.int .u8 23,.int .u8 11,.int .u8 54,.int .u8 26,.int .u8 40,.int .u8 15,.int .u8 34,.int .u8 20,.int .u8 31,.int .u8 10,.int .u8 25,.int .u8 14,.int .u8 19,.int .u8 9,.int .u8 13,.int .u8 8,.int .u8 7,.int .u8 6]
def oH (g:Nat):List AV:=pick2 (Nat.beq g 0) (pL.map DF) (pick2 (Nat.beq g 3) (pM.map DF) (pick2 (Nat.beq g 7) (N3.map DF) (pick2 (Nat.beq g 8) (pN.map DF) (rg.gv g))))
end
end Go.Proofs.YtpaddkkfefgkfaaGreatDoor.lt

namespace Go.Proofs.YtpaddkkfefgkfaaGreatDoor.lt
open Go.Tv Go.Ev
noncomputable section
theorem Fj {S:Wo} {s:List UInt8} {m:List Value} (h:LV S [.str s] m):m=[.string ⟨s.toArray⟩]:=by
 obtain ⟨x,m',rfl,h1,h2⟩:=h.cons_inv
 rw[h1.ek,h2.dI]
theorem On {S:Wo} {n:Int} {m:List Value} (h:LV S [.int .i64 n] m):m=[.int .i64 n]:=by
 obtain ⟨x,m',rfl,h1,h2⟩:=h.cons_inv
 rw[h1.bH,h2.dI]
def gRP (args:List AV):Option (Bool×List aZ) :=
 match args with
 |[.str s]=>some (true,[.val (.agg [.int .i64 (rg.pR s).1,.int .i64 (rg.pR s).2.1]),.val (.bool (rg.pR s).2.2)])
 |_=>none
def gNP (args:List AV):Option (Bool×List aZ) :=
 match args with
 |[.str s]=>some (true,[.val (.int .i64 (nm.dz s).1),.val (.bool (nm.dz s).2)])
 |_=>none
def gNN (args:List AV):Option (Bool×List aZ) :=
 match args with
 |[.int .i64 op]=>some (true,[.val (.str (nm.bL op))])
 |_=>none
theorem abl (gv:Nat->List AV):aI (Xg gv) (bu (Xg gv) kn) 50 gRP :=
 yQ λargs rs hg=>by
  unfold gRP at hg;split at hg
  .
   rename_i s;simp only[Option.some.injEq,Prod.mk.injEq] at hg;obtain ⟨_,rfl⟩:=hg;refine ⟨_,_,.agg #[.int .i64 (rg.pR s).1,.int .i64 (rg.pR s).2.1],.bool (rg.pR s).2.2,rfl,rfl,rfl,λS=>?_,λS=>.bool _,λS aB hl=>?_⟩
   .
    exact .agg [.int .i64 (rg.pR s).1,.int .i64 (rg.pR s).2.1] [.int .i64 (rg.pR s).1,.int .i64 (rg.pR s).2.1] rfl (LV.cons (.int _ _) (LV.cons (.int _ _) LV.nil)).2
   rw[Fj hl];exact ⟨rfl,rfl,rfl⟩
  cases hg
theorem abm (gv:Nat->List AV):aI (Xg gv) (bu (Xg gv) kn) 51 gNP :=
 yQ λargs rs hg=>by
  unfold gNP at hg;split at hg
  .
   rename_i s;simp only[Option.some.injEq,Prod.mk.injEq] at hg;obtain ⟨_,rfl⟩:=hg;refine ⟨_,_,.int .i64 (nm.dz s).1,.bool (nm.dz s).2,rfl,rfl,rfl,λS=>.int _ _,λS=>.bool _,λS aB hl=>?_⟩
   rw[Fj hl];exact ⟨rfl,rfl,rfl⟩
  cases hg
theorem abn (gv:Nat->List AV):aI (Xg gv) (bu (Xg gv) kn) 13 gNN :=
 Bk λargs rs hg=>by
  unfold gNN at hg;split at hg
  .
   rename_i op;simp only[Option.some.injEq,Prod.mk.injEq] at hg;obtain ⟨_,rfl⟩:=hg;refine ⟨_,.string ⟨(nm.bL op).toArray⟩,rfl,rfl,λS=>.str _,rfl,λS aB hl=>?_⟩
   rw[On hl];exact ⟨rfl,rfl⟩
  cases hg
def R1:List kH:=[(50,[none],gRP),(51,[none],gNP),(13,[none],gNN)]
theorem UF (gv:Nat->List AV):cg (Xg gv) (bu (Xg gv) kn) R1:=.cons (abl gv) (.cons (abm gv) (.cons (abn gv) .nil))
def r1 (gv:Nat->List AV) (β:Type):aU β:=jU (Xg gv) (KQ R1) inl 200 β 20
theorem abo (gv:Nat->List AV) (β:Type):aV (Xg gv) (bu (Xg gv) kn) (r1 gv β):=fy (UF gv) (λf h args=>aQ h args) 200 20 β
def Oo:List (List UInt8):=["db","dw","dd","dq","resb","resw","resd","resq","equ","times","align","org","struc","endstruc","dcx","byte","word","dword","qword","oword","yword","short","near","strict","rel"].map λs=>s.toUTF8.data.toList
def oneT' (s:List UInt8):List (List UInt8)->Option AV
 |[]=>some (.bool false)
 |[w]=>pick2 (decide (s=w)) (some (.bool true)) (some (.bool false))
 |w::v::l=>pick2 (decide (s=w)) (pick2 (decide (s=w)) (some (.bool true)) (some (.bool false))) (oneT' s (v::l))
def pF (s:List UInt8):Bool:=(rg.pR s).2.2||((nm.dz s).2||decide (s∈Oo))
theorem oneT'_eq (s:List UInt8):∀l,oneT' s l=some (.bool (decide (s∈l)))
 |[]=>rfl
 |
  [w]=>by
  unfold oneT';by_cases h:s=w
  .
   rw[decide_eq_true h,decide_eq_true (List.mem_cons.2 (.inl h))]
  rw[decide_eq_false h,decide_eq_false (by simp[h])]
 |
  w::v::l=>by
  unfold oneT';rw[oneT'_eq s (v::l)];by_cases h:s=w
  .
   rw[decide_eq_true h,decide_eq_true (List.mem_cons.2 (.inl h))]
  rw[decide_eq_false h];show some (AV.bool (decide (s∈v::l)))=_;have:(s∈w::v::l)↔s∈v::l:=by simp[h]
  rw[decide_eq_decide.2 this]
set_option maxRecDepth 100000 in
theorem Sc (gv:Nat->List AV) (s:List UInt8):ag (Xg gv) (r1 gv AV) bK 20 16 [.str s] aa.empty (λv _=>some v) =
 pick2 (rg.pR s).2.2 (some (.bool true)) (pick2 (nm.dz s).2 (some (.bool true)) (oneT' s Oo)):=by kernel_rfl
def WY (args:List AV):Option (Bool×List aZ) :=
 match args with
 |[.str s]=>some (true,[.val (.bool (pF s))])
 |_=>none
theorem WZ (gv:Nat->List AV):aI (Xg gv) (bu (Xg gv) kn) 16 WY :=
 aG (λargs=>aQ rfl args) (abo gv) λargs rs hg=>by
  unfold WY at hg;split at hg
  .
   rename_i s;simp only[Option.some.injEq,Prod.mk.injEq] at hg;obtain ⟨_,rfl⟩:=hg;refine ⟨[.bool (pF s)],bK,20,?_,rfl,rfl⟩;rw[Sc,oneT'_eq];unfold pF;cases (rg.pR s).2.2<;>cases (nm.dz s).2<;>rfl
  cases hg
end
end Go.Proofs.YtpaddkkfefgkfaaGreatDoor.lt

namespace Go.Proofs.YtpaddkkfefgkfaaGreatDoor.lt
open Go.Tv Go.Ev
set_option maxRecDepth 100000
noncomputable section
def eM (n:Int):Int:=if 48<=n/\n<=57 then n-48 else if 97<=n/\n<=102 then n-87 else if 65<=n/\n<=70 then n-55 else -1
def dM (n:Int):Bool:=decide (48<=n/\n<=57\/97<=n/\n<=122\/65<=n/\n<=90\/n=95)
theorem aaJ (gv:Nat->List AV) (n:Int):ag (Xg gv) (c0 gv AV) bK 5 96 [.int .u8 n] aa.empty (λv _=>some v)=some (.bool (dM n)):=by
 have h:ag (Xg gv) (c0 gv AV) bK 5 96 [.int .u8 n] aa.empty (λv _=>some v)=qY n 48 57 (some (.bool true)) (qY n 97 122 (some (.bool true)) (qY n 65 90 (some (.bool true)) (some (.bool (eqI n 95))))):=by kernel_rfl
 rw[h]
 simp only[yJ,eqI_spec]
 unfold dM
 repeat' split
 all_goals congr 2
 all_goals first|(symm;rw[decide_eq_true_eq];omega)|(rw[Bool.eq_iff_iff,beq_iff_eq,decide_eq_true_eq];omega)
theorem aaK (gv:Nat->List AV) (n:Int):ag (Xg gv) (c0 gv AV) bK 5 143 [.int .u8 n] aa.empty (λv _=>some v)=some (.int .i64 (eM n)):=by
 have h:ag (Xg gv) (c0 gv AV) bK 5 143 [.int .u8 n] aa.empty (λv _=>some v) =
  qY n 48 57 (some (.int .i64 (IntKind.wrap .i64 (IntKind.wrap .u8 (n-48))))) (qY n 97 102 (some (.int .i64 (IntKind.wrap .i64 (IntKind.wrap .i64 (IntKind.wrap .u8 (n-97))+10)))) (qY n 65 70 (some (.int .i64 (IntKind.wrap .i64 (IntKind.wrap .i64 (IntKind.wrap .u8 (n-65))+10)))) (some (.int .i64 (-1))))):=by kernel_rfl
 rw[h]
 simp only[yJ]
 unfold eM
 split
 .
  rw[u8_in (by omega) (by omega),i64_in (by omega) (by omega)]
 split
 .
  rw[u8_in (by omega) (by omega),i64_in (n:=n-97) (by omega) (by omega),i64_in (by omega) (by omega)]
  congr 2;omega
 split
 .
  rw[u8_in (by omega) (by omega),i64_in (n:=n-65) (by omega) (by omega),i64_in (by omega) (by omega)]
  congr 2;omega
 rfl
noncomputable def N4 (args:List AV):Option (Bool×List aZ) :=
 match args with
 |[.int .u8 n]=>some (true,[.val (.bool (dM n))])
 |_=>none
noncomputable def WC (args:List AV):Option (Bool×List aZ) :=
 match args with
 |[.int .u8 n]=>some (true,[.val (.int .i64 (eM n))])
 |_=>none
theorem aaL (gv:Nat->List AV):aI (Xg gv) (bu (Xg gv) kn) 96 N4 :=
 aG (λargs=>aQ rfl args) (tM gv) λargs rs hg=>by
  unfold N4 at hg;split at hg
  .
   rename_i n;simp only[Option.some.injEq,Prod.mk.injEq] at hg;obtain ⟨h1,rfl⟩:=hg;exact ⟨[.bool (dM n)],bK,5,aaJ gv n,rfl,rfl⟩
  cases hg
theorem aaM (gv:Nat->List AV):aI (Xg gv) (bu (Xg gv) kn) 143 WC :=
 aG (λargs=>aQ rfl args) (tM gv) λargs rs hg=>by
  unfold WC at hg;split at hg
  .
   rename_i n;simp only[Option.some.injEq,Prod.mk.injEq] at hg;obtain ⟨h1,rfl⟩:=hg;exact ⟨[.int .i64 (eM n)],bK,5,aaK gv n,rfl,rfl⟩
  cases hg
noncomputable def Da (x y:Int):AV :=
 let w:=IntKind.wrap .u64
 let x0:Int:=w ↑(BitVec.toNat (BitVec.ofInt 64 x &&& BitVec.ofInt 64 4294967295))
 let y0:Int:=w ↑(BitVec.toNat (BitVec.ofInt 64 y &&& BitVec.ofInt 64 4294967295))
 let x1:=Int.fdiv x 4294967296
 let y1:=Int.fdiv y 4294967296
 let t:=w (w (x1*y0)+Int.fdiv (w (x0*y0)) 4294967296)
 .bZ [.int .u64 (w (w (w (x1*y1)+Int.fdiv t 4294967296)+Int.fdiv (w (w ↑(BitVec.toNat (BitVec.ofInt 64 t &&& BitVec.ofInt 64 4294967295))+w (x0*y1))) 4294967296)),.int .u64 (w (x*y))]
theorem WD (gv:Nat->List AV) (x y:Int):ag (Xg gv) (c0 gv AV) bK 5 144 [.int .u64 x,.int .u64 y] aa.empty (λv _=>some v)=some (Da x y):=by kernel_rfl
theorem WE {a:Int}:Int.fdiv a 4294967296=a/4294967296:=Int.fdiv_eq_ediv_of_nonneg _ (by omega)
theorem mul_eq {x y:Int} (h0:0<=x) (h1:x<18446744073709551616) (h2:0<=y) (h3:y<4294967296):Da x y = .bZ [.int .u64 (x*y/18446744073709551616),.int .u64 (x*y%18446744073709551616)]:=by
 have low:∀{a:Int},0<=a->a<18446744073709551616->((BitVec.ofInt 64 a &&& BitVec.ofInt 64 4294967295).toNat:Int)=a%4294967296:=λ{a} ha hb=>Jd ha hb 32 (by omega)
 have hx0:IntKind.wrap .u64 ↑(BitVec.toNat (BitVec.ofInt 64 x &&& BitVec.ofInt 64 4294967295))=x%4294967296:=by rw[low h0 h1,u64_in (by omega) (by omega)]
 have hy0:IntKind.wrap .u64 ↑(BitVec.toNat (BitVec.ofInt 64 y &&& BitVec.ofInt 64 4294967295))=y:=by rw[low h2 (by omega),u64_in (by omega) (by omega)];omega
 have hy1:y/4294967296=0:=by omega
 unfold Da
 simp only[hx0,hy0,WE,hy1,Int.mul_zero]
 obtain ⟨a,ha⟩:∃a,x/4294967296*y=a:=⟨_,rfl⟩
 obtain ⟨b,hb⟩:∃b,x%4294967296*y=b:=⟨_,rfl⟩
 have hxy:x*y=a*4294967296+b:=by
  rw[<-ha,<-hb];have:=Int.mul_ediv_add_emod x 4294967296
  calc x*y=(4294967296*(x/4294967296)+x%4294967296)*y:=by rw[this]
   _=_:=by rw[Int.add_mul,Int.mul_assoc,Int.mul_comm 4294967296]
 have ha0:0<=a:=by rw[<-ha];exact Int.mul_nonneg (by omega) h2
 have hb0:0<=b:=by rw[<-hb];exact Int.mul_nonneg (by omega) h2
 have ha1:a<=4294967295*4294967295:=by
  rw[<-ha];exact Int.le_trans (Int.mul_le_mul_of_nonneg_right (show x/4294967296<=4294967295 by omega) h2) (Int.mul_le_mul_of_nonneg_left (show y<=4294967295 by omega) (by omega))
 have J2:b<=4294967295*4294967295:=by
  rw[<-hb];exact Int.le_trans (Int.mul_le_mul_of_nonneg_right (show x%4294967296<=4294967295 by omega) h2) (Int.mul_le_mul_of_nonneg_left (show y<=4294967295 by omega) (by omega))
 rw[ha,hb,hxy]
 have w1:IntKind.wrap .u64 b=b:=u64_in hb0 (by omega)
 have w2:IntKind.wrap .u64 a=a:=u64_in ha0 (by omega)
 have w3:IntKind.wrap .u64 (a+b/4294967296)=a+b/4294967296:=u64_in (by omega) (by omega)
 have w4:IntKind.wrap .u64 0=0:=u64_in (by omega) (by omega)
 rw[w1,w2,w3,low (by omega) (by omega),w4,Int.zero_add,Int.add_zero]
 have w5:IntKind.wrap .u64 ((a+b/4294967296)%4294967296)=(a+b/4294967296)%4294967296:=u64_in (by omega) (by omega)
 have w6:IntKind.wrap .u64 ((a+b/4294967296)/4294967296)=(a+b/4294967296)/4294967296:=u64_in (by omega) (by omega)
 rw[w5,w5,w6]
 have w7:(a+b/4294967296)%4294967296/4294967296=0:=by omega
 rw[w7,Int.add_zero,w6,tJ]
 have e1:(a+b/4294967296)/4294967296=(a*4294967296+b)/18446744073709551616:=by omega
 rw[e1]
noncomputable def WG (args:List AV):Option (Bool×List aZ) :=
 match args with
 |[.int .u64 x,.int .u64 y]=>some (!ltI x 0&&ltI x 18446744073709551616 && !ltI y 0&&ltI y 4294967296,[.val (.int .u64 (x*y/18446744073709551616)),.val (.int .u64 (x*y%18446744073709551616))])
 |_=>none
theorem aaN (gv:Nat->List AV):aI (Xg gv) (bu (Xg gv) kn) 144 WG :=
 aG (λargs=>aQ rfl args) (tM gv) λargs rs hg=>by
  unfold WG at hg;split at hg
  .
   rename_i x y;simp only[Option.some.injEq,Prod.mk.injEq,Bool.and_eq_true,ltI_spec,Bool.not_eq_true',decide_eq_false_iff_not,decide_eq_true_eq] at hg;obtain ⟨h1,rfl⟩:=hg;exact ⟨[.int .u64 (x*y/18446744073709551616),.int .u64 (x*y%18446744073709551616)],bK,5,(WD gv x y).trans (congrArg some (mul_eq (x:=x) (y:=y) (by omega) (by omega) (by omega) (by omega))),rfl,rfl⟩
  cases hg
end
end Go.Proofs.YtpaddkkfefgkfaaGreatDoor.lt

namespace Go.Proofs.YtpaddkkfefgkfaaGreatDoor.lt
open Go.Tv Go.Ev
set_option maxRecDepth 100000
noncomputable def L1:List kH:=[(96,[none],N4),(143,[none],WC),(144,[none,none],WG)]
theorem Ux (gv:Nat->List AV):cg (Xg gv) (bu (Xg gv) kn) L1:=.cons (aaL gv) (.cons (aaM gv) (.cons (aaN gv) .nil))
noncomputable def c1 (gv:Nat->List AV) (β:Type):aU β:=jU (Xg gv) (KQ L1) inl 200 β 20
theorem Jh (gv:Nat->List AV) (β:Type):aV (Xg gv) (bu (Xg gv) kn) (c1 gv β):=fy (Ux gv) (λf h args=>aQ h args) 200 20 β
noncomputable def anD:bG:=⟨.none,.node (some [0,1,7,8,9]) .none .none,[]⟩
noncomputable def stD (d:List UInt8) (b n i:Int) (Gc:Bool):ck:=fY 83 [(0,.str d),(1,.int .i64 b),(7,.int .u64 n),(8,.int .i64 i),(9,.bool Gc)]
noncomputable def jD (gv:Nat->List AV) (d:List UInt8) (b:Int) (r m:Nat) (n i:Int) (Gc:Bool):Option AV:=aav (Xg gv) (c1 gv AV) anD r 98 [true] 0 (λv _=>some v) m (stD d b n i Gc) aa.empty
def sj (n i:Int) (Gc:Bool):Option AV:=some (.bZ [.int .u64 n,.int .i64 i,.bool Gc])
noncomputable def Fa (b n v:Int):Int:=Int.ofNat ((Int.toNat (n*IntKind.wrap .u64 b%18446744073709551616)+Int.toNat (IntKind.wrap .u64 v)+0)%Extern.MathBitsCarry.m64)
noncomputable def KW (b n v:Int):Int:=Int.ofNat ((Int.toNat (n*IntKind.wrap .u64 b%18446744073709551616)+Int.toNat (IntKind.wrap .u64 v)+0)/Extern.MathBitsCarry.m64)
noncomputable def Fb (d:List UInt8) (b n i:Int) (Gc:Bool) (go:Int->Int->Bool->Option AV):Option AV :=
 pick2 (eqI i ↑d.length)
  (pick2 (eqI i 0) (sj 0 0 false) (sj n (-1) Gc))
  (Option.rec (motive:=λ_=>Option AV) none (λc=>pick2 (eqI (aD c) 95)
   (pick2 (eqI i 0) (sj 0 i false) (pick2 (eqI i (IntKind.wrap .i64 (↑d.length-1))) (sj 0 i false)
    (Option.rec (motive:=λ_=>Option AV) none (λc=>pick2 (eqI (aD c) 95) (sj 0 i false) (go n (IntKind.wrap .i64 (i+1)) Gc)) (aS d (IntKind.wrap .i64 (i-1))))))
   (Option.rec (motive:=λ_=>Option AV) none (λc=>pick2 (ltI (eM (aD c)) 0) (sj 0 i false) (pick2 (!ltI (eM (aD c)) b) (sj 0 i false)
    (pick2 (!ltI n 0&&ltI n 18446744073709551616 && !ltI (IntKind.wrap .u64 b) 0&&ltI (IntKind.wrap .u64 b) 4294967296)
     (pick2 Gc (go (Fa b n (eM (aD c))) (IntKind.wrap .i64 (i+1)) true)
      (pick2 (!eqI (n*IntKind.wrap .u64 b/18446744073709551616) 0) (go (Fa b n (eM (aD c))) (IntKind.wrap .i64 (i+1)) true)
       (go (Fa b n (eM (aD c))) (IntKind.wrap .i64 (i+1)) (!eqI (KW b n (eM (aD c))) 0))))
     none))) (aS d i))) (aS d i))
theorem Uy (gv:Nat->List AV) (d:List UInt8) (b:Int) (r m:Nat) (n i:Int) (Gc:Bool):jD gv d b r (m+1) n i Gc=Fb d b n i Gc (jD gv d b r m):=by kernel_rfl
theorem WH (gv:Nat->List AV) (d:List UInt8) (b:Int) (m:Nat):ag (Xg gv) (c1 gv AV) anD m 98 [.str d,.int .i64 b] aa.empty (λv _=>some v)=Fb d b 0 0 false (jD gv d b m m):=by kernel_rfl
def cU (b:Int):Bool->Bool->List UInt8->Nat->Option Nat
 |first,_,[],_=>if first then some 0 else none
 |first,prev,c::r,i=>if aD c=95 then (if first=true\/r=[]\/prev=true then some i else cU b false true r (i+1)) else if eM (aD c)<0\/b<=eM (aD c) then some i else cU b false false r (i+1)
def mD (b:Nat):List UInt8->Nat->Nat
 |[],N=>N
 |c::r,N=>if aD c=95 then mD b r N else mD b r (N*b+(eM (aD c)).toNat)
def kA (b:Nat) (d:List UInt8):Int×Int×Bool :=
 match cU b true false d 0 with
 |some i=>(0,(i:Int),false)
 |none=>(((mD b d 0%18446744073709551616:Nat):Int),-1,decide (18446744073709551616<=mD b d 0))
theorem Fc {b N v:Nat} (hb:b<=16) (hv:v<16):Fa b ((N%18446744073709551616:Nat):Int) v=(((N*b+v)%18446744073709551616:Nat):Int)/\((N:Int)<18446744073709551616->(((N%18446744073709551616:Nat):Int)*IntKind.wrap .u64 b/18446744073709551616=0↔N*b<18446744073709551616)/\(N*b<18446744073709551616->(KW b ((N%18446744073709551616:Nat):Int) v=0↔N*b+v<18446744073709551616))):=by
 have wb:IntKind.wrap .u64 (b:Int)=b:=u64_in (by omega) (by omega)
 have wv:IntKind.wrap .u64 (v:Int)=v:=u64_in (by omega) (by omega)
 have e1:((N%18446744073709551616:Nat):Int)*(b:Int)%18446744073709551616=((N%18446744073709551616*b%18446744073709551616:Nat):Int):=by
  rw[Int.natCast_emod (N%18446744073709551616*b),Int.natCast_mul];rfl
 have hm:Extern.MathBitsCarry.m64=18446744073709551616:=by kernel_rfl
 unfold Fa KW
 rw[wb,wv,e1,hm]
 simp only[Int.toNat_natCast,Nat.add_zero]
 refine ⟨?_,λhN=>?_⟩
 .
  show ((_:Nat):Int)=_
  congr 1
  rw[Nat.add_mod (N*b),Nat.mul_mod N b,Nat.add_mod (N%18446744073709551616*b%18446744073709551616),Nat.mod_mod,Nat.mul_mod (N%18446744073709551616) b,Nat.mod_mod]
 have hN':N%18446744073709551616=N:=Nat.mod_eq_of_lt (by omega)
 rw[hN']
 generalize hP:N*b=P
 refine ⟨?_,λhl=>?_⟩
 .
  have:((N:Int)*(b:Int))=(P:Int):=by rw[<-hP,Int.natCast_mul]
  rw[this];omega
 show ((((P%18446744073709551616+v)/18446744073709551616:Nat)):Int)=0↔_
 omega
theorem N5 (n:Int):eM n<16:=by unfold eM;repeat' split<;>omega
theorem aaO (gv:Nat->List AV) {b:Nat} (Aa:2<=b) (hb:b<=16) (d:List UInt8) (hd:d.length<1000000) (r:Nat):∀(rest pre:List UInt8) (m:Nat) (N:Nat) (prev:Bool),d=pre++rest->rest.length<m->pre≠[]->(prev=true↔∃q,pre=q++[95]) ->
 jD gv d b r m ((N%18446744073709551616:Nat):Int) pre.length (decide (18446744073709551616<=N)) =
  match cU b false prev rest pre.length with
  |some i=>sj 0 i false
  |none=>sj ((mD b rest N%18446744073709551616:Nat):Int) (-1) (decide (18446744073709551616<=mD b rest N)):=by
 intro rest
 induction rest with
 |
  nil =>
  intro pre m N prev he hm hne N6;obtain ⟨m,rfl⟩:∃m',m=m'+1:=⟨m-1,by simp at hm;omega⟩
  rw[Uy];unfold Fb;have hl:d.length=pre.length:=by rw[he];simp
  have hp:0<pre.length:=List.length_pos_iff.2 hne;rw[Ah (a:=(pre.length:Int)) (b:=(d.length:Int)) (by omega),wM (a:=(pre.length:Int)) (b:=0) (by omega)]
  rfl
 |
  cons c rest ih =>
  intro pre m N prev he hm hne N6;obtain ⟨m,rfl⟩:∃m',m=m'+1:=⟨m-1,by simp at hm;omega⟩
  have hl:d.length=pre.length+(rest.length+1):=by rw[he];simp
  have hp:0<pre.length:=List.length_pos_iff.2 hne;have hg:aS d (pre.length:Int)=some c:=by rw[he];exact eo pre rest c
  have hnext:IntKind.wrap .i64 ((pre.length:Int)+1)=((pre++[c]).length:Int):=by rw[i64_in (by omega) (by omega)];simp
  have he':d=(pre++[c])++rest:=by rw[he];simp
  have hm':rest.length<m:=by simp at hm;omega
  rw[Uy];unfold Fb;rw[wM (a:=(pre.length:Int)) (b:=(d.length:Int)) (by omega),wM (a:=(pre.length:Int)) (b:=0) (by omega),hg,hnext]
  show pick2 (eqI (aD c) 95) _ _=_;by_cases hc:aD c=95
  .
   rw[Ah hc];show pick2 (eqI (pre.length:Int) (IntKind.wrap .i64 (↑d.length-1))) _ _=_;rw[i64_in (by omega) (by omega)]
   have hw:cU b false prev (c::rest) pre.length=if rest=[]\/prev=true then some pre.length else cU b false true rest (pre.length+1):=by
    rw[cU,if_pos hc];simp
   rw[hw];by_cases hr:rest=[]
   .
    rw[Ah (by rw[hl,hr];simp),if_pos (.inl hr)]
   have hrl:0<rest.length:=List.length_pos_iff.2 hr;rw[wM (by omega)]
   obtain ⟨q,x,hq⟩:∃q x,pre=q++[x]:=⟨pre.dropLast,pre.getLast hne,(List.dropLast_concat_getLast hne).symm⟩
   have hgx:aS d (IntKind.wrap .i64 ((pre.length:Int)-1))=some x:=by
    rw[i64_in (by omega) (by omega)]
    have:(pre.length:Int)-1=(q.length:Int):=by rw[hq];simp
    rw[this,he,hq,List.append_assoc];exact eo q (c::rest) x
   rw[hgx];show pick2 (eqI (aD x) 95) _ _=_;by_cases hx:aD x=95
   .
    have:prev=true:=N6.2 ⟨q,by rw[hq];congr 2;exact C7 (a:=x) (b:=95) hx⟩
    rw[Ah hx,if_pos (.inr this)]
   have hpf:prev=false:=by
    cases hpv:prev with
    |false=>rfl
    |
     true =>
     obtain ⟨q',hq'⟩:=N6.1 hpv;rw[hq] at hq';have:=(List.append_inj' hq' rfl).2;simp at this;exact absurd (by rw[this];rfl) hx
   rw[wM hx,if_neg (by simp[hr,hpf])]
   have hcc:c=95:=C7 (a:=c) (b:=95) hc;have:=ih (pre++[c]) m N true he' hm' (by simp) ⟨λ_=>⟨pre,by rw[hcc]⟩,λ_=>rfl⟩
   rw[List.length_append,List.length_singleton] at this;show jD gv d b r m _ ((pre++[c]).length:Int) _=_;rw[List.length_append,List.length_singleton,this];have hv:mD b (c::rest) N=mD b rest N:=by rw[mD,if_pos hc]
   rw[hv]
  rw[wM hc];show pick2 (ltI (eM (aD c)) 0) _ _=_
  have hw:cU b false prev (c::rest) pre.length=if eM (aD c)<0\/(b:Int)<=eM (aD c) then some pre.length else cU b false false rest (pre.length+1):=by
   rw[cU,if_neg hc]
  rw[hw];by_cases h0:eM (aD c)<0
  .
   rw[kG h0,if_pos (.inl h0)]
  rw[cA (by omega)]
  show pick2 (!ltI (eM (aD c)) b) _ _=_;by_cases h1:(b:Int)<=eM (aD c)
  .
   rw[cA h1,if_pos (.inr h1)];rfl
  rw[kG (by omega),if_neg (by omega)]
  have wb:IntKind.wrap .u64 (b:Int)=b:=u64_in (by omega) (by omega)
  have hcond:(!ltI ((N%18446744073709551616:Nat):Int) 0&&ltI ((N%18446744073709551616:Nat):Int) 18446744073709551616 && !ltI (IntKind.wrap .u64 (b:Int)) 0&&ltI (IntKind.wrap .u64 (b:Int)) 4294967296)=true:=by
   rw[wb,cA (by omega),kG (by omega),cA (by omega),kG (by omega)];rfl
  obtain ⟨v,hv⟩:∃v:Nat,eM (aD c)=v:=⟨(eM (aD c)).toNat,by omega⟩
  have WI:v<16:=by have:=N5 (aD c);omega
  obtain ⟨s1,s2⟩:=Fc (N:=N) hb WI;have hval:mD b (c::rest) N=mD b rest (N*b+v):=by rw[mD,if_neg hc,hv];rfl
  have goal:∀Gc,Gc=decide (18446744073709551616<=N*b+v)->jD gv d b r m (Fa b ((N%18446744073709551616:Nat):Int) (eM (aD c))) ((pre++[c]).length:Int) Gc =
   match cU b false false rest (pre.length+1) with
   |some i=>sj 0 i false
   |none=>sj ((mD b (c::rest) N%18446744073709551616:Nat):Int) (-1) (decide (18446744073709551616<=mD b (c::rest) N)):=λGc DS=>by
   have hno:¬ ∃q,pre++[c]=q++[95]:=λ⟨q,hq⟩=>by
    have:=(List.append_inj' hq rfl).2;simp at this;exact hc (by rw[this];rfl)
   have:=ih (pre++[c]) m (N*b+v) false he' hm' (by simp) ⟨λh=>(by cases h),λh=>absurd h hno⟩
   rw[hv,s1,DS,this,hval];simp
  show pick2 (_&&_&&_&&_) _ _=_;rw[hcond];show pick2 (decide (18446744073709551616<=N)) _ _=_;by_cases hN:18446744073709551616<=N
  .
   rw[decide_eq_true hN];have:N<=N*b:=Nat.le_mul_of_pos_right N (by omega)
   exact goal true (by rw[decide_eq_true];omega)
  rw[decide_eq_false hN];obtain ⟨t1,t2⟩:=s2 (by omega)
  show pick2 (!eqI _ 0) _ _=_;by_cases hP:N*b<18446744073709551616
  .
   rw[Ah (t1.2 hP)];refine goal _ ?_;rw[hv];by_cases hS:N*b+v<18446744073709551616
   .
    rw[Ah ((t2 hP).2 hS),decide_eq_false (by omega)];rfl
   rw[wM (λh=>hS ((t2 hP).1 h)),decide_eq_true (by omega)];rfl
  rw[wM (λh=>hP (t1.1 h))]
  exact goal true (by rw[decide_eq_true];omega)
end Go.Proofs.YtpaddkkfefgkfaaGreatDoor.lt

namespace Go.Proofs.YtpaddkkfefgkfaaGreatDoor.lt
open Go.Tv Go.Ev
set_option maxRecDepth 100000
theorem aeY (gv:Nat->List AV) {b:Nat} (Aa:2<=b) (hb:b<=16) (d:List UInt8) (hd:d.length<1000000) :
 ag (Xg gv) (c1 gv AV) anD (d.length+1) 98 [.str d,.int .i64 b] aa.empty (λv _=>some v)=sj (kA b d).1 (kA b d).2.1 (kA b d).2.2:=by
 rw[WH]
 cases d with
 |nil=>rfl
 |
  cons c rest =>
  have hl:((c::rest).length:Int)=rest.length+1:=by simp
  unfold Fb;rw[wM (a:=0) (b:=((c::rest).length:Int)) (by omega),show aS (c::rest) 0=some c from rfl]
  show pick2 (eqI (aD c) 95) _ _=_;by_cases hc:aD c=95
  .
   have hw:cU b true false (c::rest) 0=some 0:=by rw[cU,if_pos hc,if_pos (.inl rfl)]
   rw[Ah hc];unfold kA;rw[hw];rfl
  rw[wM hc];show pick2 (ltI (eM (aD c)) 0) _ _=_
  have hw:cU b true false (c::rest) 0=if eM (aD c)<0\/(b:Int)<=eM (aD c) then some 0 else cU b false false rest 1:=by
   rw[cU,if_neg hc]
  by_cases h0:eM (aD c)<0
  .
   rw[kG h0];unfold kA;rw[hw,if_pos (.inl h0)];rfl
  rw[cA (by omega)]
  show pick2 (!ltI (eM (aD c)) b) _ _=_;by_cases h1:(b:Int)<=eM (aD c)
  .
   rw[cA h1];unfold kA;rw[hw,if_pos (.inr h1)];rfl
  rw[kG (by omega)]
  have wb:IntKind.wrap .u64 (b:Int)=b:=u64_in (by omega) (by omega)
  have hcond:(!ltI 0 0&&ltI 0 18446744073709551616 && !ltI (IntKind.wrap .u64 (b:Int)) 0&&ltI (IntKind.wrap .u64 (b:Int)) 4294967296)=true:=by
   rw[wb,cA (a:=0) (by omega),kG (by omega),cA (by omega),kG (by omega)];rfl
  obtain ⟨v,hv⟩:∃v:Nat,eM (aD c)=v:=⟨(eM (aD c)).toNat,by omega⟩
  have WI:v<16:=by have:=N5 (aD c);omega
  obtain ⟨s1,s2⟩:=Fc (N:=0) hb WI;show pick2 (_&&_&&_&&_) (pick2 (!eqI (0*IntKind.wrap .u64 (b:Int)/18446744073709551616) 0) _ (jD gv (c::rest) b _ _ (Fa b 0 (eM (aD c))) (IntKind.wrap .i64 (0+1)) (!eqI (KW b 0 (eM (aD c))) 0))) none=_;rw[hcond,Int.zero_mul];show jD gv (c::rest) b _ _ (Fa b 0 (eM (aD c))) (IntKind.wrap .i64 (0+1)) (!eqI (KW b 0 (eM (aD c))) 0)=_;have e0:((0%18446744073709551616:Nat):Int)=0:=by simp
  rw[e0,Nat.zero_mul,Nat.zero_add] at s1;rw[e0,Nat.zero_mul,Nat.zero_add] at s2;have aeZ:KW b 0 v=0:=((s2 (by omega)).2 (by omega)).2 (by omega)
  rw[hv,s1,aeZ]
  have hno:¬ ∃q:List UInt8,[c]=q++[95]:=λ⟨q,hq⟩=>by
   have:=(List.append_inj' (s₁:=[]) hq rfl).2;simp at this;exact hc (by rw[this];rfl)
  have:=aaO gv Aa hb (c::rest) hd ((c::rest).length+1) rest [c] ((c::rest).length+1) v false rfl (by simp;omega) (by simp) ⟨λh=>(by cases h),λh=>absurd h hno⟩
  have e1:IntKind.wrap .i64 (0+1)=(([c]:List UInt8).length:Int):=by rw[i64_in (by omega) (by omega)];rfl
  have e2:(!eqI 0 0)=decide (18446744073709551616<=v):=by rw[decide_eq_false (by omega)];rfl
  rw[e1,e2,this];unfold kA;rw[hw,if_neg (by omega)]
  have hval:mD b (c::rest) 0=mD b rest v:=by rw[mD,if_neg hc,hv];simp
  rw[hval];show (match cU (b:Int) false false rest 1 with|some i=>_|none=>_)=_
  cases cU (b:Int) false false rest 1<;>rfl
noncomputable def Db (args:List AV):Option (Bool×List aZ) :=
 match args with
 |[.str d,.int .i64 b]=>some (!ltI b 2 && !ltI 16 b&&Nat.ble d.length 999999,[.val (.int .u64 (kA b.toNat d).1),.val (.int .i64 (kA b.toNat d).2.1),.val (.bool (kA b.toNat d).2.2)])
 |_=>none
theorem aaP (gv:Nat->List AV):aI (Xg gv) (bu (Xg gv) kn) 98 Db :=
 aG (λargs=>aQ rfl args) (Jh gv) λargs rs hg=>by
  unfold Db at hg;split at hg
  .
   rename_i d b;simp only[Option.some.injEq,Prod.mk.injEq,Bool.and_eq_true,ltI_spec,Bool.not_eq_true',decide_eq_false_iff_not,Nat.ble_eq] at hg;obtain ⟨⟨⟨h1,h2⟩,h3⟩,rfl⟩:=hg;obtain ⟨n,rfl⟩:∃n:Nat,b=n:=⟨b.toNat,by omega⟩
   rw[Int.toNat_natCast];exact ⟨[.int .u64 (kA n d).1,.int .i64 (kA n d).2.1,.bool (kA n d).2.2],anD,d.length+1,aeY gv (by omega) (by omega) d (by omega),rfl,rfl⟩
  cases hg
def tO (c:UInt8):Int:=IntKind.wrap .u8 ↑(BitVec.toNat (BitVec.ofInt 8 (aD c) ||| BitVec.ofInt 8 32))
def aL (w:List UInt8):Nat×Nat×Nat :=
 let second:Int:=if 2<w.length/\w.head? = some 48 then tO (w.getD 1 0) else 0
 if second=120 then (2,0,16) else if tO (w.getD (w.length-1) 0)=104 then (0,1,16) else if second=98 then (2,0,2) else if second=111 then (2,0,8) else (0,0,10)
noncomputable def Aj (a b c:Int):Option AV:=some (.bZ [.int .i64 a,.int .i64 b,.int .i64 c])
noncomputable def Fe (w:List UInt8) (k:UInt8->Option AV):Option AV:=Option.rec (motive:=λ_=>Option AV) none k (aS w (IntKind.wrap .i64 (↑w.length-1)))
noncomputable def noP (w:List UInt8):Option AV:=Fe w λc=>pick2 (eqI (tO c) 104) (Aj 0 (IntKind.wrap .i64 (↑w.length-1)) 16) (Aj 0 ↑w.length 10)
theorem aaQ (gv:Nat->List AV) (w:List UInt8):ag (Xg gv) (c1 gv AV) bK 5 97 [.str w] aa.empty (λv _=>some v) =
 pick2 (ltI 2 ↑w.length) (Option.rec (motive:=λ_=>Option AV) none (λc=>pick2 (eqI (aD c) 48)
  (Option.rec (motive:=λ_=>Option AV) none (λc2=>Fe w λc=>pick2 (eqI (tO c2) 120) (Aj 2 ↑w.length 16) (pick2 (eqI (tO c) 104) (Aj 0 (IntKind.wrap .i64 (↑w.length-1)) 16)
   (pick2 (eqI (tO c2) 98) (Aj 2 ↑w.length 2) (pick2 (eqI (tO c2) 111) (Aj 2 ↑w.length 8) (Aj 0 ↑w.length 10))))) (aS w 1))
  (noP w)) (aS w 0)) (noP w):=by kernel_rfl
theorem Ji {w:List UInt8} (h:w≠[]) (hl:w.length<1000000) (k:UInt8->Option AV):Fe w k=k (w.getD (w.length-1) 0):=by
 have hp:0<w.length:=List.length_pos_iff.2 h
 unfold Fe
 rw[i64_in (by omega) (by omega)]
 have:(w.length:Int)-1=((w.length-1:Nat):Int):=by omega
 rw[this,lg,List.getD_eq_getElem?_getD,List.getElem?_eq_getElem (by omega)];rfl
theorem ae0 (gv:Nat->List AV) {w:List UInt8} (h:w≠[]) (hl:w.length<1000000):ag (Xg gv) (c1 gv AV) bK 5 97 [.str w] aa.empty (λv _=>some v) =
 Aj (aL w).1 ((w.length-(aL w).2.1:Nat):Int) (aL w).2.2:=by
 have hp:0<w.length:=List.length_pos_iff.2 h
 have e1:IntKind.wrap .i64 (↑w.length-1)=((w.length-1:Nat):Int):=by rw[i64_in (by omega) (by omega)];omega
 have hno:∀second:Int,second=0->noP w=Aj (if second=120 then (2,0,16) else if tO (w.getD (w.length-1) 0)=104 then (0,1,16) else if second=98 then (2,0,2) else if second=111 then (2,0,8) else (0,0,10):Nat×Nat×Nat).1 ((w.length-(if second=120 then (2,0,16) else if tO (w.getD (w.length-1) 0)=104 then (0,1,16) else if second=98 then (2,0,2) else if second=111 then (2,0,8) else (0,0,10):Nat×Nat×Nat).2.1:Nat):Int) (if second=120 then (2,0,16) else if tO (w.getD (w.length-1) 0)=104 then (0,1,16) else if second=98 then (2,0,2) else if second=111 then (2,0,8) else (0,0,10):Nat×Nat×Nat).2.2:=λsecond h0=>by
  subst h0;unfold noP;rw[Ji h hl,az,e1];split
  .
   rfl
  rfl
 rw[aaQ]
 unfold aL
 by_cases hlen:2<w.length
 .
  rw[kG (by omega)]
  match w,h,hlen,hno,hl,e1 with
  |
   a::b::r,h,hlen,hno,hl,e1 =>
   rw[show aS (a::b::r) 0=some a from rfl,show aS (a::b::r) 1=some b from rfl];show pick2 (eqI (aD a) 48) _ _=_;by_cases ha:aD a=48
   .
    have ha':a=48:=C7 (a:=a) (b:=48) ha;rw[Ah ha];show Fe (a::b::r) _=_;rw[Ji h hl];simp only[az,e1];rw[if_pos (show 2<(a::b::r).length/\(a::b::r).head? = some 48 from ⟨hlen,by rw[ha'];rfl⟩)]
    show _=Aj (if tO b=120 then _ else _:Nat×Nat×Nat).1 _ _;have hb:(a::b::r).getD 1 0=b:=rfl;simp only[hb]
    repeat' split
    all_goals rfl
   rw[wM ha]
   have hn:¬(2<(a::b::r).length/\(a::b::r).head? = some 48):=λ⟨_,h⟩=>by
    simp at h;exact ha (by rw[h];rfl)
   exact hno _ (if_neg hn)
 rw[cA (by omega)]
 exact hno _ (if_neg (by omega))
noncomputable def Hp (args:List AV):Option (Bool×List aZ) :=
 match args with
 |[.str w]=>some (!w.isEmpty&&Nat.ble w.length 999999,[.val (.int .i64 (aL w).1),.val (.int .i64 ((w.length-(aL w).2.1:Nat):Int)),.val (.int .i64 (aL w).2.2)])
 |_=>none
theorem aaR (gv:Nat->List AV):aI (Xg gv) (bu (Xg gv) kn) 97 Hp :=
 aG (λargs=>aQ rfl args) (Jh gv) λargs rs hg=>by
  unfold Hp at hg;split at hg
  .
   rename_i w;simp only[Option.some.injEq,Prod.mk.injEq,Bool.and_eq_true,Bool.not_eq_true',List.isEmpty_eq_false_iff,Nat.ble_eq] at hg;obtain ⟨⟨h1,h2⟩,rfl⟩:=hg;exact ⟨[.int .i64 (aL w).1,.int .i64 ((w.length-(aL w).2.1:Nat):Int),.int .i64 (aL w).2.2],bK,5,ae0 gv h1 (by omega),rfl,rfl⟩
  cases hg
end Go.Proofs.YtpaddkkfefgkfaaGreatDoor.lt

namespace Go.Proofs.YtpaddkkfefgkfaaGreatDoor.lt
open Go.Tv Go.Ev
set_option maxRecDepth 100000
def pT:List Bool:=[true,true,false,true,false]
noncomputable def anT:bG:=⟨cG [0,1,6,7,8] pT,.none,[]⟩
noncomputable def stT (s:List UInt8) (at' n i:Int):ck:=fY 67 [(0,.str s),(1,.int .i64 at'),(6,.ptr 0 0),(7,.int .u64 n),(8,.int .i64 i)]
noncomputable def mT:aa:=iC [.cells 56 [.int .i64 0,.int .i64 0]]
noncomputable def jT (gv:Nat->List AV) (s:List UInt8) (at':Int) (r m:Nat) (n i:Int):Option AV:=cK (Xg gv) (c0 gv AV) anT r 95 pT (λv _=>some v) m (stT s at' n i) mT
def outT (n e f a:Int):Option AV:=some (.bZ [.int .i64 n,.int .i64 e,.agg [.int .i64 f,.int .i64 a]])
noncomputable def KX (at' i:Int):Int:=IntKind.wrap .i64 (IntKind.wrap .i64 (i-at')-1)
noncomputable def orT (n c k:Int):Int:=IntKind.wrap .u64 ↑(BitVec.toNat (BitVec.ofInt 64 n ||| BitVec.ofInt 64 (IntKind.wrap .u64 (IntKind.wrap .u64 c*2 ^ (min (Int.toNat (IntKind.wrap .i64 (8*k))) 64)))))
noncomputable def Jj (at' n i:Int) (c:UInt8) (go:Int->Int->Option AV):Option AV :=
 pick2 (eqI (aD c) 39) (outT (IntKind.wrap .i64 n) (IntKind.wrap .i64 (i+1)) 0 0)
  (pick2 (ltI (aD c) 32) (outT 0 0 4 i) (pick2 (ltI 126 (aD c)) (outT 0 0 4 i) (pick2 (eqI (KX at' i) 8) (outT 0 0 3 i)
   (pick2 (ltI (IntKind.wrap .i64 (8*KX at' i)) 0) none (go (orT n (aD c) (KX at' i)) (IntKind.wrap .i64 (i+1)))))))
noncomputable def N7 (s:List UInt8) (at' n i:Int) (go:Int->Int->Option AV):Option AV :=
 pick2 (ltI i ↑s.length)
  (Option.rec (motive:=λ_=>Option AV) none (λc=>pick2 (eqI (aD c) 39) (pick2 (eqI (KX at' i) 0) (outT 0 0 4 i) (Jj at' n i c go)) (Jj at' n i c go)) (aS s i))
  (outT 0 0 4 ↑s.length)
theorem stepT' (gv:Nat->List AV) (s:List UInt8) (at':Int) (r m:Nat) (n i:Int):jT gv s at' r (m+1) n i=N7 s at' n i (jT gv s at' r m):=by kernel_rfl
theorem enterT' (gv:Nat->List AV) (s:List UInt8) (at':Int) (m:Nat):ag (Xg gv) (c0 gv AV) anT m 95 [.str s,.int .i64 at'] aa.empty (λv _=>some v)=jT gv s at' m m 0 (IntKind.wrap .i64 (at'+1)):=by kernel_rfl
def j7 (len:Nat):List UInt8->Nat->Nat->Nat->Int×Int×Int×Int
 |[],_,_,_=>(0,0,4,len)
 |
  c::r,k,N,i =>
  if aD c=39 then (if k=0 then (0,0,4,i) else (IntKind.wrap .i64 N,i+1,0,0))
  else if aD c<32\/126<aD c then (0,0,4,i) else if k=8 then (0,0,3,i) else j7 len r (k+1) (N+c.toNat*256 ^ k) (i+1)
theorem WJ {N k:Nat} {c:UInt8} (hk:k<8) (hN:N<256 ^ k):orT N (aD c) k=((N+c.toNat*256 ^ k:Nat):Int)/\N+c.toNat*256 ^ k<256 ^ (k+1):=by
 have hc:=c.toNat_lt
 have hlt:N+c.toNat*256 ^ k<256 ^ (k+1):=by
  rw[Nat.pow_succ,Nat.mul_comm (256 ^ k) 256];have:c.toNat*256 ^ k<=255*256 ^ k:=Nat.mul_le_mul_right _ (by omega)
  omega
 have h64:256 ^ (k+1)<=2 ^ 64:=by
  have:256 ^ (k+1)<=256 ^ 8:=Nat.pow_le_pow_right (by omega) (by omega)
  exact this
 have WK:(2:Nat) ^ (8*k)=256 ^ k:=by rw[Nat.pow_mul]
 have hpos:0<256 ^ k:=Nat.pow_pos (by omega)
 have hle:c.toNat*256 ^ k<2 ^ 64:=by omega
 have ae1:N<2 ^ 64:=by omega
 refine ⟨?_,hlt⟩
 unfold orT
 rw[i64_in (by omega) (by omega)]
 have e1:min (Int.toNat (8*(k:Int))) 64=8*k:=by omega
 rw[e1]
 have e2:IntKind.wrap .u64 (aD c)=(c.toNat:Int):=u64_in (Wr c) (by have:=Ws c;omega)
 rw[e2]
 have e3:(c.toNat:Int)*2 ^ (8*k)=((c.toNat*256 ^ k:Nat):Int):=by
  rw[Int.natCast_mul,<-WK,Int.natCast_pow];rfl
 rw[e3,u64_in (n:=((c.toNat*256 ^ k:Nat):Int)) (by omega) (by omega),BitVec.toNat_or,BitVec.ofInt_natCast,BitVec.ofInt_natCast,BitVec.toNat_ofNat,BitVec.toNat_ofNat,Nat.mod_eq_of_lt ae1,Nat.mod_eq_of_lt hle]
 have e4:N ||| c.toNat*256 ^ k=N+c.toNat*256 ^ k:=by
  have h:=Nat.shiftLeft_add_eq_or_of_lt (b:=N) (i:=8*k) (by rw[WK];exact hN) c.toNat
  rw[Nat.shiftLeft_eq,WK] at h;rw[Nat.or_comm,<-h,Nat.add_comm]
 rw[e4,u64_in (by omega) (by omega)]
theorem N8 (gv:Nat->List AV) (s:List UInt8) (hs:s.length<1000000) (a r:Nat):∀(rest pre:List UInt8) (m k N:Nat),s=pre++rest->rest.length<m->pre.length=a+1+k->k<=8->N<256 ^ k ->
 jT gv s a r m N pre.length=outT (j7 s.length rest k N pre.length).1 (j7 s.length rest k N pre.length).2.1 (j7 s.length rest k N pre.length).2.2.1 (j7 s.length rest k N pre.length).2.2.2:=by
 intro rest
 induction rest with
 |
  nil =>
  intro pre m k N he hm hp hk hN;obtain ⟨m,rfl⟩:∃m',m=m'+1:=⟨m-1,by simp at hm;omega⟩
  rw[stepT'];unfold N7;have hl:s.length=pre.length:=by rw[he];simp
  rw[cA (by omega)]
  rfl
 |
  cons c rest ih =>
  intro pre m k N he hm hp hk hN;obtain ⟨m,rfl⟩:∃m',m=m'+1:=⟨m-1,by simp at hm;omega⟩
  have hl:s.length=pre.length+(rest.length+1):=by rw[he];simp
  have hg:aS s (pre.length:Int)=some c:=by rw[he];exact eo pre rest c
  have hnext:IntKind.wrap .i64 ((pre.length:Int)+1)=((pre++[c]).length:Int):=by rw[i64_in (by omega) (by omega)];simp
  have aaS:KX (a:Int) (pre.length:Int)=(k:Int):=by
   unfold KX;rw[i64_in (n:=(pre.length:Int)-a) (by omega) (by omega),i64_in (by omega) (by omega)];omega
  rw[stepT'];unfold N7;rw[kG (by omega),hg,aaS]
  show pick2 (eqI (aD c) 39) _ _=_
  have hw:j7 s.length (c::rest) k N pre.length=if aD c=39 then (if k=0 then (0,0,4,(pre.length:Int)) else (IntKind.wrap .i64 N,(pre.length:Int)+1,0,0))
   else if aD c<32\/126<aD c then (0,0,4,(pre.length:Int)) else if k=8 then (0,0,3,(pre.length:Int)) else j7 s.length rest (k+1) (N+c.toNat*256 ^ k) (pre.length+1):=by
   rw[j7]
  rw[hw];unfold Jj;rw[aaS,hnext];by_cases hc:aD c=39
  .
   rw[Ah hc,if_pos hc];show pick2 (eqI (k:Int) 0) _ _=_;by_cases Zb:k=0
   .
    rw[Ah (by omega),if_pos Zb]
   rw[wM (by omega),if_neg Zb]
   show outT _ ((pre++[c]).length:Int) 0 0=_;rw[List.length_append,List.length_singleton];rfl
  rw[wM hc,if_neg hc];show pick2 (ltI (aD c) 32) _ _=_;by_cases Zc:aD c<32
  .
   rw[kG Zc,if_pos (.inl Zc)]
  rw[cA (by omega)]
  show pick2 (ltI 126 (aD c)) _ _=_;by_cases aaT:126<aD c
  .
   rw[kG aaT,if_pos (.inr aaT)]
  rw[cA (by omega),if_neg (by omega)]
  show pick2 (eqI (k:Int) 8) _ _=_;by_cases hk8:k=8
  .
   rw[Ah (by omega),if_pos hk8]
  rw[wM (by omega),if_neg hk8]
  show pick2 (ltI (IntKind.wrap .i64 (8*(k:Int))) 0) none _=_;rw[i64_in (by omega) (by omega),cA (by omega)]
  obtain ⟨o1,o2⟩:=WJ (c:=c) (show k<8 by omega) hN
  show jT gv s a r m (orT N (aD c) k) ((pre++[c]).length:Int)=_;rw[o1,ih (pre++[c]) m (k+1) (N+c.toNat*256 ^ k) (by rw[he];simp) (by simp at hm;omega) (by simp;omega) (by omega) o2,List.length_append,List.length_singleton]
def iN (s:List UInt8) (a:Nat):Int×Int×Int×Int:=j7 s.length (s.drop (a+1)) 0 0 (a+1)
theorem runText (gv:Nat->List AV) (s:List UInt8) (hs:s.length<1000000) (a:Nat) (ha:a<s.length) :
 ag (Xg gv) (c0 gv AV) anT (s.length+1) 95 [.str s,.int .i64 a] aa.empty (λv _=>some v)=outT (iN s a).1 (iN s a).2.1 (iN s a).2.2.1 (iN s a).2.2.2:=by
 rw[enterT',i64_in (by omega) (by omega)]
 have hl:(s.take (a+1)).length=a+1:=by simp;omega
 have:=N8 gv s hs a (s.length+1) (s.drop (a+1)) (s.take (a+1)) (s.length+1) 0 0 (by simp) (by simp;omega) (by omega) (by omega) (by simp)
 rw[hl] at this
 exact this
noncomputable def yN (args:List AV):Option (Bool×List aZ) :=
 match args with
 |[.str s,.int .i64 a]=>some (!ltI a 0&&ltI a ↑s.length&&Nat.ble s.length 999999,[.val (.int .i64 (iN s a.toNat).1),.val (.int .i64 (iN s a.toNat).2.1),.val (.agg [.int .i64 (iN s a.toNat).2.2.1,.int .i64 (iN s a.toNat).2.2.2])])
 |_=>none
theorem aaU (gv:Nat->List AV):aI (Xg gv) (bu (Xg gv) kn) 95 yN :=
 aG (λargs=>aQ rfl args) (tM gv) λargs rs hg=>by
  unfold yN at hg;split at hg
  .
   rename_i s a;simp only[Option.some.injEq,Prod.mk.injEq,Bool.and_eq_true,ltI_spec,Bool.not_eq_true',decide_eq_false_iff_not,decide_eq_true_eq,Nat.ble_eq] at hg;obtain ⟨⟨⟨h1,h2⟩,h3⟩,rfl⟩:=hg;obtain ⟨n,rfl⟩:∃n:Nat,a=n:=⟨a.toNat,by omega⟩
   rw[Int.toNat_natCast];exact ⟨[.int .i64 (iN s n).1,.int .i64 (iN s n).2.1,.agg [.int .i64 (iN s n).2.2.1,.int .i64 (iN s n).2.2.2]],anT,s.length+1,runText gv s (by omega) n (by omega),rfl,rfl⟩
  cases hg
noncomputable def L2:List kH:=(95,[none,none],yN)::(97,[none],Hp)::(98,[none,none],Db)::L1
theorem aaV (gv:Nat->List AV):cg (Xg gv) (bu (Xg gv) kn) L2:=.cons (aaU gv) (.cons (aaR gv) (.cons (aaP gv) (Ux gv)))
noncomputable def c2 (gv:Nat->List AV) (β:Type):aU β:=jU (Xg gv) (KQ L2) inl 200 β 20
theorem aaW (gv:Nat->List AV) (β:Type):aV (Xg gv) (bu (Xg gv) kn) (c2 gv β):=fy (aaV gv) (λf h args=>aQ h args) 200 20 β
def pS:List Bool:=[true,true,true,true,true,false,false]
noncomputable def anS:bG:=⟨cG [0,1,6,7] pS,.none,[]⟩
noncomputable def stS (s:List UInt8) (at' e:Int):ck:=fY 102 [(0,.str s),(1,.int .i64 at'),(6,.ptr 0 0),(7,.int .i64 e)]
end Go.Proofs.YtpaddkkfefgkfaaGreatDoor.lt

namespace Go.Proofs.YtpaddkkfefgkfaaGreatDoor.lt
open Go.Tv Go.Ev
set_option maxRecDepth 100000
noncomputable def jS (gv:Nat->List AV) (s:List UInt8) (at':Int) (r m:Nat) (e:Int):Option AV:=cK (Xg gv) (c2 gv AV) anS r 56 pS (λv _=>some v) m (stS s at' e) mT
noncomputable def N9 (s:List UInt8) (at' e lo:Int) (r:Int×Int×Bool):Option AV :=
 pick2 (!ltI r.2.1 0) (outT 0 0 4 (IntKind.wrap .i64 (lo+r.2.1))) (pick2 r.2.2 (outT 0 0 5 at') (outT (IntKind.wrap .i64 r.1) e 0 0))
noncomputable def Oa (s:List UInt8) (at' e:Int) (w:List UInt8) (p:Nat×Nat×Nat):Option AV :=
 pick2 (!ltI (IntKind.wrap .i64 (at' + ↑p.1)) 0 && !ltI (IntKind.wrap .i64 (at' + ↑(w.length-p.2.1))) (IntKind.wrap .i64 (at' + ↑p.1)) && !ltI (Int.ofNat s.length) (IntKind.wrap .i64 (at' + ↑(w.length-p.2.1))))
  (pick2 (!ltI (p.2.2:Int) 2 && !ltI 16 (p.2.2:Int)&&Nat.ble (bJ s (IntKind.wrap .i64 (at' + ↑p.1)) (IntKind.wrap .i64 (at' + ↑(w.length-p.2.1)))).length 999999)
   (N9 s at' e (IntKind.wrap .i64 (at' + ↑p.1)) (kA (Int.toNat (p.2.2:Int)) (bJ s (IntKind.wrap .i64 (at' + ↑p.1)) (IntKind.wrap .i64 (at' + ↑(w.length-p.2.1)))))) none) none
noncomputable def Ob (s:List UInt8) (at' e:Int):Option AV :=
 pick2 (!ltI at' 0 && !ltI e at' && !ltI (Int.ofNat s.length) e)
  (pick2 (!(bJ s at' e).isEmpty&&Nat.ble (bJ s at' e).length 999999) (Oa s at' e (bJ s at' e) (aL (bJ s at' e))) none) none
theorem dc (gv:Nat->List AV) (s:List UInt8) (at':Int) (r m:Nat) (e:Int):jS gv s at' r (m+1) e =
 pick2 (ltI e ↑s.length) (Option.rec (motive:=λ_=>Option AV) none (λc=>pick2 (dM (aD c)) (jS gv s at' r m (IntKind.wrap .i64 (e+1))) (Ob s at' e)) (aS s e)) (Ob s at' e):=by kernel_rfl
noncomputable def Hq (s:List UInt8) (at':Int) (go:Option AV):Option AV :=
 Option.rec (motive:=λ_=>Option AV) none (λc=>pick2 (eqI (aD c) 39)
  (pick2 (!ltI at' 0&&ltI at' ↑s.length&&Nat.ble s.length 999999) (outT (iN s at'.toNat).1 (iN s at'.toNat).2.1 (iN s at'.toNat).2.2.1 (iN s at'.toNat).2.2.2) none) go) (aS s at')
theorem WL (gv:Nat->List AV) (s:List UInt8) (at':Int) (m:Nat):ag (Xg gv) (c2 gv AV) anS m 56 [.str s,.int .i64 at'] aa.empty (λv _=>some v) =
 pick2 (ltI at' 0) (outT 0 0 6 0) (pick2 (!ltI at' ↑s.length) (outT 0 0 6 at')
  (Option.rec (motive:=λ_=>Option AV) none (λc=>pick2 (!eqI (aD c) 39)
   (Option.rec (motive:=λ_=>Option AV) none (λc=>pick2 (ltI (aD c) 48) (outT 0 0 6 at')
    (Option.rec (motive:=λ_=>Option AV) none (λc=>pick2 (ltI 57 (aD c)) (outT 0 0 6 at') (Hq s at' (jS gv s at' m m at'))) (aS s at'))) (aS s at'))
   (Hq s at' (jS gv s at' m m at'))) (aS s at'))):=by kernel_rfl
theorem aaX (gv:Nat->List AV) (s:List UInt8) (hs:s.length<1000000) (at':Int) (r:Nat):∀(rest pre:List UInt8) (m:Nat),s=pre++rest->rest.length<m ->
 jS gv s at' r m pre.length=Ob s at' ((pre.length+(rest.takeWhile λc=>dM (aD c)).length:Nat):Int):=by
 intro rest
 induction rest with
 |
  nil =>
  intro pre m he hm;obtain ⟨m,rfl⟩:∃m',m=m'+1:=⟨m-1,by simp at hm;omega⟩
  have hl:s.length=pre.length:=by rw[he];simp
  rw[dc,cA (by omega)]
  rfl
 |
  cons c rest ih =>
  intro pre m he hm;obtain ⟨m,rfl⟩:∃m',m=m'+1:=⟨m-1,by simp at hm;omega⟩
  have hl:s.length=pre.length+(rest.length+1):=by rw[he];simp
  have hg:aS s (pre.length:Int)=some c:=by rw[he];exact eo pre rest c
  have hnext:IntKind.wrap .i64 ((pre.length:Int)+1)=((pre++[c]).length:Int):=by rw[i64_in (by omega) (by omega)];simp
  rw[dc,kG (by omega),hg,hnext]
  show pick2 (dM (aD c)) _ _=_;cases hw:dM (aD c) with
  |
   true =>
   show jS gv s at' r m _=_;rw[ih (pre++[c]) m (by rw[he];simp) (by simp at hm;omega),List.takeWhile_cons,if_pos hw]
   simp only[List.length_append,List.length_cons,List.length_nil]
   congr 2;omega
  |
   false =>
   rw[List.takeWhile_cons,if_neg (by simp[hw])]
   simp
def l7 (w:List UInt8) (a:Nat):Int×Int×Int×Int :=
 if 0<=(kA (aL w).2.2 ((w.take (w.length-(aL w).2.1)).drop (aL w).1)).2.1 then (0,0,4,(a:Int)+(aL w).1+(kA (aL w).2.2 ((w.take (w.length-(aL w).2.1)).drop (aL w).1)).2.1)
 else if (kA (aL w).2.2 ((w.take (w.length-(aL w).2.1)).drop (aL w).1)).2.2 then (0,0,5,(a:Int))
 else (IntKind.wrap .i64 (kA (aL w).2.2 ((w.take (w.length-(aL w).2.1)).drop (aL w).1)).1,(a:Int)+w.length,0,0)
def dN (s:List UInt8) (at':Int):Int×Int×Int×Int :=
 if at'<0 then (0,0,6,0) else if (s.length:Int)<=at' then (0,0,6,at')
 else if aD (s.getD at'.toNat 0)=39 then iN s at'.toNat
 else if 48<=aD (s.getD at'.toNat 0)/\aD (s.getD at'.toNat 0)<=57 then l7 ((s.drop at'.toNat).takeWhile λc=>dM (aD c)) at'.toNat
 else (0,0,6,at')
theorem Oc (w:List UInt8) (h:w≠[]):(aL w).1+(aL w).2.1<=w.length/\2<=(aL w).2.2/\(aL w).2.2<=16:=by
 have hp:0<w.length:=List.length_pos_iff.2 h
 unfold aL
 by_cases hc:2<w.length/\w.head? = some 48
 .
  simp only[if_pos hc]
  repeat' split
  all_goals refine ⟨?_,?_,?_⟩<;>simp only<;>omega
 simp only[if_neg hc]
 repeat' split
 all_goals first|(refine ⟨?_,?_,?_⟩<;>simp only<;>omega)|(rename_i h _;simp at h)|(rename_i h;simp at h)
theorem yO (b:Int):∀(l:List UInt8) (first prev:Bool) (i j:Nat),cU b first prev l i=some j->j<=i+l.length
 |
  [],first,prev,i,j,h=>by
  rw[cU] at h;split at h
  .
   cases h;omega
  cases h
 |
  c::r,first,prev,i,j,h=>by
  rw[cU] at h;simp only[List.length_cons];split at h
  .
   split at h
   .
    cases h;omega
   have:=yO b r _ _ _ _ h;omega
  split at h
  .
   cases h;omega
  have:=yO b r _ _ _ _ h;omega
theorem R5 (b:Nat) (d:List UInt8) : -1<=(kA b d).2.1/\(kA b d).2.1<=d.length:=by
 unfold kA
 split
 .
  rename_i i h;have:=yO b d true false 0 i h;simp only;omega
 simp only;omega
theorem R6 {s w:List UInt8} (hs:s.length<1000000) {a:Nat} (ha:a+w.length<=s.length) (hw:w≠[]) (he:(s.drop a).take w.length=w) :
 Ob s a ((a+w.length:Nat):Int)=outT (l7 w a).1 (l7 w a).2.1 (l7 w a).2.2.1 (l7 w a).2.2.2:=by
 obtain ⟨h1,h2,h3⟩:=Oc w hw
 have Ff:bJ s (a:Int) ((a+w.length:Nat):Int)=w:=by
  unfold bJ;simp only[Int.toNat_natCast];have:a+w.length-a=w.length:=by omega
  rw[this];exact he
 unfold Ob
 rw[cA (a:=(a:Int)) (b:=0) (by omega),cA (a:=((a+w.length:Nat):Int)) (by omega),cA (a:=Int.ofNat s.length) (by show ((a+w.length:Nat):Int)<=(s.length:Int);omega),Ff]
 have hne:w.isEmpty=false:=by simpa using hw
 have MM:Nat.ble w.length 999999=true:=fG (by omega)
 rw[hne,MM]
 show Oa s a _ w (aL w)=_
 unfold Oa
 have e1:IntKind.wrap .i64 ((a:Int)+((aL w).1:Int))=((a+(aL w).1:Nat):Int):=by rw[i64_in (by omega) (by omega)];omega
 have e2:IntKind.wrap .i64 ((a:Int)+((w.length-(aL w).2.1:Nat):Int))=((a+(w.length-(aL w).2.1):Nat):Int):=by rw[i64_in (by omega) (by omega)];omega
 rw[e1,e2,cA (a:=((a+(aL w).1:Nat):Int)) (b:=0) (by omega),cA (a:=((a+(w.length-(aL w).2.1):Nat):Int)) (by omega),cA (a:=Int.ofNat s.length) (by show ((a+(w.length-(aL w).2.1):Nat):Int)<=(s.length:Int);omega)]
 have aaY:bJ s ((a+(aL w).1:Nat):Int) ((a+(w.length-(aL w).2.1):Nat):Int)=(w.take (w.length-(aL w).2.1)).drop (aL w).1:=Nx he _ _ (by omega)
 rw[aaY,cA (a:=((aL w).2.2:Int)) (b:=2) (by omega),cA (a:=16) (by omega)]
 have ae2:Nat.ble ((w.take (w.length-(aL w).2.1)).drop (aL w).1).length 999999=true:=fG (by simp;omega)
 rw[ae2,Int.toNat_natCast]
 show N9 s a _ _ _=_
 unfold N9 l7
 have hd:=R5 (aL w).2.2 ((w.take (w.length-(aL w).2.1)).drop (aL w).1)
 have hdl:((w.take (w.length-(aL w).2.1)).drop (aL w).1).length<=w.length:=by simp;omega
 generalize kA (aL w).2.2 ((w.take (w.length-(aL w).2.1)).drop (aL w).1)=rr at hd ⊢
 rw[cj]
 by_cases h0:0<=rr.2.1
 .
  rw[if_pos h0,if_pos h0,i64_in (by omega) (by omega)]
  show outT _ _ _ _=outT _ _ _ _
  congr 1
 rw[if_neg h0,if_neg h0,pick2_eq]
 by_cases h4:rr.2.2=true
 .
  rw[if_pos h4,if_pos h4]
 rw[if_neg h4,if_neg h4]
 show outT _ _ _ _=outT _ _ _ _
 congr 1
theorem Hr (l:List UInt8) (p:UInt8->Bool):l.take (l.takeWhile p).length=l.takeWhile p:=by
 have h:=List.takeWhile_append_dropWhile (p:=p) (l:=l)
 have h2:(l.takeWhile p++l.dropWhile p).take (l.takeWhile p).length=l.takeWhile p:=List.take_left
 rw[h] at h2;exact h2
theorem Ai (gv:Nat->List AV) (s:List UInt8) (hs:s.length<1000000) (at':Int) :
 ag (Xg gv) (c2 gv AV) anS (s.length+1) 56 [.str s,.int .i64 at'] aa.empty (λv _=>some v)=outT (dN s at').1 (dN s at').2.1 (dN s at').2.2.1 (dN s at').2.2.2:=by
 rw[WL]
 unfold dN
 rw[aX]
 by_cases h0:at'<0
 .
  rw[if_pos h0,if_pos h0]
 rw[if_neg h0,if_neg h0,cj]
 by_cases h1:(s.length:Int)<=at'
 .
  rw[if_pos h1,if_pos h1]
 rw[if_neg h1,if_neg h1]
 obtain ⟨a,rfl⟩:∃a:Nat,at'=a:=⟨at'.toNat,by omega⟩
 have ha:a<s.length:=by omega
 rw[Int.toNat_natCast]
 have hg:aS s (a:Int)=some (s.getD a 0):=by
  rw[lg,List.getD_eq_getElem?_getD,List.getElem?_eq_getElem ha];rfl
 unfold Hq
 rw[hg]
 generalize hc:s.getD a 0=c
 show pick2 (!eqI (aD c) 39) (pick2 (ltI (aD c) 48) _ (pick2 (ltI 57 (aD c)) _ (pick2 (eqI (aD c) 39) _ _))) (pick2 (eqI (aD c) 39) _ _)=_
 simp only[aT,az,aX]
 by_cases Zd:aD c=39
 .
  simp only[if_pos Zd];rw[cA (by omega),kG (by omega),fG (show s.length<=999999 by omega)]
  rw[Int.toNat_natCast];rfl
 simp only[if_neg Zd]
 by_cases hd:48<=aD c/\aD c<=57
 .
  rw[if_neg (by omega),if_neg (by omega),if_pos hd]
  have hl:(s.take a).length=a:=by simp;omega
  have Uz:=aaX gv s hs a (s.length+1) (s.drop a) (s.take a) (s.length+1) (by simp) (by simp;omega)
  rw[hl] at Uz;rw[Uz]
  have aaZ:s.drop a=c::s.drop (a+1):=by
   rw[List.drop_eq_getElem_cons ha,<-hc,List.getD_eq_getElem?_getD,List.getElem?_eq_getElem ha];rfl
  have hw:(s.drop a).takeWhile (λc=>dM (aD c))≠[]:=by
   rw[aaZ,List.takeWhile_cons,if_pos (by unfold dM;simp;omega)];simp
  have hle:((s.drop a).takeWhile λc=>dM (aD c)).length<=(s.drop a).length:=by
   have:=List.IsPrefix.length_le (List.takeWhile_prefix (l:=s.drop a) (λc=>dM (aD c)));exact this
  exact R6 hs (by simp at hle;omega) hw (Hr _ _)
 rw[if_neg hd]
 by_cases h48:aD c<48
 .
  rw[if_pos h48]
 rw[if_neg h48,if_pos (by omega)]
noncomputable def Od (args:List AV):Option (Bool×List aZ) :=
 match args with
 |[.str s,.int .i64 a]=>some (Nat.ble s.length 999999,[.val (.int .i64 (dN s a).1),.val (.int .i64 (dN s a).2.1),.val (.agg [.int .i64 (dN s a).2.2.1,.int .i64 (dN s a).2.2.2])])
 |_=>none
theorem aa0 (gv:Nat->List AV):aI (Xg gv) (bu (Xg gv) kn) 56 Od :=
 aG (λargs=>aQ rfl args) (aaW gv) λargs rs hg=>by
  unfold Od at hg;split at hg
  .
   rename_i s a;simp only[Option.some.injEq,Prod.mk.injEq,Nat.ble_eq] at hg;obtain ⟨h3,rfl⟩:=hg;exact ⟨[.int .i64 (dN s a).1,.int .i64 (dN s a).2.1,.agg [.int .i64 (dN s a).2.2.1,.int .i64 (dN s a).2.2.2]],anS,s.length+1,Ai gv s (by omega) a,rfl,rfl⟩
  cases hg
end Go.Proofs.YtpaddkkfefgkfaaGreatDoor.lt
