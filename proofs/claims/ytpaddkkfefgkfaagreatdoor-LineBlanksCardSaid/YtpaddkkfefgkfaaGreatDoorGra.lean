/- The setting of the laws on lines: what is known, package-level variables. Names that have a meaning of their own: contracts out of what is known. Literals: contracts of the small functions. Literals: digits. Literals: the contracts of digits and parts. Literals: a text's literal. Literals: Scan. -/
import Derived.Test.YtpaddkkfefgkfaaGreatDoorLyg
import Derived.Test.YtpaddkkfefgkfaaGreatDoorGzb

namespace Go.Proofs.YtpaddkkfefgkfaaGreatDoor.lt
open Go.Tv Go.Ev
noncomputable section
def inl:FuncId->Bool:=λf => !(Nat.beq f 12||(Nat.beq f 23||(Nat.beq f 50||(Nat.beq f 13||Nat.beq f 51))))
def kn:bK:=rg.kT [(12,[]),(23,[])] rg.kR
theorem aX {f:FuncId} (h:inl f=true) (args:List Value):kn f args=none:=by
 unfold inl at h
 simp only[Bool.not_eq_true',Bool.or_eq_false_iff] at h
 obtain ⟨h0,h1,h2,h3,h4⟩:=h
 have e:rg.wm f args [(12,[]),(23,[])]=false:=by
  unfold rg.wm;rw[h0];show rg.wm f args [(23,[])]=false;unfold rg.wm;rw[h1];rfl
 unfold kn rg.kT
 rw[e]
 show rg.kR f args=none
 unfold rg.kR
 rw[h2]
 show nm.Ug f args=none
 unfold nm.Ug
 rw[h3,h4]
def MA (f:FuncId):List Tmp:=pick2 (Nat.beq f 183) [71,47] []
def Xg (gv:Nat->List AV):cR:={ P:=Tryz.prog,G:=8+1,gv:=gv,trs:=MA,ar:=λt=>Nat.beq t 239||Nat.beq t 234 }
def dc:bO:=⟨.none,.none,[]⟩
def K0:T4:=λ_=>none
section
variable (gv:Nat->List AV)
def c0 (β:Type):aY β:=kV (Xg gv) K0 inl 200 β 20
theorem su (β:Type):aQ (Xg gv) (bg (Xg gv) kn) (c0 gv β):=dZ (by intro id s g h;cases h) (λf h args=>aX h args) 200 20 β
end
def mK:List Value:=[.string ⟨#[36,36]⟩,.string ⟨#[60,60]⟩,.string ⟨#[62,62]⟩,.string ⟨#[43]⟩,.string ⟨#[45]⟩,.string ⟨#[42]⟩,.string ⟨#[47]⟩,.string ⟨#[37]⟩,.string ⟨#[38]⟩,.string ⟨#[124]⟩,.string ⟨#[94]⟩,.string ⟨#[126]⟩,.string ⟨#[40]⟩,.string ⟨#[41]⟩,.string ⟨#[91]⟩,.string ⟨#[93]⟩,.string ⟨#[44]⟩,.string ⟨#[58]⟩,.string ⟨#[36]⟩]
def mL:List Value:=[.int .u64 1,.int .u64 10,.int .u64 100,.int .u64 1000,.int .u64 10000,.int .u64 100000,.int .u64 1000000,.int .u64 10000000,.int .u64 100000000,.int .u64 1000000000,.int .u64 10000000000,.int .u64 100000000000,.int .u64 1000000000000,.int .u64 10000000000000,.int .u64 100000000000000,.int .u64 1000000000000000,.int .u64 10000000000000000,.int .u64 100000000000000000,.int .u64 1000000000000000000,.int .u64 10000000000000000000]
def Qc:List Value:=[.int .u8 0,.int .u8 1,.int .u8 28,.int .u8 2,.int .u8 29,.int .u8 14,.int .u8 24,.int .u8 3,.int .u8 30,.int .u8 22,.int .u8 20,.int .u8 15,.int .u8 25,.int .u8 17,.int .u8 4,.int .u8 8,.int .u8 31,.int .u8 27,.int .u8 13,.int .u8 23,.int .u8 21,.int .u8 19,.int .u8 16,.int .u8 7,.int .u8 26,.int .u8 12,.int .u8 18,.int .u8 6,.int .u8 11,.int .u8 5,.int .u8 10,.int .u8 9]
def mM:List Value:=[.int .u8 0,.int .u8 1,.int .u8 56,.int .u8 2,.int .u8 57,.int .u8 49,.int .u8 28,.int .u8 3,.int .u8 61,.int .u8 58,.int .u8 42,.int .u8 50,.int .u8 38,.int .u8 29,.int .u8 17,.int .u8 4,.int .u8 62,.int .u8 47,.int .u8 59,.int .u8 36,.int .u8 45,.int .u8 43,.int .u8 51,.int .u8 22,.int .u8 53,.int .u8 39,.int .u8 33,.int .u8 30,.int .u8 24,.int .u8 18,.int .u8 12,.int .u8 5,.int .u8 63,.int .u8 55,.int .u8 48,.int .u8 27,.int .u8 60,.int .u8 41,.int .u8 37,.int .u8 16,.int .u8 46,.int .u8 35,.int .u8 44,.int .u8 21,.int .u8 52,.int .u8 32,.int .u8 23,.int .u8 11,.int .u8 54,.int .u8 26,.int .u8 40,.int .u8 15,.int .u8 34,.int .u8 20,.int .u8 31,.int .u8 10,.int .u8 25,.int .u8 14,.int .u8 19,.int .u8 9,.int .u8 13,.int .u8 8,.int .u8 7,.int .u8 6]
def gJ (g:Nat):List AV:=pick2 (Nat.beq g 0) (mK.map EG) (pick2 (Nat.beq g 3) (mL.map EG) (pick2 (Nat.beq g 7) (Qc.map EG) (pick2 (Nat.beq g 8) (mM.map EG) (rg.gv g))))
end
end Go.Proofs.YtpaddkkfefgkfaaGreatDoor.lt

namespace Go.Proofs.YtpaddkkfefgkfaaGreatDoor.lt
open Go.Tv Go.Ev
noncomputable section
theorem Gu {S:Wo} {s:List UInt8} {m:List Value} (h:LV S [.str s] m):m=[.string ⟨s.toArray⟩]:=by
 obtain ⟨x,m',rfl,h1,h2⟩:=h.cons_inv
 rw[h1.eL,h2.dO]
theorem Qv {S:Wo} {n:Int} {m:List Value} (h:LV S [.int .i64 n] m):m=[.int .i64 n]:=by
 obtain ⟨x,m',rfl,h1,h2⟩:=h.cons_inv
 rw[h1.bP,h2.dO]
def gRP (args:List AV):Option (Bool×List bL) :=
 match args with
 |[.str s]=>some (true,[.val (.agg [.int .i64 (rg.pR s).1,.int .i64 (rg.pR s).2.1]),.val (.bool (rg.pR s).2.2)])
 |_=>none
def gNP (args:List AV):Option (Bool×List bL) :=
 match args with
 |[.str s]=>some (true,[.val (.int .i64 (nm.dP s).1),.val (.bool (nm.dP s).2)])
 |_=>none
def gNN (args:List AV):Option (Bool×List bL) :=
 match args with
 |[.int .i64 op]=>some (true,[.val (.str (nm.qG op))])
 |_=>none
theorem ac5 (gv:Nat->List AV):aT (Xg gv) (bg (Xg gv) kn) 50 gRP :=
 z9 λargs rs hg=>by
  unfold gRP at hg;split at hg
  .
   rename_i s;simp only[Option.some.injEq,Prod.mk.injEq] at hg;obtain ⟨_,rfl⟩:=hg;refine ⟨_,_,.agg #[.int .i64 (rg.pR s).1,.int .i64 (rg.pR s).2.1],.bool (rg.pR s).2.2,rfl,rfl,rfl,λS=>?_,λS=>.bool _,λS az hl=>?_⟩
   .
    exact .agg [.int .i64 (rg.pR s).1,.int .i64 (rg.pR s).2.1] [.int .i64 (rg.pR s).1,.int .i64 (rg.pR s).2.1] rfl (LV.cons (.int _ _) (LV.cons (.int _ _) LV.nil)).2
   rw[Gu hl];exact ⟨rfl,rfl,rfl⟩
  cases hg
theorem ac6 (gv:Nat->List AV):aT (Xg gv) (bg (Xg gv) kn) 51 gNP :=
 z9 λargs rs hg=>by
  unfold gNP at hg;split at hg
  .
   rename_i s;simp only[Option.some.injEq,Prod.mk.injEq] at hg;obtain ⟨_,rfl⟩:=hg;refine ⟨_,_,.int .i64 (nm.dP s).1,.bool (nm.dP s).2,rfl,rfl,rfl,λS=>.int _ _,λS=>.bool _,λS az hl=>?_⟩
   rw[Gu hl];exact ⟨rfl,rfl,rfl⟩
  cases hg
theorem ac7 (gv:Nat->List AV):aT (Xg gv) (bg (Xg gv) kn) 13 gNN :=
 rJ λargs rs hg=>by
  unfold gNN at hg;split at hg
  .
   rename_i op;simp only[Option.some.injEq,Prod.mk.injEq] at hg;obtain ⟨_,rfl⟩:=hg;refine ⟨_,.string ⟨(nm.qG op).toArray⟩,rfl,rfl,λS=>.str _,rfl,λS az hl=>?_⟩
   rw[Qv hl];exact ⟨rfl,rfl⟩
  cases hg
def R1:List qB:=[(50,[none],gRP),(51,[none],gNP),(13,[none],gNN)]
theorem We (gv:Nat->List AV):cU (Xg gv) (bg (Xg gv) kn) R1:=.cons (ac5 gv) (.cons (ac6 gv) (.cons (ac7 gv) .nil))
def r1 (gv:Nat->List AV) (β:Type):aY β:=kV (Xg gv) (My R1) inl 200 β 20
theorem ac8 (gv:Nat->List AV) (β:Type):aQ (Xg gv) (bg (Xg gv) kn) (r1 gv β):=dZ (We gv) (λf h args=>aX h args) 200 20 β
def Ec:List (List UInt8):=["db","dw","dd","dq","resb","resw","resd","resq","equ","times","align","org","struc","endstruc","dcx","byte","word","dword","qword","oword","yword","short","near","strict","rel"].map λs=>s.toUTF8.data.toList
def iF (s:List UInt8):List (List UInt8)->Option AV
 |[]=>some (.bool false)
 |[w]=>pick2 (decide (s=w)) (some (.bool true)) (some (.bool false))
 |w::v::l=>pick2 (decide (s=w)) (pick2 (decide (s=w)) (some (.bool true)) (some (.bool false))) (iF s (v::l))
def fR (s:List UInt8):Bool:=(rg.pR s).2.2||((nm.dP s).2||decide (s∈Ec))
theorem KY (s:List UInt8):∀l,iF s l=some (.bool (decide (s∈l)))
 |[]=>rfl
 |
  [w]=>by
  unfold iF;by_cases h:s=w
  .
   rw[decide_eq_true h,decide_eq_true (List.mem_cons.2 (.inl h))]
  rw[decide_eq_false h,decide_eq_false (by simp[h])]
 |
  w::v::l=>by
  unfold iF;rw[KY s (v::l)];by_cases h:s=w
  .
   rw[decide_eq_true h,decide_eq_true (List.mem_cons.2 (.inl h))]
  rw[decide_eq_false h];show some (AV.bool (decide (s∈v::l)))=_;have:(s∈w::v::l)↔s∈v::l:=by simp[h]
  rw[decide_eq_decide.2 this]
set_option maxRecDepth 100000 in
theorem Up (gv:Nat->List AV) (s:List UInt8):ag (Xg gv) (r1 gv AV) dc 20 16 [.str s] aa.empty (λv _=>some v) =
 pick2 (rg.pR s).2.2 (some (.bool true)) (pick2 (nm.dP s).2 (some (.bool true)) (iF s Ec)):=by kernel_rfl
def Yw (args:List AV):Option (Bool×List bL) :=
 match args with
 |[.str s]=>some (true,[.val (.bool (fR s))])
 |_=>none
theorem Yx (gv:Nat->List AV):aT (Xg gv) (bg (Xg gv) kn) 16 Yw :=
 aU (λargs=>aX rfl args) (ac8 gv) λargs rs hg=>by
  unfold Yw at hg;split at hg
  .
   rename_i s;simp only[Option.some.injEq,Prod.mk.injEq] at hg;obtain ⟨_,rfl⟩:=hg;refine ⟨[.bool (fR s)],dc,20,?_,rfl,rfl⟩;rw[Up,KY];unfold fR;cases (rg.pR s).2.2<;>cases (nm.dP s).2<;>rfl
  cases hg
end
end Go.Proofs.YtpaddkkfefgkfaaGreatDoor.lt

namespace Go.Proofs.YtpaddkkfefgkfaaGreatDoor.lt
open Go.Tv Go.Ev
set_option maxRecDepth 100000
noncomputable section
def fe (n:Int):Int:=if 48<=n/\n<=57 then n-48 else if 97<=n/\n<=102 then n-87 else if 65<=n/\n<=70 then n-55 else -1
def cK (n:Int):Bool:=decide (48<=n/\n<=57\/97<=n/\n<=122\/65<=n/\n<=90\/n=95)
theorem acr (gv:Nat->List AV) (n:Int):ag (Xg gv) (c0 gv AV) dc 5 96 [.int .u8 n] aa.empty (λv _=>some v)=some (.bool (cK n)):=by
 have h:ag (Xg gv) (c0 gv AV) dc 5 96 [.int .u8 n] aa.empty (λv _=>some v)=sq n 48 57 (some (.bool true)) (sq n 97 122 (some (.bool true)) (sq n 65 90 (some (.bool true)) (some (.bool (eqI n 95))))):=by kernel_rfl
 rw[h]
 simp only[zV,eqI_spec]
 unfold cK
 repeat' split
 all_goals congr 2
 all_goals first|(symm;rw[decide_eq_true_eq];omega)|(rw[Bool.eq_iff_iff,beq_iff_eq,decide_eq_true_eq];omega)
theorem acs (gv:Nat->List AV) (n:Int):ag (Xg gv) (c0 gv AV) dc 5 143 [.int .u8 n] aa.empty (λv _=>some v)=some (.int .i64 (fe n)):=by
 have h:ag (Xg gv) (c0 gv AV) dc 5 143 [.int .u8 n] aa.empty (λv _=>some v) =
  sq n 48 57 (some (.int .i64 (IntKind.wrap .i64 (IntKind.wrap .u8 (n-48))))) (sq n 97 102 (some (.int .i64 (IntKind.wrap .i64 (IntKind.wrap .i64 (IntKind.wrap .u8 (n-97))+10)))) (sq n 65 70 (some (.int .i64 (IntKind.wrap .i64 (IntKind.wrap .i64 (IntKind.wrap .u8 (n-65))+10)))) (some (.int .i64 (-1))))):=by kernel_rfl
 rw[h]
 simp only[zV]
 unfold fe
 split
 .
  rw[u8_in (by omega) (by omega),i64_in (by omega) (by omega)]
 split
 .
  rw[u8_in (by omega) (by omega),i64_in (n:=n-97) (by omega) (by omega),i64_in (by omega) (by omega)]
  congr 2;omega
 split
 .
  rw[u8_in (by omega) (by omega),i64_in (n:=n-65) (by omega) (by omega),i64_in (by omega) (by omega)]
  congr 2;omega
 rfl
noncomputable def Qd (args:List AV):Option (Bool×List bL) :=
 match args with
 |[.int .u8 n]=>some (true,[.val (.bool (cK n))])
 |_=>none
noncomputable def Yc (args:List AV):Option (Bool×List bL) :=
 match args with
 |[.int .u8 n]=>some (true,[.val (.int .i64 (fe n))])
 |_=>none
theorem acu (gv:Nat->List AV):aT (Xg gv) (bg (Xg gv) kn) 96 Qd :=
 aU (λargs=>aX rfl args) (su gv) λargs rs hg=>by
  unfold Qd at hg;split at hg
  .
   rename_i n;simp only[Option.some.injEq,Prod.mk.injEq] at hg;obtain ⟨h1,rfl⟩:=hg;exact ⟨[.bool (cK n)],dc,5,acr gv n,rfl,rfl⟩
  cases hg
theorem acv (gv:Nat->List AV):aT (Xg gv) (bg (Xg gv) kn) 143 Yc :=
 aU (λargs=>aX rfl args) (su gv) λargs rs hg=>by
  unfold Yc at hg;split at hg
  .
   rename_i n;simp only[Option.some.injEq,Prod.mk.injEq] at hg;obtain ⟨h1,rfl⟩:=hg;exact ⟨[.int .i64 (fe n)],dc,5,acs gv n,rfl,rfl⟩
  cases hg
noncomputable def D8 (x y:Int):AV :=
 let w:=IntKind.wrap .u64
 let x0:Int:=w ↑(BitVec.toNat (BitVec.ofInt 64 x &&& BitVec.ofInt 64 4294967295))
 let y0:Int:=w ↑(BitVec.toNat (BitVec.ofInt 64 y &&& BitVec.ofInt 64 4294967295))
 let x1:=Int.fdiv x 4294967296
 let y1:=Int.fdiv y 4294967296
 let t:=w (w (x1*y0)+Int.fdiv (w (x0*y0)) 4294967296)
 .cO [.int .u64 (w (w (w (x1*y1)+Int.fdiv t 4294967296)+Int.fdiv (w (w ↑(BitVec.toNat (BitVec.ofInt 64 t &&& BitVec.ofInt 64 4294967295))+w (x0*y1))) 4294967296)),.int .u64 (w (x*y))]
theorem Yd (gv:Nat->List AV) (x y:Int):ag (Xg gv) (c0 gv AV) dc 5 144 [.int .u64 x,.int .u64 y] aa.empty (λv _=>some v)=some (D8 x y):=by kernel_rfl
theorem Ye {a:Int}:Int.fdiv a 4294967296=a/4294967296:=Int.fdiv_eq_ediv_of_nonneg _ (by omega)
theorem mul_eq {x y:Int} (h0:0<=x) (h1:x<18446744073709551616) (h2:0<=y) (h3:y<4294967296):D8 x y = .cO [.int .u64 (x*y/18446744073709551616),.int .u64 (x*y%18446744073709551616)]:=by
 have low:∀{a:Int},0<=a->a<18446744073709551616->((BitVec.ofInt 64 a &&& BitVec.ofInt 64 4294967295).toNat:Int)=a%4294967296:=λ{a} ha hb=>D6 ha hb 32 (by omega)
 have hx0:IntKind.wrap .u64 ↑(BitVec.toNat (BitVec.ofInt 64 x &&& BitVec.ofInt 64 4294967295))=x%4294967296:=by rw[low h0 h1,u64_in (by omega) (by omega)]
 have hy0:IntKind.wrap .u64 ↑(BitVec.toNat (BitVec.ofInt 64 y &&& BitVec.ofInt 64 4294967295))=y:=by rw[low h2 (by omega),u64_in (by omega) (by omega)];omega
 have hy1:y/4294967296=0:=by omega
 unfold D8
 simp only[hx0,hy0,Ye,hy1,Int.mul_zero]
 obtain ⟨a,ha⟩:∃a,x/4294967296*y=a:=⟨_,rfl⟩
 obtain ⟨b,hb⟩:∃b,x%4294967296*y=b:=⟨_,rfl⟩
 have hxy:x*y=a*4294967296+b:=by
  rw[<-ha,<-hb];have:=Int.mul_ediv_add_emod x 4294967296
  calc x*y=(4294967296*(x/4294967296)+x%4294967296)*y:=by rw[this]
   _=_:=by rw[Int.add_mul,Int.mul_assoc,Int.mul_comm 4294967296]
 have ha0:0<=a:=by rw[<-ha];exact Int.mul_nonneg (by omega) h2
 have hb0:0<=b:=by rw[<-hb];exact Int.mul_nonneg (by omega) h2
 have ha1:a<=4294967295*4294967295:=by
  rw[<-ha];exact Int.le_trans (Int.mul_le_mul_of_nonneg_right (show x/4294967296<=4294967295 by omega) h2) (Int.mul_le_mul_of_nonneg_left (show y<=4294967295 by omega) (by omega))
 have Bh:b<=4294967295*4294967295:=by
  rw[<-hb];exact Int.le_trans (Int.mul_le_mul_of_nonneg_right (show x%4294967296<=4294967295 by omega) h2) (Int.mul_le_mul_of_nonneg_left (show y<=4294967295 by omega) (by omega))
 rw[ha,hb,hxy]
 have w1:IntKind.wrap .u64 b=b:=u64_in hb0 (by omega)
 have w2:IntKind.wrap .u64 a=a:=u64_in ha0 (by omega)
 have w3:IntKind.wrap .u64 (a+b/4294967296)=a+b/4294967296:=u64_in (by omega) (by omega)
 have w4:IntKind.wrap .u64 0=0:=u64_in (by omega) (by omega)
 rw[w1,w2,w3,low (by omega) (by omega),w4,Int.zero_add,Int.add_zero]
 have w5:IntKind.wrap .u64 ((a+b/4294967296)%4294967296)=(a+b/4294967296)%4294967296:=u64_in (by omega) (by omega)
 have w6:IntKind.wrap .u64 ((a+b/4294967296)/4294967296)=(a+b/4294967296)/4294967296:=u64_in (by omega) (by omega)
 rw[w5,w5,w6]
 have w7:(a+b/4294967296)%4294967296/4294967296=0:=by omega
 rw[w7,Int.add_zero,w6,o4]
 have e1:(a+b/4294967296)/4294967296=(a*4294967296+b)/18446744073709551616:=by omega
 rw[e1]
noncomputable def Yf (args:List AV):Option (Bool×List bL) :=
 match args with
 |[.int .u64 x,.int .u64 y]=>some (!ltI x 0&&ltI x 18446744073709551616 && !ltI y 0&&ltI y 4294967296,[.val (.int .u64 (x*y/18446744073709551616)),.val (.int .u64 (x*y%18446744073709551616))])
 |_=>none
theorem acw (gv:Nat->List AV):aT (Xg gv) (bg (Xg gv) kn) 144 Yf :=
 aU (λargs=>aX rfl args) (su gv) λargs rs hg=>by
  unfold Yf at hg;split at hg
  .
   rename_i x y;simp only[Option.some.injEq,Prod.mk.injEq,Bool.and_eq_true,ltI_spec,Bool.not_eq_true',decide_eq_false_iff_not,decide_eq_true_eq] at hg;obtain ⟨h1,rfl⟩:=hg;exact ⟨[.int .u64 (x*y/18446744073709551616),.int .u64 (x*y%18446744073709551616)],dc,5,(Yd gv x y).trans (congrArg some (mul_eq (x:=x) (y:=y) (by omega) (by omega) (by omega) (by omega))),rfl,rfl⟩
  cases hg
end
end Go.Proofs.YtpaddkkfefgkfaaGreatDoor.lt

namespace Go.Proofs.YtpaddkkfefgkfaaGreatDoor.lt
open Go.Tv Go.Ev
set_option maxRecDepth 100000
noncomputable def L1:List qB:=[(96,[none],Qd),(143,[none],Yc),(144,[none,none],Yf)]
theorem V7 (gv:Nat->List AV):cU (Xg gv) (bg (Xg gv) kn) L1:=.cons (acu gv) (.cons (acv gv) (.cons (acw gv) .nil))
noncomputable def c1 (gv:Nat->List AV) (β:Type):aY β:=kV (Xg gv) (My L1) inl 200 β 20
theorem Gi (gv:Nat->List AV) (β:Type):aQ (Xg gv) (bg (Xg gv) kn) (c1 gv β):=dZ (V7 gv) (λf h args=>aX h args) 200 20 β
noncomputable def anD:bO:=⟨.none,.node (some [0,1,7,8,9]) .none .none,[]⟩
noncomputable def stD (d:List UInt8) (b n i:Int) (HQ:Bool):cj:=j8 83 [(0,.str d),(1,.int .i64 b),(7,.int .u64 n),(8,.int .i64 i),(9,.bool HQ)]
noncomputable def jD (gv:Nat->List AV) (d:List UInt8) (b:Int) (r m:Nat) (n i:Int) (HQ:Bool):Option AV:=ab9 (Xg gv) (c1 gv AV) anD r 98 [true] 0 (λv _=>some v) m (stD d b n i HQ) aa.empty
def bG (n i:Int) (HQ:Bool):Option AV:=some (.cO [.int .u64 n,.int .i64 i,.bool HQ])
noncomputable def Gj (b n v:Int):Int:=Int.ofNat ((Int.toNat (n*IntKind.wrap .u64 b%18446744073709551616)+Int.toNat (IntKind.wrap .u64 v)+0)%Extern.MathBitsCarry.m64)
noncomputable def ME (b n v:Int):Int:=Int.ofNat ((Int.toNat (n*IntKind.wrap .u64 b%18446744073709551616)+Int.toNat (IntKind.wrap .u64 v)+0)/Extern.MathBitsCarry.m64)
noncomputable def Gk (d:List UInt8) (b n i:Int) (HQ:Bool) (go:Int->Int->Bool->Option AV):Option AV :=
 pick2 (eqI i ↑d.length)
  (pick2 (eqI i 0) (bG 0 0 false) (bG n (-1) HQ))
  (Option.rec (motive:=λ_=>Option AV) none (λc=>pick2 (eqI (aA c) 95)
   (pick2 (eqI i 0) (bG 0 i false) (pick2 (eqI i (IntKind.wrap .i64 (↑d.length-1))) (bG 0 i false)
    (Option.rec (motive:=λ_=>Option AV) none (λc=>pick2 (eqI (aA c) 95) (bG 0 i false) (go n (IntKind.wrap .i64 (i+1)) HQ)) (aS d (IntKind.wrap .i64 (i-1))))))
   (Option.rec (motive:=λ_=>Option AV) none (λc=>pick2 (ltI (fe (aA c)) 0) (bG 0 i false) (pick2 (!ltI (fe (aA c)) b) (bG 0 i false)
    (pick2 (!ltI n 0&&ltI n 18446744073709551616 && !ltI (IntKind.wrap .u64 b) 0&&ltI (IntKind.wrap .u64 b) 4294967296)
     (pick2 HQ (go (Gj b n (fe (aA c))) (IntKind.wrap .i64 (i+1)) true)
      (pick2 (!eqI (n*IntKind.wrap .u64 b/18446744073709551616) 0) (go (Gj b n (fe (aA c))) (IntKind.wrap .i64 (i+1)) true)
       (go (Gj b n (fe (aA c))) (IntKind.wrap .i64 (i+1)) (!eqI (ME b n (fe (aA c))) 0))))
     none))) (aS d i))) (aS d i))
theorem V8 (gv:Nat->List AV) (d:List UInt8) (b:Int) (r m:Nat) (n i:Int) (HQ:Bool):jD gv d b r (m+1) n i HQ=Gk d b n i HQ (jD gv d b r m):=by kernel_rfl
theorem Yg (gv:Nat->List AV) (d:List UInt8) (b:Int) (m:Nat):ag (Xg gv) (c1 gv AV) anD m 98 [.str d,.int .i64 b] aa.empty (λv _=>some v)=Gk d b 0 0 false (jD gv d b m m):=by kernel_rfl
def cJ (b:Int):Bool->Bool->List UInt8->Nat->Option Nat
 |first,_,[],_=>if first then some 0 else none
 |first,prev,c::r,i=>if aA c=95 then (if first=true\/r=[]\/prev=true then some i else cJ b false true r (i+1)) else if fe (aA c)<0\/b<=fe (aA c) then some i else cJ b false false r (i+1)
def nK (b:Nat):List UInt8->Nat->Nat
 |[],N=>N
 |c::r,N=>if aA c=95 then nK b r N else nK b r (N*b+(fe (aA c)).toNat)
def iZ (b:Nat) (d:List UInt8):Int×Int×Bool :=
 match cJ b true false d 0 with
 |some i=>(0,(i:Int),false)
 |none=>(((nK b d 0%18446744073709551616:Nat):Int),-1,decide (18446744073709551616<=nK b d 0))
theorem Gl {b N v:Nat} (hb:b<=16) (hv:v<16):Gj b ((N%18446744073709551616:Nat):Int) v=(((N*b+v)%18446744073709551616:Nat):Int)/\((N:Int)<18446744073709551616->(((N%18446744073709551616:Nat):Int)*IntKind.wrap .u64 b/18446744073709551616=0↔N*b<18446744073709551616)/\(N*b<18446744073709551616->(ME b ((N%18446744073709551616:Nat):Int) v=0↔N*b+v<18446744073709551616))):=by
 have wb:IntKind.wrap .u64 (b:Int)=b:=u64_in (by omega) (by omega)
 have wv:IntKind.wrap .u64 (v:Int)=v:=u64_in (by omega) (by omega)
 have e1:((N%18446744073709551616:Nat):Int)*(b:Int)%18446744073709551616=((N%18446744073709551616*b%18446744073709551616:Nat):Int):=by
  rw[Int.natCast_emod (N%18446744073709551616*b),Int.natCast_mul];rfl
 have hm:Extern.MathBitsCarry.m64=18446744073709551616:=by kernel_rfl
 unfold Gj ME
 rw[wb,wv,e1,hm]
 simp only[Int.toNat_natCast,Nat.add_zero]
 refine ⟨?_,λhN=>?_⟩
 .
  show ((_:Nat):Int)=_
  congr 1
  rw[Nat.add_mod (N*b),Nat.mul_mod N b,Nat.add_mod (N%18446744073709551616*b%18446744073709551616),Nat.mod_mod,Nat.mul_mod (N%18446744073709551616) b,Nat.mod_mod]
 have hN':N%18446744073709551616=N:=Nat.mod_eq_of_lt (by omega)
 rw[hN']
 generalize hP:N*b=P
 refine ⟨?_,λhl=>?_⟩
 .
  have:((N:Int)*(b:Int))=(P:Int):=by rw[<-hP,Int.natCast_mul]
  rw[this];omega
 show ((((P%18446744073709551616+v)/18446744073709551616:Nat)):Int)=0↔_
 omega
theorem Qe (n:Int):fe n<16:=by unfold fe;repeat' split<;>omega
theorem acy (gv:Nat->List AV) {b:Nat} (yY:2<=b) (hb:b<=16) (d:List UInt8) (hd:d.length<1000000) (r:Nat):∀(rest pre:List UInt8) (m:Nat) (N:Nat) (prev:Bool),d=pre++rest->rest.length<m->pre≠[]->(prev=true↔∃q,pre=q++[95]) ->
 jD gv d b r m ((N%18446744073709551616:Nat):Int) pre.length (decide (18446744073709551616<=N)) =
  match cJ b false prev rest pre.length with
  |some i=>bG 0 i false
  |none=>bG ((nK b rest N%18446744073709551616:Nat):Int) (-1) (decide (18446744073709551616<=nK b rest N)):=by
 intro rest
 induction rest with
 |
  nil =>
  intro pre m N prev he hm hne Qf;obtain ⟨m,rfl⟩:∃m',m=m'+1:=⟨m-1,by simp at hm;omega⟩
  rw[V8];unfold Gk;have hl:d.length=pre.length:=by rw[he];simp
  have hp:0<pre.length:=List.length_pos_iff.2 hne;rw[zU (a:=(pre.length:Int)) (b:=(d.length:Int)) (by omega),xy (a:=(pre.length:Int)) (b:=0) (by omega)]
  rfl
 |
  cons c rest ih =>
  intro pre m N prev he hm hne Qf;obtain ⟨m,rfl⟩:∃m',m=m'+1:=⟨m-1,by simp at hm;omega⟩
  have hl:d.length=pre.length+(rest.length+1):=by rw[he];simp
  have hp:0<pre.length:=List.length_pos_iff.2 hne;have hg:aS d (pre.length:Int)=some c:=by rw[he];exact gb pre rest c
  have hnext:IntKind.wrap .i64 ((pre.length:Int)+1)=((pre++[c]).length:Int):=by rw[i64_in (by omega) (by omega)];simp
  have he':d=(pre++[c])++rest:=by rw[he];simp
  have hm':rest.length<m:=by simp at hm;omega
  rw[V8];unfold Gk;rw[xy (a:=(pre.length:Int)) (b:=(d.length:Int)) (by omega),xy (a:=(pre.length:Int)) (b:=0) (by omega),hg,hnext]
  show pick2 (eqI (aA c) 95) _ _=_;by_cases hc:aA c=95
  .
   rw[zU hc];show pick2 (eqI (pre.length:Int) (IntKind.wrap .i64 (↑d.length-1))) _ _=_;rw[i64_in (by omega) (by omega)]
   have hw:cJ b false prev (c::rest) pre.length=if rest=[]\/prev=true then some pre.length else cJ b false true rest (pre.length+1):=by
    rw[cJ,if_pos hc];simp
   rw[hw];by_cases hr:rest=[]
   .
    rw[zU (by rw[hl,hr];simp),if_pos (.inl hr)]
   have hrl:0<rest.length:=List.length_pos_iff.2 hr;rw[xy (by omega)]
   obtain ⟨q,x,hq⟩:∃q x,pre=q++[x]:=⟨pre.dropLast,pre.getLast hne,(List.dropLast_concat_getLast hne).symm⟩
   have hgx:aS d (IntKind.wrap .i64 ((pre.length:Int)-1))=some x:=by
    rw[i64_in (by omega) (by omega)]
    have:(pre.length:Int)-1=(q.length:Int):=by rw[hq];simp
    rw[this,he,hq,List.append_assoc];exact gb q (c::rest) x
   rw[hgx];show pick2 (eqI (aA x) 95) _ _=_;by_cases hx:aA x=95
   .
    have:prev=true:=Qf.2 ⟨q,by rw[hq];congr 2;exact D4 (a:=x) (b:=95) hx⟩
    rw[zU hx,if_pos (.inr this)]
   have hpf:prev=false:=by
    cases hpv:prev with
    |false=>rfl
    |
     true =>
     obtain ⟨q',hq'⟩:=Qf.1 hpv;rw[hq] at hq';have:=(List.append_inj' hq' rfl).2;simp at this;exact absurd (by rw[this];rfl) hx
   rw[xy hx,if_neg (by simp[hr,hpf])]
   have hcc:c=95:=D4 (a:=c) (b:=95) hc;have:=ih (pre++[c]) m N true he' hm' (by simp) ⟨λ_=>⟨pre,by rw[hcc]⟩,λ_=>rfl⟩
   rw[List.length_append,List.length_singleton] at this;show jD gv d b r m _ ((pre++[c]).length:Int) _=_;rw[List.length_append,List.length_singleton,this];have hv:nK b (c::rest) N=nK b rest N:=by rw[nK,if_pos hc]
   rw[hv]
  rw[xy hc];show pick2 (ltI (fe (aA c)) 0) _ _=_
  have hw:cJ b false prev (c::rest) pre.length=if fe (aA c)<0\/(b:Int)<=fe (aA c) then some pre.length else cJ b false false rest (pre.length+1):=by
   rw[cJ,if_neg hc]
  rw[hw];by_cases h0:fe (aA c)<0
  .
   rw[lQ h0,if_pos (.inl h0)]
  rw[cz (by omega)]
  show pick2 (!ltI (fe (aA c)) b) _ _=_;by_cases h1:(b:Int)<=fe (aA c)
  .
   rw[cz h1,if_pos (.inr h1)];rfl
  rw[lQ (by omega),if_neg (by omega)]
  have wb:IntKind.wrap .u64 (b:Int)=b:=u64_in (by omega) (by omega)
  have hcond:(!ltI ((N%18446744073709551616:Nat):Int) 0&&ltI ((N%18446744073709551616:Nat):Int) 18446744073709551616 && !ltI (IntKind.wrap .u64 (b:Int)) 0&&ltI (IntKind.wrap .u64 (b:Int)) 4294967296)=true:=by
   rw[wb,cz (by omega),lQ (by omega),cz (by omega),lQ (by omega)];rfl
  obtain ⟨v,hv⟩:∃v:Nat,fe (aA c)=v:=⟨(fe (aA c)).toNat,by omega⟩
  have Yh:v<16:=by have:=Qe (aA c);omega
  obtain ⟨s1,s2⟩:=Gl (N:=N) hb Yh;have hval:nK b (c::rest) N=nK b rest (N*b+v):=by rw[nK,if_neg hc,hv];rfl
  have goal:∀HQ,HQ=decide (18446744073709551616<=N*b+v)->jD gv d b r m (Gj b ((N%18446744073709551616:Nat):Int) (fe (aA c))) ((pre++[c]).length:Int) HQ =
   match cJ b false false rest (pre.length+1) with
   |some i=>bG 0 i false
   |none=>bG ((nK b (c::rest) N%18446744073709551616:Nat):Int) (-1) (decide (18446744073709551616<=nK b (c::rest) N)):=λHQ EV=>by
   have hno:¬ ∃q,pre++[c]=q++[95]:=λ⟨q,hq⟩=>by
    have:=(List.append_inj' hq rfl).2;simp at this;exact hc (by rw[this];rfl)
   have:=ih (pre++[c]) m (N*b+v) false he' hm' (by simp) ⟨λh=>(by cases h),λh=>absurd h hno⟩
   rw[hv,s1,EV,this,hval];simp
  show pick2 (_&&_&&_&&_) _ _=_;rw[hcond];show pick2 (decide (18446744073709551616<=N)) _ _=_;by_cases hN:18446744073709551616<=N
  .
   rw[decide_eq_true hN];have:N<=N*b:=Nat.le_mul_of_pos_right N (by omega)
   exact goal true (by rw[decide_eq_true];omega)
  rw[decide_eq_false hN];obtain ⟨t1,t2⟩:=s2 (by omega)
  show pick2 (!eqI _ 0) _ _=_;by_cases hP:N*b<18446744073709551616
  .
   rw[zU (t1.2 hP)];refine goal _ ?_;rw[hv];by_cases hS:N*b+v<18446744073709551616
   .
    rw[zU ((t2 hP).2 hS),decide_eq_false (by omega)];rfl
   rw[xy (λh=>hS ((t2 hP).1 h)),decide_eq_true (by omega)];rfl
  rw[xy (λh=>hP (t1.1 h))]
  exact goal true (by rw[decide_eq_true];omega)
end Go.Proofs.YtpaddkkfefgkfaaGreatDoor.lt

namespace Go.Proofs.YtpaddkkfefgkfaaGreatDoor.lt
open Go.Tv Go.Ev
set_option maxRecDepth 100000
theorem agc (gv:Nat->List AV) {b:Nat} (yY:2<=b) (hb:b<=16) (d:List UInt8) (hd:d.length<1000000) :
 ag (Xg gv) (c1 gv AV) anD (d.length+1) 98 [.str d,.int .i64 b] aa.empty (λv _=>some v)=bG (iZ b d).1 (iZ b d).2.1 (iZ b d).2.2:=by
 rw[Yg]
 cases d with
 |nil=>rfl
 |
  cons c rest =>
  have hl:((c::rest).length:Int)=rest.length+1:=by simp
  unfold Gk;rw[xy (a:=0) (b:=((c::rest).length:Int)) (by omega),show aS (c::rest) 0=some c from rfl]
  show pick2 (eqI (aA c) 95) _ _=_;by_cases hc:aA c=95
  .
   have hw:cJ b true false (c::rest) 0=some 0:=by rw[cJ,if_pos hc,if_pos (.inl rfl)]
   rw[zU hc];unfold iZ;rw[hw];rfl
  rw[xy hc];show pick2 (ltI (fe (aA c)) 0) _ _=_
  have hw:cJ b true false (c::rest) 0=if fe (aA c)<0\/(b:Int)<=fe (aA c) then some 0 else cJ b false false rest 1:=by
   rw[cJ,if_neg hc]
  by_cases h0:fe (aA c)<0
  .
   rw[lQ h0];unfold iZ;rw[hw,if_pos (.inl h0)];rfl
  rw[cz (by omega)]
  show pick2 (!ltI (fe (aA c)) b) _ _=_;by_cases h1:(b:Int)<=fe (aA c)
  .
   rw[cz h1];unfold iZ;rw[hw,if_pos (.inr h1)];rfl
  rw[lQ (by omega)]
  have wb:IntKind.wrap .u64 (b:Int)=b:=u64_in (by omega) (by omega)
  have hcond:(!ltI 0 0&&ltI 0 18446744073709551616 && !ltI (IntKind.wrap .u64 (b:Int)) 0&&ltI (IntKind.wrap .u64 (b:Int)) 4294967296)=true:=by
   rw[wb,cz (a:=0) (by omega),lQ (by omega),cz (by omega),lQ (by omega)];rfl
  obtain ⟨v,hv⟩:∃v:Nat,fe (aA c)=v:=⟨(fe (aA c)).toNat,by omega⟩
  have Yh:v<16:=by have:=Qe (aA c);omega
  obtain ⟨s1,s2⟩:=Gl (N:=0) hb Yh;show pick2 (_&&_&&_&&_) (pick2 (!eqI (0*IntKind.wrap .u64 (b:Int)/18446744073709551616) 0) _ (jD gv (c::rest) b _ _ (Gj b 0 (fe (aA c))) (IntKind.wrap .i64 (0+1)) (!eqI (ME b 0 (fe (aA c))) 0))) none=_;rw[hcond,Int.zero_mul];show jD gv (c::rest) b _ _ (Gj b 0 (fe (aA c))) (IntKind.wrap .i64 (0+1)) (!eqI (ME b 0 (fe (aA c))) 0)=_;have e0:((0%18446744073709551616:Nat):Int)=0:=by simp
  rw[e0,Nat.zero_mul,Nat.zero_add] at s1;rw[e0,Nat.zero_mul,Nat.zero_add] at s2;have agd:ME b 0 v=0:=((s2 (by omega)).2 (by omega)).2 (by omega)
  rw[hv,s1,agd]
  have hno:¬ ∃q:List UInt8,[c]=q++[95]:=λ⟨q,hq⟩=>by
   have:=(List.append_inj' (s₁:=[]) hq rfl).2;simp at this;exact hc (by rw[this];rfl)
  have:=acy gv yY hb (c::rest) hd ((c::rest).length+1) rest [c] ((c::rest).length+1) v false rfl (by simp;omega) (by simp) ⟨λh=>(by cases h),λh=>absurd h hno⟩
  have e1:IntKind.wrap .i64 (0+1)=(([c]:List UInt8).length:Int):=by rw[i64_in (by omega) (by omega)];rfl
  have e2:(!eqI 0 0)=decide (18446744073709551616<=v):=by rw[decide_eq_false (by omega)];rfl
  rw[e1,e2,this];unfold iZ;rw[hw,if_neg (by omega)]
  have hval:nK b (c::rest) 0=nK b rest v:=by rw[nK,if_neg hc,hv];simp
  rw[hval];show (match cJ (b:Int) false false rest 1 with|some i=>_|none=>_)=_
  cases cJ (b:Int) false false rest 1<;>rfl
noncomputable def D9 (args:List AV):Option (Bool×List bL) :=
 match args with
 |[.str d,.int .i64 b]=>some (!ltI b 2 && !ltI 16 b&&Nat.ble d.length 999999,[.val (.int .u64 (iZ b.toNat d).1),.val (.int .i64 (iZ b.toNat d).2.1),.val (.bool (iZ b.toNat d).2.2)])
 |_=>none
theorem acz (gv:Nat->List AV):aT (Xg gv) (bg (Xg gv) kn) 98 D9 :=
 aU (λargs=>aX rfl args) (Gi gv) λargs rs hg=>by
  unfold D9 at hg;split at hg
  .
   rename_i d b;simp only[Option.some.injEq,Prod.mk.injEq,Bool.and_eq_true,ltI_spec,Bool.not_eq_true',decide_eq_false_iff_not,Nat.ble_eq] at hg;obtain ⟨⟨⟨h1,h2⟩,h3⟩,rfl⟩:=hg;obtain ⟨n,rfl⟩:∃n:Nat,b=n:=⟨b.toNat,by omega⟩
   rw[Int.toNat_natCast];exact ⟨[.int .u64 (iZ n d).1,.int .i64 (iZ n d).2.1,.bool (iZ n d).2.2],anD,d.length+1,agc gv (by omega) (by omega) d (by omega),rfl,rfl⟩
  cases hg
def uH (c:UInt8):Int:=IntKind.wrap .u8 ↑(BitVec.toNat (BitVec.ofInt 8 (aA c) ||| BitVec.ofInt 8 32))
def aC (w:List UInt8):Nat×Nat×Nat :=
 let second:Int:=if 2<w.length/\w.head? = some 48 then uH (w.getD 1 0) else 0
 if second=120 then (2,0,16) else if uH (w.getD (w.length-1) 0)=104 then (0,1,16) else if second=98 then (2,0,2) else if second=111 then (2,0,8) else (0,0,10)
noncomputable def Br (a b c:Int):Option AV:=some (.cO [.int .i64 a,.int .i64 b,.int .i64 c])
noncomputable def Gm (w:List UInt8) (k:UInt8->Option AV):Option AV:=Option.rec (motive:=λ_=>Option AV) none k (aS w (IntKind.wrap .i64 (↑w.length-1)))
noncomputable def noP (w:List UInt8):Option AV:=Gm w λc=>pick2 (eqI (uH c) 104) (Br 0 (IntKind.wrap .i64 (↑w.length-1)) 16) (Br 0 ↑w.length 10)
theorem acA (gv:Nat->List AV) (w:List UInt8):ag (Xg gv) (c1 gv AV) dc 5 97 [.str w] aa.empty (λv _=>some v) =
 pick2 (ltI 2 ↑w.length) (Option.rec (motive:=λ_=>Option AV) none (λc=>pick2 (eqI (aA c) 48)
  (Option.rec (motive:=λ_=>Option AV) none (λc2=>Gm w λc=>pick2 (eqI (uH c2) 120) (Br 2 ↑w.length 16) (pick2 (eqI (uH c) 104) (Br 0 (IntKind.wrap .i64 (↑w.length-1)) 16)
   (pick2 (eqI (uH c2) 98) (Br 2 ↑w.length 2) (pick2 (eqI (uH c2) 111) (Br 2 ↑w.length 8) (Br 0 ↑w.length 10))))) (aS w 1))
  (noP w)) (aS w 0)) (noP w):=by kernel_rfl
theorem KM {w:List UInt8} (h:w≠[]) (hl:w.length<1000000) (k:UInt8->Option AV):Gm w k=k (w.getD (w.length-1) 0):=by
 have hp:0<w.length:=List.length_pos_iff.2 h
 unfold Gm
 rw[i64_in (by omega) (by omega)]
 have:(w.length:Int)-1=((w.length-1:Nat):Int):=by omega
 rw[this,ou,List.getD_eq_getElem?_getD,List.getElem?_eq_getElem (by omega)];rfl
theorem age (gv:Nat->List AV) {w:List UInt8} (h:w≠[]) (hl:w.length<1000000):ag (Xg gv) (c1 gv AV) dc 5 97 [.str w] aa.empty (λv _=>some v) =
 Br (aC w).1 ((w.length-(aC w).2.1:Nat):Int) (aC w).2.2:=by
 have hp:0<w.length:=List.length_pos_iff.2 h
 have e1:IntKind.wrap .i64 (↑w.length-1)=((w.length-1:Nat):Int):=by rw[i64_in (by omega) (by omega)];omega
 have hno:∀second:Int,second=0->noP w=Br (if second=120 then (2,0,16) else if uH (w.getD (w.length-1) 0)=104 then (0,1,16) else if second=98 then (2,0,2) else if second=111 then (2,0,8) else (0,0,10):Nat×Nat×Nat).1 ((w.length-(if second=120 then (2,0,16) else if uH (w.getD (w.length-1) 0)=104 then (0,1,16) else if second=98 then (2,0,2) else if second=111 then (2,0,8) else (0,0,10):Nat×Nat×Nat).2.1:Nat):Int) (if second=120 then (2,0,16) else if uH (w.getD (w.length-1) 0)=104 then (0,1,16) else if second=98 then (2,0,2) else if second=111 then (2,0,8) else (0,0,10):Nat×Nat×Nat).2.2:=λsecond h0=>by
  subst h0;unfold noP;rw[KM h hl,aH,e1];split
  .
   rfl
  rfl
 rw[acA]
 unfold aC
 by_cases hlen:2<w.length
 .
  rw[lQ (by omega)]
  match w,h,hlen,hno,hl,e1 with
  |
   a::b::r,h,hlen,hno,hl,e1 =>
   rw[show aS (a::b::r) 0=some a from rfl,show aS (a::b::r) 1=some b from rfl];show pick2 (eqI (aA a) 48) _ _=_;by_cases ha:aA a=48
   .
    have ha':a=48:=D4 (a:=a) (b:=48) ha;rw[zU ha];show Gm (a::b::r) _=_;rw[KM h hl];simp only[aH,e1];rw[if_pos (show 2<(a::b::r).length/\(a::b::r).head? = some 48 from ⟨hlen,by rw[ha'];rfl⟩)]
    show _=Br (if uH b=120 then _ else _:Nat×Nat×Nat).1 _ _;have hb:(a::b::r).getD 1 0=b:=rfl;simp only[hb]
    repeat' split
    all_goals rfl
   rw[xy ha]
   have hn:¬(2<(a::b::r).length/\(a::b::r).head? = some 48):=λ⟨_,h⟩=>by
    simp at h;exact ha (by rw[h];rfl)
   exact hno _ (if_neg hn)
 rw[cz (by omega)]
 exact hno _ (if_neg (by omega))
noncomputable def Jb (args:List AV):Option (Bool×List bL) :=
 match args with
 |[.str w]=>some (!w.isEmpty&&Nat.ble w.length 999999,[.val (.int .i64 (aC w).1),.val (.int .i64 ((w.length-(aC w).2.1:Nat):Int)),.val (.int .i64 (aC w).2.2)])
 |_=>none
theorem acB (gv:Nat->List AV):aT (Xg gv) (bg (Xg gv) kn) 97 Jb :=
 aU (λargs=>aX rfl args) (Gi gv) λargs rs hg=>by
  unfold Jb at hg;split at hg
  .
   rename_i w;simp only[Option.some.injEq,Prod.mk.injEq,Bool.and_eq_true,Bool.not_eq_true',List.isEmpty_eq_false_iff,Nat.ble_eq] at hg;obtain ⟨⟨h1,h2⟩,rfl⟩:=hg;exact ⟨[.int .i64 (aC w).1,.int .i64 ((w.length-(aC w).2.1:Nat):Int),.int .i64 (aC w).2.2],dc,5,age gv h1 (by omega),rfl,rfl⟩
  cases hg
end Go.Proofs.YtpaddkkfefgkfaaGreatDoor.lt

namespace Go.Proofs.YtpaddkkfefgkfaaGreatDoor.lt
open Go.Tv Go.Ev
set_option maxRecDepth 100000
def pT:List Bool:=[true,true,false,true,false]
noncomputable def anT:bO:=⟨eX [0,1,6,7,8] pT,.none,[]⟩
noncomputable def stT (s:List UInt8) (at' n i:Int):cj:=j8 67 [(0,.str s),(1,.int .i64 at'),(6,.ptr 0 0),(7,.int .u64 n),(8,.int .i64 i)]
noncomputable def mT:aa:=ot [.cells 56 [.int .i64 0,.int .i64 0]]
noncomputable def jT (gv:Nat->List AV) (s:List UInt8) (at':Int) (r m:Nat) (n i:Int):Option AV:=fJ (Xg gv) (c0 gv AV) anT r 95 pT (λv _=>some v) m (stT s at' n i) mT
def outT (n e f a:Int):Option AV:=some (.cO [.int .i64 n,.int .i64 e,.agg [.int .i64 f,.int .i64 a]])
noncomputable def MF (at' i:Int):Int:=IntKind.wrap .i64 (IntKind.wrap .i64 (i-at')-1)
noncomputable def orT (n c k:Int):Int:=IntKind.wrap .u64 ↑(BitVec.toNat (BitVec.ofInt 64 n ||| BitVec.ofInt 64 (IntKind.wrap .u64 (IntKind.wrap .u64 c*2 ^ (min (Int.toNat (IntKind.wrap .i64 (8*k))) 64)))))
noncomputable def sw (at' n i:Int) (c:UInt8) (go:Int->Int->Option AV):Option AV :=
 pick2 (eqI (aA c) 39) (outT (IntKind.wrap .i64 n) (IntKind.wrap .i64 (i+1)) 0 0)
  (pick2 (ltI (aA c) 32) (outT 0 0 4 i) (pick2 (ltI 126 (aA c)) (outT 0 0 4 i) (pick2 (eqI (MF at' i) 8) (outT 0 0 3 i)
   (pick2 (ltI (IntKind.wrap .i64 (8*MF at' i)) 0) none (go (orT n (aA c) (MF at' i)) (IntKind.wrap .i64 (i+1)))))))
noncomputable def Qg (s:List UInt8) (at' n i:Int) (go:Int->Int->Option AV):Option AV :=
 pick2 (ltI i ↑s.length)
  (Option.rec (motive:=λ_=>Option AV) none (λc=>pick2 (eqI (aA c) 39) (pick2 (eqI (MF at' i) 0) (outT 0 0 4 i) (sw at' n i c go)) (sw at' n i c go)) (aS s i))
  (outT 0 0 4 ↑s.length)
theorem stepT' (gv:Nat->List AV) (s:List UInt8) (at':Int) (r m:Nat) (n i:Int):jT gv s at' r (m+1) n i=Qg s at' n i (jT gv s at' r m):=by kernel_rfl
theorem enterT' (gv:Nat->List AV) (s:List UInt8) (at':Int) (m:Nat):ag (Xg gv) (c0 gv AV) anT m 95 [.str s,.int .i64 at'] aa.empty (λv _=>some v)=jT gv s at' m m 0 (IntKind.wrap .i64 (at'+1)):=by kernel_rfl
def jn (len:Nat):List UInt8->Nat->Nat->Nat->Int×Int×Int×Int
 |[],_,_,_=>(0,0,4,len)
 |
  c::r,k,N,i =>
  if aA c=39 then (if k=0 then (0,0,4,i) else (IntKind.wrap .i64 N,i+1,0,0))
  else if aA c<32\/126<aA c then (0,0,4,i) else if k=8 then (0,0,3,i) else jn len r (k+1) (N+c.toNat*256 ^ k) (i+1)
theorem Yi {N k:Nat} {c:UInt8} (hk:k<8) (hN:N<256 ^ k):orT N (aA c) k=((N+c.toNat*256 ^ k:Nat):Int)/\N+c.toNat*256 ^ k<256 ^ (k+1):=by
 have hc:=c.toNat_lt
 have hlt:N+c.toNat*256 ^ k<256 ^ (k+1):=by
  rw[Nat.pow_succ,Nat.mul_comm (256 ^ k) 256];have:c.toNat*256 ^ k<=255*256 ^ k:=Nat.mul_le_mul_right _ (by omega)
  omega
 have h64:256 ^ (k+1)<=2 ^ 64:=by
  have:256 ^ (k+1)<=256 ^ 8:=Nat.pow_le_pow_right (by omega) (by omega)
  exact this
 have Yj:(2:Nat) ^ (8*k)=256 ^ k:=by rw[Nat.pow_mul]
 have hpos:0<256 ^ k:=Nat.pow_pos (by omega)
 have hle:c.toNat*256 ^ k<2 ^ 64:=by omega
 have agf:N<2 ^ 64:=by omega
 refine ⟨?_,hlt⟩
 unfold orT
 rw[i64_in (by omega) (by omega)]
 have e1:min (Int.toNat (8*(k:Int))) 64=8*k:=by omega
 rw[e1]
 have e2:IntKind.wrap .u64 (aA c)=(c.toNat:Int):=u64_in (X3 c) (by have:=X4 c;omega)
 rw[e2]
 have e3:(c.toNat:Int)*2 ^ (8*k)=((c.toNat*256 ^ k:Nat):Int):=by
  rw[Int.natCast_mul,<-Yj,Int.natCast_pow];rfl
 rw[e3,u64_in (n:=((c.toNat*256 ^ k:Nat):Int)) (by omega) (by omega),BitVec.toNat_or,BitVec.ofInt_natCast,BitVec.ofInt_natCast,BitVec.toNat_ofNat,BitVec.toNat_ofNat,Nat.mod_eq_of_lt agf,Nat.mod_eq_of_lt hle]
 have e4:N ||| c.toNat*256 ^ k=N+c.toNat*256 ^ k:=by
  have h:=Nat.shiftLeft_add_eq_or_of_lt (b:=N) (i:=8*k) (by rw[Yj];exact hN) c.toNat
  rw[Nat.shiftLeft_eq,Yj] at h;rw[Nat.or_comm,<-h,Nat.add_comm]
 rw[e4,u64_in (by omega) (by omega)]
theorem Qh (gv:Nat->List AV) (s:List UInt8) (hs:s.length<1000000) (a r:Nat):∀(rest pre:List UInt8) (m k N:Nat),s=pre++rest->rest.length<m->pre.length=a+1+k->k<=8->N<256 ^ k ->
 jT gv s a r m N pre.length=outT (jn s.length rest k N pre.length).1 (jn s.length rest k N pre.length).2.1 (jn s.length rest k N pre.length).2.2.1 (jn s.length rest k N pre.length).2.2.2:=by
 intro rest
 induction rest with
 |
  nil =>
  intro pre m k N he hm hp hk hN;obtain ⟨m,rfl⟩:∃m',m=m'+1:=⟨m-1,by simp at hm;omega⟩
  rw[stepT'];unfold Qg;have hl:s.length=pre.length:=by rw[he];simp
  rw[cz (by omega)]
  rfl
 |
  cons c rest ih =>
  intro pre m k N he hm hp hk hN;obtain ⟨m,rfl⟩:∃m',m=m'+1:=⟨m-1,by simp at hm;omega⟩
  have hl:s.length=pre.length+(rest.length+1):=by rw[he];simp
  have hg:aS s (pre.length:Int)=some c:=by rw[he];exact gb pre rest c
  have hnext:IntKind.wrap .i64 ((pre.length:Int)+1)=((pre++[c]).length:Int):=by rw[i64_in (by omega) (by omega)];simp
  have acC:MF (a:Int) (pre.length:Int)=(k:Int):=by
   unfold MF;rw[i64_in (n:=(pre.length:Int)-a) (by omega) (by omega),i64_in (by omega) (by omega)];omega
  rw[stepT'];unfold Qg;rw[lQ (by omega),hg,acC]
  show pick2 (eqI (aA c) 39) _ _=_
  have hw:jn s.length (c::rest) k N pre.length=if aA c=39 then (if k=0 then (0,0,4,(pre.length:Int)) else (IntKind.wrap .i64 N,(pre.length:Int)+1,0,0))
   else if aA c<32\/126<aA c then (0,0,4,(pre.length:Int)) else if k=8 then (0,0,3,(pre.length:Int)) else jn s.length rest (k+1) (N+c.toNat*256 ^ k) (pre.length+1):=by
   rw[jn]
  rw[hw];unfold sw;rw[acC,hnext];by_cases hc:aA c=39
  .
   rw[zU hc,if_pos hc];show pick2 (eqI (k:Int) 0) _ _=_;by_cases hk0:k=0
   .
    rw[zU (by omega),if_pos hk0]
   rw[xy (by omega),if_neg hk0]
   show outT _ ((pre++[c]).length:Int) 0 0=_;rw[List.length_append,List.length_singleton];rfl
  rw[xy hc,if_neg hc];show pick2 (ltI (aA c) 32) _ _=_;by_cases h32:aA c<32
  .
   rw[lQ h32,if_pos (.inl h32)]
  rw[cz (by omega)]
  show pick2 (ltI 126 (aA c)) _ _=_;by_cases acD:126<aA c
  .
   rw[lQ acD,if_pos (.inr acD)]
  rw[cz (by omega),if_neg (by omega)]
  show pick2 (eqI (k:Int) 8) _ _=_;by_cases hk8:k=8
  .
   rw[zU (by omega),if_pos hk8]
  rw[xy (by omega),if_neg hk8]
  show pick2 (ltI (IntKind.wrap .i64 (8*(k:Int))) 0) none _=_;rw[i64_in (by omega) (by omega),cz (by omega)]
  obtain ⟨o1,o2⟩:=Yi (c:=c) (show k<8 by omega) hN
  show jT gv s a r m (orT N (aA c) k) ((pre++[c]).length:Int)=_;rw[o1,ih (pre++[c]) m (k+1) (N+c.toNat*256 ^ k) (by rw[he];simp) (by simp at hm;omega) (by simp;omega) (by omega) o2,List.length_append,List.length_singleton]
def jo (s:List UInt8) (a:Nat):Int×Int×Int×Int:=jn s.length (s.drop (a+1)) 0 0 (a+1)
theorem runText (gv:Nat->List AV) (s:List UInt8) (hs:s.length<1000000) (a:Nat) (ha:a<s.length) :
 ag (Xg gv) (c0 gv AV) anT (s.length+1) 95 [.str s,.int .i64 a] aa.empty (λv _=>some v)=outT (jo s a).1 (jo s a).2.1 (jo s a).2.2.1 (jo s a).2.2.2:=by
 rw[enterT',i64_in (by omega) (by omega)]
 have hl:(s.take (a+1)).length=a+1:=by simp;omega
 have:=Qh gv s hs a (s.length+1) (s.drop (a+1)) (s.take (a+1)) (s.length+1) 0 0 (by simp) (by simp;omega) (by omega) (by omega) (by simp)
 rw[hl] at this
 exact this
noncomputable def Qi (args:List AV):Option (Bool×List bL) :=
 match args with
 |[.str s,.int .i64 a]=>some (!ltI a 0&&ltI a ↑s.length&&Nat.ble s.length 999999,[.val (.int .i64 (jo s a.toNat).1),.val (.int .i64 (jo s a.toNat).2.1),.val (.agg [.int .i64 (jo s a.toNat).2.2.1,.int .i64 (jo s a.toNat).2.2.2])])
 |_=>none
theorem acE (gv:Nat->List AV):aT (Xg gv) (bg (Xg gv) kn) 95 Qi :=
 aU (λargs=>aX rfl args) (su gv) λargs rs hg=>by
  unfold Qi at hg;split at hg
  .
   rename_i s a;simp only[Option.some.injEq,Prod.mk.injEq,Bool.and_eq_true,ltI_spec,Bool.not_eq_true',decide_eq_false_iff_not,decide_eq_true_eq,Nat.ble_eq] at hg;obtain ⟨⟨⟨h1,h2⟩,h3⟩,rfl⟩:=hg;obtain ⟨n,rfl⟩:∃n:Nat,a=n:=⟨a.toNat,by omega⟩
   rw[Int.toNat_natCast];exact ⟨[.int .i64 (jo s n).1,.int .i64 (jo s n).2.1,.agg [.int .i64 (jo s n).2.2.1,.int .i64 (jo s n).2.2.2]],anT,s.length+1,runText gv s (by omega) n (by omega),rfl,rfl⟩
  cases hg
noncomputable def L2:List qB:=(95,[none,none],Qi)::(97,[none],Jb)::(98,[none,none],D9)::L1
theorem acF (gv:Nat->List AV):cU (Xg gv) (bg (Xg gv) kn) L2:=.cons (acE gv) (.cons (acB gv) (.cons (acz gv) (V7 gv)))
noncomputable def c2 (gv:Nat->List AV) (β:Type):aY β:=kV (Xg gv) (My L2) inl 200 β 20
theorem acG (gv:Nat->List AV) (β:Type):aQ (Xg gv) (bg (Xg gv) kn) (c2 gv β):=dZ (acF gv) (λf h args=>aX h args) 200 20 β
def pS:List Bool:=[true,true,true,true,true,false,false]
noncomputable def anS:bO:=⟨eX [0,1,6,7] pS,.none,[]⟩
noncomputable def stS (s:List UInt8) (at' e:Int):cj:=j8 102 [(0,.str s),(1,.int .i64 at'),(6,.ptr 0 0),(7,.int .i64 e)]
end Go.Proofs.YtpaddkkfefgkfaaGreatDoor.lt

namespace Go.Proofs.YtpaddkkfefgkfaaGreatDoor.lt
open Go.Tv Go.Ev
set_option maxRecDepth 100000
noncomputable def jS (gv:Nat->List AV) (s:List UInt8) (at':Int) (r m:Nat) (e:Int):Option AV:=fJ (Xg gv) (c2 gv AV) anS r 56 pS (λv _=>some v) m (stS s at' e) mT
noncomputable def Qj (s:List UInt8) (at' e lo:Int) (r:Int×Int×Bool):Option AV :=
 pick2 (!ltI r.2.1 0) (outT 0 0 4 (IntKind.wrap .i64 (lo+r.2.1))) (pick2 r.2.2 (outT 0 0 5 at') (outT (IntKind.wrap .i64 r.1) e 0 0))
noncomputable def Qk (s:List UInt8) (at' e:Int) (w:List UInt8) (p:Nat×Nat×Nat):Option AV :=
 pick2 (!ltI (IntKind.wrap .i64 (at' + ↑p.1)) 0 && !ltI (IntKind.wrap .i64 (at' + ↑(w.length-p.2.1))) (IntKind.wrap .i64 (at' + ↑p.1)) && !ltI (Int.ofNat s.length) (IntKind.wrap .i64 (at' + ↑(w.length-p.2.1))))
  (pick2 (!ltI (p.2.2:Int) 2 && !ltI 16 (p.2.2:Int)&&Nat.ble (aI s (IntKind.wrap .i64 (at' + ↑p.1)) (IntKind.wrap .i64 (at' + ↑(w.length-p.2.1)))).length 999999)
   (Qj s at' e (IntKind.wrap .i64 (at' + ↑p.1)) (iZ (Int.toNat (p.2.2:Int)) (aI s (IntKind.wrap .i64 (at' + ↑p.1)) (IntKind.wrap .i64 (at' + ↑(w.length-p.2.1)))))) none) none
noncomputable def Ql (s:List UInt8) (at' e:Int):Option AV :=
 pick2 (!ltI at' 0 && !ltI e at' && !ltI (Int.ofNat s.length) e)
  (pick2 (!(aI s at' e).isEmpty&&Nat.ble (aI s at' e).length 999999) (Qk s at' e (aI s at' e) (aC (aI s at' e))) none) none
theorem dG (gv:Nat->List AV) (s:List UInt8) (at':Int) (r m:Nat) (e:Int):jS gv s at' r (m+1) e =
 pick2 (ltI e ↑s.length) (Option.rec (motive:=λ_=>Option AV) none (λc=>pick2 (cK (aA c)) (jS gv s at' r m (IntKind.wrap .i64 (e+1))) (Ql s at' e)) (aS s e)) (Ql s at' e):=by kernel_rfl
noncomputable def Jc (s:List UInt8) (at':Int) (go:Option AV):Option AV :=
 Option.rec (motive:=λ_=>Option AV) none (λc=>pick2 (eqI (aA c) 39)
  (pick2 (!ltI at' 0&&ltI at' ↑s.length&&Nat.ble s.length 999999) (outT (jo s at'.toNat).1 (jo s at'.toNat).2.1 (jo s at'.toNat).2.2.1 (jo s at'.toNat).2.2.2) none) go) (aS s at')
theorem Yk (gv:Nat->List AV) (s:List UInt8) (at':Int) (m:Nat):ag (Xg gv) (c2 gv AV) anS m 56 [.str s,.int .i64 at'] aa.empty (λv _=>some v) =
 pick2 (ltI at' 0) (outT 0 0 6 0) (pick2 (!ltI at' ↑s.length) (outT 0 0 6 at')
  (Option.rec (motive:=λ_=>Option AV) none (λc=>pick2 (!eqI (aA c) 39)
   (Option.rec (motive:=λ_=>Option AV) none (λc=>pick2 (ltI (aA c) 48) (outT 0 0 6 at')
    (Option.rec (motive:=λ_=>Option AV) none (λc=>pick2 (ltI 57 (aA c)) (outT 0 0 6 at') (Jc s at' (jS gv s at' m m at'))) (aS s at'))) (aS s at'))
   (Jc s at' (jS gv s at' m m at'))) (aS s at'))):=by kernel_rfl
theorem acH (gv:Nat->List AV) (s:List UInt8) (hs:s.length<1000000) (at':Int) (r:Nat):∀(rest pre:List UInt8) (m:Nat),s=pre++rest->rest.length<m ->
 jS gv s at' r m pre.length=Ql s at' ((pre.length+(rest.takeWhile λc=>cK (aA c)).length:Nat):Int):=by
 intro rest
 induction rest with
 |
  nil =>
  intro pre m he hm;obtain ⟨m,rfl⟩:∃m',m=m'+1:=⟨m-1,by simp at hm;omega⟩
  have hl:s.length=pre.length:=by rw[he];simp
  rw[dG,cz (by omega)]
  rfl
 |
  cons c rest ih =>
  intro pre m he hm;obtain ⟨m,rfl⟩:∃m',m=m'+1:=⟨m-1,by simp at hm;omega⟩
  have hl:s.length=pre.length+(rest.length+1):=by rw[he];simp
  have hg:aS s (pre.length:Int)=some c:=by rw[he];exact gb pre rest c
  have hnext:IntKind.wrap .i64 ((pre.length:Int)+1)=((pre++[c]).length:Int):=by rw[i64_in (by omega) (by omega)];simp
  rw[dG,lQ (by omega),hg,hnext]
  show pick2 (cK (aA c)) _ _=_;cases hw:cK (aA c) with
  |
   true =>
   show jS gv s at' r m _=_;rw[ih (pre++[c]) m (by rw[he];simp) (by simp at hm;omega),List.takeWhile_cons,if_pos hw]
   simp only[List.length_append,List.length_cons,List.length_nil]
   congr 2;omega
  |
   false =>
   rw[List.takeWhile_cons,if_neg (by simp[hw])]
   simp
def iH (w:List UInt8) (a:Nat):Int×Int×Int×Int :=
 if 0<=(iZ (aC w).2.2 ((w.take (w.length-(aC w).2.1)).drop (aC w).1)).2.1 then (0,0,4,(a:Int)+(aC w).1+(iZ (aC w).2.2 ((w.take (w.length-(aC w).2.1)).drop (aC w).1)).2.1)
 else if (iZ (aC w).2.2 ((w.take (w.length-(aC w).2.1)).drop (aC w).1)).2.2 then (0,0,5,(a:Int))
 else (IntKind.wrap .i64 (iZ (aC w).2.2 ((w.take (w.length-(aC w).2.1)).drop (aC w).1)).1,(a:Int)+w.length,0,0)
def cV (s:List UInt8) (at':Int):Int×Int×Int×Int :=
 if at'<0 then (0,0,6,0) else if (s.length:Int)<=at' then (0,0,6,at')
 else if aA (s.getD at'.toNat 0)=39 then jo s at'.toNat
 else if 48<=aA (s.getD at'.toNat 0)/\aA (s.getD at'.toNat 0)<=57 then iH ((s.drop at'.toNat).takeWhile λc=>cK (aA c)) at'.toNat
 else (0,0,6,at')
theorem Gn (w:List UInt8) (h:w≠[]):(aC w).1+(aC w).2.1<=w.length/\2<=(aC w).2.2/\(aC w).2.2<=16:=by
 have hp:0<w.length:=List.length_pos_iff.2 h
 unfold aC
 by_cases hc:2<w.length/\w.head? = some 48
 .
  simp only[if_pos hc]
  repeat' split
  all_goals refine ⟨?_,?_,?_⟩<;>simp only<;>omega
 simp only[if_neg hc]
 repeat' split
 all_goals first|(refine ⟨?_,?_,?_⟩<;>simp only<;>omega)|(rename_i h _;simp at h)|(rename_i h;simp at h)
theorem z7 (b:Int):∀(l:List UInt8) (first prev:Bool) (i j:Nat),cJ b first prev l i=some j->j<=i+l.length
 |
  [],first,prev,i,j,h=>by
  rw[cJ] at h;split at h
  .
   cases h;omega
  cases h
 |
  c::r,first,prev,i,j,h=>by
  rw[cJ] at h;simp only[List.length_cons];split at h
  .
   split at h
   .
    cases h;omega
   have:=z7 b r _ _ _ _ h;omega
  split at h
  .
   cases h;omega
  have:=z7 b r _ _ _ _ h;omega
theorem Ui (b:Nat) (d:List UInt8) : -1<=(iZ b d).2.1/\(iZ b d).2.1<=d.length:=by
 unfold iZ
 split
 .
  rename_i i h;have:=z7 b d true false 0 i h;simp only;omega
 simp only;omega
theorem Uj {s w:List UInt8} (hs:s.length<1000000) {a:Nat} (ha:a+w.length<=s.length) (hw:w≠[]) (he:(s.drop a).take w.length=w) :
 Ql s a ((a+w.length:Nat):Int)=outT (iH w a).1 (iH w a).2.1 (iH w a).2.2.1 (iH w a).2.2.2:=by
 obtain ⟨h1,h2,h3⟩:=Gn w hw
 have Gp:aI s (a:Int) ((a+w.length:Nat):Int)=w:=by
  unfold aI;simp only[Int.toNat_natCast];have:a+w.length-a=w.length:=by omega
  rw[this];exact he
 unfold Ql
 rw[cz (a:=(a:Int)) (b:=0) (by omega),cz (a:=((a+w.length:Nat):Int)) (by omega),cz (a:=Int.ofNat s.length) (by show ((a+w.length:Nat):Int)<=(s.length:Int);omega),Gp]
 have hne:w.isEmpty=false:=by simpa using hw
 have tN:Nat.ble w.length 999999=true:=cP (by omega)
 rw[hne,tN]
 show Qk s a _ w (aC w)=_
 unfold Qk
 have e1:IntKind.wrap .i64 ((a:Int)+((aC w).1:Int))=((a+(aC w).1:Nat):Int):=by rw[i64_in (by omega) (by omega)];omega
 have e2:IntKind.wrap .i64 ((a:Int)+((w.length-(aC w).2.1:Nat):Int))=((a+(w.length-(aC w).2.1):Nat):Int):=by rw[i64_in (by omega) (by omega)];omega
 rw[e1,e2,cz (a:=((a+(aC w).1:Nat):Int)) (b:=0) (by omega),cz (a:=((a+(w.length-(aC w).2.1):Nat):Int)) (by omega),cz (a:=Int.ofNat s.length) (by show ((a+(w.length-(aC w).2.1):Nat):Int)<=(s.length:Int);omega)]
 have acI:aI s ((a+(aC w).1:Nat):Int) ((a+(w.length-(aC w).2.1):Nat):Int)=(w.take (w.length-(aC w).2.1)).drop (aC w).1:=PK he _ _ (by omega)
 rw[acI,cz (a:=((aC w).2.2:Int)) (b:=2) (by omega),cz (a:=16) (by omega)]
 have agh:Nat.ble ((w.take (w.length-(aC w).2.1)).drop (aC w).1).length 999999=true:=cP (by simp;omega)
 rw[agh,Int.toNat_natCast]
 show Qj s a _ _ _=_
 unfold Qj iH
 have hd:=Ui (aC w).2.2 ((w.take (w.length-(aC w).2.1)).drop (aC w).1)
 have hdl:((w.take (w.length-(aC w).2.1)).drop (aC w).1).length<=w.length:=by simp;omega
 generalize iZ (aC w).2.2 ((w.take (w.length-(aC w).2.1)).drop (aC w).1)=rr at hd ⊢
 rw[gG]
 by_cases h0:0<=rr.2.1
 .
  rw[if_pos h0,if_pos h0,i64_in (by omega) (by omega)]
  show outT _ _ _ _=outT _ _ _ _
  congr 1
 rw[if_neg h0,if_neg h0,pick2_eq]
 by_cases h4:rr.2.2=true
 .
  rw[if_pos h4,if_pos h4]
 rw[if_neg h4,if_neg h4]
 show outT _ _ _ _=outT _ _ _ _
 congr 1
theorem Jd (l:List UInt8) (p:UInt8->Bool):l.take (l.takeWhile p).length=l.takeWhile p:=by
 have h:=List.takeWhile_append_dropWhile (p:=p) (l:=l)
 have h2:(l.takeWhile p++l.dropWhile p).take (l.takeWhile p).length=l.takeWhile p:=List.take_left
 rw[h] at h2;exact h2
theorem Bq (gv:Nat->List AV) (s:List UInt8) (hs:s.length<1000000) (at':Int) :
 ag (Xg gv) (c2 gv AV) anS (s.length+1) 56 [.str s,.int .i64 at'] aa.empty (λv _=>some v)=outT (cV s at').1 (cV s at').2.1 (cV s at').2.2.1 (cV s at').2.2.2:=by
 rw[Yk]
 unfold cV
 rw[aV]
 by_cases h0:at'<0
 .
  rw[if_pos h0,if_pos h0]
 rw[if_neg h0,if_neg h0,gG]
 by_cases h1:(s.length:Int)<=at'
 .
  rw[if_pos h1,if_pos h1]
 rw[if_neg h1,if_neg h1]
 obtain ⟨a,rfl⟩:∃a:Nat,at'=a:=⟨at'.toNat,by omega⟩
 have ha:a<s.length:=by omega
 rw[Int.toNat_natCast]
 have hg:aS s (a:Int)=some (s.getD a 0):=by
  rw[ou,List.getD_eq_getElem?_getD,List.getElem?_eq_getElem ha];rfl
 unfold Jc
 rw[hg]
 generalize hc:s.getD a 0=c
 show pick2 (!eqI (aA c) 39) (pick2 (ltI (aA c) 48) _ (pick2 (ltI 57 (aA c)) _ (pick2 (eqI (aA c) 39) _ _))) (pick2 (eqI (aA c) 39) _ _)=_
 simp only[bz,aH,aV]
 by_cases h39:aA c=39
 .
  simp only[if_pos h39];rw[cz (by omega),lQ (by omega),cP (show s.length<=999999 by omega)]
  rw[Int.toNat_natCast];rfl
 simp only[if_neg h39]
 by_cases hd:48<=aA c/\aA c<=57
 .
  rw[if_neg (by omega),if_neg (by omega),if_pos hd]
  have hl:(s.take a).length=a:=by simp;omega
  have KO:=acH gv s hs a (s.length+1) (s.drop a) (s.take a) (s.length+1) (by simp) (by simp;omega)
  rw[hl] at KO;rw[KO]
  have acJ:s.drop a=c::s.drop (a+1):=by
   rw[List.drop_eq_getElem_cons ha,<-hc,List.getD_eq_getElem?_getD,List.getElem?_eq_getElem ha];rfl
  have hw:(s.drop a).takeWhile (λc=>cK (aA c))≠[]:=by
   rw[acJ,List.takeWhile_cons,if_pos (by unfold cK;simp;omega)];simp
  have hle:((s.drop a).takeWhile λc=>cK (aA c)).length<=(s.drop a).length:=by
   have:=List.IsPrefix.length_le (List.takeWhile_prefix (l:=s.drop a) (λc=>cK (aA c)));exact this
  exact Uj hs (by simp at hle;omega) hw (Jd _ _)
 rw[if_neg hd]
 by_cases h48:aA c<48
 .
  rw[if_pos h48]
 rw[if_neg h48,if_pos (by omega)]
noncomputable def Qm (args:List AV):Option (Bool×List bL) :=
 match args with
 |[.str s,.int .i64 a]=>some (Nat.ble s.length 999999,[.val (.int .i64 (cV s a).1),.val (.int .i64 (cV s a).2.1),.val (.agg [.int .i64 (cV s a).2.2.1,.int .i64 (cV s a).2.2.2])])
 |_=>none
theorem acK (gv:Nat->List AV):aT (Xg gv) (bg (Xg gv) kn) 56 Qm :=
 aU (λargs=>aX rfl args) (acG gv) λargs rs hg=>by
  unfold Qm at hg;split at hg
  .
   rename_i s a;simp only[Option.some.injEq,Prod.mk.injEq,Nat.ble_eq] at hg;obtain ⟨h3,rfl⟩:=hg;exact ⟨[.int .i64 (cV s a).1,.int .i64 (cV s a).2.1,.agg [.int .i64 (cV s a).2.2.1,.int .i64 (cV s a).2.2.2]],anS,s.length+1,Bq gv s (by omega) a,rfl,rfl⟩
  cases hg
end Go.Proofs.YtpaddkkfefgkfaaGreatDoor.lt
