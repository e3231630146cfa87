/- A line that is written: held against what is read; the contract of Write. -/
import Derived.Test.YtpaddkkfefgkfaaGreatDoorKd
import Derived.Test.YtpaddkkfefgkfaaGreatDoorGrj
set_option linter.unusedVariables false
set_option linter.unusedSimpArgs false
namespace Go.Proofs.YtpaddkkfefgkfaaGreatDoor.ps.wr
open Go.Tv Go.Ev Go.Px Go.Pp Go.Proofs.YtpaddkkfefgkfaaGreatDoor.ex
set_option maxRecDepth 100000
noncomputable section
theorem aaP {a b:RS} (hok:Ec a=true):wW a b=some [.bool (Eb a b)]:=by
 unfold Ec at hok
 simp only[Bool.and_eq_true] at hok
 obtain ⟨g1,⟨g2,g3⟩,g4,g5⟩:=hok
 have gd:okD a.data=true:=by unfold okD;rw[g2,g3];rfl
 unfold wW Eb
 rw[g1,gd,g4,g5]
 have d1:∀x y:List Nd,kZ x y=decide (x=y):=λx y=>by
  rw[Bool.eq_iff_iff,fe,decide_eq_true_iff]
 rw[d1,d1]
 have e1:∀x y:Int,eqI x y=decide (x=y):=λx y=>by rw[eqI_spec,Bool.eq_iff_iff];simp
 rw[e1,e1,e1,e1]
 cases decide (a.lab=b.lab)<;>cases decide (a.kind=b.kind)<;>cases decide (a.sz=b.sz)<;>cases decide (a.op=b.op)<;>cases decide (a.hint=b.hint)<;>cases kZ a.args b.args<;>cases kZ a.data b.data<;>cases decide (a.x=b.x)<;>cases decide (a.times=b.times)<;>rfl
theorem aaQ:bh ex.X0 cg 84 ⟨none,[none,none],gV fSs⟩ :=
 nH rfl GS aaB [wh,wh] ri λvs ws hf=>by
  unfold fSs at hf;split at hf
  case h_2=>cases hf
  rename_i A B hv;split at hf
  case h_2=>cases hf
  rename_i a b ha hb;simp only[Option.some.injEq,Prod.mk.injEq] at hf;obtain ⟨g0,rfl⟩:=hf;refine ⟨rfl,bV,5,?_⟩;rw[hv,jc ha,jc hb];exact (Vn a b).trans (aaP g0)
def gJl (args:List AV):Option (Bool×List bA) :=
 match args with
 |
  [a]=>match sM aC a with
  |some l=>some (Nat.ble l.length 300000&&l.all lt.fF,[.val (.str (lt.dL l).1),.val (.int .i64 (lt.dL l).2)])
  |none=>none
 |_=>none
theorem aaR:aO ex.X0 cg 28 gJl :=
 aJ (λargs=>lt.aL rfl args) lt.d8'_ok λargs rs hg=>by
  unfold gJl at hg;split at hg
  case h_2=>cases hg
  split at hg
  case h_2=>cases hg
  rename_i a l hl;have e1:=bq hl;subst e1;simp only[Option.some.injEq,Prod.mk.injEq,Bool.and_eq_true,Nat.ble_eq,List.all_eq_true] at hg;obtain ⟨⟨h1,h2⟩,rfl⟩:=hg;exact ⟨[.str (lt.dL l).1,.int .i64 (lt.dL l).2],_,_,lt.aik l h1 h2,rfl,rfl⟩
def K4:List nY:=(28,[some aC],gJl)::K1
theorem WM:cr ex.X0 cg K4:=.cons aaR rU
def WN:List gJ:=(84,⟨none,[none,none],gV fSs⟩)::(83,Nt Vl [none])::NR
theorem R4:bS ex.X0 cg WN:=.cons aaQ (.cons Vm Rp)
def aeW:List (List (Option Tv.Ty)):=[[none],[none]]
def Na (s:List UInt8) (e:Int):kO:=some [.str s,.int .i64 e]
def wrT (x:RS):kO :=
 pick2 (true&&true&&Nat.ble x.args.length 500&&Nat.ble x.data.length 500&&true&&true) (pick2 (dZ x).2 (Na [] 2) (pick2 (Nat.ble (dZ x).1.length 300000&&(dZ x).1.all lt.fF)
  (pick2 (!eqI (lt.dL (dZ x).1).2 0) (Na [] (lt.dL (dZ x).1).2) (pick2 (!eqI (bH (lt.dL (dZ x).1).1).2.1 0) (Na [] 2)
   (pick2 (Ec x) (pick2 (!Eb x (bH (lt.dL (dZ x).1).1).1) (Na [] 2) (Na (lt.dL (dZ x).1).1 0)) none))) none)) none
theorem Vw (x:RS):ag ex.X0 (cN K4 WN _) bV 5 44 [.agg (Ea x)] aa.empty (gM aeW)=wrT x:=by kernel_rfl
end
end Go.Proofs.YtpaddkkfefgkfaaGreatDoor.ps.wr
