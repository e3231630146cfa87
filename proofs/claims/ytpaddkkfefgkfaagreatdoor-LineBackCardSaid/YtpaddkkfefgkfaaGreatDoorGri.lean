/- Names of registers, of mnemonics. Says: a contract that takes lists of the caller's own. From the layer to the machine. -/
import Derived.Test.YtpaddkkfefgkfaaGreatDoorGrh
set_option linter.unusedVariables false
set_option linter.unusedSimpArgs false

namespace Go.Proofs.YtpaddkkfefgkfaaGreatDoor.ps
open Go.Tv Go.Ev Go.Px Go.Pp Go.Proofs.YtpaddkkfefgkfaaGreatDoor.ex Go.Proofs.YtpaddkkfefgkfaaGreatDoor.rg
set_option maxRecDepth 100000
noncomputable section
abbrev X0:cI:=ex.X0
abbrev bV:bG:=ex.bV
def aew (f:FuncId) (args:List AV):Option (AV×aa):=ag X0 (cN P3 [] (AV×aa)) bV 200 f args aa.empty (λv H=>some (v,H))
def qm (c:Int):List bA:=[.room 9 .str (oP c) (oP c).length]
def cJ (c:Int):Bool:=leaves (qm c) (aew 47 [.int .i64 c])
theorem Io:cJ 1=true:=by kernel_rfl
theorem Ip:cJ 2=true:=by kernel_rfl
theorem Iq:cJ 3=true:=by kernel_rfl
theorem Ir:cJ 4=true:=by kernel_rfl
theorem Iu:cJ 5=true:=by kernel_rfl
theorem Iv:cJ 6=true:=by kernel_rfl
theorem Iw:cJ 7=true:=by kernel_rfl
theorem Iy:cJ 8=true:=by kernel_rfl
def sP (args:List AV):Option (Bool×List bA) :=
 match args with
 |[.int .i64 c]=>some (!ltI c 1 && !ltI 8 c,qm c)
 |_=>none
theorem in8 {c:Int} (h:(!ltI c 1 && !ltI 8 c)=true):c=1\/c=2\/c=3\/c=4\/c=5\/c=6\/c=7\/c=8:=by
 simp only[ltI_spec,Bool.and_eq_true,Bool.not_eq_true',decide_eq_false_iff_not] at h
 omega
theorem MQ:aO X0 cg 47 sP :=
 zq (nk rfl) (cV Ag n0) bV 200 λargs rs hg=>by
  unfold sP at hg;split at hg
  .
   rename_i c;simp only[Option.some.injEq,Prod.mk.injEq] at hg;obtain ⟨h1,rfl⟩:=hg
   have h:cJ c=true:=by
    rcases in8 h1 with rfl|rfl|rfl|rfl|rfl|rfl|rfl|rfl
    .
     exact Io
    .
     exact Ip
    .
     exact Iq
    .
     exact Ir
    .
     exact Iu
    .
     exact Iv
    .
     exact Iw
    exact Iy
   unfold cJ aew at h;exact h
  cases hg
def ov (p:Nat->Bool) (lo:Nat) (n:Nat):Bool:=Nat.rec (motive:=λ_=>Nat->Bool) (λ_=>true) (λ_ go lo=>pick2 (p lo) (go (lo+1)) false) n lo
theorem eM {p:Nat->Bool}:∀{n lo:Nat},ov p lo n=true->∀i,lo<=i->i<lo+n->p i=true
 |0,lo,_,i,h1,h2=>by omega
 |
  n+1,lo,h,i,h1,h2=>by
  have h:pick2 (p lo) (ov p (lo+1) n) false=true:=h;rw[pick2_eq] at h;split at h
  .
   rename_i hp;by_cases hi:i=lo
   .
    rw[hi];exact hp
   exact eM h i (by omega) (by omega)
  cases h
structure Each (p:Int->Int->Bool):Prop where
 a:∀m n:Nat,(p (Int.negSucc m) (Int.negSucc n)&&p (Int.negSucc m) (Int.ofNat n)&&p 0 (Int.negSucc n)&&p 0 (Int.ofNat n)&&p (Int.ofNat (m+9)) (Int.negSucc n)&&p (Int.ofNat (m+9)) (Int.ofNat n))=true
 b:∀n:Nat,ov (λc=>p (Int.ofNat c) (Int.negSucc n)&&p (Int.ofNat c) (Int.ofNat (n+16))) 1 8=true
 c1:ov (λn=>p 1 (Int.ofNat n)) 0 16=true
 c2:ov (λn=>p 2 (Int.ofNat n)) 0 16=true
 c3:ov (λn=>p 3 (Int.ofNat n)) 0 16=true
 c4:ov (λn=>p 4 (Int.ofNat n)) 0 16=true
 c5:ov (λn=>p 5 (Int.ofNat n)) 0 16=true
 c6:ov (λn=>p 6 (Int.ofNat n)) 0 16=true
 c7:ov (λn=>p 7 (Int.ofNat n)) 0 16=true
 c8:ov (λn=>p 8 (Int.ofNat n)) 0 16=true
theorem Each.all {p:Int->Int->Bool} (h:Each p) (c n:Int):p c n=true:=by
 have ha:=h.a
 have hb:=h.b
 simp only[Bool.and_eq_true] at ha
 cases c with
 |
  negSucc m =>
  cases n with
  |negSucc n=>exact (ha m n).1.1.1.1.1
  |ofNat n=>exact (ha m n).1.1.1.1.2
 |
  ofNat c =>
  by_cases h9:9<=c
  .
   obtain ⟨m,rfl⟩:∃m,c=m+9:=⟨c-9,by omega⟩
   cases n with
   |negSucc n=>exact (ha m n).1.2
   |ofNat n=>exact (ha m n).2
  by_cases h0:c=0
  .
   subst h0;cases n with
   |negSucc n=>exact (ha 0 n).1.1.1.2
   |ofNat n=>exact (ha 0 n).1.1.2
  cases n with
  |
   negSucc n =>
   have:=eM (hb n) c (by omega) (by omega)
   simp only[Bool.and_eq_true] at this;exact this.1
  |
   ofNat n =>
   by_cases h16:16<=n
   .
    obtain ⟨m,rfl⟩:∃m,n=m+16:=⟨n-16,by omega⟩
    have:=eM (hb m) c (by omega) (by omega)
    simp only[Bool.and_eq_true] at this;exact this.2
   have:c=1\/c=2\/c=3\/c=4\/c=5\/c=6\/c=7\/c=8:=by omega
   rcases this with rfl|rfl|rfl|rfl|rfl|rfl|rfl|rfl
   .
    exact eM h.c1 n (by omega) (by omega)
   .
    exact eM h.c2 n (by omega) (by omega)
   .
    exact eM h.c3 n (by omega) (by omega)
   .
    exact eM h.c4 n (by omega) (by omega)
   .
    exact eM h.c5 n (by omega) (by omega)
   .
    exact eM h.c6 n (by omega) (by omega)
   .
    exact eM h.c7 n (by omega) (by omega)
   exact eM h.c8 n (by omega) (by omega)
def Ao (c:Int):Int:=pick2 (eqI c 2) 4 0
def ZX (c:Int):Int:=pick2 (eqI c 2) 4 (pick2 (eqI c 8) 1 (pick2 (!ltI c 1 && !ltI 7 c) 16 0))
def Ju (c n:Int):Bool := !ltI n (Ao c)&&ltI n (Ao c+ZX c)
def aex (l:List (List UInt8)) (i:Int):List UInt8:=Option.rec (motive:=λ_=>List UInt8) [] (λs=>s) (aI l i)
def dO (c n:Int):List UInt8:=pick2 (Ju c n) (aex (oP c) (n-Ao c)) []
def Q1:List nY:=[(47,[none],sP)]
theorem aey:cr X0 cg Q1:=.cons MQ .nil
def FL (f:FuncId) (c n:Int):Option (AV×aa):=ag X0 (cN Q1 [] (AV×aa)) bV 20 f [.agg [.int .i64 c,.int .i64 n]] aa.empty (λv H=>some (v,H))
def pE (c n:Int):Bool:=leaves [.val (.str (dO c n))] (FL 14 c n)
theorem aez:∀m n:Nat,(pE (Int.negSucc m) (Int.negSucc n)&&pE (Int.negSucc m) (Int.ofNat n)&&pE 0 (Int.negSucc n)&&pE 0 (Int.ofNat n)&&pE (Int.ofNat (m+9)) (Int.negSucc n)&&pE (Int.ofNat (m+9)) (Int.ofNat n))=true:=by intros;kernel_rfl
theorem aeA:∀n:Nat,ov (λc=>pE (Int.ofNat c) (Int.negSucc n)&&pE (Int.ofNat c) (Int.ofNat (n+16))) 1 8=true:=by intros;kernel_rfl
theorem ZY:ov (λn=>pE 1 (Int.ofNat n)) 0 16=true:=by kernel_rfl
theorem ZZ:ov (λn=>pE 2 (Int.ofNat n)) 0 16=true:=by kernel_rfl
theorem Z0:ov (λn=>pE 3 (Int.ofNat n)) 0 16=true:=by kernel_rfl
theorem Z1:ov (λn=>pE 4 (Int.ofNat n)) 0 16=true:=by kernel_rfl
theorem Z2:ov (λn=>pE 5 (Int.ofNat n)) 0 16=true:=by kernel_rfl
theorem Z3:ov (λn=>pE 6 (Int.ofNat n)) 0 16=true:=by kernel_rfl
theorem Z4:ov (λn=>pE 7 (Int.ofNat n)) 0 16=true:=by kernel_rfl
theorem Z5:ov (λn=>pE 8 (Int.ofNat n)) 0 16=true:=by kernel_rfl
theorem Z6:Each pE:=⟨aez,aeA,ZY,ZZ,Z0,Z1,Z2,Z3,Z4,Z5⟩
def Rz (args:List AV):Option (Bool×List bA) :=
 match args with
 |[.agg [.int .i64 c,.int .i64 n]]=>some (true,[.val (.str (dO c n))])
 |_=>none
theorem Z7:aO X0 cg 14 Rz :=
 zq (nk rfl) (cV aey n0) bV 20 λargs rs hg=>by
  unfold Rz at hg;split at hg
  .
   rename_i c n;simp only[Option.some.injEq,Prod.mk.injEq] at hg;obtain ⟨h1,rfl⟩:=hg;have h:=Z6.all c n;unfold pE FL at h;exact h
  cases hg
def fp (a x:Int):Bool:=pick2 (Ju a x) (eqI (pR (dO a x)).1 a&&(eqI (pR (dO a x)).2.1 x&&(pR (dO a x)).2.2)) true
def Q2:List nY:=(14,[none],Rz)::S1
theorem aeB:cr X0 cg Q2:=.cons Z7 CF
end
end Go.Proofs.YtpaddkkfefgkfaaGreatDoor.ps

namespace Go.Proofs.YtpaddkkfefgkfaaGreatDoor.ps
open Go.Tv Go.Ev Go.Px Go.Pp Go.Proofs.YtpaddkkfefgkfaaGreatDoor.ex
set_option maxRecDepth 100000
noncomputable section
def gSy (args:List AV):Option (Bool×List bA) :=
 match og [[none],wh] args with
 |
  [.str s,.agg B]=>match Ed B with
  |some b=>some (true,[.val (.bool (xm s b))])
  |none=>none
 |_=>none
def gYs (args:List AV):Option (Bool×List bA) :=
 match args with
 |[]=>some (true,[.val (.bool true)])
 |_=>none
theorem aeC:lt.kn 12 []=some (.bool true):=by kernel_rfl
theorem Z8:aO ex.X0 cg 12 gYs :=
 B3 λargs rs hg=>by
  unfold gYs at hg;split at hg
  .
   simp only[Option.some.injEq,Prod.mk.injEq] at hg;obtain ⟨_,rfl⟩:=hg;refine ⟨_,.bool true,rfl,rfl,λS=>.bool _,rfl,λS ax hl=>?_⟩
   rw[hl.dM];exact ⟨aeC,rfl⟩
  cases hg
def Q3:List nY:=(12,[],gYs)::(18,[none,none],gSy)::Q2
end
end Go.Proofs.YtpaddkkfefgkfaaGreatDoor.ps

namespace Go.Proofs.YtpaddkkfefgkfaaGreatDoor.ps
open Go.Tv Go.Ev
noncomputable section
theorem dz {w:World} {rows:List Blk} (h0:∃b,rows[0]? = some b/\b.live=true/\b.cells=lt.zB) (h1:∃b,rows[1]? = some b/\b.live=true/\b.cells=rg.space) (h3:∃b,rows[3]? = some b/\b.live=true/\b.cells=lt.zC)
 (h7:∃b,rows[7]? = some b/\b.live=true/\b.cells=lt.PD) (h8:∃b,rows[8]? = some b/\b.live=true/\b.cells=lt.zD) (hr:dV rows w):bN ex.X0 (iL w):=by
 refine B7 hr λg hg he=>?_
 match g,hg,he with
 |0,_,_=>obtain ⟨b,e1,e2,e3⟩:=h0;exact ⟨b,e1,e2,by rw[e3];rfl,by rw[e3];kernel_rfl⟩
 |1,_,_=>obtain ⟨b,e1,e2,e3⟩:=h1;exact ⟨b,e1,e2,by rw[e3];rfl,by rw[e3];kernel_rfl⟩
 |2,_,he=>exact absurd rfl he
 |3,_,_=>obtain ⟨b,e1,e2,e3⟩:=h3;exact ⟨b,e1,e2,by rw[e3];rfl,by rw[e3];kernel_rfl⟩
 |4,_,he=>exact absurd rfl he
 |5,_,he=>exact absurd rfl he
 |6,_,he=>exact absurd rfl he
 |7,_,_=>obtain ⟨b,e1,e2,e3⟩:=h7;exact ⟨b,e1,e2,by rw[e3];rfl,by rw[e3];kernel_rfl⟩
 |8,_,_=>obtain ⟨b,e1,e2,e3⟩:=h8;exact ⟨b,e1,e2,by rw[e3];rfl,by rw[e3];kernel_rfl⟩
 |g+9,hg,_=>exact absurd hg (by show ¬g+9<9;omega)
end
end Go.Proofs.YtpaddkkfefgkfaaGreatDoor.ps
