/- Names of registers, of mnemonics. Says: a contract that takes lists of the caller's own. From the layer to the machine. -/
import Derived.Test.YtpaddkkfefgkfaaGreatDoorGrh
set_option linter.unusedVariables false
set_option linter.unusedSimpArgs false

namespace Go.Proofs.YtpaddkkfefgkfaaGreatDoor.ps
open Go.Tv Go.Ev Go.Px Go.Pp Go.Proofs.YtpaddkkfefgkfaaGreatDoor.ex Go.Proofs.YtpaddkkfefgkfaaGreatDoor.rg
set_option maxRecDepth 100000
noncomputable section
abbrev X0:cY:=ex.X0
abbrev bK:bG:=ex.bK
def aci (f:FuncId) (args:List AV):Option (AV×aa):=ag X0 (cN P3 [] (AV×aa)) bK 200 f args aa.empty (λv H=>some (v,H))
def pK (c:Int):List aZ:=[.room 9 .str (yM c) (yM c).length]
def cB (c:Int):Bool:=leaves (pK c) (aci 47 [.int .i64 c])
theorem G7:cB 1=true:=by kernel_rfl
theorem G8:cB 2=true:=by kernel_rfl
theorem G9:cB 3=true:=by kernel_rfl
theorem He:cB 4=true:=by kernel_rfl
theorem Hg:cB 5=true:=by kernel_rfl
theorem Hh:cB 6=true:=by kernel_rfl
theorem Hi:cB 7=true:=by kernel_rfl
theorem Hl:cB 8=true:=by kernel_rfl
def se (args:List AV):Option (Bool×List aZ) :=
 match args with
 |[.int .i64 c]=>some (!ltI c 1 && !ltI 8 c,pK c)
 |_=>none
theorem in8 {c:Int} (h:(!ltI c 1 && !ltI 8 c)=true):c=1\/c=2\/c=3\/c=4\/c=5\/c=6\/c=7\/c=8:=by
 simp only[ltI_spec,Bool.and_eq_true,Bool.not_eq_true',decide_eq_false_iff_not] at h
 omega
theorem Lr:aI X0 cI 47 se :=
 yI (nk rfl) (bR ab2 n0) bK 200 λargs rs hg=>by
  unfold se at hg;split at hg
  .
   rename_i c;simp only[Option.some.injEq,Prod.mk.injEq] at hg;obtain ⟨h1,rfl⟩:=hg
   have h:cB c=true:=by
    rcases in8 h1 with rfl|rfl|rfl|rfl|rfl|rfl|rfl|rfl
    .
     exact G7
    .
     exact G8
    .
     exact G9
    .
     exact He
    .
     exact Hg
    .
     exact Hh
    .
     exact Hi
    exact Hl
   unfold cB aci at h;exact h
  cases hg
def gP (p:Nat->Bool) (lo:Nat) (n:Nat):Bool:=Nat.rec (motive:=λ_=>Nat->Bool) (λ_=>true) (λ_ go lo=>pick2 (p lo) (go (lo+1)) false) n lo
theorem cQ {p:Nat->Bool}:∀{n lo:Nat},gP p lo n=true->∀i,lo<=i->i<lo+n->p i=true
 |0,lo,_,i,h1,h2=>by omega
 |
  n+1,lo,h,i,h1,h2=>by
  have h:pick2 (p lo) (gP p (lo+1) n) false=true:=h;rw[pick2_eq] at h;split at h
  .
   rename_i hp;by_cases hi:i=lo
   .
    rw[hi];exact hp
   exact cQ h i (by omega) (by omega)
  cases h
structure Each (p:Int->Int->Bool):Prop where
 a:∀m n:Nat,(p (Int.negSucc m) (Int.negSucc n)&&p (Int.negSucc m) (Int.ofNat n)&&p 0 (Int.negSucc n)&&p 0 (Int.ofNat n)&&p (Int.ofNat (m+9)) (Int.negSucc n)&&p (Int.ofNat (m+9)) (Int.ofNat n))=true
 b:∀n:Nat,gP (λc=>p (Int.ofNat c) (Int.negSucc n)&&p (Int.ofNat c) (Int.ofNat (n+16))) 1 8=true
 c1:gP (λn=>p 1 (Int.ofNat n)) 0 16=true
 c2:gP (λn=>p 2 (Int.ofNat n)) 0 16=true
 c3:gP (λn=>p 3 (Int.ofNat n)) 0 16=true
 c4:gP (λn=>p 4 (Int.ofNat n)) 0 16=true
 c5:gP (λn=>p 5 (Int.ofNat n)) 0 16=true
 c6:gP (λn=>p 6 (Int.ofNat n)) 0 16=true
 c7:gP (λn=>p 7 (Int.ofNat n)) 0 16=true
 c8:gP (λn=>p 8 (Int.ofNat n)) 0 16=true
theorem Each.all {p:Int->Int->Bool} (h:Each p) (c n:Int):p c n=true:=by
 have ha:=h.a
 have hb:=h.b
 simp only[Bool.and_eq_true] at ha
 cases c with
 |
  negSucc m =>
  cases n with
  |negSucc n=>exact (ha m n).1.1.1.1.1
  |ofNat n=>exact (ha m n).1.1.1.1.2
 |
  ofNat c =>
  by_cases h9:9<=c
  .
   obtain ⟨m,rfl⟩:∃m,c=m+9:=⟨c-9,by omega⟩
   cases n with
   |negSucc n=>exact (ha m n).1.2
   |ofNat n=>exact (ha m n).2
  by_cases h0:c=0
  .
   subst h0;cases n with
   |negSucc n=>exact (ha 0 n).1.1.1.2
   |ofNat n=>exact (ha 0 n).1.1.2
  cases n with
  |
   negSucc n =>
   have:=cQ (hb n) c (by omega) (by omega)
   simp only[Bool.and_eq_true] at this;exact this.1
  |
   ofNat n =>
   by_cases Zl:16<=n
   .
    obtain ⟨m,rfl⟩:∃m,n=m+16:=⟨n-16,by omega⟩
    have:=cQ (hb m) c (by omega) (by omega)
    simp only[Bool.and_eq_true] at this;exact this.2
   have:c=1\/c=2\/c=3\/c=4\/c=5\/c=6\/c=7\/c=8:=by omega
   rcases this with rfl|rfl|rfl|rfl|rfl|rfl|rfl|rfl
   .
    exact cQ h.c1 n (by omega) (by omega)
   .
    exact cQ h.c2 n (by omega) (by omega)
   .
    exact cQ h.c3 n (by omega) (by omega)
   .
    exact cQ h.c4 n (by omega) (by omega)
   .
    exact cQ h.c5 n (by omega) (by omega)
   .
    exact cQ h.c6 n (by omega) (by omega)
   .
    exact cQ h.c7 n (by omega) (by omega)
   exact cQ h.c8 n (by omega) (by omega)
def Dy (c:Int):Int:=pick2 (eqI c 2) 4 0
def PV (c:Int):Int:=pick2 (eqI c 2) 4 (pick2 (eqI c 8) 1 (pick2 (!ltI c 1 && !ltI 7 c) 16 0))
def sA (c n:Int):Bool := !ltI n (Dy c)&&ltI n (Dy c+PV c)
def afZ (l:List (List UInt8)) (i:Int):List UInt8:=Option.rec (motive:=λ_=>List UInt8) [] (λs=>s) (aS l i)
def av (c n:Int):List UInt8:=pick2 (sA c n) (afZ (yM c) (n-Dy c)) []
def Q1:List kH:=[(47,[none],se)]
theorem acj:cg X0 cI Q1:=.cons Lr .nil
def EP (f:FuncId) (c n:Int):Option (AV×aa):=ag X0 (cN Q1 [] (AV×aa)) bK 20 f [.agg [.int .i64 c,.int .i64 n]] aa.empty (λv H=>some (v,H))
def oG (c n:Int):Bool:=leaves [.val (.str (av c n))] (EP 14 c n)
theorem ack:∀m n:Nat,(oG (Int.negSucc m) (Int.negSucc n)&&oG (Int.negSucc m) (Int.ofNat n)&&oG 0 (Int.negSucc n)&&oG 0 (Int.ofNat n)&&oG (Int.ofNat (m+9)) (Int.negSucc n)&&oG (Int.ofNat (m+9)) (Int.ofNat n))=true:=by intros;kernel_rfl
theorem acm:∀n:Nat,gP (λc=>oG (Int.ofNat c) (Int.negSucc n)&&oG (Int.ofNat c) (Int.ofNat (n+16))) 1 8=true:=by intros;kernel_rfl
theorem Ye:gP (λn=>oG 1 (Int.ofNat n)) 0 16=true:=by kernel_rfl
theorem Yf:gP (λn=>oG 2 (Int.ofNat n)) 0 16=true:=by kernel_rfl
theorem Yg:gP (λn=>oG 3 (Int.ofNat n)) 0 16=true:=by kernel_rfl
theorem Yh:gP (λn=>oG 4 (Int.ofNat n)) 0 16=true:=by kernel_rfl
theorem Yi:gP (λn=>oG 5 (Int.ofNat n)) 0 16=true:=by kernel_rfl
theorem Yj:gP (λn=>oG 6 (Int.ofNat n)) 0 16=true:=by kernel_rfl
theorem Yk:gP (λn=>oG 7 (Int.ofNat n)) 0 16=true:=by kernel_rfl
theorem Yl:gP (λn=>oG 8 (Int.ofNat n)) 0 16=true:=by kernel_rfl
theorem Ym:Each oG:=⟨ack,acm,Ye,Yf,Yg,Yh,Yi,Yj,Yk,Yl⟩
def JM (args:List AV):Option (Bool×List aZ) :=
 match args with
 |[.agg [.int .i64 c,.int .i64 n]]=>some (true,[.val (.str (av c n))])
 |_=>none
theorem Yn:aI X0 cI 14 JM :=
 yI (nk rfl) (bR acj n0) bK 20 λargs rs hg=>by
  unfold JM at hg;split at hg
  .
   rename_i c n;simp only[Option.some.injEq,Prod.mk.injEq] at hg;obtain ⟨h1,rfl⟩:=hg;have h:=Ym.all c n;unfold oG EP at h;exact h
  cases hg
def fp (a x:Int):Bool:=pick2 (sA a x) (eqI (pR (av a x)).1 a&&(eqI (pR (av a x)).2.1 x&&(pR (av a x)).2.2)) true
theorem fpa:∀m n:Nat,(fp (Int.negSucc m) (Int.negSucc n)&&fp (Int.negSucc m) (Int.ofNat n)&&fp 0 (Int.negSucc n)&&fp 0 (Int.ofNat n)&&fp (Int.ofNat (m+9)) (Int.negSucc n)&&fp (Int.ofNat (m+9)) (Int.ofNat n))=true:=by intros;kernel_rfl
theorem fpb:∀n:Nat,gP (λc=>fp (Int.ofNat c) (Int.negSucc n)&&fp (Int.ofNat c) (Int.ofNat (n+16))) 1 8=true:=by intros;kernel_rfl
theorem af0:gP (λn=>fp 1 (Int.ofNat n)) 0 16=true:=by kernel_rfl
theorem af1:gP (λn=>fp 2 (Int.ofNat n)) 0 16=true:=by kernel_rfl
theorem af2:gP (λn=>fp 3 (Int.ofNat n)) 0 16=true:=by kernel_rfl
theorem af3:gP (λn=>fp 4 (Int.ofNat n)) 0 16=true:=by kernel_rfl
theorem af4:gP (λn=>fp 5 (Int.ofNat n)) 0 16=true:=by kernel_rfl
theorem af5:gP (λn=>fp 6 (Int.ofNat n)) 0 16=true:=by kernel_rfl
theorem af6:gP (λn=>fp 7 (Int.ofNat n)) 0 16=true:=by kernel_rfl
theorem af7:gP (λn=>fp 8 (Int.ofNat n)) 0 16=true:=by kernel_rfl
theorem Tk:Each fp:=⟨fpa,fpb,af0,af1,af2,af3,af4,af5,af6,af7⟩
theorem H9 {a x:Int} (h:sA a x=true):pR (av a x)=(a,x,true):=by
 have:=Tk.all a x
 unfold fp at this
 rw[h] at this
 have this:(eqI (pR (av a x)).1 a&&(eqI (pR (av a x)).2.1 x&&(pR (av a x)).2.2))=true:=this
 simp only[Bool.and_eq_true,eqI_spec,beq_iff_eq] at this
 exact Prod.ext this.1 (Prod.ext this.2.1 this.2.2)
def Q2:List kH:=(14,[none],JM)::S1
end
end Go.Proofs.YtpaddkkfefgkfaaGreatDoor.ps

namespace Go.Proofs.YtpaddkkfefgkfaaGreatDoor.ps
open Go.Tv Go.Ev Go.Px Go.Pp Go.Proofs.YtpaddkkfefgkfaaGreatDoor.ex
set_option maxRecDepth 100000
noncomputable section
theorem Ls {f:FuncId} (hk:lt.inl f=true) {M:List kH} {N:List jo} (hM:cg ex.X0 cI M) (hN:eI ex.X0 cI N) {g:List AV->Option (Bool×List aZ)} (sgA:List (List (Option Tv.Ty)))
 (h:∀args rs,g args=some (true,rs)->∃vs an rounds,ag ex.X0 (cN M N AV) an rounds f (ng sgA args) aa.empty (λv _=>some v)=some (Tv.jO vs)/\rs=vs.map .val/\vs.all kZ=true):aI ex.X0 cI f g:=by
 intro args rs hg
 obtain ⟨vs,an,rounds,h1,h2,h3⟩:=h args rs hg
 subst h2
 obtain ⟨v',H1,k1,k2⟩:=fT (nf:=false) (bR hM hN _) (λh=>by cases h) h1
 have k1:v'=Tv.jO vs:=Option.some.inj k1
 subst k1
 refine ⟨vs,H1,λS E aB hr hgl hl=>?_,r9 h3⟩
 obtain ⟨S',vE,E',a1,a2,a3,a4,_⟩:=k2 S E aB hr hgl (ue sgA hl)
 exact ⟨S',vE,E',dD (nk hk) a1,tF a2,a3,a4⟩
def gSy (args:List AV):Option (Bool×List aZ) :=
 match ng [[none],Ti] args with
 |
  [.str s,.agg B]=>match Tj B with
  |some b=>some (true,[.val (.bool (U8 s b))])
  |none=>none
 |_=>none
def Zs (args:List AV):Option (Bool×List aZ) :=
 match args with
 |[]=>some (true,[.val (.bool true)])
 |_=>none
def Q3:List kH:=(12,[],Zs)::(18,[none,none],gSy)::Q2
end
end Go.Proofs.YtpaddkkfefgkfaaGreatDoor.ps

namespace Go.Proofs.YtpaddkkfefgkfaaGreatDoor.ps
open Go.Tv Go.Ev
noncomputable section
theorem cZ {w:World} {rows:List Blk} (h0:∃b,rows[0]? = some b/\b.live=true/\b.cells=lt.pL) (h1:∃b,rows[1]? = some b/\b.live=true/\b.cells=rg.space) (h3:∃b,rows[3]? = some b/\b.live=true/\b.cells=lt.pM)
 (h7:∃b,rows[7]? = some b/\b.live=true/\b.cells=lt.N3) (h8:∃b,rows[8]? = some b/\b.live=true/\b.cells=lt.pN) (hr:dm rows w):bP ex.X0 (kz w):=by
 refine Bo hr λg hg he=>?_
 match g,hg,he with
 |0,_,_=>obtain ⟨b,e1,e2,e3⟩:=h0;exact ⟨b,e1,e2,by rw[e3];rfl,by rw[e3];kernel_rfl⟩
 |1,_,_=>obtain ⟨b,e1,e2,e3⟩:=h1;exact ⟨b,e1,e2,by rw[e3];rfl,by rw[e3];kernel_rfl⟩
 |2,_,he=>exact absurd rfl he
 |3,_,_=>obtain ⟨b,e1,e2,e3⟩:=h3;exact ⟨b,e1,e2,by rw[e3];rfl,by rw[e3];kernel_rfl⟩
 |4,_,he=>exact absurd rfl he
 |5,_,he=>exact absurd rfl he
 |6,_,he=>exact absurd rfl he
 |7,_,_=>obtain ⟨b,e1,e2,e3⟩:=h7;exact ⟨b,e1,e2,by rw[e3];rfl,by rw[e3];kernel_rfl⟩
 |8,_,_=>obtain ⟨b,e1,e2,e3⟩:=h8;exact ⟨b,e1,e2,by rw[e3];rfl,by rw[e3];kernel_rfl⟩
 |g+9,hg,_=>exact absurd hg (by show ¬g+9<9;omega)
end
end Go.Proofs.YtpaddkkfefgkfaaGreatDoor.ps
