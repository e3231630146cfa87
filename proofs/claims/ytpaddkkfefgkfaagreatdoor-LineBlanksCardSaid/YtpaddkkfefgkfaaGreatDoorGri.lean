/- Names of registers, of mnemonics. Says: a contract that takes lists of the caller's own. From the layer to the machine. -/
import Derived.Test.YtpaddkkfefgkfaaGreatDoorGrh

namespace Go.Proofs.YtpaddkkfefgkfaaGreatDoor.ps
open Go.Tv Go.Ev Go.Px Go.Pp Go.Proofs.YtpaddkkfefgkfaaGreatDoor.ex Go.Proofs.YtpaddkkfefgkfaaGreatDoor.rg
set_option maxRecDepth 100000
noncomputable section
abbrev X0:cR:=ex.X0
abbrev dc:bO:=ex.dc
def adY (f:FuncId) (args:List AV):Option (AV×aa):=ag X0 (cN P3 [] (AV×aa)) dc 200 f args aa.empty (λv H=>some (v,H))
def qH (c:Int):List bL:=[.room 9 .str (zZ c) (zZ c).length]
def cQ (c:Int):Bool:=leaves (qH c) (adY 47 [.int .i64 c])
theorem I2:cQ 1=true:=by kernel_rfl
theorem I3:cQ 2=true:=by kernel_rfl
theorem I4:cQ 3=true:=by kernel_rfl
theorem I5:cQ 4=true:=by kernel_rfl
theorem I6:cQ 5=true:=by kernel_rfl
theorem I7:cQ 6=true:=by kernel_rfl
theorem I8:cQ 7=true:=by kernel_rfl
theorem I9:cQ 8=true:=by kernel_rfl
def tv (args:List AV):Option (Bool×List bL) :=
 match args with
 |[.int .i64 c]=>some (!ltI c 1 && !ltI 8 c,qH c)
 |_=>none
theorem in8 {c:Int} (h:(!ltI c 1 && !ltI 8 c)=true):c=1\/c=2\/c=3\/c=4\/c=5\/c=6\/c=7\/c=8:=by
 simp only[ltI_spec,Bool.and_eq_true,Bool.not_eq_true',decide_eq_false_iff_not] at h
 omega
theorem Nl:aT X0 eo 47 tv :=
 zT (nk rfl) (eB Ay n0) dc 200 λargs rs hg=>by
  unfold tv at hg;split at hg
  .
   rename_i c;simp only[Option.some.injEq,Prod.mk.injEq] at hg;obtain ⟨h1,rfl⟩:=hg
   have h:cQ c=true:=by
    rcases in8 h1 with rfl|rfl|rfl|rfl|rfl|rfl|rfl|rfl
    .
     exact I2
    .
     exact I3
    .
     exact I4
    .
     exact I5
    .
     exact I6
    .
     exact I7
    .
     exact I8
    exact I9
   unfold cQ adY at h;exact h
  cases hg
def jL (p:Nat->Bool) (lo:Nat) (n:Nat):Bool:=Nat.rec (motive:=λ_=>Nat->Bool) (λ_=>true) (λ_ go lo=>pick2 (p lo) (go (lo+1)) false) n lo
theorem fc {p:Nat->Bool}:∀{n lo:Nat},jL p lo n=true->∀i,lo<=i->i<lo+n->p i=true
 |0,lo,_,i,h1,h2=>by omega
 |
  n+1,lo,h,i,h1,h2=>by
  have h:pick2 (p lo) (jL p (lo+1) n) false=true:=h;rw[pick2_eq] at h;split at h
  .
   rename_i hp;by_cases hi:i=lo
   .
    rw[hi];exact hp
   exact fc h i (by omega) (by omega)
  cases h
structure Each (p:Int->Int->Bool):Prop where
 a:∀m n:Nat,(p (Int.negSucc m) (Int.negSucc n)&&p (Int.negSucc m) (Int.ofNat n)&&p 0 (Int.negSucc n)&&p 0 (Int.ofNat n)&&p (Int.ofNat (m+9)) (Int.negSucc n)&&p (Int.ofNat (m+9)) (Int.ofNat n))=true
 b:∀n:Nat,jL (λc=>p (Int.ofNat c) (Int.negSucc n)&&p (Int.ofNat c) (Int.ofNat (n+16))) 1 8=true
 c1:jL (λn=>p 1 (Int.ofNat n)) 0 16=true
 c2:jL (λn=>p 2 (Int.ofNat n)) 0 16=true
 c3:jL (λn=>p 3 (Int.ofNat n)) 0 16=true
 c4:jL (λn=>p 4 (Int.ofNat n)) 0 16=true
 c5:jL (λn=>p 5 (Int.ofNat n)) 0 16=true
 c6:jL (λn=>p 6 (Int.ofNat n)) 0 16=true
 c7:jL (λn=>p 7 (Int.ofNat n)) 0 16=true
 c8:jL (λn=>p 8 (Int.ofNat n)) 0 16=true
theorem Each.all {p:Int->Int->Bool} (h:Each p) (c n:Int):p c n=true:=by
 have ha:=h.a
 have hb:=h.b
 simp only[Bool.and_eq_true] at ha
 cases c with
 |
  negSucc m =>
  cases n with
  |negSucc n=>exact (ha m n).1.1.1.1.1
  |ofNat n=>exact (ha m n).1.1.1.1.2
 |
  ofNat c =>
  by_cases h9:9<=c
  .
   obtain ⟨m,rfl⟩:∃m,c=m+9:=⟨c-9,by omega⟩
   cases n with
   |negSucc n=>exact (ha m n).1.2
   |ofNat n=>exact (ha m n).2
  by_cases h0:c=0
  .
   subst h0;cases n with
   |negSucc n=>exact (ha 0 n).1.1.1.2
   |ofNat n=>exact (ha 0 n).1.1.2
  cases n with
  |
   negSucc n =>
   have:=fc (hb n) c (by omega) (by omega)
   simp only[Bool.and_eq_true] at this;exact this.1
  |
   ofNat n =>
   by_cases YC:16<=n
   .
    obtain ⟨m,rfl⟩:∃m,n=m+16:=⟨n-16,by omega⟩
    have:=fc (hb m) c (by omega) (by omega)
    simp only[Bool.and_eq_true] at this;exact this.2
   have:c=1\/c=2\/c=3\/c=4\/c=5\/c=6\/c=7\/c=8:=by omega
   rcases this with rfl|rfl|rfl|rfl|rfl|rfl|rfl|rfl
   .
    exact fc h.c1 n (by omega) (by omega)
   .
    exact fc h.c2 n (by omega) (by omega)
   .
    exact fc h.c3 n (by omega) (by omega)
   .
    exact fc h.c4 n (by omega) (by omega)
   .
    exact fc h.c5 n (by omega) (by omega)
   .
    exact fc h.c6 n (by omega) (by omega)
   .
    exact fc h.c7 n (by omega) (by omega)
   exact fc h.c8 n (by omega) (by omega)
def JR (c:Int):Int:=pick2 (eqI c 2) 4 0
def ZW (c:Int):Int:=pick2 (eqI c 2) 4 (pick2 (eqI c 8) 1 (pick2 (!ltI c 1 && !ltI 7 c) 16 0))
def AJ (c n:Int):Bool := !ltI n (JR c)&&ltI n (JR c+ZW c)
def ahg (l:List (List UInt8)) (i:Int):List UInt8:=Option.rec (motive:=λ_=>List UInt8) [] (λs=>s) (aS l i)
def oG (c n:Int):List UInt8:=pick2 (AJ c n) (ahg (zZ c) (n-JR c)) []
def Q1:List qB:=[(47,[none],tv)]
theorem adZ:cU X0 eo Q1:=.cons Nl .nil
def FW (f:FuncId) (c n:Int):Option (AV×aa):=ag X0 (cN Q1 [] (AV×aa)) dc 20 f [.agg [.int .i64 c,.int .i64 n]] aa.empty (λv H=>some (v,H))
def pU (c n:Int):Bool:=leaves [.val (.str (oG c n))] (FW 14 c n)
theorem ad0:∀m n:Nat,(pU (Int.negSucc m) (Int.negSucc n)&&pU (Int.negSucc m) (Int.ofNat n)&&pU 0 (Int.negSucc n)&&pU 0 (Int.ofNat n)&&pU (Int.ofNat (m+9)) (Int.negSucc n)&&pU (Int.ofNat (m+9)) (Int.ofNat n))=true:=by intros;kernel_rfl
theorem ad1:∀n:Nat,jL (λc=>pU (Int.ofNat c) (Int.negSucc n)&&pU (Int.ofNat c) (Int.ofNat (n+16))) 1 8=true:=by intros;kernel_rfl
theorem ZX:jL (λn=>pU 1 (Int.ofNat n)) 0 16=true:=by kernel_rfl
theorem ZY:jL (λn=>pU 2 (Int.ofNat n)) 0 16=true:=by kernel_rfl
theorem ZZ:jL (λn=>pU 3 (Int.ofNat n)) 0 16=true:=by kernel_rfl
theorem Z0:jL (λn=>pU 4 (Int.ofNat n)) 0 16=true:=by kernel_rfl
theorem Z1:jL (λn=>pU 5 (Int.ofNat n)) 0 16=true:=by kernel_rfl
theorem Z2:jL (λn=>pU 6 (Int.ofNat n)) 0 16=true:=by kernel_rfl
theorem Z3:jL (λn=>pU 7 (Int.ofNat n)) 0 16=true:=by kernel_rfl
theorem Z4:jL (λn=>pU 8 (Int.ofNat n)) 0 16=true:=by kernel_rfl
theorem Z5:Each pU:=⟨ad0,ad1,ZX,ZY,ZZ,Z0,Z1,Z2,Z3,Z4⟩
def Sa (args:List AV):Option (Bool×List bL) :=
 match args with
 |[.agg [.int .i64 c,.int .i64 n]]=>some (true,[.val (.str (oG c n))])
 |_=>none
theorem Z6:aT X0 eo 14 Sa :=
 zT (nk rfl) (eB adZ n0) dc 20 λargs rs hg=>by
  unfold Sa at hg;split at hg
  .
   rename_i c n;simp only[Option.some.injEq,Prod.mk.injEq] at hg;obtain ⟨h1,rfl⟩:=hg;have h:=Z5.all c n;unfold pU FW at h;exact h
  cases hg
def fp (a x:Int):Bool:=pick2 (AJ a x) (eqI (pR (oG a x)).1 a&&(eqI (pR (oG a x)).2.1 x&&(pR (oG a x)).2.2)) true
theorem fpa:∀m n:Nat,(fp (Int.negSucc m) (Int.negSucc n)&&fp (Int.negSucc m) (Int.ofNat n)&&fp 0 (Int.negSucc n)&&fp 0 (Int.ofNat n)&&fp (Int.ofNat (m+9)) (Int.negSucc n)&&fp (Int.ofNat (m+9)) (Int.ofNat n))=true:=by intros;kernel_rfl
theorem fpb:∀n:Nat,jL (λc=>fp (Int.ofNat c) (Int.negSucc n)&&fp (Int.ofNat c) (Int.ofNat (n+16))) 1 8=true:=by intros;kernel_rfl
theorem ahh:jL (λn=>fp 1 (Int.ofNat n)) 0 16=true:=by kernel_rfl
theorem ahi:jL (λn=>fp 2 (Int.ofNat n)) 0 16=true:=by kernel_rfl
theorem ahj:jL (λn=>fp 3 (Int.ofNat n)) 0 16=true:=by kernel_rfl
theorem ahk:jL (λn=>fp 4 (Int.ofNat n)) 0 16=true:=by kernel_rfl
theorem ahl:jL (λn=>fp 5 (Int.ofNat n)) 0 16=true:=by kernel_rfl
theorem ahm:jL (λn=>fp 6 (Int.ofNat n)) 0 16=true:=by kernel_rfl
theorem ahn:jL (λn=>fp 7 (Int.ofNat n)) 0 16=true:=by kernel_rfl
theorem aho:jL (λn=>fp 8 (Int.ofNat n)) 0 16=true:=by kernel_rfl
theorem Vp:Each fp:=⟨fpa,fpb,ahh,ahi,ahj,ahk,ahl,ahm,ahn,aho⟩
theorem JS {a x:Int} (h:AJ a x=true):pR (oG a x)=(a,x,true):=by
 have:=Vp.all a x
 unfold fp at this
 rw[h] at this
 have this:(eqI (pR (oG a x)).1 a&&(eqI (pR (oG a x)).2.1 x&&(pR (oG a x)).2.2))=true:=this
 simp only[Bool.and_eq_true,eqI_spec,beq_iff_eq] at this
 exact Prod.ext this.1 (Prod.ext this.2.1 this.2.2)
theorem ae2 {c n:Int} (h:bf (oG c n)=true):lt.fR (oG c n)=true:=by
 have hv:AJ c n=true:=by
  cases hv:AJ c n with
  |true=>rfl
  |
   false =>
   have:oG c n=[]:=by unfold oG;rw[hv]
   rw[this] at h;cases h
 unfold lt.fR
 rw[JS hv]
 rfl
theorem G7 {s:List UInt8}:∀{l:List (List UInt8)} {k:Int},s∈l->∃j,nm.sr s l k=some j
 |[],k,h=>by cases h
 |
  p::l,k,h=>by
  by_cases hp:s=p
  .
   exact ⟨k,by rw[nm.sr,if_pos hp.symm]⟩
  rcases List.mem_cons.1 h with h|h
  .
   exact absurd h hp
  obtain ⟨j,hj⟩:=G7 (k:=k+1) h;exact ⟨j,by rw[nm.sr,if_neg (λe=>hp e.symm),hj]⟩
theorem ahp {op:Int} (h:bf (nm.qG op)=true):lt.fR (nm.qG op)=true:=by
 have hm:(nm.dP (nm.qG op)).2=true:=by
  have hs:nm.qG op∈nm.NW:=by
   rw[nm.Gf] at h ⊢;by_cases ho:1<=op/\op<=322
   .
    rw[if_pos ho] at h ⊢;by_cases hl:op.toNat-1<nm.NW.length
    .
     rw[List.getD_eq_getElem?_getD,List.getElem?_eq_getElem hl];exact List.getElem_mem hl
    rw[List.getD_eq_getElem?_getD,List.getElem?_eq_none_iff.2 (by omega)] at h
    cases h
   rw[if_neg ho] at h;cases h
  obtain ⟨j,hj⟩:=G7 (k:=1) hs;unfold nm.dP;rw[hj]
 unfold lt.fR
 rw[hm]
 cases (rg.pR (nm.qG op)).2.2<;>rfl
def Q2:List qB:=(14,[none],Sa)::S1
theorem ad2:cU X0 eo Q2:=.cons Z6 sy
end
end Go.Proofs.YtpaddkkfefgkfaaGreatDoor.ps

namespace Go.Proofs.YtpaddkkfefgkfaaGreatDoor.ps
open Go.Tv Go.Ev Go.Px Go.Pp Go.Proofs.YtpaddkkfefgkfaaGreatDoor.ex
set_option maxRecDepth 100000
noncomputable section
theorem Nm {f:FuncId} (hk:lt.inl f=true) {M:List qB} {N:List lS} (hM:cU ex.X0 eo M) (hN:dD ex.X0 eo N) {g:List AV->Option (Bool×List bL)} (sgA:List (List (Option Tv.Ty)))
 (h:∀args rs,g args=some (true,rs)->∃vs an rounds,ag ex.X0 (cN M N AV) an rounds f (sx sgA args) aa.empty (λv _=>some v)=some (Tv.iF vs)/\rs=vs.map .val/\vs.all nu=true):aT ex.X0 eo f g:=by
 intro args rs hg
 obtain ⟨vs,an,rounds,h1,h2,h3⟩:=h args rs hg
 subst h2
 obtain ⟨v',H1,k1,k2⟩:=eS (nf:=false) (eB hM hN _) (λh=>by cases h) h1
 have k1:v'=Tv.iF vs:=Option.some.inj k1
 subst k1
 refine ⟨vs,H1,λS E az hr hgl hl=>?_,tq h3⟩
 obtain ⟨S',vE,E',a1,a2,a3,a4,_⟩:=k2 S E az hr hgl (uS sgA hl)
 exact ⟨S',vE,E',cn (nk hk) a1,rH a2,a3,a4⟩
theorem Vq (s:List UInt8) (b:RS):ag ex.X0 (cN S1 JN _) ex.dc 5 18 [.str s,.agg (HT b)] aa.empty (λv _=>some v)=pick2 (eqI (ck s).2.1 0) (pick2 (Tb (ck s).1) (some (.bool (JM (ck s).1 b))) none) (some (.bool false)):=by kernel_rfl
def gSy (args:List AV):Option (Bool×List bL) :=
 match sx [[none],G3] args with
 |
  [.str s,.agg B]=>match Nj B with
  |some b=>some (true,[.val (.bool (xG s b))])
  |none=>none
 |_=>none
theorem C6:aT ex.X0 eo 18 gSy :=
 Nm rfl sy tI [[none],G3] λvs rs hg=>by
  unfold gSy at hg;split at hg
  case h_2=>cases hg
  rename_i s B hv;split at hg
  case h_2=>cases hg
  rename_i b hb;simp only[Option.some.injEq,Prod.mk.injEq] at hg;obtain ⟨_,rfl⟩:=hg;refine ⟨[.bool (xG s b)],ex.dc,5,?_,rfl,rfl⟩;rw[hv,rO hb,Vq,yz,aH];unfold xG;by_cases h:(ck s).2.1=0
  .
   rw[if_pos h,decide_eq_true h];rfl
  rw[if_neg h,decide_eq_false h];rfl
def WI (args:List AV):Option (Bool×List bL) :=
 match args with
 |[]=>some (true,[.val (.bool true)])
 |_=>none
theorem ad3:lt.kn 12 []=some (.bool true):=by kernel_rfl
theorem JT:aT ex.X0 eo 12 WI :=
 rJ λargs rs hg=>by
  unfold WI at hg;split at hg
  .
   simp only[Option.some.injEq,Prod.mk.injEq] at hg;obtain ⟨_,rfl⟩:=hg;refine ⟨_,.bool true,rfl,rfl,λS=>.bool _,rfl,λS az hl=>?_⟩
   rw[hl.dO];exact ⟨ad3,rfl⟩
  cases hg
def Q3:List qB:=(12,[],WI)::(18,[none,none],gSy)::Q2
theorem aim:cU ex.X0 eo Q3:=.cons JT (.cons C6 ad2)
end
end Go.Proofs.YtpaddkkfefgkfaaGreatDoor.ps

namespace Go.Proofs.YtpaddkkfefgkfaaGreatDoor.ps
open Go.Tv Go.Ev
noncomputable section
theorem dz {w:World} {rows:List Blk} (h0:∃b,rows[0]? = some b/\b.live=true/\b.cells=lt.mK) (h1:∃b,rows[1]? = some b/\b.live=true/\b.cells=rg.space) (h3:∃b,rows[3]? = some b/\b.live=true/\b.cells=lt.mL)
 (h7:∃b,rows[7]? = some b/\b.live=true/\b.cells=lt.Qc) (h8:∃b,rows[8]? = some b/\b.live=true/\b.cells=lt.mM) (hr:bU rows w):bS ex.X0 (kU w):=by
 refine Cr hr λg hg he=>?_
 match g,hg,he with
 |0,_,_=>obtain ⟨b,e1,e2,e3⟩:=h0;exact ⟨b,e1,e2,by rw[e3];rfl,by rw[e3];kernel_rfl⟩
 |1,_,_=>obtain ⟨b,e1,e2,e3⟩:=h1;exact ⟨b,e1,e2,by rw[e3];rfl,by rw[e3];kernel_rfl⟩
 |2,_,he=>exact absurd rfl he
 |3,_,_=>obtain ⟨b,e1,e2,e3⟩:=h3;exact ⟨b,e1,e2,by rw[e3];rfl,by rw[e3];kernel_rfl⟩
 |4,_,he=>exact absurd rfl he
 |5,_,he=>exact absurd rfl he
 |6,_,he=>exact absurd rfl he
 |7,_,_=>obtain ⟨b,e1,e2,e3⟩:=h7;exact ⟨b,e1,e2,by rw[e3];rfl,by rw[e3];kernel_rfl⟩
 |8,_,_=>obtain ⟨b,e1,e2,e3⟩:=h8;exact ⟨b,e1,e2,by rw[e3];rfl,by rw[e3];kernel_rfl⟩
 |g+9,hg,_=>exact absurd hg (by show ¬g+9<9;omega)
end
end Go.Proofs.YtpaddkkfefgkfaaGreatDoor.ps
