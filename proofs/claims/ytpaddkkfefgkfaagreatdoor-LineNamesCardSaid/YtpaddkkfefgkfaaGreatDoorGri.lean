/- Names of registers, of mnemonics. Says: a contract that takes lists of the caller's own. From the layer to the machine. -/
import Derived.Test.YtpaddkkfefgkfaaGreatDoorGrh
set_option linter.unusedVariables false
set_option linter.unusedSimpArgs false

namespace Go.Proofs.YtpaddkkfefgkfaaGreatDoor.ps
open Go.Tv Go.Ev Go.Px Go.Pp Go.Proofs.YtpaddkkfefgkfaaGreatDoor.ex Go.Proofs.YtpaddkkfefgkfaaGreatDoor.rg
set_option maxRecDepth 100000
noncomputable section
abbrev X0:dF:=ex.X0
abbrev bW:bI:=ex.bW
def ah2 (f:FuncId) (args:List AV):Option (AV×aa):=ag X0 (cN P3 [] (AV×aa)) bW 200 f args aa.empty (λv H=>some (v,H))
def rG (c:Int):List bC:=[.room 9 .str (Bt c) (Bt c).length]
def dB (c:Int):Bool:=leaves (rG c) (ah2 47 [.int .i64 c])
theorem KG:dB 1=true:=by kernel_rfl
theorem KH:dB 2=true:=by kernel_rfl
theorem KI:dB 3=true:=by kernel_rfl
theorem KK:dB 4=true:=by kernel_rfl
theorem KL:dB 5=true:=by kernel_rfl
theorem KM:dB 6=true:=by kernel_rfl
theorem KO:dB 7=true:=by kernel_rfl
theorem KP:dB 8=true:=by kernel_rfl
def uD (args:List AV):Option (Bool×List bC) :=
 match args with
 |[.int .i64 c]=>some (!ltI c 1 && !ltI 8 c,rG c)
 |_=>none
theorem in8 {c:Int} (h:(!ltI c 1 && !ltI 8 c)=true):c=1\/c=2\/c=3\/c=4\/c=5\/c=6\/c=7\/c=8:=by
 simp only[ltI_spec,Bool.and_eq_true,Bool.not_eq_true',decide_eq_false_iff_not] at h
 omega
theorem PN:aK X0 cq 47 uD :=
 Bl (nk rfl) (cg B3 n0) bW 200 λargs rs hg=>by
  unfold uD at hg;split at hg
  .
   rename_i c;simp only[Option.some.injEq,Prod.mk.injEq] at hg;obtain ⟨h1,rfl⟩:=hg
   have h:dB c=true:=by
    rcases in8 h1 with rfl|rfl|rfl|rfl|rfl|rfl|rfl|rfl
    .
     exact KG
    .
     exact KH
    .
     exact KI
    .
     exact KK
    .
     exact KL
    .
     exact KM
    .
     exact KO
    exact KP
   unfold dB ah2 at h;exact h
  cases hg
def jb (p:Nat->Bool) (lo:Nat) (n:Nat):Bool:=Nat.rec (motive:=λ_=>Nat->Bool) (λ_=>true) (λ_ go lo=>pick2 (p lo) (go (lo+1)) false) n lo
theorem dV {p:Nat->Bool}:∀{n lo:Nat},jb p lo n=true->∀i,lo<=i->i<lo+n->p i=true
 |0,lo,_,i,h1,h2=>by omega
 |
  n+1,lo,h,i,h1,h2=>by
  have h:pick2 (p lo) (jb p (lo+1) n) false=true:=h;rw[pick2_eq] at h;split at h
  .
   rename_i hp;by_cases hi:i=lo
   .
    rw[hi];exact hp
   exact dV h i (by omega) (by omega)
  cases h
structure Each (p:Int->Int->Bool):Prop where
 a:∀m n:Nat,(p (Int.negSucc m) (Int.negSucc n)&&p (Int.negSucc m) (Int.ofNat n)&&p 0 (Int.negSucc n)&&p 0 (Int.ofNat n)&&p (Int.ofNat (m+9)) (Int.negSucc n)&&p (Int.ofNat (m+9)) (Int.ofNat n))=true
 b:∀n:Nat,jb (λc=>p (Int.ofNat c) (Int.negSucc n)&&p (Int.ofNat c) (Int.ofNat (n+16))) 1 8=true
 c1:jb (λn=>p 1 (Int.ofNat n)) 0 16=true
 c2:jb (λn=>p 2 (Int.ofNat n)) 0 16=true
 c3:jb (λn=>p 3 (Int.ofNat n)) 0 16=true
 c4:jb (λn=>p 4 (Int.ofNat n)) 0 16=true
 c5:jb (λn=>p 5 (Int.ofNat n)) 0 16=true
 c6:jb (λn=>p 6 (Int.ofNat n)) 0 16=true
 c7:jb (λn=>p 7 (Int.ofNat n)) 0 16=true
 c8:jb (λn=>p 8 (Int.ofNat n)) 0 16=true
theorem Each.all {p:Int->Int->Bool} (h:Each p) (c n:Int):p c n=true:=by
 have ha:=h.a
 have hb:=h.b
 simp only[Bool.and_eq_true] at ha
 cases c with
 |
  negSucc m =>
  cases n with
  |negSucc n=>exact (ha m n).1.1.1.1.1
  |ofNat n=>exact (ha m n).1.1.1.1.2
 |
  ofNat c =>
  by_cases h9:9<=c
  .
   obtain ⟨m,rfl⟩:∃m,c=m+9:=⟨c-9,by omega⟩
   cases n with
   |negSucc n=>exact (ha m n).1.2
   |ofNat n=>exact (ha m n).2
  by_cases h0:c=0
  .
   subst h0;cases n with
   |negSucc n=>exact (ha 0 n).1.1.1.2
   |ofNat n=>exact (ha 0 n).1.1.2
  cases n with
  |
   negSucc n =>
   have:=dV (hb n) c (by omega) (by omega)
   simp only[Bool.and_eq_true] at this;exact this.1
  |
   ofNat n =>
   by_cases Tb:16<=n
   .
    obtain ⟨m,rfl⟩:∃m,n=m+16:=⟨n-16,by omega⟩
    have:=dV (hb m) c (by omega) (by omega)
    simp only[Bool.and_eq_true] at this;exact this.2
   have:c=1\/c=2\/c=3\/c=4\/c=5\/c=6\/c=7\/c=8:=by omega
   rcases this with rfl|rfl|rfl|rfl|rfl|rfl|rfl|rfl
   .
    exact dV h.c1 n (by omega) (by omega)
   .
    exact dV h.c2 n (by omega) (by omega)
   .
    exact dV h.c3 n (by omega) (by omega)
   .
    exact dV h.c4 n (by omega) (by omega)
   .
    exact dV h.c5 n (by omega) (by omega)
   .
    exact dV h.c6 n (by omega) (by omega)
   .
    exact dV h.c7 n (by omega) (by omega)
   exact dV h.c8 n (by omega) (by omega)
def Ge (c:Int):Int:=pick2 (eqI c 2) 4 0
def Uv (c:Int):Int:=pick2 (eqI c 2) 4 (pick2 (eqI c 8) 1 (pick2 (!ltI c 1 && !ltI 7 c) 16 0))
def qc (c n:Int):Bool := !ltI n (Ge c)&&ltI n (Ge c+Uv c)
def alV (l:List (List UInt8)) (i:Int):List UInt8:=Option.rec (motive:=λ_=>List UInt8) [] (λs=>s) (aO l i)
def bu (c n:Int):List UInt8:=pick2 (qc c n) (alV (Bt c) (n-Ge c)) []
def Q1:List mQ:=[(47,[none],uD)]
theorem ah3:bS X0 cq Q1:=.cons PN .nil
def HO (f:FuncId) (c n:Int):Option (AV×aa):=ag X0 (cN Q1 [] (AV×aa)) bW 20 f [.agg [.int .i64 c,.int .i64 n]] aa.empty (λv H=>some (v,H))
def qz (c n:Int):Bool:=leaves [.val (.str (bu c n))] (HO 14 c n)
theorem ah4:∀m n:Nat,(qz (Int.negSucc m) (Int.negSucc n)&&qz (Int.negSucc m) (Int.ofNat n)&&qz 0 (Int.negSucc n)&&qz 0 (Int.ofNat n)&&qz (Int.ofNat (m+9)) (Int.negSucc n)&&qz (Int.ofNat (m+9)) (Int.ofNat n))=true:=by intros;kernel_rfl
theorem ah5:∀n:Nat,jb (λc=>qz (Int.ofNat c) (Int.negSucc n)&&qz (Int.ofNat c) (Int.ofNat (n+16))) 1 8=true:=by intros;kernel_rfl
theorem adv:jb (λn=>qz 1 (Int.ofNat n)) 0 16=true:=by kernel_rfl
theorem adw:jb (λn=>qz 2 (Int.ofNat n)) 0 16=true:=by kernel_rfl
theorem adx:jb (λn=>qz 3 (Int.ofNat n)) 0 16=true:=by kernel_rfl
theorem ady:jb (λn=>qz 4 (Int.ofNat n)) 0 16=true:=by kernel_rfl
theorem adz:jb (λn=>qz 5 (Int.ofNat n)) 0 16=true:=by kernel_rfl
theorem adA:jb (λn=>qz 6 (Int.ofNat n)) 0 16=true:=by kernel_rfl
theorem adB:jb (λn=>qz 7 (Int.ofNat n)) 0 16=true:=by kernel_rfl
theorem adC:jb (λn=>qz 8 (Int.ofNat n)) 0 16=true:=by kernel_rfl
theorem adD:Each qz:=⟨ah4,ah5,adv,adw,adx,ady,adz,adA,adB,adC⟩
def NM (args:List AV):Option (Bool×List bC) :=
 match args with
 |[.agg [.int .i64 c,.int .i64 n]]=>some (true,[.val (.str (bu c n))])
 |_=>none
theorem Uw:aK X0 cq 14 NM :=
 Bl (nk rfl) (cg ah3 n0) bW 20 λargs rs hg=>by
  unfold NM at hg;split at hg
  .
   rename_i c n;simp only[Option.some.injEq,Prod.mk.injEq] at hg;obtain ⟨h1,rfl⟩:=hg;have h:=adD.all c n;unfold qz HO at h;exact h
  cases hg
def fp (a x:Int):Bool:=pick2 (qc a x) (eqI (pR (bu a x)).1 a&&(eqI (pR (bu a x)).2.1 x&&(pR (bu a x)).2.2)) true
theorem fpa:∀m n:Nat,(fp (Int.negSucc m) (Int.negSucc n)&&fp (Int.negSucc m) (Int.ofNat n)&&fp 0 (Int.negSucc n)&&fp 0 (Int.ofNat n)&&fp (Int.ofNat (m+9)) (Int.negSucc n)&&fp (Int.ofNat (m+9)) (Int.ofNat n))=true:=by intros;kernel_rfl
theorem fpb:∀n:Nat,jb (λc=>fp (Int.ofNat c) (Int.negSucc n)&&fp (Int.ofNat c) (Int.ofNat (n+16))) 1 8=true:=by intros;kernel_rfl
theorem alW:jb (λn=>fp 1 (Int.ofNat n)) 0 16=true:=by kernel_rfl
theorem alX:jb (λn=>fp 2 (Int.ofNat n)) 0 16=true:=by kernel_rfl
theorem alY:jb (λn=>fp 3 (Int.ofNat n)) 0 16=true:=by kernel_rfl
theorem alZ:jb (λn=>fp 4 (Int.ofNat n)) 0 16=true:=by kernel_rfl
theorem al0:jb (λn=>fp 5 (Int.ofNat n)) 0 16=true:=by kernel_rfl
theorem al1:jb (λn=>fp 6 (Int.ofNat n)) 0 16=true:=by kernel_rfl
theorem al2:jb (λn=>fp 7 (Int.ofNat n)) 0 16=true:=by kernel_rfl
theorem al3:jb (λn=>fp 8 (Int.ofNat n)) 0 16=true:=by kernel_rfl
theorem Yi:Each fp:=⟨fpa,fpb,alW,alX,alY,alZ,al0,al1,al2,al3⟩
theorem Cc {a x:Int} (h:qc a x=true):pR (bu a x)=(a,x,true):=by
 have:=Yi.all a x
 unfold fp at this
 rw[h] at this
 have this:(eqI (pR (bu a x)).1 a&&(eqI (pR (bu a x)).2.1 x&&(pR (bu a x)).2.2))=true:=this
 simp only[Bool.and_eq_true,eqI_spec,beq_iff_eq] at this
 exact Prod.ext this.1 (Prod.ext this.2.1 this.2.2)
theorem ajA {c n:Int} (h:ax (bu c n)=true):lt.gu (bu c n)=true:=by
 have hv:qc c n=true:=by
  cases hv:qc c n with
  |true=>rfl
  |
   false =>
   have:bu c n=[]:=by unfold bu;rw[hv]
   rw[this] at h;cases h
 unfold lt.gu
 rw[Cc hv]
 rfl
theorem I4 {s:List UInt8}:∀{l:List (List UInt8)} {k:Int},s∈l->∃j,nm.tJ s l k=some j
 |[],k,h=>by cases h
 |
  p::l,k,h=>by
  by_cases hp:s=p
  .
   exact ⟨k,by rw[nm.tJ,if_pos hp.symm]⟩
  rcases List.mem_cons.1 h with h|h
  .
   exact absurd h hp
  obtain ⟨j,hj⟩:=I4 (k:=k+1) h;exact ⟨j,by rw[nm.tJ,if_neg (λe=>hp e.symm),hj]⟩
theorem al4 {op:Int} (h:ax (nm.bT op)=true):lt.gu (nm.bT op)=true:=by
 have hm:(nm.di (nm.bT op)).2=true:=by
  have hs:nm.bT op∈nm.Qp:=by
   rw[nm.Ia] at h ⊢;by_cases ho:1<=op/\op<=322
   .
    rw[if_pos ho] at h ⊢;by_cases hl:op.toNat-1<nm.Qp.length
    .
     rw[List.getD_eq_getElem?_getD,List.getElem?_eq_getElem hl];exact List.getElem_mem hl
    rw[List.getD_eq_getElem?_getD,List.getElem?_eq_none_iff.2 (by omega)] at h
    cases h
   rw[if_neg ho] at h;cases h
  obtain ⟨j,hj⟩:=I4 (k:=1) hs;unfold nm.di;rw[hj]
 unfold lt.gu
 rw[hm]
 cases (rg.pR (nm.bT op)).2.2<;>rfl
def Q2:List mQ:=(14,[none],NM)::S1
theorem ah6:bS X0 cq Q2:=.cons Uw tP
end
end Go.Proofs.YtpaddkkfefgkfaaGreatDoor.ps

namespace Go.Proofs.YtpaddkkfefgkfaaGreatDoor.ps
open Go.Tv Go.Ev Go.Px Go.Pp Go.Proofs.YtpaddkkfefgkfaaGreatDoor.ex
set_option maxRecDepth 100000
noncomputable section
theorem Eu {f:FuncId} (hk:lt.inl f=true) {M:List mQ} {N:List kB} (hM:bS ex.X0 cq M) (hN:cR ex.X0 cq N) {g:List AV->Option (Bool×List bC)} (sgA:List (List (Option Tv.Ty)))
 (h:∀args rs,g args=some (true,rs)->∃vs an rounds,ag ex.X0 (cN M N AV) an rounds f (o6 sgA args) aa.empty (λv _=>some v)=some (Tv.kP vs)/\rs=vs.map .val/\vs.all nI=true):aK ex.X0 cq f g:=by
 intro args rs hg
 obtain ⟨vs,an,rounds,h1,h2,h3⟩:=h args rs hg
 subst h2
 obtain ⟨v',H1,k1,k2⟩:=fy (nf:=false) (cg hM hN _) (λh=>by cases h) h1
 have k1:v'=Tv.kP vs:=Option.some.inj k1
 subst k1
 refine ⟨vs,H1,λS E aC hr hgl hl=>?_,uB h3⟩
 obtain ⟨S',vE,E',a1,a2,a3,a4,_⟩:=k2 S E aC hr hgl (wk sgA hl)
 exact ⟨S',vE,E',cI (nk hk) a1,sG a2,a3,a4⟩
theorem Yj (s:List UInt8) (b:RS):ag ex.X0 (cN S1 LD _) ex.bW 5 18 [.str s,.agg (JQ b)] aa.empty (λv _=>some v)=pick2 (eqI (cH s).2.1 0) (pick2 (We (cH s).1) (some (.bool (LC (cH s).1 b))) none) (some (.bool false)):=by kernel_rfl
def gSy (args:List AV):Option (Bool×List bC) :=
 match o6 [[none],I1] args with
 |
  [.str s,.agg B]=>match PL B with
  |some b=>some (true,[.val (.bool (yV s b))])
  |none=>none
 |_=>none
theorem Ew:aK ex.X0 cq 18 gSy :=
 Eu rfl tP uP [[none],I1] λvs rs hg=>by
  unfold gSy at hg;split at hg
  case h_2=>cases hg
  rename_i s B hv;split at hg
  case h_2=>cases hg
  rename_i b hb;simp only[Option.some.injEq,Prod.mk.injEq] at hg;obtain ⟨_,rfl⟩:=hg;refine ⟨[.bool (yV s b)],ex.bW,5,?_,rfl,rfl⟩;rw[hv,sP hb,Yj,zU,av];unfold yV;by_cases h:(cH s).2.1=0
  .
   rw[if_pos h,decide_eq_true h];rfl
  rw[if_neg h,decide_eq_false h];rfl
def Yk (args:List AV):Option (Bool×List bC) :=
 match args with
 |[]=>some (true,[.val (.bool true)])
 |_=>none
theorem ah7:lt.kn 12 []=some (.bool true):=by kernel_rfl
theorem LI:aK ex.X0 cq 12 Yk :=
 sI λargs rs hg=>by
  unfold Yk at hg;split at hg
  .
   simp only[Option.some.injEq,Prod.mk.injEq] at hg;obtain ⟨_,rfl⟩:=hg;refine ⟨_,.bool true,rfl,rfl,λS=>.bool _,rfl,λS aC hl=>?_⟩
   rw[hl.ep];exact ⟨ah7,rfl⟩
  cases hg
def Q3:List mQ:=(12,[],Yk)::(18,[none,none],gSy)::Q2
theorem anA:bS ex.X0 cq Q3:=.cons LI (.cons Ew ah6)
end
end Go.Proofs.YtpaddkkfefgkfaaGreatDoor.ps

namespace Go.Proofs.YtpaddkkfefgkfaaGreatDoor.ps
open Go.Tv Go.Ev
noncomputable section
theorem dM {w:World} {rows:List Blk} (h0:∃b,rows[0]? = some b/\b.live=true/\b.cells=lt.j4) (h1:∃b,rows[1]? = some b/\b.live=true/\b.cells=rg.space) (hr:bR rows w):bY ex.X0 (kA w):=by
 refine DT hr λg hg he=>?_
 match g,hg,he with
 |0,_,_=>obtain ⟨b,e1,e2,e3⟩:=h0;exact ⟨b,e1,e2,by rw[e3];rfl,by rw[e3];kernel_rfl⟩
 |1,_,_=>obtain ⟨b,e1,e2,e3⟩:=h1;exact ⟨b,e1,e2,by rw[e3];rfl,by rw[e3];kernel_rfl⟩
 |g+2,hg,_=>exact absurd hg (by show ¬g+2<2;omega)
end
end Go.Proofs.YtpaddkkfefgkfaaGreatDoor.ps
