/- Operands: contracts of small functions. Places: which may be; where the bracket closes. Places: what stands in them, as its functions have it; where a term ends. Places: a term. -/
import Derived.Test.YtpaddkkfefgkfaaGreatDoorGrc
import Derived.Test.YtpaddkkfefgkfaaGreatDoorGxa
import Derived.Test.YtpaddkkfefgkfaaGreatDoorLyh
set_option linter.unusedVariables false
set_option linter.unusedSimpArgs false

namespace Go.Proofs.YtpaddkkfefgkfaaGreatDoor.ps
open Go.Tv Go.Ev Go.Px Go.Pp Go.Proofs.YtpaddkkfefgkfaaGreatDoor.ex
set_option maxRecDepth 100000
noncomputable section
abbrev rp:List UInt8->Int×Int×Bool:=rg.pR
theorem nk {f:FuncId} (h:lt.inl f=true):∀args,lt.kn f args=none:=λargs=>lt.aL h args
def gTS (f:Tok->List UInt8->Bool) (args:List AV):Option (Bool×List bA) :=
 match args with
 |[.agg [.int .i64 k,.int .i64 n,.str s,.int .i64 a],.str t]=>some (true,[.val (.bool (f (k,n,s,a) t))])
 |_=>none
theorem I6:aO X0 cg 133 (gTS kM) :=
 aJ (nk rfl) (cV qt n0) λargs rs hg=>by
  unfold gTS at hg;split at hg
  .
   rename_i k n s a t;simp only[Option.some.injEq,Prod.mk.injEq] at hg;obtain ⟨_,rfl⟩:=hg;refine ⟨[.bool (kM (k,n,s,a) t)],bV,5,?_,rfl,rfl⟩;have h:ag X0 (cN M6 [] AV) bV 5 133 [.agg [.int .i64 k,.int .i64 n,.str s,.int .i64 a],.str t] aa.empty (λv _=>some v)=pick2 (eqI k 1) (some (.bool (decide (s=t)))) (some (.bool false)):=by kernel_rfl
   rw[h,aB];unfold kM;by_cases hk:k=1
   .
    rw[if_pos hk,decide_eq_true hk];rfl
   rw[if_neg hk,decide_eq_false hk];rfl
  cases hg
def gTB (f:Tok->Bool) (args:List AV):Option (Bool×List bA) :=
 match args with
 |[.agg [.int .i64 k,.int .i64 n,.str s,.int .i64 a]]=>some (true,[.val (.bool (f (k,n,s,a)))])
 |_=>none
theorem QH:aO X0 cg 194 (gTB xg) :=
 aJ (nk rfl) (cV qt n0) λargs rs hg=>by
  unfold gTB at hg;split at hg
  .
   rename_i k n s a;simp only[Option.some.injEq,Prod.mk.injEq] at hg;obtain ⟨_,rfl⟩:=hg;refine ⟨[.bool (xg (k,n,s,a))],bV,5,?_,rfl,rfl⟩;have h:ag X0 (cN M6 [] AV) bV 5 194 [.agg [.int .i64 k,.int .i64 n,.str s,.int .i64 a]] aa.empty (λv _=>some v)=pick2 (!eqI k 4) (some (.bool true)) (pick2 (decide (s=[36])) (some (.bool true)) (pick2 (decide (s=[36,36])) (some (.bool true)) (some (.bool (decide (s=[41])))))):=by kernel_rfl
   rw[h,aG];unfold xg;by_cases hk:k=4
   .
    rw[if_pos hk,decide_eq_true hk];show _=some (AV.bool (false||(decide (s=[36])||(decide (s=[36,36])||decide (s=[41])))));cases decide (s=[36])<;>cases decide (s=[36,36])<;>rfl
   rw[if_neg hk,decide_eq_false hk];rfl
  cases hg
theorem Um:aO X0 cg 90 (sW λt=>[.val (.agg [.int .i64 ((jU rp t).getD (0,0)).1,.int .i64 ((jU rp t).getD (0,0)).2]),.val (.bool (jU rp t).isSome)]) :=
 aJ (nk rfl) (cV qt n0) λargs rs hg=>by
  unfold sW at hg;split at hg
  .
   rename_i k n s a;simp only[Option.some.injEq,Prod.mk.injEq] at hg;obtain ⟨_,rfl⟩:=hg;refine ⟨[.agg [.int .i64 ((jU rp (k,n,s,a)).getD (0,0)).1,.int .i64 ((jU rp (k,n,s,a)).getD (0,0)).2],.bool (jU rp (k,n,s,a)).isSome],bV,5,?_,rfl,rfl⟩
   have h:ag X0 (cN M6 [] AV) bV 5 90 [.agg [.int .i64 k,.int .i64 n,.str s,.int .i64 a]] aa.empty (λv _=>some v)=(λno=>pick2 (!eqI k 1) no (pick2 (!(rp s).2.2) no (pick2 (eqI (rp s).1 8) no (some (.cB [.agg [.int .i64 (rp s).1,.int .i64 (rp s).2.1],.bool true])))))
    (some (.cB [.agg [.int .i64 0,.int .i64 0],.bool false])):=by kernel_rfl
   rw[h];simp only[aG,aB];have e:jU rp (k,n,s,a)=if k=1/\(rp s).2.2=true/\(rp s).1≠8 then some ((rp s).1,(rp s).2.1) else none:=rfl;rw[e];by_cases h1:k=1
   .
    rw[if_pos h1];cases h2:(rp s).2.2 with
    |false=>rw[if_neg (show ¬(k=1/\false=true/\(rp s).1≠8) from λh=>by cases h.2.1)];rfl
    |
     true =>
     by_cases h3:(rp s).1=8
     .
      rw[if_pos h3,if_neg (show ¬(k=1/\true=true/\(rp s).1≠8) from λh=>h.2.2 h3)];rfl
     rw[if_neg h3,if_pos ⟨h1,rfl,h3⟩];rfl
   rw[if_neg h1,if_neg (show ¬(k=1/\(rp s).2.2=true/\(rp s).1≠8) from λh=>h1 h.1)];rfl
  cases hg
theorem QI:aO X0 cg 77 (sW λt=>[.val (.int .i64 (jq t).1),.val (.int .i64 (jq t).2)]) :=
 aJ (nk rfl) (cV qt n0) λargs rs hg=>by
  unfold sW at hg;split at hg
  .
   rename_i k n s a;simp only[Option.some.injEq,Prod.mk.injEq] at hg;obtain ⟨_,rfl⟩:=hg;refine ⟨[.int .i64 (jq (k,n,s,a)).1,.int .i64 (jq (k,n,s,a)).2],bV,5,?_,rfl,rfl⟩;have h:ag X0 (cN M6 [] AV) bV 5 77 [.agg [.int .i64 k,.int .i64 n,.str s,.int .i64 a]] aa.empty (λv _=>some v)=pick2 (!eqI k 1) (some (.cB [.int .i64 0,.int .i64 0])) (KM.foldr (λq r=>pick2 (decide (s=q.1)) (some (.cB [.int .i64 q.2.1,.int .i64 q.2.2])) r) (some (.cB [.int .i64 0,.int .i64 0]))):=by kernel_rfl
   rw[h,aG];have e:jq (k,n,s,a)=if k=1 then ek s KM else (0,0):=rfl;rw[e];by_cases h1:k=1
   .
    rw[if_pos h1,if_pos h1]
    have:∀l:List (List UInt8×Int×Int),l.foldr (λq r=>pick2 (decide (s=q.1)) (some (AV.cB [.int .i64 q.2.1,.int .i64 q.2.2])) r) (some (.cB [.int .i64 0,.int .i64 0]))=some (AV.cB [.int .i64 (ek s l).1,.int .i64 (ek s l).2]):=λl=>by
     induction l with
     |nil=>rfl
     |
      cons q l ih =>
      rw[List.foldr_cons,ih,pick2_eq,show ek s (q::l)=if s=q.1 then q.2 else ek s l from rfl];by_cases hq:s=q.1
      .
       rw[if_pos (by simpa using hq),if_pos hq]
      rw[if_neg (by simpa using hq),if_neg hq]
    exact this KM
   rw[if_neg h1,if_neg h1];rfl
  cases hg
def gSA (args:List AV):Option (Bool×List bA) :=
 match args with
 |
  [L,.int .i64 a,.str s]=>match sM aC L with
  |some l=>some (!ltI a 0,[.val (.bool (aX l a s))])
  |none=>none
 |_=>none
theorem DY (t:Tok) (s:List UInt8):jw t s=(eqI t.1 4&&decide (t.2.2.1=s)):=by
 unfold jw
 have e:(t.1==4)=decide (t.1=4):=by rw[Bool.eq_iff_iff];simp
 rw[eqI_spec,e]
theorem dA {α:Type} {l:List α} {a:Int} (h0:0<=a) (h:at? l a=none):(l.length:Int)<=a:=by
 unfold at? at h
 split at h
 .
  have:=List.getElem?_eq_none_iff.1 h;simp;omega
 omega
theorem I7:aO X0 cg 79 gSA :=
 aJ (nk rfl) (cV qt n0) λargs rs hg=>by
  unfold gSA at hg;split at hg
  case h_2=>cases hg
  rename_i L a s;split at hg
  case h_2=>cases hg
  rename_i l hl;simp only[Option.some.injEq,Prod.mk.injEq,Bool.not_eq_true'] at hg;obtain ⟨ha,rfl⟩:=hg;have ha:0<=a:=by rw[ltI_spec] at ha;simpa using ha
  refine ⟨[.bool (aX l a s)],bV,5,?_,rfl,rfl⟩
  have h:ag X0 (cN M6 [] AV) bV 5 79 [L,.int .i64 a,.str s] aa.empty (λv _=>some v)=pick2 (ltI a l.length) (Option.rec (motive:=λ_=>Option AV) none (λy=>pick2 (eqI y.1 4) (Option.rec (motive:=λ_=>Option AV) none (λy=>some (.bool (decide (y.2.2.1=s)))) (aI l a)) (some (.bool false))) (aI l a)) (some (.bool false)):=by
   rw[bq hl]
   kernel_rfl
  rw[h,aW,getI_at?];unfold aX;cases cH:at? l a with
  |none=>rw[if_neg (by have:=dA ha cH;omega)];rfl
  |
   some t =>
   rw[if_pos (dm cH).2];simp only;rw[DY];cases eqI t.1 4<;>rfl
def Ew (l:List Tok) (a:Int):Int×Bool:=match at? l a with
 |some t=>if t.1=1 then nm.eH t.2.2.1 else (0,false)
 |none=>(0,false)
def gMn (args:List AV):Option (Bool×List bA) :=
 match args with
 |
  [L,.int .i64 a]=>match sM aC L with
  |some l=>some (!ltI a 0,[.val (.int .i64 (Ew l a).1),.val (.bool (Ew l a).2)])
  |none=>none
 |_=>none
theorem YT:aO X0 cg 76 gMn :=
 aJ (nk rfl) (cV qt n0) λargs rs hg=>by
  unfold gMn at hg;split at hg
  case h_2=>cases hg
  rename_i L a;split at hg
  case h_2=>cases hg
  rename_i l hl;simp only[Option.some.injEq,Prod.mk.injEq,Bool.not_eq_true'] at hg;obtain ⟨ha,rfl⟩:=hg;have ha:0<=a:=by rw[ltI_spec] at ha;simpa using ha
  refine ⟨[.int .i64 (Ew l a).1,.bool (Ew l a).2],bV,5,?_,rfl,rfl⟩
  have h:ag X0 (cN M6 [] AV) bV 5 76 [L,.int .i64 a] aa.empty (λv _=>some v)=pick2 (!ltI a l.length) (some (.cB [.int .i64 0,.bool false])) (Option.rec (motive:=λ_=>Option AV) none (λy=>pick2 (!eqI y.1 1) (some (.cB [.int .i64 0,.bool false])) (Option.rec (motive:=λ_=>Option AV) none (λy=>some (.cB [.int .i64 (nm.eH y.2.2.1).1,.bool (nm.eH y.2.2.1).2])) (aI l a))) (aI l a)):=by
   rw[bq hl]
   kernel_rfl
  rw[h,cR,getI_at?];unfold Ew;cases cH:at? l a with
  |none=>rw[if_pos (dA ha cH)];rfl
  |
   some t =>
   rw[if_neg (by have:=(dm cH).2;omega)]
   simp only[aG];by_cases h1:t.1=1
   .
    rw[if_pos h1,if_pos h1];rfl
   rw[if_neg h1,if_neg h1];rfl
def Ws (f:Int->Bool) (args:List AV):Option (Bool×List bA) :=
 match args with
 |[.int .i64 n]=>some (true,[.val (.bool (f n))])
 |_=>none
theorem I8 {f:FuncId} {p:Int->Bool} (hk:lt.inl f=true) (h:∀n,ag X0 (cN M6 [] AV) bV 5 f [.int .i64 n] aa.empty (λv _=>some v)=some (.bool (p n))):aO X0 cg f (Ws p) :=
 aJ (nk hk) (cV qt n0) λargs rs hg=>by
  unfold Ws at hg;split at hg
  .
   rename_i n;simp only[Option.some.injEq,Prod.mk.injEq] at hg;obtain ⟨_,rfl⟩:=hg;exact ⟨[.bool (p n)],bV,5,h n,rfl,rfl⟩
  cases hg
theorem YU:aO X0 cg 78 (Ws ng):=I8 rfl λn=>by
 have h:ag X0 (cN M6 [] AV) bV 5 78 [.int .i64 n] aa.empty (λv _=>some v)=pick2 (eqI n 53) (some (.bool true)) (pick2 (eqI n 54) (some (.bool true)) (pick2 (!ltI n 68) (some (.bool (!ltI 83 n))) (some (.bool false)))):=by kernel_rfl
 rw[h]
 unfold ng
 simp only[aB,cR]
 by_cases h1:n=53
 .
  rw[if_pos h1,decide_eq_true h1];rfl
 rw[if_neg h1,decide_eq_false h1]
 by_cases h2:n=54
 .
  rw[if_pos h2,decide_eq_true h2];rfl
 rw[if_neg h2,decide_eq_false h2,Bool.false_or,Bool.false_or]
 by_cases h3:68<=n
 .
  rw[if_pos h3,ltI_spec];refine congrArg (λx=>some (AV.bool x)) ?_
  rw[Bool.eq_iff_iff];simp;omega
 rw[if_neg h3,decide_eq_false (by omega)]
theorem MB:aO X0 cg 72 (Ws sizedB):=I8 rfl λn=>by
 have h:ag X0 (cN M6 [] AV) bV 5 72 [.int .i64 n] aa.empty (λv _=>some v)=[0,1,2,4,8,16].foldr (λq r=>pick2 (eqI n q) (pick2 (eqI n q) (some (.bool true)) (some (.bool false))) r) (pick2 (eqI n 32) (some (.bool true)) (some (.bool false))):=by kernel_rfl
 rw[h]
 unfold sizedB
 simp only[List.foldr_cons,List.foldr_nil,aB]
 by_cases hs:n=0\/n=1\/n=2\/n=4\/n=8\/n=16\/n=32
 .
  rw[decide_eq_true hs];rcases hs with rfl|rfl|rfl|rfl|rfl|rfl|rfl<;>rfl
 rw[decide_eq_false hs]
 simp only[not_or] at hs
 obtain ⟨h1,h2,h3,h4,h5,h6,h7⟩:=hs
 rw[if_neg h1,if_neg h2,if_neg h3,if_neg h4,if_neg h5,if_neg h6,if_neg h7]
theorem I9:aO X0 cg 74 (Ws gK):=I8 rfl λn=>by
 have h:ag X0 (cN M6 [] AV) bV 5 74 [.int .i64 n] aa.empty (λv _=>some v)=[1,2,4,8].foldr (λq r=>pick2 (eqI n q) (some (.bool true)) r) (some (.bool false)):=by kernel_rfl
 rw[h]
 unfold gK
 simp only[List.foldr_cons,List.foldr_nil,aB]
 by_cases hs:n=1\/n=2\/n=4\/n=8
 .
  rw[decide_eq_true hs];rcases hs with rfl|rfl|rfl|rfl<;>rfl
 rw[decide_eq_false hs]
 simp only[not_or] at hs
 obtain ⟨h1,h2,h3,h4⟩:=hs
 rw[if_neg h1,if_neg h2,if_neg h3,if_neg h4]
def gRB (f:Int->Int->Bool) (args:List AV):Option (Bool×List bA) :=
 match args with
 |[.agg [.int .i64 c,.int .i64 n]]=>some (true,[.val (.bool (f c n))])
 |_=>none
theorem QJ {f:FuncId} {p:Int->Int->Bool} (hk:lt.inl f=true) (h:∀c n,ag X0 (cN M6 [] AV) bV 5 f [.agg [.int .i64 c,.int .i64 n]] aa.empty (λv _=>some v)=some (.bool (p c n))):aO X0 cg f (gRB p) :=
 aJ (nk hk) (cV qt n0) λargs rs hg=>by
  unfold gRB at hg;split at hg
  .
   rename_i c n;simp only[Option.some.injEq,Prod.mk.injEq] at hg;obtain ⟨_,rfl⟩:=hg;exact ⟨[.bool (p c n)],bV,5,h c n,rfl,rfl⟩
  cases hg
def dJ (c n:Int):Bool:=decide ((c=2/\4<=n/\n<8)\/(c=8/\0<=n/\n<1)\/((c=1\/c=3\/c=4\/c=5\/c=6\/c=7)/\0<=n/\n<16))
def Wt (n a b:Int):Option AV:=pick2 (!ltI n a) (some (.bool (ltI n b))) (some (.bool false))
theorem YV (n a b:Int):Wt n a b=some (.bool (decide (a<=n/\n<b))):=by
 unfold Wt
 rw[cR,ltI_spec]
 by_cases h:a<=n
 .
  rw[if_pos h];refine congrArg (λx=>some (AV.bool x)) ?_;rw[decide_eq_decide];omega
 rw[if_neg h,decide_eq_false (by omega)]
def Ja (c n:Int):Option AV:=pick2 (eqI c 2) (Wt n 4 8) (pick2 (eqI c 8) (Wt n 0 1) ([1,3,4,5,6].foldr (λq r=>pick2 (eqI c q) (pick2 (eqI c q) (Wt n 0 16) (Wt n 0 0)) r) (pick2 (eqI c 7) (Wt n 0 16) (Wt n 0 0))))
theorem Cr (c n:Int):Ja c n=some (.bool (dJ c n)):=by
 unfold Ja dJ
 simp only[List.foldr_cons,List.foldr_nil,aB,YV]
 by_cases h2:c=2
 .
  rw[if_pos h2];refine congrArg (λx=>some (AV.bool x)) ?_;rw[decide_eq_decide];omega
 rw[if_neg h2]
 by_cases h8:c=8
 .
  rw[if_pos h8];refine congrArg (λx=>some (AV.bool x)) ?_;rw[decide_eq_decide];omega
 rw[if_neg h8]
 repeat' split
 all_goals (refine congrArg (λx=>some (AV.bool x)) ?_;rw[decide_eq_decide];omega)
theorem MD:aO X0 cg 32 (gRB dJ):=QJ rfl λc n=>by
 rw[<-Cr]
 kernel_rfl
theorem QK:aO X0 cg 73 (gRB qu):=QJ rfl λc n=>by
 have h:ag X0 (cN M6 [] AV) bV 5 73 [.agg [.int .i64 c,.int .i64 n]] aa.empty (λv _=>some v)=pick2 (eqI c 5) (Ja c n) (some (.bool false)):=by kernel_rfl
 rw[h,aB,Cr]
 unfold qu dJ
 by_cases h5:c=5
 .
  rw[if_pos h5];refine congrArg (λx=>some (AV.bool x)) ?_;rw[decide_eq_decide];omega
 rw[if_neg h5,decide_eq_false (by omega)]
def P1:List nY:=(133,[none,none],gTS kM)::(194,[none],gTB xg)::(90,[none],sW λt=>[.val (.agg [.int .i64 ((jU rp t).getD (0,0)).1,.int .i64 ((jU rp t).getD (0,0)).2]),.val (.bool (jU rp t).isSome)]) ::
 (77,[none],sW λt=>[.val (.int .i64 (jq t).1),.val (.int .i64 (jq t).2)])::(79,[some aC,none,none],gSA)::(76,[some aC,none],gMn)::(78,[none],Ws ng) ::
 (72,[none],Ws sizedB)::(74,[none],Ws gK)::(32,[none],gRB dJ)::(73,[none],gRB qu)::M6
theorem QL:cr X0 cg P1:=.cons I6 (.cons QH (.cons Um (.cons QI (.cons I7 (.cons YT (.cons YU (.cons MB (.cons I9 (.cons MD (.cons QK qt))))))))))
end
end Go.Proofs.YtpaddkkfefgkfaaGreatDoor.ps

namespace Go.Proofs.YtpaddkkfefgkfaaGreatDoor.ps
open Go.Tv Go.Ev Go.Px Go.Pp Go.Proofs.YtpaddkkfefgkfaaGreatDoor.ex
set_option maxRecDepth 100000
noncomputable section
def iV (n:Int):Option AV:=some (.int .i64 n)
def DZ (bc bn ic ix sc:Int):Option AV:=pick2 (qw ic ix) (iV 0) (pick2 (!qu ic ix) (iV 2) (pick2 (!gK sc) (iV 2) (pick2 (Gv bc bn) (iV 2) (pick2 (nG ic ix) (pick2 (!eqI sc 1) (iV 2) (pick2 (nG bc bn) (iV 2) (iV 0))) (iV 0)))))
def Gy (bc bn ic ix sc:Int):Option AV:=pick2 (qw ic ix) (pick2 (!eqI sc 0) (iV 2) (DZ bc bn ic ix sc)) (DZ bc bn ic ix sc)
def ckT (bc bn ic ix sc d sz:Int):Option AV:=pick2 (ltI d (-2147483648)) (iV 5) (pick2 (ltI 2147483647 d) (iV 5) (pick2 (!sizedB sz) (iV 2) (pick2 (!qw bc bn) (pick2 (!Gv bc bn) (pick2 (!qu bc bn) (iV 2) (Gy bc bn ic ix sc)) (Gy bc bn ic ix sc)) (Gy bc bn ic ix sc))))
theorem YW (bc bn ic ix sc d sz:Int):ckT bc bn ic ix sc d sz=iV (Ba bc bn ic ix sc d sz):=by
 have tail:qw ic ix=true/\sc=0\/qw ic ix=false->DZ bc bn ic ix sc=iV (if qw ic ix=true then (if sc=0 then 0 else 2)
  else if qu ic ix=false\/gK sc=false\/Gv bc bn=true then 2
  else if nG ic ix=true/\(sc≠1\/nG bc bn=true) then 2 else 0):=λh=>by
  unfold DZ;rw[aG];rcases h with ⟨h,h0⟩|h
  .
   rw[h,if_pos rfl,if_pos h0]
  rw[h];cases qu ic ix
  .
   rfl
  cases gK sc
  .
   rfl
  cases Gv bc bn
  .
   cases nG ic ix
   .
    rfl
   by_cases h1:sc=1
   .
    cases nG bc bn
    .
     simp[h1,pick2]
    simp[h1,pick2]
   simp[h1,pick2]
  rfl
 have mid:Gy bc bn ic ix sc=iV (if qw ic ix=true then (if sc=0 then 0 else 2)
  else if qu ic ix=false\/gK sc=false\/Gv bc bn=true then 2
  else if nG ic ix=true/\(sc≠1\/nG bc bn=true) then 2 else 0):=by
  unfold Gy;rw[aG];cases hz:qw ic ix with
  |
   false =>
   have ht:=tail (.inr hz);rw[hz] at ht;exact ht
  |
   true =>
   by_cases h0:sc=0
   .
    have ht:=tail (.inl ⟨hz,h0⟩);rw[hz] at ht;rw[if_pos h0];exact ht
   rw[if_neg h0,if_pos rfl,if_neg h0]
 unfold ckT Ba
 rw[mid,aW,aW]
 by_cases h1:d < -2147483648
 .
  rw[if_pos h1,if_pos (.inl h1)]
 rw[if_neg h1]
 by_cases h2:2147483647<d
 .
  rw[if_pos h2,if_pos (.inr h2)]
 rw[if_neg h2,if_neg (show ¬(d < -2147483648\/2147483647<d) by omega)]
 cases sizedB sz
 .
  rfl
 cases qw bc bn
 .
  cases Gv bc bn
  .
   cases qu bc bn<;>rfl
  rfl
 rfl
def YP (args:List AV):Option (Bool×List bA) :=
 match args with
 |[.agg [.int .i64 bc,.int .i64 bn,.int .i64 ic,.int .i64 ix,.int .i64 sc,.int .i64 d,.int .i64 sz]]=>some (true,[.val (.int .i64 (Ba bc bn ic ix sc d sz))])
 |_=>none
theorem I1:aO X0 cg 38 YP :=
 aJ (nk rfl) (cV QL n0) λargs rs hg=>by
  unfold YP at hg;split at hg
  .
   rename_i bc bn ic ix sc d sz;simp only[Option.some.injEq,Prod.mk.injEq] at hg;obtain ⟨_,rfl⟩:=hg;refine ⟨[.int .i64 (Ba bc bn ic ix sc d sz)],bV,5,?_,rfl,rfl⟩;have h:ag X0 (cN P1 [] AV) bV 5 38 [.agg [.int .i64 bc,.int .i64 bn,.int .i64 ic,.int .i64 ix,.int .i64 sc,.int .i64 d,.int .i64 sz]] aa.empty (λv _=>some v)=ckT bc bn ic ix sc d sz:=by kernel_rfl
   rw[h,YW];rfl
  cases hg
def pCs:List Bool:=[true,true,false,true,false]
def YX:bG:=⟨dG [0,6,7] pCs,.none,[]⟩
def jCs (l:List Tok) (r m:Nat) (a d:Int):Option AV:=dH X0 (cN P1 [] AV) YX r 134 pCs (λv _=>some v) m (hU 37 [(0,.bF aC l),(6,.int .i64 d),(7,.int .i64 a)]) aa.empty
def csR:Option Int->Option AV
 |some a=>some (.cB [.int .i64 a,.bool true])
 |none=>some (.cB [.int .i64 0,.bool false])
def mx (d:Int):Int:=pick2 (ltI 0 (IntKind.wrap .i64 (d-1))) (IntKind.wrap .i64 (d-1)) 0
def Jb (l:List Tok) (J:Int->Int->Option AV) (a d:Int):Option AV :=
 pick2 (ltI a l.length) (pick2 (!ltI a 0) (pick2 (aX l a [40]) (J (IntKind.wrap .i64 (a+1)) (IntKind.wrap .i64 (d+1))) (pick2 (!ltI a 0) (pick2 (aX l a [41]) (J (IntKind.wrap .i64 (a+1)) (mx d))
  (pick2 (eqI d 0) (pick2 (!ltI a 0) (pick2 (aX l a [93]) (csR (some a)) (J (IntKind.wrap .i64 (a+1)) d)) none) (J (IntKind.wrap .i64 (a+1)) d))) none)) none) (csR none)
theorem QN (l:List Tok) (r m:Nat) (a d:Int):jCs l r (m+1) a d=Jb l (jCs l r m) a d:=by kernel_rfl
theorem Un (l:List Tok) (r:Nat) (a:Int):ag X0 (cN P1 [] AV) YX r 134 [.bF aC l,.int .i64 a] aa.empty (λv _=>some v)=jCs l r r a 0:=by kernel_rfl
theorem KQ (p r:List Tok) (c:Tok) (s:List UInt8):aX (p++c::r) (p.length:Nat) s=jw c s:=by
 unfold aX;rw[sV]
theorem Wu {d:Int} (h0:0<=d) (h1:d<9000000000000000000):mx d=if 0<d-1 then d-1 else 0:=by
 unfold mx
 rw[i64_in (n:=d-1) (by omega) (by omega),aW]
theorem QO (l:List Tok) (hl:l.length<=1000000) (r:Nat):∀(rest pre:List Tok) (m:Nat) (d:Int),l=pre++rest->rest.length<m->0<=d->d<=pre.length->jCs l r m (pre.length:Nat) d=csR (jR rest (pre.length:Nat) d)
 |
  [],pre,m,d,he,hm,h0,h1=>by
  obtain ⟨m,rfl⟩:∃m',m=m'+1:=⟨m-1,by simp at hm;omega⟩
  have hle:l.length=pre.length:=by rw[he];simp
  rw[QN];unfold Jb;rw[cF (by omega)];rfl
 |
  c::rest,pre,m,d,he,hm,h0,h1=>by
  obtain ⟨m,rfl⟩:∃m',m=m'+1:=⟨m-1,by simp at hm;omega⟩
  have hle:l.length=pre.length+(rest.length+1):=by rw[he];simp
  have ih:∀d',0<=d'->d'<=(pre.length:Int)+1->jCs l r m ((pre.length:Int)+1) d'=csR (jR rest ((pre.length:Int)+1) d'):=λd' q0 q1=>by
   have:=QO l hl r rest (pre++[c]) m d' (by rw[he];simp) (by simp at hm;omega) q0 (by simp;omega)
   rw[show ((pre++[c]).length:Nat)=pre.length+1 by simp] at this
   exact this
  have hs:∀s,aX l (pre.length:Nat) s=jw c s:=λs=>by rw[he];exact KQ pre rest c s
  rw[QN];unfold Jb;rw[kW (by omega),cF (a:=((pre.length:Nat):Int)) (b:=0) (by omega),i64_in (n:=((pre.length:Nat):Int)+1) (by omega) (by omega),i64_in (n:=d+1) (by omega) (by omega),Wu h0 (by omega),hs,hs,hs]
  rw[ih (d+1) (by omega) (by omega),ih d h0 (by omega),ih (if 0<d-1 then d-1 else 0) (by split<;>omega) (by split<;>omega)]
  rw[show jR (c::rest) ((pre.length:Nat):Int) d=if jw c [40]=true then jR rest ((pre.length:Int)+1) (d+1) else if jw c [41]=true then jR rest ((pre.length:Int)+1) (if 0<d-1 then d-1 else 0) else if d=0/\jw c [93]=true then some ((pre.length:Nat):Int) else jR rest ((pre.length:Int)+1) d from rfl];rw[aB];cases jw c [40] with
  |true=>rfl
  |
   false =>
   cases jw c [41] with
   |true=>rfl
   |
    false =>
    by_cases hd:d=0
    .
     cases jw c [93] with
     |true=>rw[if_pos hd];simp only[hd,Bool.false_eq_true,if_false,and_self,if_true];rfl
     |false=>rw[if_pos hd];simp only[hd,Bool.false_eq_true,if_false,and_false];rfl
    rw[if_neg hd];simp only[hd,Bool.false_eq_true,if_false,false_and];rfl
def gCs (args:List AV):Option (Bool×List bA) :=
 match args with
 |
  [L,.int .i64 a]=>match sM aC L with
  |some l=>some (Nat.ble l.length 1000000 && !ltI a 0 && !ltI l.length a,[.val (.int .i64 ((fK l a).getD 0)),.val (.bool (fK l a).isSome)])
  |none=>none
 |_=>none
theorem A9 {p q:Int} (h:ltI p q=false):q<=p:=by rw[ltI_spec] at h;simpa using h
theorem YY:aO X0 cg 134 gCs :=
 aJ (nk rfl) (cV QL n0) λargs rs hg=>by
  unfold gCs at hg;split at hg
  case h_2=>cases hg
  rename_i L a;split at hg
  case h_2=>cases hg
  rename_i l hl;simp only[Option.some.injEq,Prod.mk.injEq,Bool.and_eq_true,Bool.not_eq_true'] at hg;obtain ⟨⟨⟨g0,g1⟩,g2⟩,rfl⟩:=hg;have g0:=Nat.le_of_ble_eq_true g0;have g1:=A9 g1;have g2:=A9 g2;refine ⟨[.int .i64 ((fK l a).getD 0),.bool (fK l a).isSome],YX,l.length+1,?_,rfl,rfl⟩;rw[bq hl,Un];have hp:(l.take a.toNat).length=a.toNat:=by rw[List.length_take];omega
  have:=QO l g0 (l.length+1) (l.drop a.toNat) (l.take a.toNat) (l.length+1) 0 (List.take_append_drop _ _).symm (by rw[List.length_drop];omega) (Int.le_refl 0) (by omega)
  rw[hp,show ((a.toNat:Nat):Int)=a by omega] at this
  rw[this];show csR (fK l a)=_;cases fK l a<;>rfl
def P2:List nY:=(134,[some aC,none],gCs)::(38,[none],YP)::P1
theorem xh:cr X0 cg P2:=.cons YY (.cons I1 QL)
end
end Go.Proofs.YtpaddkkfefgkfaaGreatDoor.ps

namespace Go.Proofs.YtpaddkkfefgkfaaGreatDoor.ps
open Go.Tv Go.Ev Go.Px Go.Pp Go.Proofs.YtpaddkkfefgkfaaGreatDoor.ex
set_option maxRecDepth 100000
noncomputable section
def vX (l:List Tok) (op en sz:Int) (s:TS) (e f:Int):List bu:=[.val (.bF aC l),.val (.int .i64 op),.val (.int .i64 en),.val (.int .i64 s.bc),.val (.int .i64 s.bn),.val (.int .i64 s.ic),.val (.int .i64 s.ix),.val (.int .i64 s.sc),.val (.int .i64 0),.val (.int .i64 sz),.list 106 aC s.put,.list 50 bB [],.val (.int .i64 e),.val (.int .i64 f)]
def Uo:List (Option (TypeId×Tv.Ty)):=[none,none,none,none,none,none,none,none,none,none,some (106,aC),some (50,bB),none,none]
abbrev YZ:=List Tok->Int->Int->TS->List bu->Option (Bool×(Int×Int×TS)×List bu)
def gTm (F:YZ) (ins:List bu):Option (Bool×List bu×List bu) :=
 match ins with
 |
  .val (.bF e0 l0) :: .val (.int .i64 op) :: .val (.int .i64 en) :: .val (.int .i64 bc) :: .val (.int .i64 bn) :: .val (.int .i64 ic) :: .val (.int .i64 ix) :: .val (.int .i64 sc) :: .val (.int .i64 d) :: .val (.int .i64 sz) :: .list t1 e1 p :: .list t2 e2 x :: .val (.int .i64 e) :: .val (.int .i64 f)::args =>
  match eP e0 aC l0,eP e1 aC p,eP e2 bB x with
  |
   some l,some put,some x=>match F l op en ⟨bc,bn,ic,ix,sc,put⟩ args with
   |some (c,q,rs)=>some (c&&(Nat.beq t1 106&&Nat.beq t2 50&&x.isEmpty&&eqI d 0&&eqI e 0&&eqI f 0),vX l op en sz q.2.2 q.1 q.2.1,rs)
   |none=>none
  |_,_,_=>none
 |_=>none
def Y0 (F:YZ) (Bb:List (Option (TypeId×Tv.Ty))):xE:=⟨some (197,Uo),Bb,gTm F⟩
theorem eq0 {a b:Int} (h:eqI a b=true):a=b:=by rw[eqI_spec] at h;simpa using h
theorem Up {F:YZ} {ins outs rs:List bu} (h:gTm F ins=some (true,outs,rs)):∃l op en sz s args q,ins=vX l op en sz s 0 0++args/\F l op en s args=some (true,q,rs)/\outs=vX l op en sz q.2.2 q.1 q.2.1:=by
 unfold gTm at h
 split at h
 case h_2=>cases h
 rename_i e0 l0 op en bc bn ic ix sc d sz t1 e1 p t2 e2 x e f args
 split at h
 case h_2=>cases h
 rename_i l put x' h0 h1 h2
 split at h
 case h_2=>cases h
 rename_i c q rs' hF
 simp only[Option.some.injEq,Prod.mk.injEq,Bool.and_eq_true] at h
 obtain ⟨⟨hc,⟨⟨⟨⟨g1,g2⟩,g3⟩,g4⟩,g5⟩,g6⟩,rfl,rfl⟩:=h
 subst hc
 obtain rfl:=Nat.eq_of_beq_eq_true g1
 obtain rfl:=Nat.eq_of_beq_eq_true g2
 obtain rfl:=eq0 g4
 obtain rfl:=eq0 g5
 obtain rfl:=eq0 g6
 obtain ⟨rfl,h0⟩:=aS h0
 obtain ⟨rfl,h1⟩:=aS h1
 obtain ⟨rfl,h2⟩:=aS h2
 have h0:l0=l:=h0
 have h1:p=put:=h1
 have h2:x=x':=h2
 subst h0;subst h1;subst h2
 have hx:x=[]:=List.isEmpty_iff.1 g3
 subst hx
 exact ⟨l0,op,en,sz,⟨bc,bn,ic,ix,sc,p⟩,args,q,rfl,hF,rfl⟩
abbrev aH:=Option (List bu×List Nat)
abbrev ME (mK:List (Option (TypeId×Tv.Ty))):AV->aa->aH:=YS 197 Uo mK
theorem Cs:∀(l:List AV),qy (l.map bu.val)=[]
 |[]=>rfl
 |_::l=>Cs l
theorem Uq (l:List Tok) (op en sz:Int) (s:TS) (e f:Int) (vs:List AV):qy (vX l op en sz s e f++vs.map bu.val)=[s.put.length,0]:=by
 show s.put.length::0::qy (vs.map bu.val)=_
 rw[Cs]
theorem oS (n:Nat):∀(l:List AV),Tv.cellsIn n (l.map bu.val)=l
 |[]=>rfl
 |v::l=>by show v::Tv.cellsIn n (l.map bu.val)=_;rw[oS n l]
theorem Ur (l:List Tok) (op en sz:Int) (s:TS) (e f:Int) (vs:List AV):(Tv.cellsIn 1 (vX l op en sz s e f++vs.map bu.val)).drop Uo.length=vs:=by
 show Tv.cellsIn 3 (vs.map bu.val)=vs
 exact oS 3 vs
theorem Jc {id:FuncId} (hk:lt.inl id=true) {M:List nY} {N:List gJ} (hM:cr X0 cg M) (hN:bS X0 cg N) {F:YZ} {Bb mK:List (Option (TypeId×Tv.Ty))}
 (h:∀l op en sz s args q rs,F l op en s args=some (true,q,rs)->args.length=Bb.length->∃(vs ws:List AV) (an:bG) (rounds:Nat),args=vs.map .val/\rs=ws.map .val/\ag X0 (cN M N _) an rounds id (.ptr 0 0::vs) (ct 197 14 (vX l op en sz s 0 0++vs.map .val)) (ME mK)=some (vX l op en sz q.2.2 q.1 q.2.1++ws.map .val,[q.2.2.put.length,0])) :
 bh X0 cg id (Y0 F Bb) :=
 Ul (mK:=mK) (nk hk) (cV hM hN) λins outs rs hg hl=>by
  obtain ⟨l,op,en,sz,s,args,q,rfl,hF,rfl⟩:=Up hg
  obtain ⟨vs,ws,an,rounds,rfl,rfl,hrun⟩:=h l op en sz s args q rs hF (by
   rw[List.length_append,List.length_append] at hl;have:(vX l op en sz s 0 0).length=Uo.length:=rfl;omega)
  refine ⟨an,rounds,_,?_,(Uq _ _ _ _ _ _ _ ws).symm⟩;rw[Ur];exact hrun
def lf (b:AV) (l:List Tok) (op en sz:Int) (s:TS) (e f:Int) (n:Nat):aH:=some (vX l op en sz s e f++[.val b],[n,0])
def mTm (l:List Tok) (op en sz:Int) (n:Nat) (s:TS):aa:=Qk [.cells 197 [.bF aC l,.int .i64 op,.int .i64 en,.int .i64 s.bc,.int .i64 s.bn,.int .i64 s.ic,.int .i64 s.ix,.int .i64 s.sc,.int .i64 0,.int .i64 sz,.own 1 n,.own 2 0,.int .i64 0,.int .i64 0],.list 106 aC s.put 0 false false,.list 50 bB [] 0 false false]
def pSt:List Bool:=[true,true,false,true,false]
def Y1:bG:=⟨dG [0,5,6] pSt,.none,[]⟩
def jSt (l:List Tok) (op en sz:Int) (s:TS) (n r m:Nat) (a d:Int):aH:=dH X0 (cN P2 [] _) Y1 r 164 pSt (ME [none]) m (hU 70 [(0,.ptr 0 0),(5,.int .i64 d),(6,.int .i64 a)]) (mTm l op en sz n s)
def Jd (l:List Tok) (en:Int) (J:Int->Int->aH) (L:Int->aH) (a d:Int):aH :=
 let nx:=J (IntKind.wrap .i64 (a+1)) d
 let yes:=Option.rec (motive:=λ_=>aH) none (λy=>pick2 (xg y) (L a) nx) (aI l (IntKind.wrap .i64 (a-1)))
 pick2 (ltI a en) (pick2 (!ltI a 0) (pick2 (aX l a [40]) (J (IntKind.wrap .i64 (a+1)) (IntKind.wrap .i64 (d+1))) (pick2 (!ltI a 0) (pick2 (aX l a [41]) (J (IntKind.wrap .i64 (a+1)) (mx d))
  (pick2 (eqI d 0) (pick2 (!ltI a 0) (pick2 (aX l a [43]) yes (pick2 (!ltI a 0) (pick2 (aX l a [45]) yes nx) none)) none) nx)) none)) none) (L en)
theorem QS (l:List Tok) (op en sz:Int) (s:TS) (n r m:Nat) (a d:Int):jSt l op en sz s n r (m+1) a d=Jd l en (jSt l op en sz s n r m) (λv=>lf (.int .i64 v) l op en sz s 0 0 n) a d:=by kernel_rfl
theorem Us (l:List Tok) (op en sz:Int) (s:TS) (r:Nat) (a:Int):ag X0 (cN P2 [] _) Y1 r 164 [.ptr 0 0,.int .i64 a] (ct 197 14 (vX l op en sz s 0 0++[.val (.int .i64 a)])) (ME [none])=jSt l op en sz s s.put.length r r a 0:=by kernel_rfl
theorem Y2 {l:List Tok} {op en sz:Int} {s:TS} {n r:Nat} (hl:l.length<=1000000) (he0:0<=en) (NY:en<=l.length):∀(rest q:List Tok) (p:Tok) (m:Nat) (d:Int),l.take en.toNat=q++p::rest->rest.length<m->0<=d->d<=q.length ->
 jSt l op en sz s n r m ((q.length:Nat)+1:Int) d=lf (.int .i64 (ni en p rest ((q.length:Nat)+1:Int) d)) l op en sz s 0 0 n:=by
 intro rest
 induction rest with
 |
  nil =>
  intro q p m d he hm h0 h1;obtain ⟨m,rfl⟩:∃m',m=m'+1:=⟨m-1,by simp at hm;omega⟩
  have hle:=congrArg List.length he;simp only[List.length_take,List.length_append,List.length_cons,List.length_nil] at hle;have hen:en=(q.length:Int)+1:=by omega
  rw[QS];unfold Jd;simp only;rw[cF (by omega)];rfl
 |
  cons c rest ih =>
  intro q p m d he hm h0 h1;obtain ⟨m,rfl⟩:∃m',m=m'+1:=⟨m-1,by simp at hm;omega⟩
  have hle:=congrArg List.length he;simp only[List.length_take,List.length_append,List.length_cons] at hle;have hlt:(q.length:Int)+1<en:=by omega
  have hx:l=q++p::c::(rest++l.drop en.toNat):=by
   have:=(List.take_append_drop en.toNat l).symm;rw[he] at this
   simpa using this
  have ih':∀d',0<=d'->d'<=(q.length:Int)+1->jSt l op en sz s n r m ((q.length:Int)+1+1) d'=lf (.int .i64 (ni en c rest ((q.length:Int)+1+1) d')) l op en sz s 0 0 n:=λd' q0 q1=>by
   have:=ih (q++[p]) c m d' (by rw[he];simp) (by simp at hm;omega) q0 (by simp;omega)
   rw[show ((q++[p]).length:Nat)=q.length+1 by simp] at this
   exact this
  have hs:∀t,aX l ((q.length:Nat)+1:Int) t=jw c t:=λt=>by
   have:=KQ (q++[p]) (rest++l.drop en.toNat) c t;rw[show q++[p]++c::(rest++l.drop en.toNat)=l by rw[List.append_assoc];exact hx.symm] at this
   rw[<-this];simp
  have hp:aI l (((q.length:Nat)+1:Int)-1)=some p:=by
   rw[show ((q.length:Nat)+1:Int)-1=(q.length:Nat) by omega]
   have:=ei q (c::(rest++l.drop en.toNat)) p;rw[<-hx] at this;exact this
  rw[QS];unfold Jd;simp only;rw[kW hlt,cF (a:=((q.length:Nat)+1:Int)) (b:=0) (by omega),i64_in (n:=((q.length:Nat)+1:Int)+1) (by omega) (by omega),i64_in (n:=((q.length:Nat)+1:Int)-1) (by omega) (by omega),i64_in (n:=d+1) (by omega) (by omega),Wu h0 (by omega),hs,hs,hs,hs,hp]
  rw[ih' (d+1) (by omega) (by omega),ih' d h0 (by omega),ih' (if 0<d-1 then d-1 else 0) (by split<;>omega) (by split<;>omega)]
  rw[show ni en p (c::rest) ((q.length:Nat)+1:Int) d=if jw c [40]=true then ni en c rest ((q.length:Int)+1+1) (d+1) else if jw c [41]=true then ni en c rest ((q.length:Int)+1+1) (if 0<d-1 then d-1 else 0) else if d=0/\(jw c [43]=true\/jw c [45]=true)/\xg p=true then ((q.length:Nat)+1:Int) else ni en c rest ((q.length:Int)+1+1) d from rfl];rw[aB];cases jw c [40] with
  |true=>rfl
  |
   false =>
   cases jw c [41] with
   |true=>rfl
   |
    false =>
    by_cases hd:d=0
    .
     rw[if_pos hd];simp only[Bool.false_eq_true,if_false,hd,true_and];cases jw c [43]<;>cases jw c [45]<;>cases xg p<;>rfl
    rw[if_neg hd];simp only[hd,Bool.false_eq_true,if_false,false_and];rfl
def fSt:YZ:=λl _ en s args=>match args with
 |[.val (.int .i64 a)]=>some (Nat.ble l.length 1000000 && !ltI a 1 && !ltI en a && !ltI l.length en,(0,0,s),[.val (.int .i64 (bR l a en))])
 |_=>none
theorem Y3:bh X0 cg 164 (Y0 fSt [none]) :=
 Jc rfl xh n0 (mK:=[none]) λl op en sz s args q rs hF hal=>by
  unfold fSt at hF;split at hF
  case h_2=>cases hF
  rename_i a;simp only[Option.some.injEq,Prod.mk.injEq,Bool.and_eq_true,Bool.not_eq_true'] at hF;obtain ⟨⟨⟨⟨g0,g1⟩,g2⟩,g3⟩,rfl,rfl⟩:=hF;have g0:=Nat.le_of_ble_eq_true g0;have g1:=A9 g1;have g2:=A9 g2;have g3:=A9 g3;refine ⟨[.int .i64 a],[.int .i64 (bR l a en)],Y1,l.length+1,rfl,rfl,?_⟩;have h1:=Us l op en sz s (l.length+1) a;rw[show ([AV.int .i64 a].map bu.val)=[bu.val (.int .i64 a)] from rfl];rw[h1]
  obtain ⟨p,hp⟩:∃p,at? l (a-1)=some p:=by
   cases cH:at? l (a-1) with
   |some p=>exact ⟨p,rfl⟩
   |none=>have:=dA (by omega) cH;omega
  have hk:(a-1).toNat+1=a.toNat:=by omega
  have hpl:l[(a-1).toNat]? = some p:=by
   have:at? l (((a-1).toNat:Nat):Int)=some p:=by rw[show (((a-1).toNat:Nat):Int)=a-1 by omega];exact hp
   exact this
  have hlt:(a-1).toNat<l.length:=by omega
  have e1:l.take a.toNat=l.take (a-1).toNat++[p]:=by
   rw[<-hk,List.take_add_one,hpl];rfl
  have e2:l.take en.toNat=l.take (a-1).toNat++p::(l.take en.toNat).drop a.toNat:=by
   have h3:=List.take_append_drop a.toNat (l.take en.toNat);have h4:(l.take en.toNat).take a.toNat=l.take (a-1).toNat++[p]:=by rw[List.take_take,Nat.min_eq_left (by omega),e1]
   rw[h4,List.append_assoc] at h3;exact h3.symm
  have hq:((l.take (a-1).toNat).length:Int)=a-1:=by rw[List.length_take];omega
  have:=Y2 (l:=l) (op:=op) (en:=en) (sz:=sz) (s:=s) (n:=s.put.length) (r:=l.length+1) g0 (by omega) g3 ((l.take en.toNat).drop a.toNat) (l.take (a-1).toNat) p (l.length+1) 0 e2 (by rw[List.length_drop,List.length_take];omega) (Int.le_refl 0) (by omega)
  rw[hq,show a-1+1=a by omega] at this
  rw[this];unfold bR;rw[hp];rfl
end
end Go.Proofs.YtpaddkkfefgkfaaGreatDoor.ps

namespace Go.Proofs.YtpaddkkfefgkfaaGreatDoor.ps
open Go.Tv Go.Ev Go.Px Go.Pp Go.Proofs.YtpaddkkfefgkfaaGreatDoor.ex
set_option maxRecDepth 100000
noncomputable section
def NS:List gJ:=[(164,Y0 fSt [none])]
theorem Wv:bS X0 cg NS:=.cons Y3 .nil
section
variable (l:List Tok) (op en sz:Int) (sg:List UInt8)
def lfO (o:jx):aH:=lf (.bool o.1) l op en sz o.2.2.2 o.2.1 o.2.2.1 o.2.2.2.put.length
def Y4 (s:TS) (e f:Int):aH:=lf (.bool false) l op en sz s e f s.put.length
def AK (s:TS) (n:Nat):aH:=lf (.bool true) l op en sz s 0 0 n
def atR (i:Int) (k:Tok->aH):aH:=Option.rec (motive:=λ_=>aH) none k (aI l i)
def D0 (r:Rg) (a:Int) (s:TS):aH :=
 pick2 (decide (sg=[45])) (Y4 l op en sz s 2 a) (pick2 (decide (s.bc=0)&&decide (s.bn=0)) (AK l op en sz { s with bc:=r.1,bn:=r.2 } s.put.length)
  (pick2 (decide (s.ic=0)&&decide (s.ix=0)) (AK l op en sz { s with ic:=r.1,ix:=r.2,sc:=1 } s.put.length) (Y4 l op en sz s 2 a)))
def ya (r:Rg) (a num:Int) (s:TS):aH :=
 pick2 (decide (sg=[45])) (Y4 l op en sz s 2 a) (pick2 (!(decide (s.ic=0)&&decide (s.ix=0))) (Y4 l op en sz s 2 a)
  (atR l num λy=>[1,2,4].foldr (λq rest=>pick2 (eqI y.2.1 q) (pick2 (eqI y.2.1 q) (AK l op en sz { s with ic:=r.1,ix:=r.2,sc:=y.2.1 } s.put.length) (Y4 l op en sz s 2 num)) rest)
   (pick2 (eqI y.2.1 8) (AK l op en sz { s with ic:=r.1,ix:=r.2,sc:=y.2.1 } s.put.length) (Y4 l op en sz s 2 num))))
def Je (a b:Int) (s:TS):aH :=
 (λfin:List Tok->Nat->aH=>(λone:aH=>pick2 (decide (sg=[45])) one (pick2 (ltI 0 s.put.length) one (fin s.put s.put.length)))
  (pick2 (Nat.ble (s.put.length+1) 1000000) (fin (s.put++[oa sg]) (s.put.length+1)) none))
  (λp _=>pick2 (Nat.ble (p.length+1) 1000000) (pick2 (!ltI a 0 && !ltI b a && !ltI (Int.ofNat l.length) b) (pick2 (eqI a 0||ltI a (Int.ofNat l.length))
   (pick2 (Nat.ble ((p++[oa [40]]).length+(bz l a b).length) 1000000) (pick2 (Nat.ble ((p++[oa [40]]++bz l a b).length+1) 1000000)
    (AK l op en sz { s with put:=p++[oa [40]]++bz l a b++[oa [41]] } ((p++[oa [40]]++bz l a b).length+1)) none) none) none) none) none)
def Y5 (a b:Int) (s:TS):aH :=
 (λSB:aH=>(λsecond:aH =>
  pick2 (eqI (IntKind.wrap .i64 (b-a)) 0) (Y4 l op en sz s 4 a)
   (pick2 (eqI (IntKind.wrap .i64 (b-a)) 1) (atR l a λy=>pick2 (kM y [114,105,112]) (D0 l op en sz sg (8,0) a s) (atR l a λy=>pick2 (jU rp y).isSome (D0 l op en sz sg ((jU rp y).getD (0,0)) a s) SB))
   (pick2 (eqI (IntKind.wrap .i64 (b-a)) 3) (pick2 (!ltI (IntKind.wrap .i64 (a+1)) 0) (pick2 (!aX l (IntKind.wrap .i64 (a+1)) [42]) SB
    (atR l a λy=>pick2 (jU rp y).isSome (atR l (IntKind.wrap .i64 (a+2)) λz=>pick2 (eqI z.1 2) (ya l op en sz sg ((jU rp y).getD (0,0)) a (IntKind.wrap .i64 (a+2)) s) second) second)) none) SB)))
  (atR l (IntKind.wrap .i64 (a+2)) λy=>pick2 (jU rp y).isSome (atR l a λz=>pick2 (eqI z.1 2) (ya l op en sz sg ((jU rp y).getD (0,0)) a a s) SB) SB))
  (Je l op en sz sg a b s)
end
theorem Ut (l:List Tok) (op en sz:Int) (sg:List UInt8) (a b bc bn ic ix sc:Int) (put:List Tok):ag X0 (cN P2 NS _) bV 5 165 [.ptr 0 0,.str sg,.int .i64 a,.int .i64 b] (ct 197 14 (vX l op en sz ⟨bc,bn,ic,ix,sc,put⟩ 0 0++[.val (.str sg),.val (.int .i64 a),.val (.int .i64 b)])) (ME [none])=Y5 l op en sz sg a b ⟨bc,bn,ic,ix,sc,put⟩:=by kernel_rfl
theorem oh {α:Type} {p:Prop} [Decidable p] (x y:α):pick2 (decide p) x y=if p then x else y:=by rw[pick2_eq];simp
theorem Ct {α:Type} {p q:Prop} [Decidable p] [Decidable q] (x y:α):pick2 (decide p&&decide q) x y=if p/\q then x else y:=by rw[pick2_eq];simp
theorem Jf {α:Type} {p q:Prop} [Decidable p] [Decidable q] (x y:α):pick2 (!(decide p&&decide q)) x y=if p/\q then y else x:=by
 rw[pick2_eq]
 by_cases h:p/\q
 .
  rw[if_pos h,if_neg];simp[h.1,h.2]
 rw[if_neg h,if_pos]
 by_cases hp:p
 .
  have hq:¬q:=λhq=>h ⟨hp,hq⟩
  simp[hq]
 simp[hp]
structure BT (l:List Tok) (en a b:Int) (s:TS):Prop where
 len:l.length<=200000
 a0:0<=a
 ab:a<=b
 be:b<=en
 el:en<l.length
 put:s.put.length<=4*a
section
variable {l:List Tok} {op en sz:Int} {sg:List UInt8} {a b:Int} {s:TS}
theorem Cu (r:Rg):D0 l op en sz sg r a s=lfO l op en sz (fL sg r a s):=by
 unfold D0 fL
 rw[oh,Ct,Ct]
 split
 .
  rfl
 split
 .
  rfl
 split<;>rfl
theorem mE {i:Int} {t:Tok} (h:at? l i=some t) (k:Tok->aH):atR l i k=k t:=by
 unfold atR;rw[getI_at?,h]
theorem z7 (r:Rg) {num:Int} {t:Tok} (h:at? l num=some t):ya l op en sz sg r a num s=lfO l op en sz (cX sg r a num t.2.1 s):=by
 unfold ya cX
 rw[oh,Jf,mE h]
 by_cases h1:sg=[45]
 .
  rw[if_pos h1,if_pos (.inl h1)];rfl
 rw[if_neg h1]
 by_cases h2:s.ic=0/\s.ix=0
 .
  rw[if_pos h2,if_neg (show ¬(sg=[45]\/¬(s.ic=0/\s.ix=0)) from λh=>h.elim h1 λh=>h h2)]
  simp only[List.foldr_cons,List.foldr_nil,aB];unfold gK;by_cases hs:t.2.1=1\/t.2.1=2\/t.2.1=4\/t.2.1=8
  .
   rw[decide_eq_true hs,if_pos rfl];rcases hs with h|h|h|h<;>(rw[h];rfl)
  rw[decide_eq_false hs,if_neg Bool.false_ne_true];simp only[not_or] at hs;obtain ⟨q1,q2,q3,q4⟩:=hs;rw[if_neg q1,if_neg q2,if_neg q3,if_neg q4];rfl
 rw[if_neg h2,if_pos (.inr h2)];rfl
theorem MF (h:BT l en a b s):Je l op en sz sg a b s=lfO l op en sz (kN l sg a b s):=by
 have g1:=h.len
 have g2:=h.a0
 have g3:=h.ab
 have g4:=h.be
 have g5:=h.el
 have g6:=h.put
 have Ml:(bz l a b).length<=(b-a).toNat:=by unfold bz;rw[List.length_take];omega
 have fin:∀p:List Tok,p.length<=s.put.length+1->(pick2 (Nat.ble (p.length+1) 1000000) (pick2 (!ltI a 0 && !ltI b a && !ltI (Int.ofNat l.length) b) (pick2 (eqI a 0||ltI a (Int.ofNat l.length))
  (pick2 (Nat.ble ((p++[oa [40]]).length+(bz l a b).length) 1000000) (pick2 (Nat.ble ((p++[oa [40]]++bz l a b).length+1) 1000000)
   (AK l op en sz { s with put:=p++[oa [40]]++bz l a b++[oa [41]] } ((p++[oa [40]]++bz l a b).length+1)) none) none) none) none) none) =
  lfO l op en sz (okO { s with put:=p++[oa [40]]++I4 l a b++[oa [41]] }):=λp hp=>by
  have i1:Int.ofNat l.length=(l.length:Int):=rfl;rw[i1,bO (by omega),cF g2,cF g3,cF (show b<=(l.length:Int) by omega),kW (show a<(l.length:Int) by omega),Bool.or_true,bO (by simp;omega),bO (by simp;omega)]
  show AK _ _ _ _ _ _=lf _ _ _ _ _ _ _ _ _;unfold AK okO;simp only;have:(p++[oa [40]]++bz l a b).length+1=(p++[oa [40]]++I4 l a b++[oa [41]]).length:=by simp[I4,bz];omega
  rw[this];rfl
 unfold Je
 simp only
 rw[fin s.put (by omega),fin (s.put++[oa sg]) (by simp),bO (by omega),oh,aW]
 unfold kN
 by_cases h1:sg=[45]
 .
  rw[if_pos h1,if_pos (.inl h1)]
 rw[if_neg h1]
 by_cases h2:s.put=[]
 .
  rw[if_neg (by rw[h2];simp),if_neg (show ¬(sg=[45]\/s.put≠[]) from λh=>h.elim h1 λh=>h h2)]
 rw[if_pos (by have:0<s.put.length:=List.length_pos_iff.2 h2;omega),if_pos (.inr h2)]
theorem Uu (h:BT l en a b s):Y5 l op en sz sg a b s=lfO l op en sz (fS rp l sg a b s):=by
 have g1:=h.len
 have g2:=h.a0
 have g3:=h.ab
 have g4:=h.be
 have g5:=h.el
 have nj:∀i:Int,0<=i->i<l.length->∃t,at? l i=some t:=λi h0 h1=>by
  cases cH:at? l i with
  |some t=>exact ⟨t,rfl⟩
  |none=>have:=dA h0 cH;omega
 unfold Y5 fS
 simp only
 rw[MF h,i64_in (n:=b-a) (by omega) (by omega),i64_in (n:=a+1) (by omega) (by omega),i64_in (n:=a+2) (by omega) (by omega),aB,aB,aB]
 by_cases h0:b-a=0
 .
  rw[if_pos h0,if_pos h0];rfl
 rw[if_neg h0,if_neg h0]
 obtain ⟨t,ht⟩:=nj a g2 (by omega)
 by_cases h1:b-a=1
 .
  rw[if_pos h1,if_pos h1,ht];rw[mE ht,mE ht];simp only;rw[pick2_eq];by_cases hn:kM t [114,105,112]=true
  .
   rw[if_pos hn,if_pos hn,Cu]
  rw[if_neg hn,if_neg hn];cases hr:jU rp t with
  |none=>rfl
  |some r=>exact Cu r
 rw[if_neg h1,if_neg h1]
 by_cases h3:b-a=3
 .
  rw[if_pos h3,cF (show (0:Int)<=a+1 by omega)]
  obtain ⟨u,hu⟩:=nj (a+2) (by omega) (by omega)
  cases hs:aX l (a+1) [42] with
  |false=>rw[if_neg (show ¬(b-a=3/\false=true) from λh=>by cases h.2)];rfl
  |
   true =>
   rw[if_pos (⟨h3,rfl⟩:b-a=3/\true=true),ht,hu];show atR l a _=_;rw[mE ht,mE hu,mE hu];simp only;rw[mE ht,aB,aB,z7 _ hu,z7 _ ht];by_cases hu2:u.1=2<;>by_cases ht2:t.1=2<;>simp only[if_pos,if_neg,hu2,ht2]<;>cases hr:jU rp t<;>cases hq:jU rp u<;>rfl
 rw[if_neg h3,if_neg (show ¬(b-a=3/\aX l (a+1) [42]=true) from λh=>h3 h.1)]
end
def fOn:YZ:=λl _ en s args=>match args with
 |[.val (.str sg),.val (.int .i64 a),.val (.int .i64 b)]=>some (Nat.ble l.length 200000 && !ltI a 0 && !ltI b a && !ltI en b&&ltI en l.length && !ltI (4*a) s.put.length,((fS rp l sg a b s).2.1,(fS rp l sg a b s).2.2.1,(fS rp l sg a b s).2.2.2),[.val (.bool (fS rp l sg a b s).1)])
 |_=>none
theorem Y6:bh X0 cg 165 (Y0 fOn [none,none,none]) :=
 Jc rfl xh Wv (mK:=[none]) λl op en sz s args q rs hF hal=>by
  unfold fOn at hF;split at hF
  case h_2=>cases hF
  rename_i sg a b;simp only[Option.some.injEq,Prod.mk.injEq,Bool.and_eq_true,Bool.not_eq_true'] at hF;obtain ⟨⟨⟨⟨⟨⟨g0,g1⟩,g2⟩,g3⟩,g4⟩,g5⟩,rfl,rfl⟩:=hF;have g0:=Nat.le_of_ble_eq_true g0;have g1:=A9 g1;have g2:=A9 g2;have g3:=A9 g3;have g4:en<l.length:=by rw[ltI_spec] at g4;simpa using g4
  have g5:=A9 g5;refine ⟨[.str sg,.int .i64 a,.int .i64 b],[.bool (fS rp l sg a b s).1],bV,5,rfl,rfl,?_⟩;have h1:=Ut l op en sz sg a b s.bc s.bn s.ic s.ix s.sc s.put;rw[Uu ⟨g0,g1,g2,g3,g4,g5⟩] at h1;exact h1
end
end Go.Proofs.YtpaddkkfefgkfaaGreatDoor.ps
