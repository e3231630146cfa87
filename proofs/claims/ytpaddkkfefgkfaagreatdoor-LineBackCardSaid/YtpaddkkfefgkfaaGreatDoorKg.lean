/- Long statements; the contract of Write. -/
import Derived.Test.YtpaddkkfefgkfaaGreatDoorKf
set_option linter.unusedVariables false
set_option linter.unusedSimpArgs false
namespace Go.Proofs.YtpaddkkfefgkfaaGreatDoor.ps.wr
open Go.Tv Go.Ev Go.Px Go.Pp Go.Proofs.YtpaddkkfefgkfaaGreatDoor.ex
set_option maxRecDepth 100000
noncomputable section
theorem wq {β α:Type} {l:List α} (hl:l.length<=9223372036854775807) {wZ ok:α->Bool} {most:Nat} {j:Nat->Int->Option β} {A B:Option β}
 (step:∀m (i:Int),j (m+1) i=pick2 (ltI i l.length) (pick2 (ltI i most) (Option.rec (motive:=λ_=>Option β) none (λy=>pick2 (ok y) (pick2 (wZ y) A (j m (IntKind.wrap .i64 (i+1)))) none) (aI l i)) B) B) :
 ∀(rest pre:List α) (m:Nat),l=pre++rest->rest.length<m->rest.all ok=true->j m pre.length=if (rest.take (most-pre.length)).any wZ=true then A else B:=by
 intro rest
 induction rest with
 |
  nil =>
  intro pre m he hm hok;obtain ⟨m,rfl⟩:∃m',m=m'+1:=⟨m-1,by simp at hm;omega⟩
  have hl:l.length=pre.length:=by rw[he];simp
  rw[step,cF (by omega)];simp
 |
  cons a rest ih =>
  intro pre m he hm hok;obtain ⟨m,rfl⟩:∃m',m=m'+1:=⟨m-1,by simp at hm;omega⟩
  rw[List.all_cons,Bool.and_eq_true] at hok;have hl:l.length=pre.length+(rest.length+1):=by rw[he];simp
  have hg:aI l (pre.length:Int)=some a:=by rw[he];exact ei pre rest a
  rw[step,kW (by omega),hg,i64_in (n:=(pre.length:Int)+1) (by omega) (by omega)]
  by_cases hp:most<=pre.length
  .
   rw[cF (by omega)]
   have:most-pre.length=0:=by omega
   rw[this];simp
  rw[kW (by omega)]
  have hin:=ih (pre++[a]) m (by rw[he];simp) (by simp at hm;omega) hok.2
  rw[List.length_append] at hin;have hin:j m ((pre.length:Int)+1)=if (rest.take (most-(pre.length+1))).any wZ=true then A else B:=hin;show pick2 (ok a) (pick2 (wZ a) A (j m ((pre.length:Int)+1))) none=_;rw[hok.1];show pick2 (wZ a) A (j m ((pre.length:Int)+1))=_;rw[hin,show most-pre.length=(most-(pre.length+1))+1 by omega,List.take_succ_cons,List.any_cons]
  cases wZ a<;>simp
def jd (l:List Nd):Bool:=(l.take 221).any (λy=>ltI 100 y.2.2.1.length)||ltI 220 l.length
def K9 {α:Type} (l:List α):Bool:=Nat.ble l.length 9223372036854775807
def pLg:List Bool:=[true,false,true,false]
def rH:bG:=⟨dG [0,1,4,5] pLg,.none,[]⟩
def jLn (l:List Nd) (r m:Nat) (i:Int):Option AV:=dH ex.X0 (cN [] [] AV) rH r 81 pLg (λv _=>some v) m (hU 28 [(0,.bF bB l),(1,.int .i64 220),(4,.bool false),(5,.int .i64 i)]) (kC [])
theorem aaS (l:List Nd) (r m:Nat) (i:Int):jLn l r (m+1) i=pick2 (ltI i l.length) (pick2 (!ltI 220 i) (Option.rec (motive:=λ_=>Option AV) none (λy=>pick2 (ltI 100 y.2.2.1.length) (some (.bool true)) (jLn l r m (IntKind.wrap .i64 (i+1)))) (aI l i)) (some (.bool (ltI 220 l.length)))) (some (.bool (ltI 220 l.length))):=by kernel_rfl
theorem R5 (l:List Nd) (r:Nat):ag ex.X0 (cN [] [] AV) rH r 81 [.bF bB l,.int .i64 220] aa.empty (λv _=>some v)=jLn l r r 0:=by kernel_rfl
def gLn (args:List AV):Option (Bool×List bA) :=
 match args with
 |
  [L,.int .i64 n]=>match sM bB L with
  |some l=>some (K9 l&&eqI n 220,[.val (.bool (jd l))])
  |none=>none
 |_=>none
theorem Jp:aO ex.X0 cg 81 gLn :=
 aJ (λargs=>lt.aL rfl args) (cV .nil n0) λargs rs hg=>by
  unfold gLn at hg;split at hg
  case h_2=>cases hg
  split at hg
  case h_2=>cases hg
  rename_i n _ l hx;have e1:=bq hx;subst e1;simp only[Option.some.injEq,Prod.mk.injEq,Bool.and_eq_true] at hg;obtain ⟨⟨h1,h2⟩,rfl⟩:=hg;have h2:n=220:=by rw[eqI_spec] at h2;simpa using h2
  subst h2;have h1:=Nat.le_of_ble_eq_true h1;refine ⟨[.bool (jd l)],rH,l.length+1,?_,rfl,rfl⟩;refine (R5 l (l.length+1)).trans ?_
  have:=wq (β:=AV) (l:=l) h1 (ok:=λ_=>true) (wZ:=λy=>ltI 100 y.2.2.1.length) (most:=221) (j:=jLn l (l.length+1)) (A:=some (.bool true)) (B:=some (.bool (ltI 220 l.length))) (λm i=>by
   rw[aaS];have:(!ltI 220 i)=ltI i ((221:Nat):Int):=by rw[ltI_spec,ltI_spec,Bool.eq_iff_iff];simp;omega
   rw[this]) l [] (l.length+1) rfl (by omega) (by simp)
  have this:jLn l (l.length+1) (l.length+1) 0=_:=this;rw[this];unfold jd;simp only[List.length_nil,Nat.sub_zero];split
  .
   rename_i ha;rw[ha];rfl
  rename_i ha;have ha:(l.take 221).any (λy=>ltI 100 y.2.2.1.length)=false:=by simpa using ha
  rw[ha];rfl
def KL:List nY:=(81,[some bB,none],gLn)::K4
theorem R6:cr ex.X0 cg KL:=.cons Jp WM
def GZ:bG:=⟨dG [1,2,3] pLg,.none,[]⟩
def jLc (o h:Int) (l:List Raw) (r m:Nat) (i:Int):kO:=dH ex.X0 (cN KL WN _) GZ r 82 pLg (gM ri) m (hU 26 [(1,.ptr 0 0),(2,.bool false),(3,.int .i64 i)]) (kC [.cells 34 (Al o h l)])
def Jz (l:List Nd):Bool:=K9 l&&eqI 220 220
theorem aaT (o h:Int) (l:List Raw) (r m:Nat) (i:Int):jLc o h l r (m+1) i=pick2 (ltI i l.length) (pick2 (ltI i 7) (Option.rec (motive:=λ_=>kO) none (λy=>pick2 (Jz y.2.2.2.1) (pick2 (jd y.2.2.2.1) TS' (jLc o h l r m (IntKind.wrap .i64 (i+1)))) none) (aI l i)) (some [.bool (ltI 6 l.length)])) (some [.bool (ltI 6 l.length)]):=by kernel_rfl
theorem Vx (o h:Int) (l:List Raw) (r:Nat):ag ex.X0 (cN KL WN _) GZ r 82 [.agg (Al o h l)] aa.empty (gM ri)=jLc o h l r r 0:=by kernel_rfl
def Ar (l:List Raw):Bool:=(l.take 7).any (λr=>jd r.2.2.2.1)||ltI 6 l.length
def AK (l:List Raw):Bool:=K9 l&&l.all (λr=>K9 r.2.2.2.1)
theorem ae0 (o h:Int) {l:List Raw} (hok:AK l=true):ag ex.X0 (cN KL WN _) GZ (l.length+1) 82 [.agg (Al o h l)] aa.empty (gM ri)=some [.bool (Ar l)]:=by
 unfold AK at hok
 rw[Bool.and_eq_true,List.all_eq_true] at hok
 obtain ⟨h1,h2⟩:=hok
 have h1:=Nat.le_of_ble_eq_true h1
 rw[Vx]
 have:=wq (β:=List AV) (l:=l) h1 (ok:=λr:Raw=>K9 r.2.2.2.1) (wZ:=λr:Raw=>jd r.2.2.2.1) (most:=7) (j:=jLc o h l (l.length+1)) (A:=TS') (B:=some [.bool (ltI 6 l.length)]) (λm i=>by
  rw[aaT];unfold Jz;have e:∀b:Bool,(b&&eqI 220 220)=b:=λb=>by cases b<;>rfl
  simp only[e];rfl) l [] (l.length+1) rfl (by omega) (by rw[List.all_eq_true];exact h2)
 have this:jLc o h l (l.length+1) (l.length+1) 0=_:=this
 rw[this]
 unfold Ar
 simp only[List.length_nil,Nat.sub_zero]
 split
 .
  rename_i ha;rw[ha];rfl
 rename_i ha
 have ha:(l.take 7).any (λr=>jd r.2.2.2.1)=false:=Bool.eq_false_iff.2 ha
 rw[ha];rfl
def fLc (vs:List AV):Option (Bool×List AV) :=
 match og [MO] vs with
 |
  [.agg [.int .i64 o,.int .i64 h,L]]=>match sM fQ L with
  |some a=>some (AK a,[.bool (Ar a)])
  |_=>none
 |_=>none
theorem aaU:bh ex.X0 cg 82 ⟨none,[none],gV fLc⟩ :=
 nH rfl R6 R4 [MO] ri λvs ws hf=>by
  unfold fLc at hf;split at hf
  case h_2=>cases hf
  rename_i o h L hv;split at hf
  case h_2=>cases hf
  rename_i a ha;simp only[Option.some.injEq,Prod.mk.injEq] at hf;obtain ⟨g0,rfl⟩:=hf;refine ⟨rfl,GZ,a.length+1,?_⟩;rw[hv,bq ha];exact ae0 o h g0
def WL:List gJ:=(82,⟨none,[none],gV fLc⟩)::WN
theorem ae1:bS ex.X0 cg WL:=.cons aaU R4
def jLs (x:RS) (r m:Nat) (i:Int):kO:=dH ex.X0 (cN KL WL _) GZ r 43 pLg (gM ri) m (hU 57 [(1,.ptr 0 0),(2,.bool false),(3,.int .i64 i)]) (kC [.cells 38 (Ea x)])
def La (x:RS):kO:=pick2 (ltI 1100 x.lab.length) TS' (pick2 (ltI 70 x.data.length) TS' (pick2 (AK x.args) (pick2 (Ar x.args) TS' (pick2 (Jz x.x) (pick2 (jd x.x) TS' (pick2 (Jz x.times) (some [.bool (jd x.times)]) none)) none)) none))
theorem aaW (x:RS) (r m:Nat) (i:Int):jLs x r (m+1) i=pick2 (ltI i x.data.length) (pick2 (ltI i 71) (Option.rec (motive:=λ_=>kO) none (λy=>pick2 (ltI 1100 y.1.length) TS' (Option.rec (motive:=λ_=>kO) none (λy=>pick2 (Jz y.2) (pick2 (jd y.2) TS' (jLs x r m (IntKind.wrap .i64 (i+1)))) none) (aI x.data i))) (aI x.data i)) (La x)) (La x):=by kernel_rfl
theorem Vy (x:RS) (r:Nat):ag ex.X0 (cN KL WL _) GZ r 43 [.agg (Ea x)] aa.empty (gM ri)=jLs x r r 0:=by kernel_rfl
def xu (x:RS):Bool:=(x.data.take 71).any (λd=>ltI 1100 d.1.length||jd d.2)||(ltI 1100 x.lab.length||(ltI 70 x.data.length||(Ar x.args||(jd x.x||jd x.times))))
def G0 (x:RS):Bool:=K9 x.data&&x.data.all (λd=>K9 d.2)&&AK x.args&&K9 x.x&&K9 x.times
theorem ae2 {x:RS} (hok:G0 x=true):ag ex.X0 (cN KL WL _) GZ (x.data.length+1) 43 [.agg (Ea x)] aa.empty (gM ri)=some [.bool (xu x)]:=by
 unfold G0 at hok
 simp only[Bool.and_eq_true,List.all_eq_true] at hok
 obtain ⟨⟨⟨⟨h1,h2⟩,h3⟩,h4⟩,h5⟩:=hok
 have h1:=Nat.le_of_ble_eq_true h1
 have e:∀b:Bool,(b&&eqI 220 220)=b:=λb=>by cases b<;>rfl
 rw[Vy]
 have:=wq (β:=List AV) (l:=x.data) h1 (ok:=λd:Dt=>K9 d.2) (wZ:=λd:Dt=>ltI 1100 d.1.length||jd d.2) (most:=71) (j:=jLs x (x.data.length+1)) (A:=TS') (B:=La x) (λm i=>by
  rw[aaW];unfold Jz;simp only[e]
  congr 2
  cases hg:aI x.data i with
  |none=>rfl
  |
   some d =>
   show pick2 (ltI 1100 d.1.length) TS' (pick2 (K9 d.2) (pick2 (jd d.2) TS' (jLs x (x.data.length+1) m (IntKind.wrap .i64 (i+1)))) none)=pick2 (K9 d.2) (pick2 (ltI 1100 d.1.length||jd d.2) TS' (jLs x (x.data.length+1) m (IntKind.wrap .i64 (i+1)))) none
   have hd:K9 d.2=true:=by
    obtain ⟨k,_,hk⟩:=jI hg;exact h2 d (List.mem_of_getElem? hk)
   rw[hd];cases ltI 1100 d.1.length<;>rfl) x.data [] (x.data.length+1) rfl (by omega) (by rw[List.all_eq_true];exact h2)
 have this:jLs x (x.data.length+1) (x.data.length+1) 0=_:=this
 rw[this]
 unfold xu
 simp only[List.length_nil,Nat.sub_zero]
 split
 .
  rename_i ha;rw[ha];rfl
 rename_i ha
 rw[Bool.eq_false_iff.2 ha]
 unfold La Jz
 rw[e,e,h3,h4,h5]
 cases ltI 1100 x.lab.length with
 |true=>rfl
 |
  false=>cases ltI 70 x.data.length with
  |true=>rfl
  |
   false=>cases Ar x.args with
   |true=>rfl
   |false=>cases jd x.x<;>rfl
def fLs (vs:List AV):Option (Bool×List AV) :=
 match og [wh] vs with
 |
  [.agg A]=>match Ed A with
  |some a=>some (G0 a,[.bool (xu a)])
  |_=>none
 |_=>none
theorem aaX:bh ex.X0 cg 43 ⟨none,[none],gV fLs⟩ :=
 nH rfl R6 ae1 [wh] ri λvs ws hf=>by
  unfold fLs at hf;split at hf
  case h_2=>cases hf
  rename_i A hv;split at hf
  case h_2=>cases hf
  rename_i a ha;simp only[Option.some.injEq,Prod.mk.injEq] at hf;obtain ⟨g0,rfl⟩:=hf;refine ⟨rfl,GZ,a.data.length+1,?_⟩;rw[hv,jc ha];exact ae2 g0
def bX (x:RS):List UInt8×Int :=
 if (dZ x).2 then ([],2) else if (lt.dL (dZ x).1).2≠0 then ([],(lt.dL (dZ x).1).2) else if (bH (lt.dL (dZ x).1).1).2.1≠0 then ([],2)
 else if Eb x (bH (lt.dL (dZ x).1).1).1 then ((lt.dL (dZ x).1).1,0) else ([],2)
def G1 (x:RS):Bool:=Nat.ble x.args.length 500&&Nat.ble x.data.length 500&&(Nat.ble (dZ x).1.length 300000&&(dZ x).1.all lt.fF)&&Ec x
theorem aaY {x:RS} (h:G1 x=true):wrT x=some [.str (bX x).1,.int .i64 (bX x).2]:=by
 unfold G1 at h
 rw[Bool.and_eq_true,Bool.and_eq_true,Bool.and_eq_true] at h
 obtain ⟨⟨⟨h1,h2⟩,h3⟩,h4⟩:=h
 unfold wrT
 rw[h1,h2,h3,h4]
 show pick2 (dZ x).2 _ _=_
 unfold bX Na
 cases (dZ x).2 with
 |true=>rfl
 |
  false =>
  show pick2 (!eqI _ 0) _ _=_;rw[aG,if_neg (by decide:¬(false=true))]
  by_cases ha:(lt.dL (dZ x).1).2=0
  .
   rw[if_pos ha,if_neg (λz=>z ha),aG]
   by_cases hb:(bH (lt.dL (dZ x).1).1).2.1=0
   .
    rw[if_pos hb,if_neg (λz=>z hb)]
    cases Eb x (bH (lt.dL (dZ x).1).1).1<;>rfl
   rw[if_neg hb,if_pos hb]
  rw[if_neg ha,if_pos ha]
def fWr (vs:List AV):Option (Bool×List AV) :=
 match og [wh] vs with
 |
  [.agg A]=>match Ed A with
  |some x=>some (G1 x,[.str (bX x).1,.int .i64 (bX x).2])
  |none=>none
 |_=>none
theorem Nb:bh ex.X0 cg 44 ⟨none,[none],gV fWr⟩ :=
 nH rfl WM R4 [wh] aeW λvs ws hf=>by
  unfold fWr at hf;split at hf
  case h_2=>cases hf
  rename_i A hv;split at hf
  case h_2=>cases hf
  rename_i x hx;simp only[Option.some.injEq,Prod.mk.injEq] at hf;obtain ⟨g0,rfl⟩:=hf;refine ⟨rfl,bV,5,?_⟩;rw[hv,jc hx];exact (Vw x).trans (aaY g0)
def W10:List gJ:=(44,⟨none,[none],gV fWr⟩)::(43,⟨none,[none],gV fLs⟩)::NS4
end
end Go.Proofs.YtpaddkkfefgkfaaGreatDoor.ps.wr
