/- ParseBlanks: the law's run, and that it answers true. -/
import Derived.Test.YtpaddkkfefgkfaaGreatDoorTb
set_option linter.unusedVariables false
set_option linter.unusedSimpArgs false
namespace Go.Proofs.YtpaddkkfefgkfaaGreatDoor.ps
open Go.Tv Go.Ev Go.Px Go.Pp Go.Proofs.YtpaddkkfefgkfaaGreatDoor.ex
set_option maxRecDepth 100000
noncomputable section
theorem adX:lt.kn 23 []=some (.bool true):=by kernel_rfl
theorem NY:aK ex.X0 cq 23 Yk :=
 sI λargs rs hg=>by
  unfold Yk at hg;split at hg
  .
   simp only[Option.some.injEq,Prod.mk.injEq] at hg;obtain ⟨_,rfl⟩:=hg;refine ⟨_,.bool true,rfl,rfl,λS=>.bool _,rfl,λS aC hl=>?_⟩
   rw[hl.ep];exact ⟨adX,rfl⟩
  cases hg
def Q6:List mQ:=(23,[],Yk)::(28,[some aQ],lt.Jb)::S1
theorem aip:bS ex.X0 cq Q6:=.cons NY (.cons lt.aai tP)
def pPb:List Bool:=[true,true,true,true,true,true,true,true,false,true,false]
def adY:bI:=⟨dP [5,6,8,9,10,11,12] pPb,.none,[]⟩
def jPb (bl:List UInt8) (L:List Tok) (c:yb) (q m:Nat) (i:Int) (t:List UInt8):Option AV:=dQ ex.X0 (cN Q6 LD _) adY q 9 pPb (λv _=>some v) m (iB 94 [(5,.bool true),(6,.own 0 L.length),(8,.ptr 1 0),(9,.ptr 2 0),(10,.str bl),(11,.str t),(12,.int .i64 i)])
 (jF [.list 106 aQ L 0 false true,.cells 34 [.int .i64 c.1,.int .i64 c.2.1,.bF mg c.2.2.1],.cells 56 [.int .i64 c.2.2.2.1,.int .i64 c.2.2.2.2]])
def fiP (c:yb) (t:List UInt8):Option AV :=
 pick2 (ltI 1000 t.length) yT (pick2 (Nat.ble (lt.aG t).1.length 200000) (pick2 (eqI (lt.aG t).2.1 0) (pick2 (Yd c.2.2.1) (pick2 (decide (c.1=(az (lt.aG t).1 0).1)&&decide (c.2.1=(az (lt.aG t).1 0).2.1)&&rX c.2.2.1 (az (lt.aG t).1 0).2.2.1)
  (some (.bool (decide (c.2.2.2.1=(az (lt.aG t).1 0).2.2.2.1)&&decide (c.2.2.2.2=(az (lt.aG t).1 0).2.2.2.2)))) nT) none) nT) none)
theorem U8 (bl:List UInt8) (L:List Tok) (c:yb) (q m:Nat) (i:Int) (t:List UInt8):jPb bl L c q (m+1) i t =
 pick2 (ltI i L.length) (pick2 (!ltI i 0 && !ltI (IntKind.wrap .i64 (i+1)) i && !ltI (Int.ofNat L.length) (IntKind.wrap .i64 (i+1)))
  (pick2 (eqI i 0||ltI i (Int.ofNat L.length)) (pick2 (Nat.ble (aR L i (IntKind.wrap .i64 (i+1))).length 1000&&(aR L i (IntKind.wrap .i64 (i+1))).all lt.eC) (pick2 (!eqI (lt.eD (aR L i (IntKind.wrap .i64 (i+1)))).2 0) nT
   (kD (t.length+bl.length) (kD ((t++bl).length+1) (kD ((t++bl++[32]).length+(lt.eD (aR L i (IntKind.wrap .i64 (i+1)))).1.length)
    (jPb bl L c q m (IntKind.wrap .i64 (i+1)) (t++bl++[32]++(lt.eD (aR L i (IntKind.wrap .i64 (i+1)))).1)))))) none) none) none) (fiP c t):=by kernel_rfl
def Jr:List UInt8:=[32,32,32,32,32,32,32,32,32,32]
theorem Yx (s:List UInt8) (many:Int) (q:Nat):ag ex.X0 (cN Q6 LD _) adY q 9 [.str s,.int .i64 many] aa.empty (λv _=>some v) =
 pick2 (ltI 300 s.length) yT (pick2 (Nat.ble (lt.aG s).1.length 200000) (pick2 (!eqI (lt.aG s).2.1 0) yT ((λgo:Int->Option AV=>pick2 (ltI (Int.tmod many 11) 0) (go (IntKind.wrap .i64 (Int.tmod many 11+11))) (go (Int.tmod many 11)))
  λk=>pick2 (!ltI k 0 && !ltI 10 k) (jPb (aR Jr 0 k) (lt.aG s).1 (az (lt.aG s).1 0) q q 0 []) none)) none):=by kernel_rfl
def jM (bl:List UInt8):List Tok->List UInt8
 |[]=>[]
 |y::l=>bl++[32]++lt.aA y++jM bl l
theorem adZ {bl:List UInt8} (h:∀x∈bl,x=32) (e:List UInt8):bl++32::e=32::(bl++e):=by
 induction bl with
 |nil=>rfl
 |
  cons c bl ih =>
  rw[h c (by simp),List.cons_append,ih λx hx=>h x (by simp[hx])];rfl
theorem LX {bl:List UInt8} (h:∀x∈bl,x=32) (l:List Tok):lt.Behind (jM bl l):=by
 cases l with
 |nil=>exact .inl rfl
 |cons y l=>exact .inr ⟨bl++(lt.aA y++jM bl l),by rw[jM,List.append_assoc,List.append_assoc];exact adZ h _⟩
theorem EA (T bl:List UInt8) (uW:∀x∈bl,x=32):∀(l:List Tok) (p:List UInt8) (n:Nat),T=p++jM bl l->(jM bl l).length<=n->(∀y∈l,lt.aW y=true/\lt.eC y=true)->(lt.bh T n (jM bl l)).2=(0,0)/\zl (lt.bh T n (jM bl l)).1=zl l
 |
  [],p,n,hT,hn,hl=>by
  rw[show jM bl []=[] from rfl,NV T (.inl rfl)];exact ⟨rfl,rfl⟩
 |
  y::l,p,n,hT,hn,hl=>by
  have hb:(bl++[32]).all r8=true:=by
   rw[List.all_eq_true];intro x hx
   have:x=32:=by
    rcases List.mem_append.1 hx with hx|hx
    .
     exact uW x hx
    exact List.mem_singleton.1 hx
   rw[this];decide
  have hs:jM bl (y::l)=(bl++[32])++(lt.aA y++jM bl l):=by rw[jM,List.append_assoc]
  rw[hs] at hT hn ⊢;obtain ⟨n',h1,h2⟩:=wJ T (bl++[32]) _ n hb hn;obtain ⟨hv,hc⟩:=hl y (by simp)
  obtain ⟨d,r,hw,hp,hnb,hns⟩:=lt.Cj hv hc (p++(bl++[32])) (LX uW l);rw[h2];have hlen:=h1;have hT':T=p++(bl++[32])++lt.aA y++jM bl l:=by rw[hT];simp
  rw[hw] at hlen ⊢;obtain ⟨n'',rfl⟩:∃m,n'=m+1:=⟨n'-1,by simp at hlen;omega⟩
  have hpos:T.length-((r++jM bl l).length+1)=(p++(bl++[32])).length:=by
   rw[hT',hw];simp;omega
  rw[List.cons_append,lt.bh,if_neg hnb,if_neg hns,hpos];have hp':lt.bw T d (p++(bl++[32])).length=((y.1,y.2.1,y.2.2.1,((p++(bl++[32])).length:Int)),((p++(bl++[32])).length:Int)+(lt.aA y).length,0,0):=by rw[hT'];exact hp
  rw[hp',if_pos rfl]
  have AU:T.drop ((((p++(bl++[32])).length:Int)+((lt.aA y).length:Nat)).toNat)=jM bl l:=by
   have e1:(((p++(bl++[32])).length:Int)+((lt.aA y).length:Nat)).toNat=(p++(bl++[32])++lt.aA y).length:=by
    have e2:(p++(bl++[32])++lt.aA y).length=(p++(bl++[32])).length+(lt.aA y).length:=List.length_append;rw[e2];omega
   rw[e1,hT'];exact List.drop_left
  have ih:=EA T bl uW l (p++(bl++[32])++lt.aA y) n'' (by rw[hT']) (by simp at hlen ⊢;omega) (λz hz=>hl z (by simp[hz]))
  show (lt.bh T n'' (T.drop _)).2=(0,0)/\zl (_::(lt.bh T n'' (T.drop _)).1)=zl (y::l);rw[AU];refine ⟨ih.1,?_⟩;show zt _::zl (lt.bh T n'' (jM bl l)).1=zt y::zl l;rw[ih.2];rfl
theorem U9 (bl:List UInt8) (uW:bl.length<=10):∀l:List Tok,(∀y∈l,(lt.aA y).length<=1000)->(jM bl l).length<=1011*l.length
 |[],_=>by simp[jM]
 |
  y::l,h=>by
  have h1:=U9 bl uW l (λz hz=>h z (by simp[hz]))
  have h2:=h y (by simp)
  rw[jM];simp;omega
theorem ad0 {bl:List UInt8} {L:List Tok} {c:yb} (hL:L.length<=1000) (uW:bl.length<=10) (q:Nat) (hy:∀y∈L,lt.aW y=true/\lt.eC y=true/\(lt.aA y).length<=1000):∀(rest pre:List Tok) (m:Nat) (t:List UInt8),L=pre++rest->rest.length<m->t.length<=1011*pre.length->jPb bl L c q m pre.length t=fiP c (t++jM bl rest):=by
 intro rest
 induction rest with
 |
  nil =>
  intro pre m t he hm ht;obtain ⟨m,rfl⟩:∃m',m=m'+1:=⟨m-1,by simp at hm;omega⟩
  have hl:L.length=pre.length:=by rw[he];simp
  rw[U8,cn (by omega)]
  show fiP c t=fiP c (t++[]);rw[List.append_nil]
 |
  cons y rest ih =>
  intro pre m t he hm ht;obtain ⟨m,rfl⟩:∃m',m=m'+1:=⟨m-1,by simp at hm;omega⟩
  have hl:L.length=pre.length+(rest.length+1):=by rw[he];simp
  obtain ⟨h1,h2,h3⟩:=hy y (by rw[he];simp)
  rw[U8,i64_in (n:=(pre.length:Int)+1) (by omega) (by omega),NW he,Jp h1 h3,jo (by omega),cn (show (0:Int)<=(pre.length:Int) by omega),cn (show (pre.length:Int)<=(pre.length:Int)+1 by omega),cn (show (pre.length:Int)+1<=Int.ofNat L.length by simp only[Int.ofNat_eq_natCast];omega),
   jo (show (pre.length:Int)<Int.ofNat L.length by simp only[Int.ofNat_eq_natCast];omega)]
  have hc:([y].all lt.eC)=true:=by rw[List.all_cons,h2];rfl
  rw[hc,Bool.or_true];show kD (t.length+bl.length) (kD ((t++bl).length+1) (kD ((t++bl++[32]).length+(lt.aA y).length) (jPb bl L c q m ((pre.length:Int)+1) (t++bl++[32]++lt.aA y))))=_;rw[gF (by omega),gF (by simp;omega),gF (by simp;omega)]
  have hin:=ih (pre++[y]) m (t++bl++[32]++lt.aA y) (by rw[he];simp) (by simp at hm;omega) (by simp;omega)
  rw[List.length_append] at hin;have hin:jPb bl L c q m ((pre.length:Int)+1) (t++bl++[32]++lt.aA y)=_:=hin;rw[hin,jM];simp
theorem Va (k:Int):(∀x∈aR Jr 0 k,x=32)/\(aR Jr 0 k).length<=10:=by
 unfold aR
 refine ⟨λx hx=>?_,by simp[Jr];omega⟩
 have hx:=List.mem_of_mem_take hx
 have:x∈Jr:=hx
 simp only[Jr,List.mem_cons,List.not_mem_nil,or_false,or_self] at this
 exact this
theorem Yy (l:List Tok) (a:Int):Yd (az l a).2.2.1=true:=by
 obtain ⟨h1,h2⟩:=rY l a
 unfold Yd
 rw[Bool.and_eq_true,List.all_eq_true]
 exact ⟨cj (by omega),λr hr=>cj (by have:=h2 r hr;omega)⟩
theorem Vb {s bl:List UInt8} (uW:∀x∈bl,x=32):fiP (az (lt.aG s).1 0) (jM bl (lt.aG s).1)=yT:=by
 unfold fiP
 rw[aI]
 split
 .
  rfl
 rename_i hT
 obtain ⟨h1,h2⟩:=EA (jM bl (lt.aG s).1) bl uW (lt.aG s).1 [] _ rfl (Nat.le_refl _) (lt.qe s).1
 have Yz:lt.aG (jM bl (lt.aG s).1)=((lt.bh (jM bl (lt.aG s).1) (jM bl (lt.aG s).1).length (jM bl (lt.aG s).1)).1,0,0):=by
  rw[lt.aG,if_neg (by omega),if_pos (by rw[h1])]
 have hcm:az (lt.aG (jM bl (lt.aG s).1)).1 0=az (lt.aG s).1 0:=by
  rw[Yz];rw[<-sM,h2,sM]
 have hl:=wC (jM bl (lt.aG s).1)
 rw[hcm,Yy,B8,decide_eq_true rfl,decide_eq_true rfl,decide_eq_true rfl,decide_eq_true rfl,cj (show (lt.aG (jM bl (lt.aG s).1)).1.length<=200000 by omega),Yz]
 rfl
theorem aiq (s:List UInt8) (many:Int):ag ex.X0 (cN Q6 LD _) adY 1002 9 [.str s,.int .i64 many] aa.empty (λv _=>some v)=some (.bool true):=by
 have hl:=wC s
 rw[Yx,aI,cj (show (lt.aG s).1.length<=200000 by omega),aN]
 split
 .
  rfl
 rename_i h1
 show (if (lt.aG s).2.1=0 then _ else _)=_
 split
 .
  rename_i h3;have hv:=lt.qe s;have hsh:=Cl s (k:=300) (by omega) (by omega)
  have hy:∀y∈(lt.aG s).1,lt.aW y=true/\lt.eC y=true/\(lt.aA y).length<=1000:=λy h=>⟨(hv.1 y h).1,(hv.1 y h).2,by have:=Cm (k:=300) (by omega) (hsh y h);omega⟩
  have go:∀k:Int,0<=k->k<=10->pick2 (!ltI k 0 && !ltI 10 k) (jPb (aR Jr 0 k) (lt.aG s).1 (az (lt.aG s).1 0) 1002 1002 0 []) none=yT:=λk k0 k1=>by
   obtain ⟨b1,b2⟩:=Va k;rw[cn (by omega),cn (by omega)]
   have:=ad0 (c:=az (lt.aG s).1 0) hv.2 b2 1002 hy (lt.aG s).1 [] 1002 [] rfl (by omega) (by simp)
   show jPb (aR Jr 0 k) (lt.aG s).1 (az (lt.aG s).1 0) 1002 1002 0 []=yT;exact Eq.trans this (Vb b1)
  have hm:=Int.tmod_lt_of_pos many (show (0:Int)<11 by omega)
  have hm2:=Int.lt_tmod_of_pos many (show (0:Int)<11 by omega)
  show pick2 (ltI (Int.tmod many 11) 0) _ _=_;rw[aI];split
  .
   rw[i64_in (n:=Int.tmod many 11+11) (by omega) (by omega)]
   exact go _ (by omega) (by omega)
  exact go _ (by omega) (by omega)
 rfl
end
end Go.Proofs.YtpaddkkfefgkfaaGreatDoor.ps
