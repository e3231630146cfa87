/- Blanks more between tokens: the same tokens. -/
import Derived.Test.YtpaddkkfefgkfaaGreatDoorSg
import Derived.Test.YtpaddkkfefgkfaaGreatDoorGrj
set_option linter.unusedVariables false
set_option linter.unusedSimpArgs false
namespace Go.Proofs.YtpaddkkfefgkfaaGreatDoor.ps
open Go.Tv Go.Ev Go.Px Go.Pp Go.Proofs.YtpaddkkfefgkfaaGreatDoor.ex
set_option maxRecDepth 100000
noncomputable section
def nS (bl e:List UInt8):List Tok->List UInt8
 |[]=>e
 |y::l=>lt.aA y++32::(bl++nS bl e l)
def r8 (c:UInt8):Bool:=decide (aD c=32\/aD c=9)
theorem wJ (T:List UInt8):∀(b rest:List UInt8) (n:Nat),b.all r8=true->(b++rest).length<=n->∃n',rest.length<=n'/\lt.bh T n (b++rest)=lt.bh T n' rest
 |[],rest,n,_,h=>⟨n,h,rfl⟩
 |c::b,rest,0,_,h=>by simp at h
 |
  c::b,rest,n+1,hb,h=>by
  simp only[List.all_cons,Bool.and_eq_true] at hb;obtain ⟨n',h1,h2⟩:=wJ T b rest n hb.2 (by simp at h ⊢;omega)
  refine ⟨n',h1,?_⟩;rw[<-h2,List.cons_append,lt.bh,if_pos (of_decide_eq_true hb.1)]
def adR (e:List UInt8):Prop:=e=[]\/∃r,e=59::r
theorem NV (T:List UInt8) {e:List UInt8} (he:adR e) (n:Nat):lt.bh T n e=([],0,0):=by
 rcases he with rfl|⟨r,rfl⟩
 .
  cases n<;>rfl
 cases n with
 |zero=>rfl
 |succ n=>rw[lt.bh,if_neg (by decide),if_pos (by decide)]
theorem Jm (T bl e:List UInt8) (uW:bl.all r8=true) (he:adR e):∀(l:List Tok) (p b:List UInt8) (n:Nat),T=p++(b++nS bl e l)->b.all r8=true->(b++nS bl e l).length<=n->(∀y∈l,lt.aW y=true/\lt.eC y=true)->(lt.bh T n (b++nS bl e l)).2=(0,0)/\zl (lt.bh T n (b++nS bl e l)).1=zl l
 |
  [],p,b,n,hT,hb,hn,hl=>by
  obtain ⟨n',h1,h2⟩:=wJ T b (nS bl e []) n hb hn;rw[h2,show nS bl e []=e from rfl,NV T he];exact ⟨rfl,rfl⟩
 |
  y::l,p,b,n,hT,hb,hn,hl=>by
  obtain ⟨n',h1,h2⟩:=wJ T b (nS bl e (y::l)) n hb hn;obtain ⟨hv,hc⟩:=hl y (by simp)
  have hs:nS bl e (y::l)=lt.aA y++32::(bl++nS bl e l):=rfl;obtain ⟨d,r,hw,hp,hnb,hns⟩:=lt.Cj hv hc (p++b) (e:=32::(bl++nS bl e l)) (.inr ⟨_,rfl⟩);rw[h2];rw[hs] at h1 ⊢;have hlen:=h1;rw[hw] at hlen ⊢;obtain ⟨n'',rfl⟩:∃m,n'=m+1:=⟨n'-1,by simp at hlen;omega⟩
  have hT':T=p++b++lt.aA y++32::(bl++nS bl e l):=by rw[hT,hs];simp
  have hpos:T.length-((r++32::(bl++nS bl e l)).length+1)=(p++b).length:=by
   rw[hT',hw];simp;omega
  rw[List.cons_append,lt.bh,if_neg hnb,if_neg hns,hpos];have hp':lt.bw T d (p++b).length=((y.1,y.2.1,y.2.2.1,((p++b).length:Int)),((p++b).length:Int)+(lt.aA y).length,0,0):=by rw[hT'];exact hp
  rw[hp',if_pos rfl]
  have AU:T.drop ((((p++b).length:Int)+((lt.aA y).length:Nat)).toNat)=32::(bl++nS bl e l):=by
   have e1:(((p++b).length:Int)+((lt.aA y).length:Nat)).toNat=(p++b++lt.aA y).length:=by
    rw[show (p++b++lt.aA y).length=(p++b).length+(lt.aA y).length by simp only[List.length_append]];omega
   rw[e1,hT'];exact List.drop_left
  have ih:=Jm T bl e uW he l (p++b++lt.aA y) (32::bl) n'' (by rw[hT'];simp) (by rw[List.all_cons,uW];decide) (by simp at hlen ⊢;omega) (λz hz=>hl z (by simp[hz]))
  show (lt.bh T n'' (T.drop _)).2=(0,0)/\zl (_::(lt.bh T n'' (T.drop _)).1)=zl (y::l);rw[AU];refine ⟨ih.1,?_⟩;show zt _::zl (lt.bh T n'' ((32::bl)++nS bl e l)).1=zt y::zl l;rw[ih.2];rfl
theorem P9 {bl e:List UInt8} (uW:bl.all r8=true) (he:adR e) {l:List Tok} (hl:∀y∈l,lt.aW y=true/\lt.eC y=true) {b:List UInt8} (hb:b.all r8=true) (hlen:(b++nS bl e l).length<=1000) :
 (lt.aG (b++nS bl e l)).2=(0,0)/\zl (lt.aG (b++nS bl e l)).1=zl l:=by
 obtain ⟨h1,h2⟩:=Jm (b++nS bl e l) bl e uW he l [] b _ rfl hb (Nat.le_refl _) hl
 unfold lt.aG
 rw[if_neg (by omega),if_pos (by rw[h1])]
 exact ⟨rfl,h2⟩
theorem Qa {s t:List UInt8} (hs:(lt.aG s).2.1=0) (ht:(lt.aG t).2.1=0) (h:zl (lt.aG t).1=zl (lt.aG s).1):LC (cH s).1 (cH t).1=true/\(cH s).2.1=(cH t).2.1:=by
 have hz:=Er (n:=s.length) (n':=t.length) h.symm eJ
 unfold cH
 rw[if_neg (show ¬(lt.aG s).2.1≠0 from λq=>q hs),if_neg (show ¬(lt.aG t).2.1≠0 from λq=>q ht)]
 generalize cZ s.length (lt.aG s).1 eJ=x at hz ⊢
 generalize cZ t.length (lt.aG t).1 eJ=x' at hz ⊢
 obtain ⟨a,q⟩:=x
 obtain ⟨a',q'⟩:=x'
 unfold zR at hz
 simp only[Prod.mk.injEq,RS.mk.injEq] at hz
 obtain ⟨rfl,h1,h2,h3,h4,h5,h6,h7,h8,h9,h10,h11,_⟩:=hz
 cases a with
 |
  true =>
  refine ⟨Ce _ _ ?_,rfl⟩;show JQ q=JQ q';unfold JQ;rw[h2,h3,h4,h5,h6,h7,h8,h9,h10]
 |false=>exact ⟨adE,h11⟩
end
end Go.Proofs.YtpaddkkfefgkfaaGreatDoor.ps
