/- Blanks more between tokens: the same tokens. -/
import Derived.Test.YtpaddkkfefgkfaaGreatDoorSg
import Derived.Test.YtpaddkkfefgkfaaGreatDoorGrj
namespace Go.Proofs.YtpaddkkfefgkfaaGreatDoor.ps
open Go.Tv Go.Ev Go.Px Go.Pp Go.Proofs.YtpaddkkfefgkfaaGreatDoor.ex
set_option maxRecDepth 100000
noncomputable section
def mV (bl e:List UInt8):List Tok->List UInt8
 |[]=>e
 |y::l=>lt.ax y++32::(bl++mV bl e l)
def qW (c:UInt8):Bool:=decide (aA c=32\/aA c=9)
theorem vk (T:List UInt8):∀(b rest:List UInt8) (n:Nat),b.all qW=true->(b++rest).length<=n->∃n',rest.length<=n'/\lt.bp T n (b++rest)=lt.bp T n' rest
 |[],rest,n,_,h=>⟨n,h,rfl⟩
 |c::b,rest,0,_,h=>by simp at h
 |
  c::b,rest,n+1,hb,h=>by
  simp only[List.all_cons,Bool.and_eq_true] at hb;obtain ⟨n',h1,h2⟩:=vk T b rest n hb.2 (by simp at h ⊢;omega)
  refine ⟨n',h1,?_⟩;rw[<-h2,List.cons_append,lt.bp,if_pos (of_decide_eq_true hb.1)]
def aal (e:List UInt8):Prop:=e=[]\/∃r,e=59::r
theorem Lw (T:List UInt8) {e:List UInt8} (he:aal e) (n:Nat):lt.bp T n e=([],0,0):=by
 rcases he with rfl|⟨r,rfl⟩
 .
  cases n<;>rfl
 cases n with
 |zero=>rfl
 |succ n=>rw[lt.bp,if_neg (by decide),if_pos (by decide)]
theorem Hy (T bl e:List UInt8) (tN:bl.all qW=true) (he:aal e):∀(l:List Tok) (p b:List UInt8) (n:Nat),T=p++(b++mV bl e l)->b.all qW=true->(b++mV bl e l).length<=n->(∀y∈l,lt.bI y=true/\lt.dV y=true)->(lt.bp T n (b++mV bl e l)).2=(0,0)/\zl (lt.bp T n (b++mV bl e l)).1=zl l
 |
  [],p,b,n,hT,hb,hn,hl=>by
  obtain ⟨n',h1,h2⟩:=vk T b (mV bl e []) n hb hn;rw[h2,show mV bl e []=e from rfl,Lw T he];exact ⟨rfl,rfl⟩
 |
  y::l,p,b,n,hT,hb,hn,hl=>by
  obtain ⟨n',h1,h2⟩:=vk T b (mV bl e (y::l)) n hb hn;obtain ⟨hv,hc⟩:=hl y (by simp)
  have hs:mV bl e (y::l)=lt.ax y++32::(bl++mV bl e l):=rfl;obtain ⟨d,r,hw,hp,hnb,hns⟩:=lt.AY hv hc (p++b) (e:=32::(bl++mV bl e l)) (.inr ⟨_,rfl⟩);rw[h2];rw[hs] at h1 ⊢;have hlen:=h1;rw[hw] at hlen ⊢;obtain ⟨n'',rfl⟩:∃m,n'=m+1:=⟨n'-1,by simp at hlen;omega⟩
  have hT':T=p++b++lt.ax y++32::(bl++mV bl e l):=by rw[hT,hs];simp
  have hpos:T.length-((r++32::(bl++mV bl e l)).length+1)=(p++b).length:=by
   rw[hT',hw];simp;omega
  rw[List.cons_append,lt.bp,if_neg hnb,if_neg hns,hpos];have hp':lt.bw T d (p++b).length=((y.1,y.2.1,y.2.2.1,((p++b).length:Int)),((p++b).length:Int)+(lt.ax y).length,0,0):=by rw[hT'];exact hp
  rw[hp',if_pos rfl]
  have zm:T.drop ((((p++b).length:Int)+((lt.ax y).length:Nat)).toNat)=32::(bl++mV bl e l):=by
   have e1:(((p++b).length:Int)+((lt.ax y).length:Nat)).toNat=(p++b++lt.ax y).length:=by
    rw[show (p++b++lt.ax y).length=(p++b).length+(lt.ax y).length by simp only[List.length_append]];omega
   rw[e1,hT'];exact List.drop_left
  have ih:=Hy T bl e tN he l (p++b++lt.ax y) (32::bl) n'' (by rw[hT'];simp) (by rw[List.all_cons,tN];decide) (by simp at hlen ⊢;omega) (λz hz=>hl z (by simp[hz]))
  show (lt.bp T n'' (T.drop _)).2=(0,0)/\zl (_::(lt.bp T n'' (T.drop _)).1)=zl (y::l);rw[zm];refine ⟨ih.1,?_⟩;show zt _::zl (lt.bp T n'' ((32::bl)++mV bl e l)).1=zt y::zl l;rw[ih.2];rfl
theorem NF {bl e:List UInt8} (tN:bl.all qW=true) (he:aal e) {l:List Tok} (hl:∀y∈l,lt.bI y=true/\lt.dV y=true) {b:List UInt8} (hb:b.all qW=true) (hlen:(b++mV bl e l).length<=1000) :
 (lt.aG (b++mV bl e l)).2=(0,0)/\zl (lt.aG (b++mV bl e l)).1=zl l:=by
 obtain ⟨h1,h2⟩:=Hy (b++mV bl e l) bl e tN he l [] b _ rfl hb (Nat.le_refl _) hl
 unfold lt.aG
 rw[if_neg (by omega),if_pos (by rw[h1])]
 exact ⟨rfl,h2⟩
theorem NG {s t:List UInt8} (hs:(lt.aG s).2.1=0) (ht:(lt.aG t).2.1=0) (h:zl (lt.aG t).1=zl (lt.aG s).1):JM (ck s).1 (ck t).1=true/\(ck s).2.1=(ck t).2.1:=by
 have hz:=C3 (n:=s.length) (n':=t.length) h.symm ei
 unfold ck
 rw[if_neg (show ¬(lt.aG s).2.1≠0 from λq=>q hs),if_neg (show ¬(lt.aG t).2.1≠0 from λq=>q ht)]
 generalize cF s.length (lt.aG s).1 ei=x at hz ⊢
 generalize cF t.length (lt.aG t).1 ei=x' at hz ⊢
 obtain ⟨a,q⟩:=x
 obtain ⟨a',q'⟩:=x'
 unfold zR at hz
 simp only[Prod.mk.injEq,RS.mk.injEq] at hz
 obtain ⟨rfl,h1,h2,h3,h4,h5,h6,h7,h8,h9,h10,h11,_⟩:=hz
 cases a with
 |
  true =>
  refine ⟨AL _ _ ?_,rfl⟩;show HT q=HT q';unfold HT;rw[h2,h3,h4,h5,h6,h7,h8,h9,h10]
 |false=>exact ⟨Z7,h11⟩
end
end Go.Proofs.YtpaddkkfefgkfaaGreatDoor.ps
