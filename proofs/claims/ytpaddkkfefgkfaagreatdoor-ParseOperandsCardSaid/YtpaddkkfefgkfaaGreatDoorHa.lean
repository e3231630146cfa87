/- Texts of tokens, piece after piece. -/
import Derived.Test.YtpaddkkfefgkfaaGreatDoorNb
set_option linter.unusedVariables false
set_option linter.unusedSimpArgs false
namespace Go.Proofs.YtpaddkkfefgkfaaGreatDoor.ps
open Go.Tv Go.Ev Go.Px Go.Pp Go.Proofs.YtpaddkkfefgkfaaGreatDoor.ex
set_option maxRecDepth 100000
noncomputable section
def Lx (r:List UInt8) (ts:List Tok):Prop:=∀(T p:List UInt8) (m:Nat),T=p++r->r.length<=m->(lt.dH T m r).2=(0,0)/\zl (lt.dH T m r).1=ts
theorem Lx.nil:Lx [] []:=λT p m _ _=>by rw[lt.lex_nil];exact ⟨rfl,rfl⟩
theorem Lx.blank {r:List UInt8} {ts:List Tok} (h:Lx r ts):Lx (32::r) ts:=λT p m hT hm=>by
 obtain ⟨m,rfl⟩:∃k,m=k+1:=⟨m-1,by simp at hm;omega⟩
 rw[lt.Lt]
 exact h T (p++[32]) m (by rw[hT];simp) (by simp at hm;omega)
theorem Lx.step {w e:List UInt8} {y:Tok} {ts:List Tok} (hw:1<=w.length) (h:Lx e ts) (hs:∀(p:List UInt8) (n:Nat),∃a:Int,lt.dH (p++w++e) (n+1) (w++e)=((y.1,y.2.1,y.2.2.1,a)::(lt.dH (p++w++e) n e).1,(lt.dH (p++w++e) n e).2)):Lx (w++e) (zt y::ts):=λT p m hT hm=>by
 obtain ⟨m,rfl⟩:∃k,m=k+1:=⟨m-1,by simp at hm;omega⟩
 obtain ⟨a,h1⟩:=hs p m
 have hT':T=p++w++e:=by rw[hT];simp
 obtain ⟨g1,g2⟩:=h T (p++w) m hT' (by simp at hm;omega)
 rw[<-hT'] at h1
 rw[h1]
 refine ⟨g1,?_⟩
 show zt _::zl _=_
 rw[g2];rfl
def tN (t:List UInt8):Tok:=(1,0,t,0)
def tS (d:UInt8):Tok:=(4,0,[d],0)
def tH (n:Int):Tok:=(2,n,[],0)
theorem Lx.name {t e:List UInt8} {ts:List Tok} (hn:lt.ay t=true) (he:lt.Stop e) (h:Lx e ts):Lx (t++e) (tN t::ts) :=
 Lx.step (y:=tN t) (by obtain ⟨d,r,rfl,_⟩:=lt.zE hn;simp) h λp n=>⟨_,lt.Qf hn he n⟩
theorem Lz {p e:List UInt8} {d:UInt8} (hd:d=42\/d=43\/d=44\/d=45\/d=58\/d=91\/d=93) (n:Nat) :
 lt.dH (p++[d]++e) (n+1) ([d]++e)=((4,0,[d],(p.length:Int))::(lt.dH (p++[d]++e) n e).1,(lt.dH (p++[d]++e) n e).2):=by
 have hD:(p++[d]++e).drop p.length=[d]++e:=by rw[List.append_assoc,List.drop_left]
 have hs:lt.sg2 ([d]++e) p.length lt.vr=([d],(p.length:Int)+(1:Nat),0,0):=by
  rcases hd with rfl|rfl|rfl|rfl|rfl|rfl|rfl<;>cases e<;>rfl
 refine zH (w:=[d]) (d:=d) (r:=[]) rfl ?_ ?_ ?_ n
 .
  rcases hd with rfl|rfl|rfl|rfl|rfl|rfl|rfl<;>decide
 .
  rcases hd with rfl|rfl|rfl|rfl|rfl|rfl|rfl<;>decide
 unfold lt.cV lt.pP
 rw[lt.FP,hD,hs,if_neg (by rcases hd with rfl|rfl|rfl|rfl|rfl|rfl|rfl<;>decide),if_neg (by rcases hd with rfl|rfl|rfl|rfl|rfl|rfl|rfl<;>decide),if_neg (by rcases hd with rfl|rfl|rfl|rfl|rfl|rfl|rfl<;>decide)]
 rfl
theorem Lx.sign {d:UInt8} {e:List UInt8} {ts:List Tok} (hd:d=42\/d=43\/d=44\/d=45\/d=58\/d=91\/d=93) (h:Lx e ts):Lx (d::e) (tS d::ts) :=
 Lx.step (w:=[d]) (y:=tS d) (by simp) h λp n=>⟨_,Lz hd n⟩
theorem Lx.hex {u:Nat} {e:List UInt8} {ts:List Tok} (hu:u<18446744073709551616) (he:zI e) (h:Lx e ts):Lx (iT u++e) (tH (IntKind.wrap .i64 (u:Int))::ts) :=
 Lx.step (y:=tH (IntKind.wrap .i64 (u:Int))) (by simp[iT]) h λp n=>⟨_,TL hu he n⟩
theorem TN {p e:List UInt8} {d:UInt8} {v:Int} (hd:(d=49/\v=1)\/(d=50/\v=2)\/(d=52/\v=4)\/(d=56/\v=8)) (he:zI e) (n:Nat) :
 lt.dH (p++[d]++e) (n+1) ([d]++e)=((2,v,[],(p.length:Int))::(lt.dH (p++[d]++e) n e).1,(lt.dH (p++[d]++e) n e).2):=by
 have hD:(p++[d]++e).drop p.length=[d]++e:=by rw[List.append_assoc,List.drop_left]
 refine zH (w:=[d]) (d:=d) (r:=[]) rfl ?_ ?_ ?_ n
 .
  rcases hd with ⟨rfl,_⟩|⟨rfl,_⟩|⟨rfl,_⟩|⟨rfl,_⟩<;>decide
 .
  rcases hd with ⟨rfl,_⟩|⟨rfl,_⟩|⟨rfl,_⟩|⟨rfl,_⟩<;>decide
 have hsc:lt.dN (p++[d]++e) (p.length:Int)=lt.l7 [d] p.length:=by
  rw[lt.B5 (d:=d) (r:=e) (by rw[hD];rfl),if_neg (by rcases hd with ⟨rfl,_⟩|⟨rfl,_⟩|⟨rfl,_⟩|⟨rfl,_⟩<;>decide),if_pos (by rcases hd with ⟨rfl,_⟩|⟨rfl,_⟩|⟨rfl,_⟩|⟨rfl,_⟩<;>decide),hD,zJ (w:=[d]) (by
   intro c hc;rw[List.mem_singleton.1 hc];rcases hd with ⟨rfl,_⟩|⟨rfl,_⟩|⟨rfl,_⟩|⟨rfl,_⟩<;>decide) he]
 unfold lt.cV
 rw[if_neg (by rcases hd with ⟨rfl,_⟩|⟨rfl,_⟩|⟨rfl,_⟩|⟨rfl,_⟩<;>decide),if_pos (by rcases hd with ⟨rfl,_⟩|⟨rfl,_⟩|⟨rfl,_⟩|⟨rfl,_⟩<;>decide),hsc]
 rcases hd with ⟨rfl,rfl⟩|⟨rfl,rfl⟩|⟨rfl,rfl⟩|⟨rfl,rfl⟩<;>rfl
theorem Lx.Zu {d:UInt8} {v:Int} {e:List UInt8} {ts:List Tok} (hd:(d=49/\v=1)\/(d=50/\v=2)\/(d=52/\v=4)\/(d=56/\v=8)) (he:zI e) (h:Lx e ts):Lx (d::e) (tH v::ts) :=
 Lx.step (w:=[d]) (y:=tH v) (by simp) h λp n=>⟨_,TN hd he n⟩
theorem FQ {n:Int} (h:vL n):(Ar n).length<=20:=by
 unfold Ar lt.qb
 have hu:n.natAbs<16 ^ 16:=by
  have:(16:Nat) ^ 16=18446744073709551616:=by decide
  rw[this];omega
 have:=lt.Ic (b:=16) 16 n.natAbs []
 rw[lt.vK (by omega) 16 64 n.natAbs [] hu (by omega) (by omega)]
 simp only[List.length_append,List.length_nil] at this ⊢
 split<;>simp<;>omega
theorem Lx.lex {r:List UInt8} {ts:List Tok} (h:Lx r ts) (hr:r.length<=1000):(lt.bM r).2=(0,0)/\zl (lt.bM r).1=ts:=by
 obtain ⟨g1,g2⟩:=h r [] r.length rfl (Nat.le_refl _)
 unfold lt.bM
 rw[if_neg (by omega),if_pos (by rw[g1])]
 exact ⟨rfl,g2⟩
end
end Go.Proofs.YtpaddkkfefgkfaaGreatDoor.ps
