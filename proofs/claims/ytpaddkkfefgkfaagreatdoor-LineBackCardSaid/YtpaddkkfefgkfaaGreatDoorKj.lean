/- A statement that is not too long may be written. -/
import Derived.Test.YtpaddkkfefgkfaaGreatDoorKi
set_option linter.unusedVariables false
set_option linter.unusedSimpArgs false
namespace Go.Proofs.YtpaddkkfefgkfaaGreatDoor.ps.wr
open Go.Tv Go.Ev Go.Px Go.Pp Go.Proofs.YtpaddkkfefgkfaaGreatDoor.ex
set_option maxRecDepth 100000
noncomputable section
def iX (x:List Nd):Prop:=∀y∈x,lt.G3 y.2.1
structure iSt (S:RS):Prop where
 args:∀r∈S.args,lt.G3 r.2.2.1.2.2.1/\iX r.2.2.2.1
 data:∀d∈S.data,iX d.2
 x:iX S.x
 times:iX S.times
theorem Ay {α:Type} {f:α->Bool} {l:List α} {k:Nat} (h:(l.take k).any f=false) (hl:l.length<=k):∀a∈l,f a=false:=λa ha=>by
 rw[List.take_of_length_le hl] at h
 cases hf:f a with
 |false=>rfl
 |true=>rw[List.any_eq_true.2 ⟨a,ha,hf⟩] at h;cases h
theorem wA {a b:Int} (h:ltI a b=false):b<=a:=by rw[ltI_spec] at h;simpa using h
theorem qF {x:List Nd} (h:jd x=false):x.length<=220/\∀y∈x,y.2.2.1.length<=100:=by
 unfold jd at h
 rw[Bool.or_eq_false_iff] at h
 have h2:=wA h.2
 have hl:x.length<=220:=by omega
 refine ⟨hl,λy hy=>?_⟩
 have:=wA (Ay h.1 (by omega) y hy)
 omega
theorem uM {x:List Nd} (h:jd x=false) (hi:iX x):gX x:=λy hy=>⟨hi y hy,by have:=(qF h).2 y hy;omega⟩
theorem Sd {x:RS} (h:xu x=false) (hi:iSt x):gSt x/\Ec x=true:=by
 unfold xu at h
 simp only[Bool.or_eq_false_iff] at h
 obtain ⟨h1,h2,h3,h4,h5,h6⟩:=h
 have h2:=wA h2
 have h3:=wA h3
 have h1:=λd hd=>Ay h1 (by omega) d hd
 simp only[Bool.or_eq_false_iff] at h1
 unfold Ar at h4
 rw[Bool.or_eq_false_iff] at h4
 obtain ⟨h4,h4'⟩:=h4
 have h4':=wA h4'
 have h4:=λr hr=>Ay h4 (by omega) r hr
 have l5:=(qF h5).1
 have l6:=(qF h6).1
 refine ⟨⟨by omega,λr hr=>⟨(hi.args r hr).1,uM (h4 r hr) (hi.args r hr).2⟩,λd hd=>⟨?_,uM (h1 d hd).2 (hi.data d hd)⟩,uM h5 hi.x,uM h6 hi.times,by omega,by omega⟩,?_⟩
 .
  have:=wA (h1 d hd).1;omega
 unfold Ec SH
 simp only[Bool.and_eq_true,List.all_eq_true]
 refine ⟨⟨bO (by omega),λr hr=>bO ?_⟩,⟨bO (by omega),λd hd=>bO ?_⟩,bO (by omega),bO (by omega)⟩
 .
  have:=(qF (h4 r hr)).1;omega
 have:=(qF (h1 d hd).2).1
 omega
theorem Az {x:RS} (h:(bX x).2=0):xm (bX x).1 x=true:=by
 unfold bX at h ⊢
 unfold xm
 split at h
 .
  exact absurd h (by decide)
 rename_i h1
 rw[if_neg h1]
 split at h
 .
  rename_i h2;exact absurd h h2
 rename_i h2
 rw[if_neg h2]
 split at h
 .
  exact absurd h (by decide)
 rename_i h3
 rw[if_neg h3]
 split at h
 .
  rename_i h4;rw[if_pos h4];show (decide ((bH (lt.dL (dZ x).1).1).2.1=0)&&Eb (bH (lt.dL (dZ x).1).1).1 x)=true;rw[decide_eq_true (Classical.not_not.1 h3),Bool.true_and];unfold Eb at h4 ⊢;simp only[Bool.and_eq_true,decide_eq_true_eq,fe] at h4 ⊢;obtain ⟨a,b,c,⟨⟨d,e⟩,f⟩,g,i,j⟩:=h4;exact ⟨a.symm,b.symm,c.symm,⟨⟨d.symm,e.symm⟩,f.symm⟩,g.symm,i.symm,j.symm⟩
 exact absurd h (by decide)
theorem Se {x:RS} (h:(bX x).2≠0):(bX x).1=[]:=by
 unfold bX at h ⊢
 split
 .
  rfl
 rename_i h1
 rw[if_neg h1] at h
 split
 .
  rfl
 rename_i h2
 rw[if_neg h2] at h
 split
 .
  rfl
 rename_i h3
 rw[if_neg h3] at h
 split
 .
  rename_i h4;rw[if_pos h4] at h;exact absurd rfl h
 rfl
theorem CL:∀(l:List Tok) (b:List UInt8),(lt.uH l b).2=0\/(lt.uH l b).2=2\/(lt.uH l b).2=3
 |[],_=>.inl rfl
 |
  y::l,b=>by
  rw[lt.uH];split
  .
   exact .inr (.inr rfl)
  exact CL l _
theorem Sf (l:List Tok):(lt.dL l).2=0\/(lt.dL l).2=2\/(lt.dL l).2=3:=by
 unfold lt.dL
 split
 .
  cases l with
  |nil=>exact .inl rfl
  |
   cons y l =>
   simp only;split
   .
    exact .inr (.inr rfl)
   exact CL _ _
 exact .inr (.inl rfl)
theorem Nj (x:RS):(bX x).2=0\/(bX x).2=2\/(bX x).2=3:=by
 unfold bX
 split
 .
  exact .inr (.inl rfl)
 split
 .
  exact (Sf _)
 split
 .
  exact .inr (.inl rfl)
 split
 .
  exact .inl rfl
 exact .inr (.inl rfl)
end
end Go.Proofs.YtpaddkkfefgkfaaGreatDoor.ps.wr
