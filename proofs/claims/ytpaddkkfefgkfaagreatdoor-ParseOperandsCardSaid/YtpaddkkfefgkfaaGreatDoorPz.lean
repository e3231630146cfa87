/- Expressions: their numbers, their names; plain. -/
import Derived.Test.YtpaddkkfefgkfaaGreatDoorGxa
set_option linter.unusedVariables false
set_option linter.unusedSimpArgs false
namespace Go.Px
abbrev Sym:=List UInt8×Int×Bool
def Dj:List Sym->List UInt8->Option Sym
 |[],_=>none
 |q::l,s=>if q.1=s then some q else Dj l s
def tZ (l:List Sym) (s:List UInt8):Option Sym:=Dj l.reverse s
def ze (v:List Int) (i:Int):Int:=(at? v i).getD 0
section
variable (neg inv:Int->Int) (bin:Int->Int->Int->Int×Bool) (l:List Sym) (here start:Int)
def zf (v:List Int) (nd:Nd):Int×Int×Bool :=
 if nd.1=1 then (0,nd.2.1,false)
 else if nd.1=2 then (match tZ l nd.2.2.1 with
  |some q=>(0,q.2.1,q.2.2)
  |none=>(6,0,false))
 else if nd.1=3 then (0,here,true)
 else if nd.1=4 then (0,start,true)
 else if nd.1=5 then (0,neg (ze v nd.2.2.2.1),false)
 else if nd.1=6 then (0,inv (ze v nd.2.2.2.1),false)
 else if (bin nd.1 (ze v nd.2.2.2.1) (ze v nd.2.2.2.2)).2=true then (0,(bin nd.1 (ze v nd.2.2.2.1) (ze v nd.2.2.2.2)).1,false)
 else (5,0,false)
def Zm:List Nd->Nat->List Int->Bool->Int×Bool×Int
 |[],i,v,p=>(ze v ((i:Int)-1),p,0)
 |
  nd::r,i,v,p =>
  if (zf neg inv bin l here start v nd).1=0 then Zm r (i+1) (v.set i (zf neg inv bin l here start v nd).2.1) (p||(zf neg inv bin l here start v nd).2.2)
  else (0,false,(zf neg inv bin l here start v nd).1)
end
section
variable {neg inv:Int->Int} {bin:Int->Int->Int->Int×Bool}
def ahD (l:List Sym) (nd:Nd):Bool:=decide (nd.1=3)||(decide (nd.1=4)||(decide (nd.1=2)&&(match tZ l nd.2.2.1 with
 |some q=>q.2.2
 |none=>false)))
end
def abK:List Nd->List (List UInt8)->List (List UInt8)
 |[],out=>out
 |nd::r,out=>if nd.1=2/\nd.2.2.1 ∉ out then abK r (out++[nd.2.2.1]) else abK r out
def Sx:Nat->List Nd->Prop
 |_,[]=>True
 |i,nd::r=>(1<=nd.1/\(4<nd.1->0<=nd.2.2.2.1/\nd.2.2.2.1<(i:Int))/\(6<nd.1->0<=nd.2.2.2.2/\nd.2.2.2.2<(i:Int)))/\Sx (i+1) r
theorem xu {nm:List UInt8->Bool}:∀(x:List Nd) (i:Nat) (o:List Int),(∀a∈o,0<=a/\a<(i:Int))->lB nm i x o=0->Sx i x
 |[],_,_,_,_=>trivial
 |
  nd::r,i,o,ho,h=>by
  unfold lB at h;split at h
  case isFalse=>omega
  rename_i hf;split at h
  case h_2=>omega
  rename_i o' hs
  have h1:1<=nd.1:=by
   unfold bB at hf;simp only[Bool.and_eq_true,decide_eq_true_eq] at hf;exact hf.1.1.1.1.1
  have sub:∀(n:Nat) (a:Int),a∈o.take n++[(i:Int)]->0<=a/\a<((i+1:Nat):Int):=λn a ha=>by
   rcases List.mem_append.1 ha with ha|ha
   .
    have:=ho a (List.mem_of_mem_take ha);omega
   have:a=i:=by simpa using ha
   omega
  have mem:∀(j:Nat) (z:Int),o[j]? = some z->0<=z/\z<(i:Int):=λj z hz=>ho z (List.mem_of_getElem? hz)
  unfold wB at hs;split at hs
  .
   rename_i h4;refine ⟨⟨h1,λh=>by omega,λh=>by omega⟩,xu r (i+1) o' ?_ h⟩
   simp only[Option.some.injEq] at hs;subst hs;intro a ha;rcases List.mem_append.1 ha with ha|ha
   .
    have:=ho a ha;omega
   have:a=i:=by simpa using ha
   omega
  split at hs
  .
   rename_i h4 h6;split at hs
   .
    cases hs
   rename_i hn;simp only[Option.some.injEq] at hs;subst hs;refine ⟨⟨h1,λ_=>mem _ _ (Classical.not_not.1 λh=>hn (.inr h)),λh=>by omega⟩,xu r (i+1) _ (sub _) h⟩
  split at hs
  .
   cases hs
  rename_i hn;simp only[Option.some.injEq] at hs;subst hs;refine ⟨⟨h1,λ_=>mem _ _ (Classical.not_not.1 λh=>hn (.inr (.inl h))),λ_=>mem _ _ (Classical.not_not.1 λh=>hn (.inr (.inr h)))⟩,xu r (i+1) _ (sub _) h⟩
theorem O7 {nm:List UInt8->Bool} {x:List Nd} (h:gI nm x=0):x≠[]/\x.length<=200/\Sx 0 x:=by
 unfold gI at h
 split at h
 .
  omega
 refine ⟨λe=>by subst e;simp[lB] at h,by omega,xu x 0 [] (λa h=>by cases h) h⟩
end Go.Px
