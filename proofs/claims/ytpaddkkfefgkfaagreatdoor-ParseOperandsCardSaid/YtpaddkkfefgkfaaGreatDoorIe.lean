/- ParseOperands: what its text is read as; that it answers true. -/
import Derived.Test.YtpaddkkfefgkfaaGreatDoorId
set_option linter.unusedVariables false
set_option linter.unusedSimpArgs false
namespace Go.Proofs.YtpaddkkfefgkfaaGreatDoor.ps.iq
open Go.Tv Go.Ev Go.Px Go.Pp Go.Proofs.YtpaddkkfefgkfaaGreatDoor.ex
set_option maxRecDepth 100000
noncomputable section
def acM (k:Nat):Bool:=eqI (nm.dz (nm.bL (Int.ofNat k))).1 (Int.ofNat k)&&((nm.dz (nm.bL (Int.ofNat k))).2&&(ay (nm.bL (Int.ofNat k))&&Nat.ble (nm.bL (Int.ofNat k)).length 20))
theorem TX:gP acM 1 322=true:=by kernel_rfl
theorem jC {op:Int} (h:cy op=true):nm.dz (nm.bL op)=(op,true)/\ay (nm.bL op)=true/\(nm.bL op).length<=20:=by
 have h:=of_decide_eq_true h
 obtain ⟨k,rfl⟩:∃k:Nat,op=Int.ofNat k:=⟨op.toNat,by simp only[Int.ofNat_eq_natCast];omega⟩
 simp only[Int.ofNat_eq_natCast] at h
 have:=cQ TX k (by omega) (by omega)
 unfold acM at this
 simp only[Bool.and_eq_true,eqI_spec,beq_iff_eq] at this
 exact ⟨Prod.ext this.1 this.2.1,this.2.2.1,Nat.le_of_ble_eq_true this.2.2.2⟩
def acN (c x:Nat):Bool:=pick2 (sA (Int.ofNat c) (Int.ofNat x)) (ay (av (Int.ofNat c) (Int.ofNat x))&&(Nat.ble (av (Int.ofNat c) (Int.ofNat x)).length 10&&(eqI (dQ (tN (av (Int.ofNat c) (Int.ofNat x)))).1 0&&eqI (dQ (tN (av (Int.ofNat c) (Int.ofNat x)))).2 0))) true
theorem TY:gP (λc=>gP (λx=>acN c x) 0 16) 1 8=true:=by kernel_rfl
theorem LA {c x:Int} (h:bw c x=true):sA c x=true/\1<=c/\c<=8/\0<=x/\x<16:=by
 have h:=of_decide_eq_true h
 have hv:∀c x a b:Int,Dy c=a->PV c=b->a<=x->x<a+b->sA c x=true:=λc x a b h1 h2 h3 h4=>by
  unfold sA;rw[h1,h2,cA h3,kG h4];rfl
 rcases h with ⟨rfl,h1,h2⟩|⟨rfl,h1,h2⟩|⟨rfl|rfl|rfl|rfl|rfl|rfl,h1,h2⟩
 .
  exact ⟨hv 2 x 4 4 rfl rfl h1 (by omega),by omega,by omega,by omega,by omega⟩
 .
  exact ⟨hv 8 x 0 1 rfl rfl h1 (by omega),by omega,by omega,by omega,by omega⟩
 .
  exact ⟨hv 1 x 0 16 rfl rfl h1 (by omega),by omega,by omega,by omega,by omega⟩
 .
  exact ⟨hv 3 x 0 16 rfl rfl h1 (by omega),by omega,by omega,by omega,by omega⟩
 .
  exact ⟨hv 4 x 0 16 rfl rfl h1 (by omega),by omega,by omega,by omega,by omega⟩
 .
  exact ⟨hv 5 x 0 16 rfl rfl h1 (by omega),by omega,by omega,by omega,by omega⟩
 .
  exact ⟨hv 6 x 0 16 rfl rfl h1 (by omega),by omega,by omega,by omega,by omega⟩
 exact ⟨hv 7 x 0 16 rfl rfl h1 (by omega),by omega,by omega,by omega,by omega⟩
theorem bT {c x:Int} (h:bw c x=true):ay (av c x)=true/\(av c x).length<=10/\dQ (tN (av c x))=(0,0)/\rp (av c x)=(c,x,true):=by
 obtain ⟨hv,h1,h2,h3,h4⟩:=LA h
 have hp:=H9 hv
 obtain ⟨k,rfl⟩:∃k:Nat,c=Int.ofNat k:=⟨c.toNat,by simp only[Int.ofNat_eq_natCast];omega⟩
 obtain ⟨j,rfl⟩:∃k:Nat,x=Int.ofNat k:=⟨x.toNat,by simp only[Int.ofNat_eq_natCast];omega⟩
 simp only[Int.ofNat_eq_natCast] at h1 h2 h3 h4
 have:=cQ (cQ TY k (by omega) (by omega)) j (by omega) (by omega)
 unfold acN at this
 rw[hv] at this
 have this:(ay (av (Int.ofNat k) (Int.ofNat j))&&(Nat.ble (av (Int.ofNat k) (Int.ofNat j)).length 10&&(eqI (dQ (tN (av (Int.ofNat k) (Int.ofNat j)))).1 0&&eqI (dQ (tN (av (Int.ofNat k) (Int.ofNat j)))).2 0)))=true:=this
 simp only[Bool.and_eq_true,eqI_spec,beq_iff_eq] at this
 exact ⟨this.1,Nat.le_of_ble_eq_true this.2.1,Prod.ext this.2.2.1 this.2.2.2,hp⟩
end
end Go.Proofs.YtpaddkkfefgkfaaGreatDoor.ps.iq
