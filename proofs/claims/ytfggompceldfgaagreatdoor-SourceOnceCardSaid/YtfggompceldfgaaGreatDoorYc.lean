/- From the layer to the machine: laws on sources. -/
import Derived.Test.YtfggompceldfgaaGreatDoorGxb
set_option linter.unusedVariables false
set_option linter.unusedSimpArgs false
namespace Go.Proofs.YtfggompceldfgaaGreatDoor.ps.sr
open Go.Tv Go.Ev Go.Px Go.Pp Go.Proofs.YtfggompceldfgaaGreatDoor.ex
noncomputable section
theorem jm {w:World}{rows:List jz}(h1:∃b,rows[1]? = some b/\b.live=true/\b.cells=lt.N6)(hr:kU rows w):fm X0 (ve w):=by
 refine GA hr λg hg he=>?_
 match g,hg,he with
 |0,_,he=>exact absurd rfl he
 |1,_,_=>obtain⟨b,e1,e2,e3⟩:=h1;exact⟨b,e1,e2,by rw[e3];rfl,by rw[e3];kernel_rfl⟩
 |2,_,he=>exact absurd rfl he
 |3,_,he=>exact absurd rfl he
 |4,_,he=>exact absurd rfl he
 |5,_,he=>exact absurd rfl he
 |6,_,he=>exact absurd rfl he
 |7,_,he=>exact absurd rfl he
 |g+8,hg,_=>exact absurd hg (by show ¬g+8<8;omega)
end
end Go.Proofs.YtfggompceldfgaaGreatDoor.ps.sr
