/- decode.find for bytes that begin with 83: told. -/
import Derived.Test.YtpenhcmahojifaaGreatDoorGd
set_option linter.unusedVariables false
set_option linter.unusedSimpArgs false
set_option linter.unusedSectionVars false
namespace Go.Ev.Tw
open Go.Proofs
noncomputable section
set_option maxRecDepth 1000000
/-- A row of bytes. -/
def bR (l : List Value) : Blk := ⟨l, 5, true, true⟩
def rowsF83 : List Blk := [iR 2826, iR 771, iR 2827, iR 771, iR 2826, iR 771, iR 2827, iR 771, iR 2826, iR 771, iR 2827, iR 771, iR 2826, iR 771, iR 2827, iR 771, iR 2826, iR 771, iR 2827, iR 771, iR 2826, iR 771, iR 2827, iR 771, iR 2826, iR 771, iR 2827, iR 771, iR 2826, iR 771, iR 2827, iR 771, fR 16 0x144180807c078080c418080740700813c180806c068070bc180806406007134180805c058060b418080540500612c180804c048050ac180804404005124180803c038040a418080340300411c180802c0280309c180802402003114180801c0180209418080140100210c180800c0080108c180800400001 false]
def valF83 : Value := sl 32 16 16
def vF83 : List Blk := [bR [.int .u8 131, .int .u8 192, .int .u8 5]]
theorem toldF83 [TokE] (q : Nat → TypeId) : ToldV Tryz.prog (GRq q) 18 [.slice (some ⟨0, 0, none⟩) 3 3] vF83 valF83 rowsF83 := by
  obtain ⟨H0, h0⟩ : ∃ H0, Mem.ofRows Mem.empty vF83 = some H0 := ⟨_, rfl⟩
  have e : H0 = (Mem.ofRows Mem.empty vF83).getD Mem.empty := by rw [h0]; rfl
  subst e
  exact toldV_of (rounds := 5000) (k := 40) no_own mixed noKnown_ok.any (mFind_ok q) noD_ok h0 (by rfl) (fun h => by cases h) (n := 33) (lit := 0x79a0120011f011e011d00fa00f900f800f700d400d300d200d100ae00ad00ac00ab0088008700860085006200610060005f003c003b003a00390016001500140013) (base := 65536) (by kernel_rfl)
end
end Go.Ev.Tw
