/- From the layer to the machine, where strings.asciiSpace is as laid. -/
import Derived.Test.YtpajehginfbamaaDoorRg2
namespace Go.Proofs.YtpajehginfbamaaDoor.rg
open Go.Tv Go.Ev

theorem noOwn : Ev.noOwn Tryd.prog := Ev.noOwn_of (by kernel_rfl)
theorem mixed : Tryd.prog.follows .mixedOrders = true := by kernel_rfl

theorem glob {w : World} {rows : List Blk} {b1 : Blk} (hb : rows[1]? = some b1) (hl : b1.live = true) (hc : b1.cells = space) (hr : RowsAt rows w) : GlobOk X0 (woOf w) := by
  refine glob_rows hr fun g hg he => ?_
  match g, hg, he with
  | 0, _, he => exact absurd rfl he
  | 1, _, _ => exact ⟨b1, hb, hl, by rw [hc]; rfl, by rw [hc]; kernel_rfl⟩
  | g + 2, hg, _ => exact absurd hg (by show ¬ g + 2 < 2; omega)

/-- A run of the layer that comes to true is the machine's. -/
theorem top {call : ∀ β, CallT β} (hcall : ∀ β, CallTOk X0 (cfOf X0 noKnown) (call β)) {an : FnAnn} {rounds : Nat} {f : FuncId} {args : List AV} (h : enterT X0 (call AV) an rounds f args TMem.empty (fun v _ => some v) = some (.bool true))
    {w : World} (hG : 2 ≤ w.heap.size) (hg : GlobOk X0 (woOf w)) {args' : List Value} (hargs : LV (woOf w) args args') (hb : args.all argB = true) :
    Calls Tryd.prog f args'.toArray w fun e w' => e = .returned (.bool true) ∧ RowKit.Below w.heap.size w w' :=
  top_ok (X := X0) noOwn mixed noKnown_ok (v := .bool true) (fun S x hx => hx.bool_inv) rfl (fun S E argsE hr hg hl => top_run (nk f) hcall h S E argsE hr hg hl) hG hg hargs hb
end Go.Proofs.YtpajehginfbamaaDoor.rg
