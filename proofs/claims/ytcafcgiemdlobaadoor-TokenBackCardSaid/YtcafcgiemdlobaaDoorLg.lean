/- The package-level variables; from the layer to the machine. -/
import Derived.Test.YtcafcgiemdlobaaDoorLr4
namespace Go.Proofs.YtcafcgiemdlobaaDoor.lt
open Go.Tv Go.Ev

def cells0 : List Value := [.string ⟨#[36, 36]⟩, .string ⟨#[60, 60]⟩, .string ⟨#[62, 62]⟩, .string ⟨#[43]⟩, .string ⟨#[45]⟩, .string ⟨#[42]⟩, .string ⟨#[47]⟩, .string ⟨#[37]⟩, .string ⟨#[38]⟩, .string ⟨#[124]⟩, .string ⟨#[94]⟩, .string ⟨#[126]⟩, .string ⟨#[40]⟩, .string ⟨#[41]⟩, .string ⟨#[91]⟩, .string ⟨#[93]⟩, .string ⟨#[44]⟩, .string ⟨#[58]⟩, .string ⟨#[36]⟩]
def cells1 : List Value := [.int .u64 1, .int .u64 10, .int .u64 100, .int .u64 1000, .int .u64 10000, .int .u64 100000, .int .u64 1000000, .int .u64 10000000, .int .u64 100000000, .int .u64 1000000000, .int .u64 10000000000, .int .u64 100000000000, .int .u64 1000000000000, .int .u64 10000000000000, .int .u64 100000000000000, .int .u64 1000000000000000, .int .u64 10000000000000000, .int .u64 100000000000000000, .int .u64 1000000000000000000, .int .u64 10000000000000000000]
def cells2 : List Value := [.int .u8 0, .int .u8 1, .int .u8 28, .int .u8 2, .int .u8 29, .int .u8 14, .int .u8 24, .int .u8 3, .int .u8 30, .int .u8 22, .int .u8 20, .int .u8 15, .int .u8 25, .int .u8 17, .int .u8 4, .int .u8 8, .int .u8 31, .int .u8 27, .int .u8 13, .int .u8 23, .int .u8 21, .int .u8 19, .int .u8 16, .int .u8 7, .int .u8 26, .int .u8 12, .int .u8 18, .int .u8 6, .int .u8 11, .int .u8 5, .int .u8 10, .int .u8 9]
def cells3 : List Value := [.int .u8 0, .int .u8 1, .int .u8 56, .int .u8 2, .int .u8 57, .int .u8 49, .int .u8 28, .int .u8 3, .int .u8 61, .int .u8 58, .int .u8 42, .int .u8 50, .int .u8 38, .int .u8 29, .int .u8 17, .int .u8 4, .int .u8 62, .int .u8 47, .int .u8 59, .int .u8 36, .int .u8 45, .int .u8 43, .int .u8 51, .int .u8 22, .int .u8 53, .int .u8 39, .int .u8 33, .int .u8 30, .int .u8 24, .int .u8 18, .int .u8 12, .int .u8 5, .int .u8 63, .int .u8 55, .int .u8 48, .int .u8 27, .int .u8 60, .int .u8 41, .int .u8 37, .int .u8 16, .int .u8 46, .int .u8 35, .int .u8 44, .int .u8 21, .int .u8 52, .int .u8 32, .int .u8 23, .int .u8 11, .int .u8 54, .int .u8 26, .int .u8 40, .int .u8 15, .int .u8 34, .int .u8 20, .int .u8 31, .int .u8 10, .int .u8 25, .int .u8 14, .int .u8 19, .int .u8 9, .int .u8 13, .int .u8 8, .int .u8 7, .int .u8 6]
/-- As the laws of literals have them, and as those of tokens. -/
noncomputable def gvL (g : Nat) : List AV := pick2 (Nat.beq g 1) (cells1.map ofC) (pick2 (Nat.beq g 2) (cells2.map ofC) (pick2 (Nat.beq g 3) (cells3.map ofC) (pick2 (Nat.beq g 77) [.nils, .nils, .nils] [])))
noncomputable def gvT (g : Nat) : List AV := pick2 (Nat.beq g 0) (cells0.map ofC) (gvL g)
/-- As those have them that tell no numbers: 'signs' alone. -/
noncomputable def gvS (g : Nat) : List AV := pick2 (Nat.beq g 0) (cells0.map ofC) []

theorem noOwn : Ev.noOwn Tryd.prog := Ev.noOwn_of (by kernel_rfl)
theorem mixed : Tryd.prog.follows .mixedOrders = true := by kernel_rfl

theorem globL {w : World} {rows : List Blk} (h1 : ∃ b, rows[1]? = some b ∧ b.live = true ∧ b.cells = cells1) (h2 : ∃ b, rows[2]? = some b ∧ b.live = true ∧ b.cells = cells2) (h3 : ∃ b, rows[3]? = some b ∧ b.live = true ∧ b.cells = cells3) (hr : RowsAt rows w) : GlobOk (Xg gvL) (woOf w) := by
  refine glob_rows hr fun g hg he => ?_
  match g, hg, he with
  | 0, _, he => exact absurd rfl he
  | 1, _, _ => obtain ⟨b, e1, e2, e3⟩ := h1; exact ⟨b, e1, e2, by rw [e3]; rfl, by rw [e3]; kernel_rfl⟩
  | 2, _, _ => obtain ⟨b, e1, e2, e3⟩ := h2; exact ⟨b, e1, e2, by rw [e3]; rfl, by rw [e3]; kernel_rfl⟩
  | 3, _, _ => obtain ⟨b, e1, e2, e3⟩ := h3; exact ⟨b, e1, e2, by rw [e3]; rfl, by rw [e3]; kernel_rfl⟩
  | g + 4, hg, _ => exact absurd hg (by show ¬ g + 4 < 4; omega)

theorem globT {w : World} {rows : List Blk} (h0 : ∃ b, rows[0]? = some b ∧ b.live = true ∧ b.cells = cells0) (h1 : ∃ b, rows[1]? = some b ∧ b.live = true ∧ b.cells = cells1) (h2 : ∃ b, rows[2]? = some b ∧ b.live = true ∧ b.cells = cells2) (h3 : ∃ b, rows[3]? = some b ∧ b.live = true ∧ b.cells = cells3) (hr : RowsAt rows w) : GlobOk (Xg gvT) (woOf w) := by
  refine glob_rows hr fun g hg he => ?_
  match g, hg, he with
  | 0, _, _ => obtain ⟨b, e1, e2, e3⟩ := h0; exact ⟨b, e1, e2, by rw [e3]; rfl, by rw [e3]; kernel_rfl⟩
  | 1, _, _ => obtain ⟨b, e1, e2, e3⟩ := h1; exact ⟨b, e1, e2, by rw [e3]; rfl, by rw [e3]; kernel_rfl⟩
  | 2, _, _ => obtain ⟨b, e1, e2, e3⟩ := h2; exact ⟨b, e1, e2, by rw [e3]; rfl, by rw [e3]; kernel_rfl⟩
  | 3, _, _ => obtain ⟨b, e1, e2, e3⟩ := h3; exact ⟨b, e1, e2, by rw [e3]; rfl, by rw [e3]; kernel_rfl⟩
  | g + 4, hg, _ => exact absurd hg (by show ¬ g + 4 < 4; omega)

/-- A run of the layer that comes to true is the machine's. -/
theorem globS {w : World} {rows : List Blk} (h0 : ∃ b, rows[0]? = some b ∧ b.live = true ∧ b.cells = cells0) (hr : RowsAt rows w) : GlobOk (Xg gvS) (woOf w) := by
  refine glob_rows hr fun g hg he => ?_
  match g, hg, he with
  | 0, _, _ => obtain ⟨b, e1, e2, e3⟩ := h0; exact ⟨b, e1, e2, by rw [e3]; rfl, by rw [e3]; kernel_rfl⟩
  | g + 1, hg, _ => exact absurd hg (by show ¬ g + 1 < 1; omega)

theorem top {gv : Nat → List AV} {call : ∀ β, CallT β} (hcall : ∀ β, CallTOk (Xg gv) (cfOf (Xg gv) noKnown) (call β)) {an : FnAnn} {rounds : Nat} {f : FuncId} {args : List AV} (h : enterT (Xg gv) (call AV) an rounds f args TMem.empty (fun v _ => some v) = some (.bool true))
    {w : World} (hG : (Xg gv).G ≤ w.heap.size) (hg : GlobOk (Xg gv) (woOf w)) {args' : List Value} (hargs : LV (woOf w) args args') (hb : args.all argB = true) :
    Calls Tryd.prog f args'.toArray w fun e w' => e = .returned (.bool true) ∧ RowKit.Below w.heap.size w w' :=
  top_ok (X := Xg gv) noOwn mixed noKnown_ok (v := .bool true) (fun S x hx => hx.bool_inv) rfl (fun S E argsE hr hg hl => top_run (nk f) hcall h S E argsE hr hg hl) hG hg hargs hb

/-- The chapter's examples. -/
theorem run19 : enterT (Xg gvL) (c0 gvL AV) an0 200 19 [] TMem.empty (fun v _ => some v) = some (.bool true) := by kernel_rfl
theorem con19 : ConOk (Xg gvL) (cfOf (Xg gvL) noKnown) 19 gYes :=
  con_vals (nk 19) (c0_ok gvL) fun args rs hg => by
    unfold gYes at hg
    split at hg
    · simp only [Option.some.injEq, Prod.mk.injEq] at hg
      obtain ⟨h1, rfl⟩ := hg
      exact ⟨[.bool true], an0, 200, run19, rfl, rfl⟩
    · cases hg
end Go.Proofs.YtcafcgiemdlobaaDoor.lt
