/- strings.TrimSuffix with a carriage return. -/
import Derived.Test.YtfggompceldfgaaGreatDoorZp
namespace Go.Proofs.YtfggompceldfgaaGreatDoor.sl
open Go.Tv Go.Ev Go.Proofs.YtfggompceldfgaaGreatDoor.nm
noncomputable section
def trimS (s : List UInt8) : List UInt8 := pick2 (!ltI (s.length : Int) 1) (pick2 (decide (cutL s ((s.length : Int) - 1) s.length = [13])) (cutL s 0 ((s.length : Int) - 1)) s) s
theorem trim_tree (s : List UInt8) : enterT X1 (e0 AV) nm.an0 200 56 [.str s, .str [13]] TMem.empty (fun v _ => some v) =
    pick2 (!ltI (s.length : Int) 1) (pick2 (!ltI (IntKind.wrap .i64 ((s.length : Int) - 1)) 0 && !ltI (Int.ofNat s.length) (IntKind.wrap .i64 ((s.length : Int) - 1)))
      (pick2 (decide (cutL s (IntKind.wrap .i64 ((s.length : Int) - 1)) s.length = [13])) (pick2 (!ltI (IntKind.wrap .i64 ((s.length : Int) - 1)) 0 && !ltI (Int.ofNat s.length) (IntKind.wrap .i64 ((s.length : Int) - 1)))
        (some (.str (cutL s 0 (IntKind.wrap .i64 ((s.length : Int) - 1))))) none) (some (.str s))) none) (some (.str s)) := by kernel_rfl
theorem trim_run (s : List UInt8) (h : s.length ≤ 1000000) : enterT X1 (e0 AV) nm.an0 200 56 [.str s, .str [13]] TMem.empty (fun v _ => some v) = some (.str (trimS s)) := by
  rw [trim_tree, trimS]
  by_cases h0 : s.length = 0
  · rw [ltT (by omega)]; rfl
  · rw [ltF (a := (s.length : Int)) (by omega), i64_in (n := (s.length : Int) - 1) (by omega) (by omega), ltF (a := (s.length : Int) - 1) (by omega), ltF (a := Int.ofNat s.length) (by simp only [Int.ofNat_eq_natCast]; omega)]
    show pick2 _ _ _ = some (AV.str (pick2 _ _ _))
    cases decide (cutL s ((s.length : Int) - 1) s.length = [13]) <;> rfl
theorem calls_trim (s : ByteArray) (h : s.size ≤ 1000000) (w : World) : Calls Tryz.prog 56 #[.string s, .string ⟨#[13]⟩] w fun e w' => e = .returned (.string ⟨(trimS s.data.toList).toArray⟩) ∧ RowKit.Below w.heap.size w w' :=
  top_ok (X := X1) noOwn mixed noKnown_ok (v := .str (trimS s.data.toList)) (fun S x hx => hx.str_inv) rfl
    (fun S E argsE hr hg hl => top_run (nm.nk 56) e0_ok (trim_run s.data.toList (by rw [Array.length_toList]; exact h)) S E argsE hr hg hl) (Nat.zero_le _) (glob0 w) (args' := [.string s, .string ⟨#[13]⟩]) (LV.cons (nm.str_VR w s) (LV.cons (nm.str_VR w ⟨#[13]⟩) LV.nil)) rfl
end
end Go.Proofs.YtfggompceldfgaaGreatDoor.sl
