/- cond.Parse, strings.CutPrefix, by runs of the symbolic layer. -/
import Derived.Test.YtfggompceldfgaaGreatDoorZo
import Derived.Test.YtfggompceldfgaaGreatDoorLyg
namespace Go.Proofs.YtfggompceldfgaaGreatDoor.nm
open Go.Tv Go.Ev
noncomputable section
def X1 : Cfg := { P := Tryz.prog, G := 0, gv := fun _ => [] }
def an0 : FnAnn := ⟨.none, .none, []⟩
def K0 : KT2 := fun _ => none
def inl : FuncId → Bool := fun _ => true
def e0 (β : Type) : CallT β := callT X1 K0 inl 200 β 40
theorem e0_ok (β : Type) : CallTOk X1 (cfOf X1 noKnown) (e0 β) := callT_ok (by intro id s g h; cases h) (fun _ _ _ => rfl) 200 40 β
theorem nk (f : FuncId) (args : List Value) : noKnown f args = none := rfl
theorem noOwn : Ev.noOwn Tryz.prog := Ev.noOwn_of (by kernel_rfl)
theorem mixed : Tryz.prog.follows .mixedOrders = true := by kernel_rfl
theorem glob0 (w : World) : GlobOk X1 (woOf w) := fun g hg _ => absurd hg (Nat.not_lt_zero g)

/-- The names of conditions. -/
def condsL : List (List UInt8 × Int) := [([111], 0), ([110, 111], 1), ([98], 2), ([99], 2), ([110, 97, 101], 2), ([97, 101], 3), ([110, 98], 3), ([110, 99], 3), ([101], 4), ([122], 4), ([110, 101], 5), ([110, 122], 5), ([98, 101], 6), ([110, 97], 6), ([97], 7), ([110, 98, 101], 7),
  ([115], 8), ([110, 115], 9), ([112], 10), ([112, 101], 10), ([110, 112], 11), ([112, 111], 11), ([108], 12), ([110, 103, 101], 12), ([103, 101], 13), ([110, 108], 13), ([108, 101], 14), ([110, 103], 14), ([103], 15), ([110, 108, 101], 15)]
def condT (s : List UInt8) (l : List (List UInt8 × Int)) : Option AV :=
  List.rec (motive := fun _ => Option AV) (some (.tup [.int .i64 0, .bool false])) (fun q _ r => pick2 (decide (q.1 = s)) (some (.tup [.int .i64 q.2, .bool true])) r) l
def condF (s : List UInt8) : List (List UInt8 × Int) → Int × Bool
  | [] => (0, false)
  | q :: l => if q.1 = s then (q.2, true) else condF s l
def condS (s : List UInt8) : Int × Bool := condF s condsL
theorem tree71 (s : List UInt8) : enterT X1 (e0 AV) an0 200 92 [.str s] TMem.empty (fun v _ => some v) = condT s condsL := by kernel_rfl
theorem condT_eq (s : List UInt8) : ∀ l, condT s l = some (.tup [.int .i64 (condF s l).1, .bool (condF s l).2])
  | [] => rfl
  | q :: l => by
    show pick2 (decide (q.1 = s)) (some (.tup [.int .i64 q.2, .bool true])) (condT s l) = _
    rw [pick2_eq, condF, condT_eq s l]
    by_cases h : q.1 = s
    · simp [h]
    · simp [h]
theorem str_VR (w : World) (a : ByteArray) : VR (woOf w) (.str a.data.toList) (.string a) := by
  have h := VR.str (S := woOf w) a.data.toList
  have e : (⟨a.data.toList.toArray⟩ : ByteArray) = a := by obtain ⟨d⟩ := a; simp
  rw [e] at h; exact h
theorem tup2_inv {S : Wo} {a b : AV} {a' b' : Value} (ha : ∀ x, VR S a x → x = a') (hb : ∀ x, VR S b x → x = b') {v : Value} (h : VR S (.tup [a, b]) v) : v = .tuple #[a', b'] := by
  cases h with
  | tup l m hl hv =>
    match m, hl with
    | [x, y], _ =>
      rw [ha x (hv 0 a x rfl rfl), hb y (hv 1 b y rfl rfl)]
theorem calls71 (s : ByteArray) (w : World) : Calls Tryz.prog 92 #[.string s] w fun e w' => e = .returned (.tuple #[.int .i64 (condS s.data.toList).1, .bool (condS s.data.toList).2]) ∧ RowKit.Below w.heap.size w w' :=
  top_ok (X := X1) noOwn mixed noKnown_ok (v := .tup [.int .i64 (condS s.data.toList).1, .bool (condS s.data.toList).2]) (fun S x hx => tup2_inv (fun _ h => h.int_inv) (fun _ h => h.bool_inv) hx) rfl
    (fun S E argsE hr hg hl => top_run (nk 92) e0_ok ((tree71 s.data.toList).trans (condT_eq _ _)) S E argsE hr hg hl) (Nat.zero_le _) (glob0 w) (args' := [.string s]) (LV.cons (str_VR w s) LV.nil) rfl

def cutS (s p : List UInt8) : List UInt8 × Bool := if s.take p.length = p then (s.drop p.length, true) else (s, false)
theorem tree70 (s p : List UInt8) : enterT X1 (e0 AV) an0 200 91 [.str s, .str p] TMem.empty (fun v _ => some v) =
    pick2 (!ltI ↑s.length ↑p.length) (pick2 (!ltI ↑p.length 0 && !ltI (Int.ofNat s.length) ↑p.length) (pick2 (!decide (cutL s 0 ↑p.length = p)) (some (.tup [.str s, .bool false]))
      (pick2 (!ltI ↑p.length 0 && !ltI (Int.ofNat s.length) ↑p.length) (some (.tup [.str (cutL s ↑p.length ↑s.length), .bool true])) none)) none) (some (.tup [.str s, .bool false])) := by kernel_rfl
theorem run70 (s p : List UInt8) : enterT X1 (e0 AV) an0 200 91 [.str s, .str p] TMem.empty (fun v _ => some v) = some (.tup [.str (cutS s p).1, .bool (cutS s p).2]) := by
  rw [tree70]
  unfold cutS
  by_cases h : s.length < p.length
  · rw [ltT (by omega), if_neg (fun e => by have := congrArg List.length e; simp at this; omega)]; rfl
  · rw [ltF (by omega), ltF (a := (p.length : Int)) (b := 0) (by omega), ltF (a := Int.ofNat s.length) (by simp; omega)]
    have e1 : cutL s 0 (p.length : Int) = s.take p.length := by unfold cutL; simp
    have e2 : cutL s (p.length : Int) (s.length : Int) = s.drop p.length := by
      unfold cutL; simp only [Int.toNat_natCast]; rw [List.take_of_length_le (by rw [List.length_drop]; omega)]
    rw [e1, e2]
    by_cases hp : s.take p.length = p
    · rw [if_pos hp, decide_eq_true hp]; rfl
    · rw [if_neg hp, decide_eq_false hp]; rfl
theorem calls70 (s p : ByteArray) (w : World) : Calls Tryz.prog 91 #[.string s, .string p] w fun e w' => e = .returned (.tuple #[.string (mkB (cutS s.data.toList p.data.toList).1), .bool (cutS s.data.toList p.data.toList).2]) ∧ RowKit.Below w.heap.size w w' :=
  top_ok (X := X1) noOwn mixed noKnown_ok (v := .tup [.str (cutS s.data.toList p.data.toList).1, .bool (cutS s.data.toList p.data.toList).2]) (fun S x hx => tup2_inv (fun _ h => h.str_inv) (fun _ h => h.bool_inv) hx) rfl
    (fun S E argsE hr hg hl => top_run (nk 91) e0_ok (run70 s.data.toList p.data.toList) S E argsE hr hg hl) (Nat.zero_le _) (glob0 w) (args' := [.string s, .string p]) (LV.cons (str_VR w s) (LV.cons (str_VR w p) LV.nil)) rfl
end
end Go.Proofs.YtfggompceldfgaaGreatDoor.nm
