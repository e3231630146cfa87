/- What the two functions Read come to. -/
import Derived.Test.YtpabmjpkkhmidaaTd
import Derived.Test.YtpabmjpkkhmidaaKn
namespace Go.Proofs.Ytpabmjpkkhmidaa
open Go.Tv Go.Ev

noncomputable def X0 : Cfg := { P := Try.prog, G := 0, gv := fun _ => [] }
noncomputable def an0 : FnAnn := ⟨.none, .none, []⟩
noncomputable def inl : FuncId → Bool := fun f => !(Nat.beq f 31 || Nat.beq f 15 || Nat.beq f 47)
noncomputable def K0 : KT2 := fun _ => none
noncomputable def c0 (β : Type) : CallT β := callT X0 K0 inl 40 β 10

theorem inl_ok (f : FuncId) (h : inl f = true) (args : List Value) : kn f args = none := by
  unfold kn
  unfold inl at h
  split
  · rw [pick2_eq, if_neg (by intro h'; rw [h'] at h; cases h)]
  · rfl

theorem c0_ok (β : Type) : CallTOk X0 (cfOf X0 kn) (c0 β) := callT_ok (by intro id s g h; cases h) inl_ok 40 10 β

/-- Are all of them bytes? -/
def okB (l : List Int) : Bool := l.all fun n => !ltI n 0 && ltI n 256

noncomputable def rd3 (p a : Int) : List Int → Int × Int × Int
  | [] => (p, -1, a)
  | c :: _ => pick2 (!ltI c 64 && !ltI 79 c) (p, c - 64, a + 1) (p, -1, a)
noncomputable def rd2 (p a : Int) : List Int → Int × Int × Int
  | [] => (p, -1, a)
  | c :: t => pick2 (eqI c 242) (rd3 (p + 2) (a + 1) t) (pick2 (eqI c 243) (rd3 (p + 4) (a + 1) t) (rd3 p a (c :: t)))
/-- What Read answers. -/
noncomputable def rd : List Int → Int × Int × Int
  | [] => (0, -1, 0)
  | c :: t => pick2 (eqI c 102) (rd2 1 1 t) (rd2 0 0 (c :: t))

noncomputable def runB (f : FuncId) (l : List Int) : Option (AV × TMem) := enterT X0 (c0 (AV × TMem)) an0 40 f [.lst (.int .u8) l] TMem.empty (fun v H => some (v, H))

noncomputable def is3 : Option (AV × TMem) → Int × Int × Int → Bool
  | some (.tup [.int .i64 a, .int .i64 b, .int .i64 c], _), x => eqI a x.1 && eqI b x.2.1 && eqI c x.2.2
  | _, _ => false

noncomputable def reads (f : FuncId) (l : List Int) : Bool := is3 (runB f l) (rd l)

noncomputable def allN (p : Nat → Bool) (lo : Nat) (n : Nat) : Bool := Nat.rec (motive := fun _ => Nat → Bool) (fun _ => true) (fun _ go lo => pick2 (p lo) (go (lo + 1)) false) n lo

theorem allN_spec {p : Nat → Bool} : ∀ {n lo : Nat}, allN p lo n = true → ∀ i, lo ≤ i → i < lo + n → p i = true
  | 0, lo, _, i, h1, h2 => by omega
  | n + 1, lo, h, i, h1, h2 => by
    have h : pick2 (p lo) (allN p (lo + 1) n) false = true := h
    rw [pick2_eq] at h
    split at h
    · rename_i hp
      by_cases hi : i = lo
      · rw [hi]; exact hp
      · exact allN_spec h i (by omega) (by omega)
    · cases h

/-- A byte at which what follows matters not. -/
def end1 (i : Nat) : Bool := Nat.beq i 102 || Nat.beq i 242 || Nat.beq i 243
def end2 (i : Nat) : Bool := Nat.beq i 242 || Nat.beq i 243

end Go.Proofs.Ytpabmjpkkhmidaa
