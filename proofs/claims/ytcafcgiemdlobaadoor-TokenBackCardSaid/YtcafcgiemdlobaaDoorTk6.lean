/- Tokens: a line, round by round. -/
import Derived.Test.YtcafcgiemdlobaaDoorTk5
namespace Go.Proofs.YtcafcgiemdlobaaDoor.lt
open Go.Tv Go.Ev

/-- The value, and the row of a list that comes first. -/
noncomputable def kGet (v : AV) (H : TMem) : Option (AV × Option Row) :=
  match v with
  | .tup (.own i _ :: _) => some (v, H.get i)
  | _ => some (v, none)
theorem con_get {X : Cfg} {kn : Ev.Known} {f : FuncId} (hk : ∀ args, kn f args = none) {g : List AV → Option (Bool × List PRes)} {call : ∀ β, CallT β} (hcall : ∀ β, CallTOk X (cfOf X kn) (call β))
    (h : ∀ args rs, g args = some (true, rs) → ∃ vs an rounds o, enterT X (call (AV × Option Row)) an rounds f args TMem.empty kGet = some (oneT vs, o) ∧ ∀ H : TMem, kGet (oneT vs) H = some (oneT vs, o) → resAt H [] vs rs) : ConOk X (cfOf X kn) f g := by
  intro args rs hg
  obtain ⟨vs, an, rounds, o, h1, h2⟩ := h args rs hg
  obtain ⟨v', H1, k1, k2⟩ := enter_ok (nf := false) (hcall _) (fun h => by cases h) h1
  have k3 : v' = oneT vs := by
    unfold kGet at k1
    split at k1 <;> exact (Prod.mk.inj (Option.some.inj k1)).1
  subst k3
  refine ⟨vs, H1, fun S E argsE hr hgl hl => ?_, h2 H1 k1⟩
  obtain ⟨S', vE, E', a1, a2, a3, a4, _⟩ := k2 S E argsE hr hgl hl
  exact ⟨S', vE, E', call_of_enter hk a1, one_inv a2, a3, a4⟩

abbrev tyTok : Ty := .pair (.int .i64) (.pair (.int .i64) (.pair .str (.int .i64)))
abbrev Piece := Int × Int × List UInt8 × Int
abbrev OutL := Option (AV × Option Row)
noncomputable def stLx (s : List UInt8) (out : AV) (left : List UInt8) : TFr := frOf 107 [(0, .str s), (3, .ptr 0 0), (4, out), (5, .str left)]
noncomputable def jL0 (s : List UInt8) (r m : Nat) (left : List UInt8) : OutL := loopN (Xg gvS) (d5 (AV × Option Row)) anLx r 15 pLx kGet m (stLx s .nils left) mT
noncomputable def jL1 (s : List UInt8) (r m : Nat) (out : List Piece) (k : Nat) (left : List UInt8) : OutL := loopN (Xg gvS) (d5 (AV × Option Row)) anLx r 15 pLx kGet m (stLx s (.own 1 k) left) (memOf [.cells 27 [.int .i64 0, .int .i64 0], .list 32 tyTok out 0 false false])
noncomputable def errL (f a : Int) : OutL := some (.tup [.nils, .agg [.int .i64 f, .int .i64 a]], none)
noncomputable def endL (out : List Piece) (k : Nat) : OutL := some (.tup [.own 1 k, .agg [.int .i64 0, .int .i64 0]], some (.list 32 tyTok out 0 false false))
noncomputable def placeI (s left : List UInt8) : Int := IntKind.wrap .i64 (↑s.length - ↑left.length)
noncomputable def stepL (s : List UInt8) (e f a : Int) (p : Piece) (room : OutL → OutL) (go : Piece → List UInt8 → OutL) : OutL :=
  pick2 (!eqI f 0) (errL f a) (room (pick2 (!ltI e 0 && !ltI ↑s.length e) (go p (cutL s e ↑s.length)) none))
noncomputable def cutP (s left : List UInt8) (kind : Int) (r : Cut) (room : OutL → OutL) (go : Piece → List UInt8 → OutL) : OutL :=
  pick2 (!ltI (placeI s left) 0 && ltI (placeI s left) ↑s.length && Nat.ble s.length 999999) (stepL s r.2.1 r.2.2.1 r.2.2.2 (kind, 0, r.1, placeI s left) room go) none
noncomputable def numP (s left : List UInt8) (room : OutL → OutL) (go : Piece → List UInt8 → OutL) : OutL :=
  pick2 (Nat.ble s.length 999999) (stepL s (scanS s (placeI s left)).2.1 (scanS s (placeI s left)).2.2.1 (scanS s (placeI s left)).2.2.2 (2, (scanS s (placeI s left)).1, [], placeI s left) room go) none
noncomputable def restP (s left : List UInt8) (c : UInt8) (room : OutL → OutL) (go : Piece → List UInt8 → OutL) : OutL :=
  pick2 (eqI (u8I c) 39) (numP s left room go) (pick2 (eqI (u8I c) 34) (cutP s left 3 (quoteC s (placeI s left).toNat) room go) (cutP s left 4 (signC s (placeI s left).toNat) room go))
noncomputable def blankP (left : List UInt8) (skip : List UInt8 → OutL) : OutL := pick2 (!ltI 1 0 && !ltI ↑left.length 1) (skip (cutL left 1 ↑left.length)) none
noncomputable def treeL (s left : List UInt8) (done : OutL) (skip : List UInt8 → OutL) (room : OutL → OutL) (go : Piece → List UInt8 → OutL) : OutL :=
  pick2 (!decide (left = [])) (Option.rec (motive := fun _ => OutL) none (fun c =>
    pick2 (eqI (u8I c) 32) (blankP left skip) (pick2 (eqI (u8I c) 9) (blankP left skip) (pick2 (eqI (u8I c) 59) (skip [])
      (pick2 (firstI (u8I c)) (cutP s left 1 (nameC s (placeI s left).toNat) room go) (pick2 (!ltI (u8I c) 48) (pick2 (!ltI 57 (u8I c)) (numP s left room go) (restP s left c room go)) (restP s left c room go)))))) (getI left 0)) done
noncomputable def room1 (out : List Piece) (x : OutL) : OutL := pick2 (Nat.ble (out.length + 1) 1000000) x none
theorem stepL0 (s : List UInt8) (r m : Nat) (left : List UInt8) : jL0 s r (m + 1) left = treeL s left (errL 0 0) (jL0 s r m) (fun x => x) (fun p => jL1 s r m [p] 1) := by kernel_rfl
theorem stepL1 (s : List UInt8) (r m : Nat) (out : List Piece) (k : Nat) (left : List UInt8) : jL1 s r (m + 1) out k left = treeL s left (endL out k) (jL1 s r m out k) (room1 out) (fun p => jL1 s r m (out ++ [p]) (out.length + 1)) := by kernel_rfl
theorem enterL (s : List UInt8) (m : Nat) : enterT (Xg gvS) (d5 (AV × Option Row)) anLx m 15 [.str s] TMem.empty kGet = pick2 (ltI 1000 ↑s.length) (errL 3 1000) (jL0 s m m s) := by kernel_rfl
end Go.Proofs.YtcafcgiemdlobaaDoor.lt
