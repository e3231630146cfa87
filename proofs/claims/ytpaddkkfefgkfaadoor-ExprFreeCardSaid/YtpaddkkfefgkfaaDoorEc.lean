/- Expressions: the contract of climb, as it calls itself. -/
import Derived.Test.YtpaddkkfefgkfaaDoorEb
namespace Go.Proofs.YtpaddkkfefgkfaaDoor.ex
open Go.Tv Go.Ev Go.Px
noncomputable section

/-- A list that stays, or nothing. -/
def asLs (e : Ty) : AV → Option (List e.den)
  | .lst e' l => castL e' e l
  | .nils => some []
  | _ => none
/-- What is handed to climb, and what comes of it. -/
def gCl (rec : List Tok → Int → St → Res) (ins : List NRes) : Option (Bool × List NRes × List NRes) :=
  match ins with
  | [.val L, .val (.int .i64 a), .val (.int .i64 d), .list t0 t x, .val (.int .i64 e), .val (.int .i64 f), .val (.int .i64 s)] =>
    match asLs tyTok L, castL t tyNd x with
    | some l, some x => some (Nat.beq t0 30 && Nat.ble l.length 1000000 && !ltI a 0 && !ltI l.length a && !ltI d 0 && !ltI 50 d && Nat.ble x.length 200 && !ltI s 1 && !ltI 7 s && (rec l s ⟨a, d, x, e, f⟩).isSome,
        [.val L, .val (.int .i64 ((rec l s ⟨a, d, x, e, f⟩).getD (false, ⟨a, d, x, e, f⟩)).2.a), .val (.int .i64 ((rec l s ⟨a, d, x, e, f⟩).getD (false, ⟨a, d, x, e, f⟩)).2.d), .list 30 tyNd ((rec l s ⟨a, d, x, e, f⟩).getD (false, ⟨a, d, x, e, f⟩)).2.x,
          .val (.int .i64 ((rec l s ⟨a, d, x, e, f⟩).getD (false, ⟨a, d, x, e, f⟩)).2.e), .val (.int .i64 ((rec l s ⟨a, d, x, e, f⟩).getD (false, ⟨a, d, x, e, f⟩)).2.f)],
        [.val (.bool ((rec l s ⟨a, d, x, e, f⟩).getD (false, ⟨a, d, x, e, f⟩)).1)])
    | _, _ => none
  | _ => none
def cCl (rec : List Tok → Int → St → Res) : NCon := ⟨some (63, [none, none, none, some (30, tyNd), none, none]), [none], gCl rec⟩
def N1 (rec : List Tok → Int → St → Res) : List ConN := [(22, cCl rec)]

/-- What is looked at behind a run: the value, the reader's cells, its nodes. -/
abbrev OutC2 := AV × List AV × Nat × Option Row
abbrev OutC := Option OutC2
def kR (v : AV) (H : TMem) : OutC :=
  match H.get 0 with
  | some (.cells t [c0, c1, c2, c3, c4, c5]) => match c3 with
    | .own id n => pick2 (Nat.beq t 63) (some (v, [c0, c1, c2, c4, c5], n, H.get id)) none
    | _ => none
  | _ => none

def pCl : List Bool := [true, true, true, true, true, true, true, false, false]
def anCl : FnAnn := ⟨annOf [0, 1, 4] pCl, .none, []⟩
def memP (l : List Row) : TMem := l.foldl (fun M r => M.push r) ⟨0, 0, 1, .e⟩
def mCl (L : AV) (n : Nat) (st : St) : TMem := memP [.cells 63 [L, .int .i64 st.a, .int .i64 st.d, .own 1 n, .int .i64 st.e, .int .i64 st.f], .list 30 tyNd st.x 0 false false]
abbrev cC (rec : List Tok → Int → St → Res) (β : Type) : CallT β := cN M5 (N1 rec) β
def jCl (rec : List Tok → Int → St → Res) (L : AV) (s : Int) (r m : Nat) (n : Nat) (st : St) : OutC := loopN X0 (cC rec _) anCl r 22 pCl kR m (frOf 218 [(0, .ptr 0 0), (1, .int .i64 s), (4, .bool false)]) (mCl L n st)
def okC (rec : List Tok → Int → St → Res) (l : List Tok) (s : Int) (st : St) : Bool := true && Nat.ble l.length 1000000 && !ltI st.a 0 && !ltI l.length st.a && !ltI st.d 0 && !ltI 50 st.d && Nat.ble st.x.length 200 && !ltI s 1 && !ltI 7 s && (rec l s st).isSome
def outC (rec : List Tok → Int → St → Res) (l : List Tok) (s : Int) (st : St) : Bool × St := (rec l s st).getD (false, st)
def outR (b : Bool) (L : AV) (st : St) (n : Nat) : OutC := some (.bool b, [L, .int .i64 st.a, .int .i64 st.d, .int .i64 st.e, .int .i64 st.f], n, some (.list 30 tyNd st.x 0 false false))
def callC (rec : List Tok → Int → St → Res) (L : AV) (l : List Tok) (s : Int) (st : St) (k : St → OutC) : OutC :=
  pick2 (okC rec l s st && true) (pick2 (!(outC rec l s st).1) (outR false L (outC rec l s st).2 (outC rec l s st).2.x.length) (k (outC rec l s st).2)) none
def nodeC (L : AV) (st : St) (nd : Nd) (f : Int) (k : St → Nat → OutC) (n : Nat) : OutC :=
  pick2 (eqI n 200) (outR false L { st with e := 3, f := f } n) (pick2 (Nat.ble (st.x.length + 1) 1000000) (k { st with x := st.x ++ [nd] } (st.x.length + 1)) none)
set_option maxRecDepth 100000 in
theorem stepCl (rec : List Tok → Int → St → Res) (l : List Tok) (s : Int) (r m n : Nat) (a d e f : Int) (x : List Nd) : jCl rec (.lst tyTok l) s r (m + 1) n ⟨a, d, x, e, f⟩ =
    pick2 (ltI a l.length) (Option.rec (motive := fun _ => OutC) none (fun t => pick2 (ltI (Px.bin t).2 s) (outR true (.lst tyTok l) ⟨a, d, x, e, f⟩ n)
      (callC rec (.lst tyTok l) l (IntKind.wrap .i64 ((Px.bin t).2 + 1)) ⟨IntKind.wrap .i64 (a + 1), d, x, e, f⟩ fun o =>
        nodeC (.lst tyTok l) o ((Px.bin t).1, 0, [], IntKind.wrap .i64 (n - 1), IntKind.wrap .i64 (o.x.length - 1)) a (fun o' n' => jCl rec (.lst tyTok l) s r m n' o') o.x.length)) (getI l a)) (outR true (.lst tyTok l) ⟨a, d, x, e, f⟩ n) := by kernel_rfl
def sgT (t : Tok) (s : List UInt8) : Bool := eqI t.1 4 && decide (t.2.2.1 = s)
def deepC (L : AV) (st : St) (k : St → OutC) (n : Nat) : OutC :=
  pick2 (eqI st.d 50) (outR false L { st with e := 3, f := st.a } n) (k { st with d := IntKind.wrap .i64 (st.d + 1), a := IntKind.wrap .i64 (st.a + 1) })
def inCl (L : AV) (a d e f : Int) (x : List Nd) (s : Int) : List NRes := [.val L, .val (.int .i64 a), .val (.int .i64 d), .list 30 tyNd x, .val (.int .i64 e), .val (.int .i64 f), .val (.int .i64 s)]
def headC (rec : List Tok → Int → St → Res) (l : List Tok) (st : St) (K : St → Nat → OutC) (t : Tok) : OutC :=
  pick2 (opnd nameB t).isSome (nodeC (.lst tyTok l) { st with a := IntKind.wrap .i64 (st.a + 1) } ((opnd nameB t).getD zNd) st.a K st.x.length)
    (pick2 (pref t).isSome (deepC (.lst tyTok l) st (fun s1 => callC rec (.lst tyTok l) l 7 s1 fun o =>
        pick2 (!eqI ((pref t).getD 0) 0) (nodeC (.lst tyTok l) { o with d := IntKind.wrap .i64 (o.d - 1) } ((pref t).getD 0, 0, [], IntKind.wrap .i64 (o.x.length - 1), 0) st.a K o.x.length) (K { o with d := IntKind.wrap .i64 (o.d - 1) } o.x.length)) st.x.length)
      (pick2 (sgT t [40]) (deepC (.lst tyTok l) st (fun s1 => callC rec (.lst tyTok l) l 1 s1 fun o =>
          pick2 (!ltI o.a l.length) (outR false (.lst tyTok l) { o with e := 4, f := o.a } o.x.length) (Option.rec (motive := fun _ => OutC) none (fun c => pick2 (!sgT c [41]) (outR false (.lst tyTok l) { o with e := 4, f := o.a } o.x.length)
            (K { o with d := IntKind.wrap .i64 (o.d - 1), a := IntKind.wrap .i64 (o.a + 1) } o.x.length)) (getI l o.a))) st.x.length)
        (outR false (.lst tyTok l) { st with e := 4, f := st.a } st.x.length)))
set_option maxRecDepth 100000 in
theorem enterCl (rec : List Tok → Int → St → Res) (l : List Tok) (s : Int) (r : Nat) (a d e f : Int) (x : List Nd) :
    enterT X0 (cC rec OutC2) anCl r 22 [.ptr 0 0, .int .i64 s] (memIn 63 6 (inCl (.lst tyTok l) a d e f x s)) kR =
    pick2 (!ltI a l.length) (outR false (.lst tyTok l) ⟨a, d, x, 4, a⟩ x.length) (Option.rec (motive := fun _ => OutC) none (headC rec l ⟨a, d, x, e, f⟩ (fun o n => jCl rec (.lst tyTok l) s r r n o)) (getI l a)) := by kernel_rfl
end
end Go.Proofs.YtpaddkkfefgkfaaDoor.ex
