/- Registers: the names of a class. -/
import Derived.Test.YtfggompceldfgaaGreatDoorLyg
import Derived.Test.YtfggompceldfgaaGreatDoorZr
import Derived.Test.YtfggompceldfgaaGreatDoorRows
namespace Go.Proofs.YtfggompceldfgaaGreatDoor.rg
open Go.Tv Go.Ev
noncomputable section

/-- strings.asciiSpace. -/
def space : List Value := (List.range 256).map fun i => .int .u8 (pick2 (Nat.beq i 32 || (Nat.ble 9 i && Nat.ble i 13)) 1 0)
def gv (g : Nat) : List AV := pick2 (Nat.beq g 8) (space.map ofC) []
def X0 : Cfg := { P := Tryz.prog, G := 8 + 1, gv := gv }
def an0 : FnAnn := ⟨.none, .none, []⟩
def inl : FuncId → Bool := fun _ => true
def K0 : KT2 := fun _ => none
def c0 (β : Type) : CallT β := callT X0 K0 inl 200 β 20
theorem c0_ok (β : Type) : CallTOk X0 (cfOf X0 noKnown) (c0 β) := callT_ok (by intro id s g h; cases h) (fun _ _ _ => rfl) 200 20 β
theorem nk (f : FuncId) (args : List Value) : noKnown f args = none := rfl

def run (f : FuncId) (args : List AV) : Option (AV × TMem) := enterT X0 (c0 (AV × TMem)) an0 200 f args TMem.empty (fun v H => some (v, H))

def b (s : List Nat) : List UInt8 := s.map UInt8.ofNat
def n1 : List (List UInt8) := [[97, 108], [99, 108], [100, 108], [98, 108], [115, 112, 108], [98, 112, 108], [115, 105, 108], [100, 105, 108], [114, 56, 98], [114, 57, 98], [114, 49, 48, 98], [114, 49, 49, 98], [114, 49, 50, 98], [114, 49, 51, 98], [114, 49, 52, 98], [114, 49, 53, 98]]
def n2 : List (List UInt8) := [[97, 104], [99, 104], [100, 104], [98, 104]]
def n3 : List (List UInt8) := [[97, 120], [99, 120], [100, 120], [98, 120], [115, 112], [98, 112], [115, 105], [100, 105], [114, 56, 119], [114, 57, 119], [114, 49, 48, 119], [114, 49, 49, 119], [114, 49, 50, 119], [114, 49, 51, 119], [114, 49, 52, 119], [114, 49, 53, 119]]
def n4 : List (List UInt8) := [[101, 97, 120], [101, 99, 120], [101, 100, 120], [101, 98, 120], [101, 115, 112], [101, 98, 112], [101, 115, 105], [101, 100, 105], [114, 56, 100], [114, 57, 100], [114, 49, 48, 100], [114, 49, 49, 100], [114, 49, 50, 100], [114, 49, 51, 100], [114, 49, 52, 100], [114, 49, 53, 100]]
def n5 : List (List UInt8) := [[114, 97, 120], [114, 99, 120], [114, 100, 120], [114, 98, 120], [114, 115, 112], [114, 98, 112], [114, 115, 105], [114, 100, 105], [114, 56], [114, 57], [114, 49, 48], [114, 49, 49], [114, 49, 50], [114, 49, 51], [114, 49, 52], [114, 49, 53]]
def n6 : List (List UInt8) := [[120, 109, 109, 48], [120, 109, 109, 49], [120, 109, 109, 50], [120, 109, 109, 51], [120, 109, 109, 52], [120, 109, 109, 53], [120, 109, 109, 54], [120, 109, 109, 55], [120, 109, 109, 56], [120, 109, 109, 57], [120, 109, 109, 49, 48], [120, 109, 109, 49, 49], [120, 109, 109, 49, 50], [120, 109, 109, 49, 51], [120, 109, 109, 49, 52], [120, 109, 109, 49, 53]]
def n7 : List (List UInt8) := [[121, 109, 109, 48], [121, 109, 109, 49], [121, 109, 109, 50], [121, 109, 109, 51], [121, 109, 109, 52], [121, 109, 109, 53], [121, 109, 109, 54], [121, 109, 109, 55], [121, 109, 109, 56], [121, 109, 109, 57], [121, 109, 109, 49, 48], [121, 109, 109, 49, 49], [121, 109, 109, 49, 50], [121, 109, 109, 49, 51], [121, 109, 109, 49, 52], [121, 109, 109, 49, 53]]
def n8 : List (List UInt8) := [[114, 105, 112]]
def namesL (c : Int) : List (List UInt8) := pick2 (eqI c 1) n1 (pick2 (eqI c 2) n2 (pick2 (eqI c 3) n3 (pick2 (eqI c 4) n4 (pick2 (eqI c 5) n5 (pick2 (eqI c 6) n6 (pick2 (eqI c 7) n7 (pick2 (eqI c 8) n8 [])))))))
def resNames (c : Int) : List PRes := [.room 9 .str (namesL c) (namesL c).length]
def okNames (c : Int) : Bool := leaves (resNames c) (run 151 [.int .i64 c])
theorem names1 : okNames 1 = true := by kernel_rfl
theorem names2 : okNames 2 = true := by kernel_rfl
theorem names3 : okNames 3 = true := by kernel_rfl
theorem names4 : okNames 4 = true := by kernel_rfl
theorem names5 : okNames 5 = true := by kernel_rfl
theorem names6 : okNames 6 = true := by kernel_rfl
theorem names7 : okNames 7 = true := by kernel_rfl
theorem names8 : okNames 8 = true := by kernel_rfl

def gNames (args : List AV) : Option (Bool × List PRes) :=
  match args with
  | [.int .i64 c] => some (!ltI c 1 && !ltI 8 c, resNames c)
  | _ => none

theorem in8 {c : Int} (h : (!ltI c 1 && !ltI 8 c) = true) : c = 1 ∨ c = 2 ∨ c = 3 ∨ c = 4 ∨ c = 5 ∨ c = 6 ∨ c = 7 ∨ c = 8 := by
  simp only [ltI_spec, Bool.and_eq_true, Bool.not_eq_true', decide_eq_false_iff_not] at h
  omega

theorem con78 : ConOk X0 (cfOf X0 noKnown) 151 gNames :=
  con_runs (nk 151) c0_ok an0 200 fun args rs hg => by
    unfold gNames at hg
    split at hg
    · rename_i c
      simp only [Option.some.injEq, Prod.mk.injEq] at hg
      obtain ⟨h1, rfl⟩ := hg
      have h : okNames c = true := by
        rcases in8 h1 with rfl | rfl | rfl | rfl | rfl | rfl | rfl | rfl
        · exact names1
        · exact names2
        · exact names3
        · exact names4
        · exact names5
        · exact names6
        · exact names7
        · exact names8
      unfold okNames run at h
      exact h
    · cases hg

/-! same -/
def lowI (a : UInt8) : Int := pick2 (!ltI (u8I a) 65) (pick2 (!ltI 90 (u8I a)) (IntKind.wrap .u8 (u8I a + 32)) (u8I a)) (u8I a)
def sameB : List UInt8 → List UInt8 → Bool
  | [], [] => true
  | a :: s, x :: t => pick2 (eqI (lowI a) (u8I x)) (sameB s t) false
  | _, _ => false
def trS {β : Type} (k : AV → Option β) : List (UInt8 × UInt8) → Option β
  | [] => k (.bool true)
  | (a, x) :: l => pick2 (!ltI (u8I a) 65) (pick2 (!ltI 90 (u8I a)) (pick2 (!eqI (IntKind.wrap .u8 (u8I a + 32)) (u8I x)) (k (.bool false)) (trS k l)) (pick2 (!eqI (u8I a) (u8I x)) (k (.bool false)) (trS k l)))
      (pick2 (!eqI (u8I a) (u8I x)) (k (.bool false)) (trS k l))
def runS (s t : List UInt8) (rounds : Nat) (k : AV → Option AV) : Option AV := enterT X0 (c0 AV) an0 rounds 152 [.str s, .str t] TMem.empty (fun v _ => k v)

theorem same_len (s t : List UInt8) (k : AV → Option AV) : runS s t 0 k = pick2 (!eqI ↑s.length ↑t.length) (k (.bool false)) none := by kernel_rfl
theorem same0 (k : AV → Option AV) : runS [] [] 9 k = trS k [] := by kernel_rfl
theorem same1 (a0 x0 : UInt8) (k : AV → Option AV) : runS [a0] [x0] 9 k = trS k [(a0, x0)] := by kernel_rfl
theorem same2 (a0 a1 x0 x1 : UInt8) (k : AV → Option AV) : runS [a0, a1] [x0, x1] 9 k = trS k [(a0, x0), (a1, x1)] := by kernel_rfl
theorem same3 (a0 a1 a2 x0 x1 x2 : UInt8) (k : AV → Option AV) : runS [a0, a1, a2] [x0, x1, x2] 9 k = trS k [(a0, x0), (a1, x1), (a2, x2)] := by kernel_rfl
theorem same4 (a0 a1 a2 a3 x0 x1 x2 x3 : UInt8) (k : AV → Option AV) : runS [a0, a1, a2, a3] [x0, x1, x2, x3] 9 k = trS k [(a0, x0), (a1, x1), (a2, x2), (a3, x3)] := by kernel_rfl
theorem same5 (a0 a1 a2 a3 a4 x0 x1 x2 x3 x4 : UInt8) (k : AV → Option AV) : runS [a0, a1, a2, a3, a4] [x0, x1, x2, x3, x4] 9 k = trS k [(a0, x0), (a1, x1), (a2, x2), (a3, x3), (a4, x4)] := by kernel_rfl

theorem trS_eq {β : Type} (k : AV → Option β) : ∀ l : List (UInt8 × UInt8), trS k l = k (.bool (sameB (l.map (·.1)) (l.map (·.2))))
  | [] => rfl
  | (a, x) :: l => by
    simp only [trS, List.map_cons, sameB, lowI, trS_eq k l]
    cases ltI (u8I a) 65 <;> cases ltI 90 (u8I a) <;> simp only [Bool.not_true, Bool.not_false, pickT, pickF]
    · cases eqI (IntKind.wrap .u8 (u8I a + 32)) (u8I x) <;> rfl
    all_goals (cases eqI (u8I a) (u8I x) <;> rfl)

theorem sameB_len : ∀ {s t : List UInt8}, s.length ≠ t.length → sameB s t = false
  | [], [], h => absurd rfl h
  | [], _ :: _, _ => rfl
  | _ :: _, [], _ => rfl
  | a :: s, x :: t, h => by
    simp only [sameB, pick2_eq]
    split
    · exact sameB_len (by simpa using h)
    · rfl

theorem same_run (s t : List UInt8) (h : t.length ≤ 5) (k : AV → Option AV) : ∃ rounds, runS s t rounds k = k (.bool (sameB s t)) := by
  by_cases hl : s.length = t.length
  · refine ⟨9, ?_⟩
    match s, t, hl, h with
    | [], [], _, _ => exact (same0 k).trans (trS_eq k _)
    | [a0], [x0], _, _ => exact (same1 a0 x0 k).trans (trS_eq k _)
    | [a0, a1], [x0, x1], _, _ => exact (same2 a0 a1 x0 x1 k).trans (trS_eq k _)
    | [a0, a1, a2], [x0, x1, x2], _, _ => exact (same3 a0 a1 a2 x0 x1 x2 k).trans (trS_eq k _)
    | [a0, a1, a2, a3], [x0, x1, x2, x3], _, _ => exact (same4 a0 a1 a2 a3 x0 x1 x2 x3 k).trans (trS_eq k _)
    | [a0, a1, a2, a3, a4], [x0, x1, x2, x3, x4], _, _ => exact (same5 a0 a1 a2 a3 a4 x0 x1 x2 x3 x4 k).trans (trS_eq k _)
    | _ :: _ :: _ :: _ :: _ :: _ :: _, _, hl, h => simp at hl; omega
  · refine ⟨0, ?_⟩
    rw [same_len, sameB_len hl]
    have : eqI (↑s.length : Int) (↑t.length) = false := by rw [eqI_spec]; simpa using fun h => hl (by omega)
    rw [this]
    rfl

def gSame (args : List AV) : Option (Bool × List PRes) :=
  match args with
  | [.str s, .str t] => some (Nat.ble t.length 5, [.val (.bool (sameB s t))])
  | _ => none

theorem con79 : ConOk X0 (cfOf X0 noKnown) 152 gSame :=
  con_vals (nk 152) c0_ok fun args rs hg => by
    unfold gSame at hg
    split at hg
    · rename_i s t
      simp only [Option.some.injEq, Prod.mk.injEq] at hg
      obtain ⟨h1, rfl⟩ := hg
      obtain ⟨r, hr⟩ := same_run s t (Nat.le_of_ble_eq_true h1) some
      exact ⟨[.bool (sameB s t)], an0, r, hr, rfl, rfl⟩
    · cases hg

/-! Parse -/
def K1 : KT2 := fun f => pick2 (Nat.beq f 151) (some ([none], gNames)) (pick2 (Nat.beq f 152) (some ([none, none], gSame)) none)
def c1 (β : Type) : CallT β := callT X0 K1 inl 200 β 20
theorem K1_ok (id : FuncId) (sig : List (Option Ty)) (g : List AV → Option (Bool × List PRes)) (h : K1 id = some (sig, g)) : ConOk X0 (cfOf X0 noKnown) id g := by
  simp only [K1, pick2_eq, Nat.beq_eq] at h
  split at h
  · rename_i hf; cases h; subst hf; exact con78
  · split at h
    · rename_i hf; cases h; subst hf; exact con79
    · cases h
theorem c1_ok (β : Type) : CallTOk X0 (cfOf X0 noKnown) (c1 β) := callT_ok K1_ok (fun _ _ _ => rfl) 200 20 β

/-- The names, with their registers. -/
def num (c : Int) : List (List UInt8) → Int → List (List UInt8 × Int × Int)
  | [], _ => []
  | s :: l, i => (s, c, i) :: num c l (i + 1)
def tbl : List (List UInt8 × Int × Int) := num 1 n1 0 ++ (num 2 n2 4 ++ (num 3 n3 0 ++ (num 4 n4 0 ++ (num 5 n5 0 ++ (num 6 n6 0 ++ (num 7 n7 0 ++ num 8 n8 0))))))
def trP {β : Type} (s : List UInt8) (k : Int → Int → Bool → Option β) : List (List UInt8 × Int × Int) → Option β
  | [] => k 0 0 false
  | e :: l => pick2 (sameB s e.1) (k e.2.1 e.2.2 true) (trP s k l)
theorem parse_tree (s : List UInt8) (k : AV → Option AV) : enterT X0 (c1 AV) an0 20 124 [.str s] TMem.empty (fun v _ => k v) = trP s (fun c n ok => k (.tup [.agg [.int .i64 c, .int .i64 n], .bool ok])) tbl := by kernel_rfl
def fnd (s : List UInt8) : List (List UInt8 × Int × Int) → Int × Int × Bool
  | [] => (0, 0, false)
  | e :: l => pick2 (sameB s e.1) (e.2.1, e.2.2, true) (fnd s l)
/-- What Parse answers. -/
def pR (s : List UInt8) : Int × Int × Bool := fnd s tbl

theorem trP_eq {β : Type} (s : List UInt8) (k : Int → Int → Bool → Option β) : ∀ l, trP s k l = k (fnd s l).1 (fnd s l).2.1 (fnd s l).2.2
  | [] => rfl
  | e :: l => by
    simp only [trP, fnd, trP_eq s k l, pick2_eq]
    split <;> rfl

def gParse (args : List AV) : Option (Bool × List PRes) :=
  match args with
  | [.str s] => some (true, [.val (.agg [.int .i64 (pR s).1, .int .i64 (pR s).2.1]), .val (.bool (pR s).2.2)])
  | _ => none
theorem con30 : ConOk X0 (cfOf X0 noKnown) 124 gParse :=
  con_vals (nk 124) c1_ok fun args rs hg => by
    unfold gParse at hg
    split at hg
    · rename_i s
      simp only [Option.some.injEq, Prod.mk.injEq] at hg
      obtain ⟨h1, rfl⟩ := hg
      exact ⟨[.agg [.int .i64 (pR s).1, .int .i64 (pR s).2.1], .bool (pR s).2.2], an0, 20, (parse_tree s some).trans (trP_eq s _ tbl), rfl, rfl⟩
    · cases hg

theorem noOwn : Ev.noOwn Tryz.prog := Ev.noOwn_of (by kernel_rfl)
theorem mixed : Tryz.prog.follows .mixedOrders = true := by kernel_rfl
theorem glob {w : World} {rows : List Blk} {b1 : Blk} (hb : rows[8]? = some b1) (hl : b1.live = true) (hc : b1.cells = space) (hr : RowsAt rows w) : GlobOk X0 (woOf w) := by
  refine glob_rows hr fun g hg he => ?_
  by_cases e : g = 8
  · subst e
    exact ⟨b1, hb, hl, by rw [hc]; rfl, by rw [hc]; kernel_rfl⟩
  · exact absurd (by show pick2 (Nat.beq g 8) (space.map ofC) [] = []; rw [pick2_eq, if_neg (by rw [Nat.beq_eq]; exact e)]) he
theorem reg_inv {S : Wo} {c n : Int} {b : Bool} {v : Value} (h : VR S (.tup [.agg [.int .i64 c, .int .i64 n], .bool b]) v) : v = .tuple #[.agg #[.int .i64 c, .int .i64 n], .bool b] := by
  cases h with
  | tup l m hl hv =>
    match m, hl with
    | [x, y], _ =>
      have h2 := (hv 1 _ y rfl rfl).bool_inv
      have h1 := hv 0 _ x rfl rfl
      subst h2
      cases h1 with
      | agg l2 m2 hl2 hv2 =>
        match m2, hl2 with
        | [p, q], _ =>
          have e1 := (hv2 0 _ p rfl rfl).int_inv
          have e2 := (hv2 1 _ q rfl rfl).int_inv
          subst e1; subst e2; rfl
theorem calls_reg (s : ByteArray) {w : World} (hG : 8 + 1 ≤ w.heap.size) (hg : GlobOk X0 (woOf w)) : Calls Tryz.prog 124 #[.string s] w fun e w' => e = .returned (.tuple #[.agg #[.int .i64 (pR s.data.toList).1, .int .i64 (pR s.data.toList).2.1], .bool (pR s.data.toList).2.2]) ∧ RowKit.Below w.heap.size w w' :=
  top_ok (X := X0) noOwn mixed noKnown_ok (v := .tup [.agg [.int .i64 (pR s.data.toList).1, .int .i64 (pR s.data.toList).2.1], .bool (pR s.data.toList).2.2]) (fun S x hx => reg_inv hx) rfl
    (fun S E argsE hr hg hl => top_run (nk 124) c1_ok ((parse_tree s.data.toList some).trans (trP_eq s.data.toList _ tbl)) S E argsE hr hg hl) hG hg (args' := [.string s]) (LV.cons (nm.str_VR w s) LV.nil) rfl

/-- What is known: names of mnemonics, of registers. -/
def kR (f : FuncId) (args : List Value) : Option Value :=
  pick2 (Nat.beq f 124) (match args with | [.string s] => some (.tuple #[.agg #[.int .i64 (pR s.data.toList).1, .int .i64 (pR s.data.toList).2.1], .bool (pR s.data.toList).2.2]) | _ => none) (nm.knN f args)
theorem kR_ok {GR : List Blk} {b1 : Blk} (hb : GR[8]? = some b1) (hl : b1.live = true) (hc : b1.cells = space) : KnownOkR Tryz.prog GR kR := by
  refine ⟨fun f args v h hfree w hw => ?_, fun f u h => ?_, fun f s items h _ => ?_⟩
  · unfold kR at h
    rw [pick2_eq] at h
    split at h
    · rename_i hf
      obtain rfl := Nat.eq_of_beq_eq_true hf
      split at h
      · cases h
        have : 8 < GR.length := (List.getElem?_eq_some_iff.1 hb).1
        exact calls_reg _ (by have := hw.1; omega) (glob hb hl hc hw)
      · cases h
    · exact nm.knN_ok.calls f args v h hfree w (RowsAt.nil w)
  · unfold kR at h
    rw [pick2_eq] at h
    split at h
    · cases h
    · rw [nm.knN_mark] at h; cases h
  · unfold kR at h
    rw [pick2_eq] at h
    split at h
    · cases h
    · rw [nm.knN_iter] at h; cases h

/-! ### Calls that are known to be true, one by one -/
def eqV : Value → Value → Bool
  | .int k a, .int k' b => decide (k = k') && eqI a b
  | .string a, .string b => eqBytes a.data.toList b.data.toList
  | _, _ => false
theorem eqBytes_spec : ∀ {a b : List UInt8}, eqBytes a b = true → a = b
  | [], [], _ => rfl
  | [], _ :: _, h => by cases h
  | _ :: _, [], h => by cases h
  | x :: a, y :: b, h => by
    unfold eqBytes at h
    rw [pick2_eq] at h
    split at h
    · rename_i hx
      have hx : x = y := UInt8.toNat_inj.1 (Nat.eq_of_beq_eq_true hx)
      rw [hx, eqBytes_spec h]
    · cases h
theorem eqV_spec {a b : Value} (h : eqV a b = true) : a = b := by
  unfold eqV at h
  split at h
  · simp only [Bool.and_eq_true, decide_eq_true_eq, eqI_spec, beq_iff_eq] at h
    rw [h.1, h.2]
  · rename_i a b
    have := eqBytes_spec h
    congr 1
    exact ByteArray.ext (Array.ext' this)
  · cases h
def eqVs : List Value → List Value → Bool
  | [], [] => true
  | a :: l, b :: m => pick2 (eqV a b) (eqVs l m) false
  | _, _ => false
theorem eqVs_spec : ∀ {a b : List Value}, eqVs a b = true → a = b
  | [], [], _ => rfl
  | [], _ :: _, h => by cases h
  | _ :: _, [], h => by cases h
  | x :: a, y :: b, h => by
    unfold eqVs at h
    rw [pick2_eq] at h
    split at h
    · rename_i hx; rw [eqV_spec hx, eqVs_spec h]
    · cases h
def hasE (f : FuncId) (args : List Value) : List (FuncId × List Value) → Bool
  | [] => false
  | q :: T => pick2 (Nat.beq f q.1) (pick2 (eqVs args q.2) true (hasE f args T)) (hasE f args T)
theorem hasE_spec {f : FuncId} {args : List Value} : ∀ {T : List (FuncId × List Value)}, hasE f args T = true → (f, args) ∈ T
  | [], h => by cases h
  | q :: T, h => by
    unfold hasE at h
    rw [pick2_eq, pick2_eq] at h
    split at h
    · rename_i hf
      split at h
      · rename_i ha
        have e1 := Nat.eq_of_beq_eq_true hf
        have e2 := eqVs_spec ha
        obtain ⟨a, b⟩ := q
        subst e1; subst e2
        exact List.mem_cons_self ..
      · exact List.mem_cons_of_mem _ (hasE_spec h)
    · exact List.mem_cons_of_mem _ (hasE_spec h)
theorem hasE_iter (f : FuncId) (s : ByteArray) : ∀ T : List (FuncId × List Value), hasE f [iterMark, .string s] T = false
  | [] => rfl
  | q :: T => by
    have : eqVs [iterMark, .string s] q.2 = false := by
      obtain ⟨g, l⟩ := q
      cases l with
      | nil => rfl
      | cons x l => cases x <;> rfl
    unfold hasE
    rw [this, hasE_iter f s T]
    rw [pick2_eq, pick2_eq]; split <;> rfl
theorem hasE_mark (f : FuncId) : ∀ T : List (FuncId × List Value), hasE f killMark T = false
  | [] => rfl
  | q :: T => by
    have : eqVs killMark q.2 = false := by
      obtain ⟨g, l⟩ := q
      cases l with
      | nil => rfl
      | cons x l => cases x <;> rfl
    unfold hasE
    rw [this, hasE_mark f T]
    rw [pick2_eq, pick2_eq]; split <;> rfl
def kT (T : List (FuncId × List Value)) (K : Known) : Known := fun f args => pick2 (hasE f args T) (some (.bool true)) (K f args)
theorem kT_ok {P : Program} {GR : List Blk} {K : Known} {T : List (FuncId × List Value)} (hK : KnownOkR P GR K) (h : ∀ q ∈ T, ∀ w, RowsAt GR w → Calls P q.1 q.2.toArray w fun e w' => e = .returned (.bool true) ∧ RowKit.Below w.heap.size w w') : KnownOkR P GR (kT T K) := by
  refine ⟨fun f args v hk hfree w hw => ?_, fun f u hk => ?_, fun f s items hk hfr => ?_⟩
  · unfold kT at hk
    rw [pick2_eq] at hk
    split at hk
    · rename_i he
      cases hk
      exact h (f, args) (hasE_spec he) w hw
    · exact hK.calls f args v hk hfree w hw
  · unfold kT at hk
    rw [hasE_mark] at hk
    exact hK.kills f u hk
  · unfold kT at hk
    rw [hasE_iter] at hk
    exact hK.iters f s items hk hfr
end
end Go.Proofs.YtfggompceldfgaaGreatDoor.rg
