/- Lists that are reckoned out at once: they are the lists that they stand for. -/
import Derived.Test.YtpenhcmahojifaaGreatDoorEv
import Derived.Below
import Derived.Laws.Cells
import Derived.Laws.Append
import Derived.Laws.IdiomStrings
import Derived.Laws.BytesString
import Derived.Still
import Derived.Lib.Builder
import Derived.Lib.UnsafeStr
set_option linter.unusedVariables false
set_option linter.unusedSimpArgs false
set_option linter.unusedSectionVars false
namespace Go.Ev
variable [TokD]
theorem pick2_true {α : Type} (x y : α) : pick2 true x y = x := rfl
theorem pick2_false {α : Type} (x y : α) : pick2 false x y = y := rfl
theorem pick2_eq {α : Type} (b : Bool) (x y : α) : pick2 b x y = if b then x else y := by cases b <;> rfl
theorem dropS_eq : ∀ (n : Nat) (l : List Value), dropS n l = if n ≤ l.length then some (l.drop n) else none
  | 0, l => by show some l = _; simp
  | n + 1, [] => by simp; rfl
  | n + 1, v :: l => by
    have h : dropS (n + 1) (v :: l) = dropS n l := rfl
    rw [h, dropS_eq n l]; simp
theorem dropB_eq (l : List Value) : ∀ q : Nat, dropB l q = if 16 * q ≤ l.length then some (l.drop (16 * q)) else none
  | 0 => by show some l = _; simp
  | q + 1 => by
    have h : dropB l (q + 1) = Option.rec (motive := fun _ => Option (List Value)) none (fun t => dropS 16 t) (dropB l q) := rfl
    rw [h, dropB_eq l q]
    by_cases h1 : 16 * q ≤ l.length
    · rw [if_pos h1]
      show dropS 16 (l.drop (16 * q)) = _
      rw [dropS_eq]
      have e : 16 ≤ (l.drop (16 * q)).length ↔ 16 * (q + 1) ≤ l.length := by simp; omega
      simp only [e, List.drop_drop]
      rfl
    · rw [if_neg h1, if_neg (by omega)]
theorem dropO_eq (n : Nat) (l : List Value) : dropO n l = if n ≤ l.length then some (l.drop n) else none := by
  unfold dropO
  rw [dropB_eq]
  have hd : 16 * (n / 16) + n % 16 = n := Nat.div_add_mod n 16
  have e0 : Nat.div n 16 = n / 16 := rfl
  have e1 : Nat.mod n 16 = n % 16 := rfl
  rw [e0, e1]
  by_cases h1 : 16 * (n / 16) ≤ l.length
  · rw [if_pos h1]
    show dropS (n % 16) (l.drop (16 * (n / 16))) = _
    rw [dropS_eq, List.drop_drop, hd]
    have e : n % 16 ≤ (l.drop (16 * (n / 16))).length ↔ n ≤ l.length := by simp; omega
    simp only [e]
  · rw [if_neg h1, if_neg (by omega)]
theorem flatM_eq : ∀ (m : List (List Value)) (acc : List Value), flatM m acc = m.reverse.flatten ++ acc
  | [], acc => by show acc = _; simp
  | c :: m, acc => by
    have h : flatM (c :: m) acc = flatM m (c ++ acc) := rfl
    rw [h, flatM_eq m]; simp
theorem rowL_eq (base : List Value) (more : List (List Value)) : rowL base more = base ++ more.reverse.flatten := by
  cases more with
  | nil => show base = _; simp
  | cons c m =>
    show base ++ flatM (c :: m) [] = _
    rw [flatM_eq]; simp
theorem rowL_cons (base c : List Value) (more : List (List Value)) : rowL base (c :: more) = rowL base more ++ c := by
  rw [rowL_eq, rowL_eq]; simp
theorem Row.blk_of (b : Blk) : (Row.of b).blk = b := rfl
theorem takeO_eq : ∀ (n : Nat) (l : List Value), takeO n l = if n ≤ l.length then pick2 ((l.take n).any isJunk) none (some (l.take n)) else none
  | 0, l => by show some [] = _; simp [pick2_eq]
  | n + 1, [] => by simp; rfl
  | n + 1, v :: l => by
    have h : takeO (n + 1) (v :: l) = pick2 (isJunk v) none (Option.rec (motive := fun _ => Option (List Value)) none (fun r => some (v :: r)) (takeO n l)) := rfl
    rw [h, takeO_eq n l]
    simp only [pick2_eq, List.length_cons, Nat.add_le_add_iff_right, List.take_succ_cons, List.any_cons]
    by_cases hn : n ≤ l.length
    · simp only [hn, if_true]
      cases isJunk v <;> cases (l.take n).any isJunk <;> rfl
    · simp only [hn, if_false]
      cases isJunk v <;> rfl
theorem firstO_eq : ∀ (n : Nat) (l : List Value), firstO n l = if n ≤ l.length then some (l.take n) else none
  | 0, l => by show some [] = _; simp
  | n + 1, [] => by simp; rfl
  | n + 1, v :: l => by
    have h : firstO (n + 1) (v :: l) = Option.rec (motive := fun _ => Option (List Value)) none (fun r => some (v :: r)) (firstO n l) := rfl
    rw [h, firstO_eq n l]
    by_cases hn : n ≤ l.length
    · simp [hn]
    · simp [hn]
theorem readCells_def (H : Mem) (i off n : Nat) : readCells H i off n = match alive H i with
    | some b => if off + n ≤ b.cells.length then pick2 (((b.cells.drop off).take n).any isJunk) none (some ((b.cells.drop off).take n)) else none
    | none => none := by
  unfold readCells
  cases alive H i with
  | none => rfl
  | some b =>
    show Option.rec (motive := fun _ => Option (List Value)) none (fun l => takeO n l) (dropO off b.cells) = _
    rw [dropO_eq]
    by_cases h1 : off ≤ b.cells.length
    · simp only [h1, if_true]
      rw [takeO_eq]
      have : n ≤ (b.cells.drop off).length ↔ off + n ≤ b.cells.length := by simp; omega
      simp only [this]
    · simp only [h1, if_false]
      rw [if_neg (by omega)]
theorem putCells_succ : ∀ (vs : List Value) (a : Value) (l : List Value) (k : Nat), putCells (a :: l) (k + 1) vs = a :: putCells l k vs
  | [], _, _, _ => rfl
  | v :: vs, a, l, k => by
    simp only [putCells]
    rw [List.set_cons_succ, putCells_succ vs a (l.set k v) (k + 1)]
theorem overO_eq (ok : Value → Bool) : ∀ (vs l : List Value), overO ok vs l = if vs.length ≤ l.length ∧ vs.all ok = true then some (putCells l 0 vs) else none
  | [], l => by simp [overO, putCells]
  | v :: vs, [] => by simp; rfl
  | v :: vs, u :: l => by
    have h : overO ok (v :: vs) (u :: l) = pick2 (ok v) (Option.rec (motive := fun _ => Option (List Value)) none (fun r => some (v :: r)) (overO ok vs l)) none := rfl
    rw [h, overO_eq ok vs l, pick2_eq]
    have e : putCells (u :: l) 0 (v :: vs) = v :: putCells l 0 vs := by
      show putCells ((u :: l).set 0 v) 1 vs = _
      rw [List.set_cons_zero, putCells_succ]
    rw [e]
    by_cases h1 : vs.length ≤ l.length
    · by_cases h2 : vs.all ok = true
      · cases h3 : ok v <;> simp [h1, h2, h3]
      · cases h3 : ok v <;> simp [h1, h2, h3]
    · cases h3 : ok v <;> simp [h1, h3]
theorem putO_eq (ok : Value → Bool) (vs : List Value) : ∀ (off : Nat) (l : List Value), putO ok vs off l = if off + vs.length ≤ l.length ∧ vs.all ok = true then some (putCells l off vs) else if vs = [] ∧ off ≤ l.length then some l else none
  | 0, l => by
    have h : putO ok vs 0 l = overO ok vs l := rfl
    rw [h, overO_eq]
    by_cases h0 : vs = []
    · subst h0; simp [putCells]
    · simp [h0]
  | off + 1, [] => by
    have h : putO ok vs (off + 1) [] = none := rfl
    rw [h]; simp
  | off + 1, u :: l => by
    have h : putO ok vs (off + 1) (u :: l) = Option.rec (motive := fun _ => Option (List Value)) none (fun r => some (u :: r)) (putO ok vs off l) := rfl
    rw [h, putO_eq ok vs off l, putCells_succ]
    have e1 : off + 1 + vs.length ≤ (u :: l).length ↔ off + vs.length ≤ l.length := by simp; omega
    have e2 : off + 1 ≤ (u :: l).length ↔ off ≤ l.length := by simp
    simp only [e1, e2]
    split
    · rfl
    · split <;> rfl
theorem writeCells_def (H : Mem) (i off : Nat) (vs : List Value) : writeCells H i off vs = if vs.isEmpty then some H else
    match alive H i with
    | some b => if off + vs.length ≤ b.cells.length && vs.all plainCell then H.set i { b with cells := putCells b.cells off vs } else none
    | none => none := by
  cases vs with
  | nil => rfl
  | cons v vs =>
    show Option.rec (motive := fun _ => Option Mem) none (fun b => Option.rec (motive := fun _ => Option Mem) none (fun cs => H.set i (Blk.rec (motive := fun _ => Blk) (fun _ t lv fx => ⟨cs, t, lv, fx⟩) b)) (putO plainCell (v :: vs) off b.cells)) (alive H i) = _
    cases alive H i with
    | none => rfl
    | some b =>
      show Option.rec (motive := fun _ => Option Mem) none (fun cs => H.set i (Blk.rec (motive := fun _ => Blk) (fun _ t lv fx => ⟨cs, t, lv, fx⟩) b)) (putO plainCell (v :: vs) off b.cells) = _
      rw [putO_eq]
      have e : (if (v :: vs) = [] ∧ off ≤ b.cells.length then some b.cells else none) = (none : Option (List Value)) := by simp
      rw [e]
      by_cases hc : off + (v :: vs).length ≤ b.cells.length ∧ (v :: vs).all plainCell = true
      · have hc' : (off + (v :: vs).length ≤ b.cells.length && (v :: vs).all plainCell) = true := by simpa using hc
        rw [if_pos hc]
        simp only [List.isEmpty_cons, Bool.false_eq_true, if_false]
        rw [if_pos hc']
      · have hc' : ¬ (off + (v :: vs).length ≤ b.cells.length && (v :: vs).all plainCell) = true := by simpa using hc
        rw [if_neg hc]
        simp only [List.isEmpty_cons, Bool.false_eq_true, if_false]
        rw [if_neg hc']
theorem lenL_eq : ∀ l, lenL l = l.length
  | [] => rfl
  | v :: l => by
    have h : lenL (v :: l) = Nat.succ (lenL l) := rfl
    rw [h, lenL_eq l]; rfl
theorem cellsL_eq (v : Value) : cellsL v = v.cells.toList := by
  cases v <;> rfl
theorem nthO_eq : ∀ (l : List (Nat × Nat)) (i : Nat), nthO l i = l[i]?
  | [], i => by simp [nthO]
  | q :: l, 0 => rfl
  | q :: l, i + 1 => by
    have h : nthO (q :: l) (i + 1) = nthO l i := rfl
    rw [h, nthO_eq l i]; simp
theorem fold_put (off : Nat) : ∀ (l : List Value) (k : Nat) (C : Array Value), ((l.zipIdx k).foldl (fun cs (c : Value × Nat) => cs.setIfInBounds (off + c.2) c.1) C).toList = putCells C.toList (off + k) l
  | [], k, C => by simp [putCells]
  | v :: l, k, C => by
    simp only [List.zipIdx_cons, List.foldl_cons, putCells]
    rw [fold_put off l (k + 1)]
    simp [Nat.add_assoc]
theorem fillO_eq (place : Nat → Option (Nat × Nat)) : ∀ (parts : List (Nat × Value)) (C : Array Value), fillO place parts C.toList = (Instr.fill place C parts).map (·.toList)
  | [], C => rfl
  | (i, v) :: l, C => by
    have h : fillO place ((i, v) :: l) C.toList = Option.rec (motive := fun _ => Option (List Value)) none
      (fun os => pick2 (Nat.beq (lenL (cellsL v)) os.2) (Option.rec (motive := fun _ => Option (List Value)) none (fun r => fillO place l r) (putO (fun _ => true) (cellsL v) os.1 C.toList)) none) (place i) := rfl
    rw [h]
    simp only [Instr.fill]
    cases place i with
    | none => rfl
    | some q =>
      obtain ⟨off, size⟩ := q
      simp only [pick2_eq, lenL_eq, cellsL_eq, Nat.beq_eq, Array.length_toList]
      by_cases hs : v.cells.size = size
      · rw [if_pos hs, putO_eq]
        have ha : (v.cells.toList.all fun _ => true) = true := by simp
        simp only [ha, and_true, Array.length_toList]
        by_cases hb : off + v.cells.size ≤ C.size
        · rw [if_pos hb]
          have hn : ¬ (v.cells.size ≠ size || off + v.cells.size > C.size) = true := by simp [hs]; omega
          rw [if_neg hn]
          have e : v.cells.zipIdx.foldl (fun cs (x : Value × Nat) => cs.setIfInBounds (off + x.2) x.1) C = (v.cells.toList.zipIdx 0).foldl (fun cs (x : Value × Nat) => cs.setIfInBounds (off + x.2) x.1) C := by
            rw [← Array.foldl_toList, Array.toList_zipIdx]
          rw [e]
          have := fold_put off v.cells.toList 0 C
          rw [Nat.add_zero] at this
          show fillO place l (putCells C.toList off v.cells.toList) = _
          rw [← this]
          exact fillO_eq place l _
        · rw [if_neg hb]
          by_cases h0 : v.cells.toList = [] ∧ off ≤ C.size
          · exfalso
            have : v.cells.size = 0 := by rw [← Array.length_toList, h0.1]; rfl
            omega
          · rw [if_neg h0]
            have hn : (v.cells.size ≠ size || off + v.cells.size > C.size) = true := by simp; omega
            rw [if_pos hn]; rfl
      · rw [if_neg hs]
        have hn : (v.cells.size ≠ size || off + v.cells.size > C.size) = true := by simp [hs]
        rw [if_pos hn]; rfl
theorem fillA_eq (place : Nat → Option (Nat × Nat)) (z : Array Value) (parts : List (Nat × Value)) : fillA place z parts = Instr.fill place z parts := by
  unfold fillA
  rw [fillO_eq]
  cases Instr.fill place z parts with
  | none => rfl
  | some r => rfl
theorem buildA_def (P : Program) (t : TypeId) (parts : List (Nat × Value)) (v : Value) (h : buildA P t parts = some v) : (zeroA P t).isSome = true ∧ (P.built t parts).map .agg = some v := by
  unfold buildA at h
  have zi : ∀ {z : Value}, zeroA P t = some z → ∃ i, P.info? t = some i ∧ i.zero = some z := by
    intro z hz
    unfold zeroA at hz
    split at hz
    · rename_i i hi
      split at hz
      · rename_i z' hz'
        split at hz
        · cases hz; exact ⟨i, hi, hz'⟩
        · cases hz
      · cases hz
    · cases hz
  split at h
  · rename_i z n e hz hu
    obtain ⟨i, hi, hiz⟩ := zi hz
    refine ⟨by rw [hz]; rfl, ?_⟩
    split at h
    · rename_i s hs
      have hse : ∃ ie, P.info? e = some ie ∧ ie.size = s := by unfold sizeA at hs; simpa [Option.map_eq_some_iff] using hs
      obtain ⟨ie, he, rfl⟩ := hse
      unfold Program.built
      simp only [hi, hu, hiz, he]
      rw [cellsL_eq, fillO_eq] at h
      have e0 : (fun i => some (Nat.mul i ie.size, ie.size)) = (fun i => some (i * ie.size, ie.size)) := rfl
      rw [e0] at h
      cases hf : Instr.fill (fun i => some (i * ie.size, ie.size)) z.cells parts with
      | none => rw [hf] at h; cases h
      | some r => rw [hf] at h; exact h
    · cases h
  · rename_i z fs hz hu
    obtain ⟨i, hi, hiz⟩ := zi hz
    refine ⟨by rw [hz]; rfl, ?_⟩
    split at h
    · rename_i ps hps
      unfold placesA at hps
      unfold Program.built
      simp only [hi, hu, hiz, hps]
      rw [cellsL_eq, fillO_eq] at h
      have e0 : nthO ps = (ps.toArray[·]?) := by funext j; rw [nthO_eq]; simp
      rw [e0] at h
      cases hf : Instr.fill (ps.toArray[·]?) z.cells parts with
      | none => rw [hf] at h; cases h
      | some r => rw [hf] at h; exact h
    · cases h
  · cases h
theorem repL_eq (v : Value) : ∀ n, repL v n = List.replicate n v
  | 0 => rfl
  | n + 1 => by
    have h : repL v (n + 1) = v :: repL v n := rfl
    rw [h, repL_eq v n]; rfl
theorem zerosA_def (P : Program) (e : TypeId) (n : Nat) : zerosA P e n = match sizeA P e, zeroA P e with
    | some s, some z => if n * s = 0 then some #[] else some ((Array.range (n * s)).map (z.cells[· % z.cells.size]!))
    | _, _ => none := by
  unfold zerosA
  split
  · rename_i s z hs hz
    simp only [hs, hz, pick2_eq]
    have hb : (Nat.beq (Nat.mul n s) 0 = true) ↔ n * s = 0 := by rw [Nat.beq_eq]; rfl
    simp only [hb]
    split
    · rfl
    · by_cases hone : ∃ c, s = 1 ∧ cellsL z = [c]
      · obtain ⟨c, rfl, hc⟩ := hone
        simp only [hc]
        have h1 : z.cells = #[c] := by apply Array.ext'; rw [← cellsL_eq, hc]
        rw [h1, repL_eq]
        congr 1
        apply Array.ext
        · simp
        · intro i h2 h3
          simp at h2
          simp [Nat.mod_one]
      · split
        · exact absurd ⟨_, rfl, by assumption⟩ hone
        · rfl
  · rename_i h
    split
    · rename_i s z hs hz; exact absurd hz (h s z hs)
    · rfl
theorem partA_def (P : Program) (t : TypeId) (cs : Array Value) (off : Nat) : partA P t cs off = match isAggA P t, sizeA P t with
    | some true, some n => some (.agg (cs.extract off (off + n)))
    | some false, _ => cs[off]?
    | _, _ => none := by
  unfold partA
  split
  · rename_i n ha hs
    simp only [ha, hs]
    rw [dropO_eq]
    split
    · rename_i l hl
      split at hl
      · cases hl
        rw [firstO_eq]
        split
        · rename_i r hr
          split at hr
          · cases hr
            congr 2
            apply Array.ext'
            simp
          · cases hr
        · rfl
      · cases hl
    · rfl
  · rename_i ha; simp only [ha]
  · rename_i h1 h2
    split
    · rename_i n ha hs; exact absurd hs (h2 n ha)
    · rename_i ha; exact absurd ha h1
    · rfl
theorem lenM_eq : ∀ m, lenM m = (m.reverse.flatten).length
  | [] => rfl
  | c :: m => by
    have h : lenM (c :: m) = Nat.add (lenL c) (lenM m) := rfl
    rw [h, lenM_eq m, lenL_eq]
    show c.length + (m.reverse.flatten).length = _
    simp only [List.reverse_cons, List.flatten_append, List.length_append, List.flatten_cons, List.flatten_nil, List.append_nil]
    omega
theorem okL_eq : ∀ l, okL l = !(l.any isJunk)
  | [] => rfl
  | v :: l => by
    have h : okL (v :: l) = pick2 (isJunk v) false (okL l) := rfl
    rw [h, okL_eq l, pick2_eq]
    cases h1 : isJunk v <;> simp [h1]
theorem okM_eq : ∀ m, okM m = !((m.reverse.flatten).any isJunk)
  | [] => rfl
  | c :: m => by
    have h : okM (c :: m) = pick2 (okL c) (okM m) false := rfl
    rw [h, okM_eq m, okL_eq, pick2_eq]
    simp only [List.reverse_cons, List.flatten_append, List.any_append, List.flatten_cons, List.flatten_nil, List.append_nil]
    cases c.any isJunk <;> cases (m.reverse.flatten).any isJunk <;> rfl
end Go.Ev
namespace Go.Ev
open Go.RowKit
/-- Which row of the machine's memory stands for a row of the evaluator's, and how many elements more it has room for. -/
abbrev Ren := Nat → Option (Nat × Nat)
def Ren.le (ρ ρ' : Ren) : Prop := ∀ i x, ρ i = some x → ρ' i = some x
theorem Ren.le_refl (ρ : Ren) : ρ.le ρ := fun _ _ h => h
theorem Ren.le_trans {a b c : Ren} (h : a.le b) (k : b.le c) : a.le c := fun i x hx => k i x (h i x hx)
def NanP (m : Nat) : Prop := (Ieee.double.read m).isNaN = true
/-- A float that is a number, or some float that is none. -/
def FlR : Option Nat → Nat → Prop
  | some n, x => x = n
  | none, x => NanP x
/-! ### Numbers of which not all is known -/
def cmpRun (op : BinOp) (x y : Int) : Option Bool :=
  match op with
  | .eql => some (x == y)
  | .neq => some (x != y)
  | .lss => some (x < y)
  | .leq => some (x ≤ y)
  | .gtr => some (x > y)
  | .geq => some (x ≥ y)
  | _ => none
def nBin : Nat → Option BinOp
  | 1 => some .add
  | 2 => some .sub
  | 3 => some .mul
  | 4 => some .and
  | 5 => some .or
  | 6 => some .xor
  | 7 => some .andNot
  | 8 => some .shl
  | 9 => some .shr
  | 10 => some .quo
  | 11 => some .rem
  | _ => none
/-- Which lane it is. -/
def laneOf (env : IntKind → Nat → Int) : Nat := (env .i64 4294967296).toNat
/-- A lane's number. -/
def laneV (k : IntKind) (t : List (Option (IntKind × Int))) (j : Nat) : Option (IntKind × Int) :=
  match t[j]? with
  | some (some (k', x)) => if k' = k then some (k, x) else none
  | _ => none
def tokV (env : IntKind → Nat → Int) (c : Nat) (l : List (Option (IntKind × Int))) : Option (IntKind × Int) :=
  if c = 30 then (match l with
    | some (k, _) :: t => laneV k t (laneOf env)
    | _ => none) else
  match l with
  | [some (k, i)] => if c = 0 then some (k, env k i.toNat) else none
  | [some (k, _), some (_, x)] => if c = 20 then some (k, k.wrap x) else none
  | [some (k, _), some (kx, x), some (ky, y)] => match nBin c with
    | some op => match intRun op kx x ky y with
      | some (k', z) => if k' = k then some (k, z) else none
      | none => none
    | none => none
  | _ => none
mutual
/-- A number's sort, and what it is. -/
def den (env : IntKind → Nat → Int) : Value → Option (IntKind × Int)
  | .int k n => some (k, n)
  | .func (.yield c) a ⟨[]⟩ => tokV env c (denA env a)
  | _ => none
def denA (env : IntKind → Nat → Int) : Array Value → List (Option (IntKind × Int))
  | ⟨l⟩ => denL env l
def denL (env : IntKind → Nat → Int) : List Value → List (Option (IntKind × Int))
  | [] => []
  | v :: l => den env v :: denL env l
end
/-- What the unknown numbers are; a slice that is passed on alone. -/
class TokR where
  env : IntKind → Nat → Int
  hid : Option (Addr × Nat × Nat)
/-- And that all holds that is said of them. -/
class TokE extends TokD, TokR where
  factsOk : ∀ q ∈ facts, ∀ k x k' y, den env q.2.1 = some (k, x) → den env q.2.2.1 = some (k', y) → cmpRun q.1 x y = some q.2.2.2
  rewsOk : ∀ q ∈ rews, ∀ k x, den env q.1 = some (k, x) → den env q.2 = some (k, x) ∧ (kindT q.2).isSome = true
variable [TokE]
/-- A slice without room, wherever it stands. -/
def vd : Value := .slice (some ⟨0, 0, some 0⟩) 0 0
omit [TokE] in
inductive VRel [TokR] (ρ : Ren) : Value → Value → Prop where
  | void (a) : VRel ρ vd (.slice (some a) 0 0)
  | hid (a n c) (h : TokR.hid = some (a, n, c)) : VRel ρ (.slice (some ⟨0, 0, some 1⟩) n 0) (.slice (some a) n c)
  | junk (k n) : VRel ρ (.chan none) (.int k n)
  | nan (m) (h : NanP m) : VRel ρ (.chan (some 1)) (.float .f64 m)
  | cpx (k x y) (hx : FlR (uncodeN (unTwo k k).1) x) (hy : FlR (uncodeN (unTwo k k).2) y) : VRel ρ (.chan (some (k + 2))) (.complex .f64 x y)
  | bool (b) : VRel ρ (.bool b) (.bool b)
  | int (k n) : VRel ρ (.int k n) (.int k n)
  | float (k n) : VRel ρ (.float k n) (.float k n)
  | complex (k a b) : VRel ρ (.complex k a b) (.complex k a b)
  | string (s) : VRel ρ (.string s) (.string s)
  | ptrNil : VRel ρ (.pointer none) (.pointer none)
  | ptr (i off r x) (h : ρ i = some (r, x)) : VRel ρ (.pointer (some ⟨i, off, none⟩)) (.pointer (some ⟨r, off, none⟩))
  | sliceNil (l c) : VRel ρ (.slice none l c) (.slice none l c)
  | slice (i off l c r x) (h : ρ i = some (r, x)) : VRel ρ (.slice (some ⟨i, off, none⟩) l c) (.slice (some ⟨r, off, none⟩) l (c + x))
  | mapNil : VRel ρ (.map none) (.map none)
  | map (i r x) (h : ρ i = some (r, x)) : VRel ρ (.map (some i)) (.map (some r))
  | nilFunc : VRel ρ .nilFunc .nilFunc
  | nilIface : VRel ρ .nilIface .nilIface
  | iface (t v v') (h : VRel ρ v v') : VRel ρ (.iface t v) (.iface t v')
  | func (fn) (a a' b b' : Array Value) (sa : a.size = a'.size) (ha : ∀ (i : Nat) x y, a[i]? = some x → a'[i]? = some y → VRel ρ x y)
      (sb : b.size = b'.size) (hb : ∀ (i : Nat) x y, b[i]? = some x → b'[i]? = some y → VRel ρ x y) (hy : notYield fn = true) : VRel ρ (.func fn a b) (.func fn a' b')
  | yield (i r x) (h : ρ i = some (r, x)) : VRel ρ (.func (.yield i) #[] #[]) (.func (.yield r) #[] #[])
  | tok (c x l k n) (h : den TokR.env (.func (.yield c) ⟨x :: l⟩ ⟨[]⟩) = some (k, n)) : VRel ρ (.func (.yield c) ⟨x :: l⟩ ⟨[]⟩) (.int k n)
  | agg (a a' : Array Value) (sa : a.size = a'.size) (ha : ∀ (i : Nat) x y, a[i]? = some x → a'[i]? = some y → VRel ρ x y) : VRel ρ (.agg a) (.agg a')
  | tuple (a a' : Array Value) (sa : a.size = a'.size) (ha : ∀ (i : Nat) x y, a[i]? = some x → a'[i]? = some y → VRel ρ x y) : VRel ρ (.tuple a) (.tuple a')
theorem VRel.mono {ρ ρ' : Ren} (hle : ρ.le ρ') {v v' : Value} (h : VRel ρ v v') : VRel ρ' v v' := by
  induction h with
  | junk => exact .junk _ _
  | nan m h => exact .nan m h
  | cpx k x y hx hy => exact .cpx k x y hx hy
  | bool => exact .bool _
  | int => exact .int _ _
  | float => exact .float _ _
  | complex => exact .complex _ _ _
  | string => exact .string _
  | ptrNil => exact .ptrNil
  | ptr i off r x h => exact .ptr i off r x (hle _ _ h)
  | sliceNil => exact .sliceNil _ _
  | void a => exact .void a
  | hid a n c h => exact .hid a n c h
  | slice i off l c r x h => exact .slice i off l c r x (hle _ _ h)
  | mapNil => exact .mapNil
  | map i r x h => exact .map i r x (hle _ _ h)
  | nilFunc => exact .nilFunc
  | nilIface => exact .nilIface
  | iface t v v' _ ih => exact .iface t v v' ih
  | func fn a a' b b' sa _ sb _ hn iha ihb => exact .func fn a a' b b' sa (fun i x y hx hy => iha i x y hx hy) sb (fun i x y hx hy => ihb i x y hx hy) hn
  | yield i r x h => exact .yield i r x (hle _ _ h)
  | tok c x l k n h => exact .tok c x l k n h
  | agg a a' sa _ ih => exact .agg a a' sa (fun i x y hx hy => ih i x y hx hy)
  | tuple a a' sa _ ih => exact .tuple a a' sa (fun i x y hx hy => ih i x y hx hy)
/-- Two lists, element by element. -/
def LR (R : Value → Value → Prop) (l l' : List Value) : Prop := l.length = l'.length ∧ ∀ (i : Nat) x y, l[i]? = some x → l'[i]? = some y → R x y
def AR (R : Value → Value → Prop) (a a' : Array Value) : Prop := a.size = a'.size ∧ ∀ (i : Nat) x y, a[i]? = some x → a'[i]? = some y → R x y
theorem AR.list {R : Value → Value → Prop} {a a' : Array Value} (h : AR R a a') : LR R a.toList a'.toList :=
  ⟨by simpa using h.1, fun i x y hx hy => h.2 i x y (by simpa using hx) (by simpa using hy)⟩
theorem LR.array {R : Value → Value → Prop} {l l' : List Value} (h : LR R l l') : AR R l.toArray l'.toArray :=
  ⟨by simpa using h.1, fun i x y hx hy => h.2 i x y (by simpa using hx) (by simpa using hy)⟩
theorem LR.of_array {R : Value → Value → Prop} {a a' : Array Value} (h : LR R a.toList a'.toList) : AR R a a' :=
  ⟨by simpa using h.1, fun i x y hx hy => h.2 i x y (by simpa using hx) (by simpa using hy)⟩
theorem LR.nil {R : Value → Value → Prop} : LR R [] [] := ⟨rfl, fun i x y hx => by simp at hx⟩
theorem LR.cons {R : Value → Value → Prop} {v v' : Value} {l l' : List Value} (hv : R v v') (h : LR R l l') : LR R (v :: l) (v' :: l') :=
  ⟨by simp [h.1], fun i x y hx hy => by
    cases i with
    | zero => simp at hx hy; subst hx hy; exact hv
    | succ i => exact h.2 i x y (by simpa using hx) (by simpa using hy)⟩
theorem LR.uncons {R : Value → Value → Prop} {v : Value} {l l' : List Value} (h : LR R (v :: l) l') : ∃ v' t', l' = v' :: t' ∧ R v v' ∧ LR R l t' := by
  cases l' with
  | nil => have := h.1; simp at this
  | cons v' t' => exact ⟨v', t', rfl, h.2 0 v v' rfl rfl, by have := h.1; simpa using this, fun i x y hx hy => h.2 (i + 1) x y (by simpa using hx) (by simpa using hy)⟩
theorem LR.unnil {R : Value → Value → Prop} {l' : List Value} (h : LR R [] l') : l' = [] := by
  have := h.1; simpa using this.symm
theorem LR.append {R : Value → Value → Prop} {a a' b b' : List Value} (h : LR R a a') (k : LR R b b') : LR R (a ++ b) (a' ++ b') :=
  ⟨by simp [h.1, k.1], fun i x y hx hy => by
    rw [List.getElem?_append] at hx hy
    by_cases hi : i < a.length
    · rw [if_pos hi] at hx; rw [if_pos (h.1 ▸ hi)] at hy; exact h.2 i x y hx hy
    · rw [if_neg hi] at hx; rw [if_neg (h.1 ▸ hi)] at hy; exact k.2 _ x y hx (by rw [h.1]; exact hy)⟩
theorem LR.take {R : Value → Value → Prop} {a a' : List Value} (h : LR R a a') (n : Nat) : LR R (a.take n) (a'.take n) :=
  ⟨by simp [h.1], fun i x y hx hy => by
    rw [List.getElem?_take] at hx hy
    by_cases hi : i < n
    · rw [if_pos hi] at hx hy; exact h.2 i x y hx hy
    · rw [if_neg hi] at hx; cases hx⟩
theorem LR.drop {R : Value → Value → Prop} {a a' : List Value} (h : LR R a a') (n : Nat) : LR R (a.drop n) (a'.drop n) :=
  ⟨by simp [h.1], fun i x y hx hy => by
    rw [List.getElem?_drop] at hx hy; exact h.2 _ x y hx hy⟩
theorem LR.get {R : Value → Value → Prop} {a a' : List Value} (h : LR R a a') {i : Nat} {x : Value} (hx : a[i]? = some x) : ∃ y, a'[i]? = some y ∧ R x y := by
  have hlt : i < a.length := (List.getElem?_eq_some_iff.1 hx).1
  have hlt' : i < a'.length := h.1 ▸ hlt
  exact ⟨a'[i], by simp [hlt'], h.2 i x _ hx (by simp [hlt'])⟩
theorem LR.set {R : Value → Value → Prop} {a a' : List Value} (h : LR R a a') (i : Nat) {v v' : Value} (hv : R v v') : LR R (a.set i v) (a'.set i v') :=
  ⟨by simp [h.1], fun j x y hx hy => by
    rw [List.getElem?_set] at hx hy
    by_cases hij : i = j
    · rw [if_pos hij] at hx hy
      by_cases hl : i < a.length
      · have hl' : i < a'.length := h.1 ▸ hl
        rw [if_pos (hij ▸ hl)] at hx; rw [if_pos (hij ▸ hl')] at hy; cases hx; cases hy; exact hv
      · rw [if_neg (hij ▸ hl)] at hx; cases hx
    · rw [if_neg hij] at hx hy; exact h.2 j x y hx hy⟩
theorem LR.mono {R R' : Value → Value → Prop} (hr : ∀ x y, R x y → R' x y) {a a' : List Value} (h : LR R a a') : LR R' a a' := ⟨h.1, fun i x y hx hy => hr _ _ (h.2 i x y hx hy)⟩
theorem AR.mono {R R' : Value → Value → Prop} (hr : ∀ x y, R x y → R' x y) {a a' : Array Value} (h : AR R a a') : AR R' a a' := ⟨h.1, fun i x y hx hy => hr _ _ (h.2 i x y hx hy)⟩
/-! ### Values that lead to no memory -/
mutual
theorem refl_of_free {ρ : Ren} : ∀ v, addrFree v = true → VRel ρ v v
  | .bool _, _ => .bool _
  | .int _ _, _ => .int _ _
  | .float _ _, _ => .float _ _
  | .complex _ _ _, _ => .complex _ _ _
  | .string _, _ => .string _
  | .pointer none, _ => .ptrNil
  | .pointer (some _), h => by simp [addrFree] at h
  | .slice none _ _, _ => .sliceNil _ _
  | .slice (some _) _ _, h => by simp [addrFree] at h
  | .map none, _ => .mapNil
  | .map (some _), h => by simp [addrFree] at h
  | .chan _, h => by simp [addrFree] at h
  | .func fn a b, h => by
    simp only [addrFree, Bool.and_eq_true] at h
    exact .func fn a a b b rfl (refl_of_freeA a h.2.1) rfl (refl_of_freeA b h.2.2) h.1
  | .nilFunc, _ => .nilFunc
  | .iface t v, h => .iface t v v (refl_of_free v (by simpa [addrFree] using h))
  | .nilIface, _ => .nilIface
  | .agg cs, h => .agg cs cs rfl (refl_of_freeA cs (by simpa [addrFree] using h))
  | .tuple cs, h => .tuple cs cs rfl (refl_of_freeA cs (by simpa [addrFree] using h))
theorem refl_of_freeA {ρ : Ren} : ∀ a : Array Value, addrFreeA a = true → ∀ (i : Nat) x y, a[i]? = some x → a[i]? = some y → VRel ρ x y
  | ⟨l⟩, h, i, x, y, hx, hy => refl_of_freeL l (by simpa [addrFreeA] using h) i x y (by simpa using hx) (by simpa using hy)
theorem refl_of_freeL {ρ : Ren} : ∀ l : List Value, addrFreeL l = true → ∀ (i : Nat) x y, l[i]? = some x → l[i]? = some y → VRel ρ x y
  | [], _, i, x, y, hx, _ => by simp at hx
  | v :: l, h, 0, x, y, hx, hy => by
    simp only [addrFreeL, Bool.and_eq_true] at h
    simp at hx hy; subst hx hy; exact refl_of_free v h.1
  | v :: l, h, i + 1, x, y, hx, hy => by
    simp only [addrFreeL, Bool.and_eq_true] at h
    exact refl_of_freeL l h.2 i x y (by simpa using hx) (by simpa using hy)
end
theorem freeL_get : ∀ {l : List Value}, addrFreeL l = true → ∀ {i : Nat} {x : Value}, l[i]? = some x → addrFree x = true
  | [], _, i, x, hx => by simp at hx
  | v :: l, h, 0, x, hx => by
    simp only [addrFreeL, Bool.and_eq_true] at h
    simp at hx; subst hx; exact h.1
  | v :: l, h, i + 1, x, hx => by
    simp only [addrFreeL, Bool.and_eq_true] at h
    exact freeL_get h.2 (by simpa using hx)
theorem freeA_get {a : Array Value} (h : addrFreeA a = true) {i : Nat} {x : Value} (hx : a[i]? = some x) : addrFree x = true := by
  cases a with
  | mk l => exact freeL_get (l := l) (by simpa [addrFreeA] using h) (by simpa using hx)
theorem arr_eq {a a' : Array Value} (hs : a.size = a'.size) (h : ∀ (i : Nat) x y, a[i]? = some x → a'[i]? = some y → y = x) : a' = a := by
  apply Array.ext_getElem?
  intro i
  by_cases hi : i < a.size
  · have hi' : i < a'.size := hs ▸ hi
    rw [Array.getElem?_eq_getElem hi, Array.getElem?_eq_getElem hi']
    exact congrArg some (h i _ _ (Array.getElem?_eq_getElem hi) (Array.getElem?_eq_getElem hi'))
  · rw [Array.getElem?_eq_none (Nat.le_of_not_lt hi), Array.getElem?_eq_none (Nat.le_of_not_lt (hs ▸ hi))]
theorem eq_of_free {ρ : Ren} {v v' : Value} (h : VRel ρ v v') (hf : addrFree v = true) : v' = v := by
  induction h with
  | junk => simp [addrFree] at hf
  | nan => simp [addrFree] at hf
  | cpx => simp [addrFree] at hf
  | ptr => simp [addrFree] at hf
  | slice => simp [addrFree] at hf
  | void => simp [vd, addrFree] at hf
  | hid => simp [addrFree] at hf
  | map => simp [addrFree] at hf
  | iface t v v' _ ih => rw [ih (by simpa [addrFree] using hf)]
  | func fn a a' b b' sa _ sb _ _ iha ihb =>
    simp only [addrFree, Bool.and_eq_true] at hf
    rw [arr_eq sa (fun i x y hx hy => iha i x y hx hy (freeA_get hf.2.1 hx)), arr_eq sb (fun i x y hx hy => ihb i x y hx hy (freeA_get hf.2.2 hx))]
  | yield => simp [addrFree, notYield] at hf
  | tok => simp [addrFree, notYield] at hf
  | agg a a' sa _ ih =>
    simp only [addrFree] at hf
    rw [arr_eq sa (fun i x y hx hy => ih i x y hx hy (freeA_get hf hx))]
  | tuple a a' sa _ ih =>
    simp only [addrFree] at hf
    rw [arr_eq sa (fun i x y hx hy => ih i x y hx hy (freeA_get hf hx))]
  | _ => rfl
theorem AR.eq_of_free {ρ : Ren} {a a' : Array Value} (h : AR (VRel ρ) a a') (hf : addrFreeA a = true) : a' = a :=
  arr_eq h.1 fun i x y hx hy => Ev.eq_of_free (h.2 i x y hx hy) (freeA_get hf hx)
theorem AR.refl_of_free {ρ : Ren} {a : Array Value} (hf : addrFreeA a = true) : AR (VRel ρ) a a := ⟨rfl, refl_of_freeA a hf⟩
theorem VRel.undef {ρ : Ren} : VRel ρ Go.undef Go.undef := .tuple _ _ rfl (fun i x y hx => by simp at hx)
theorem VRel.cells {ρ : Ren} {v v' : Value} (h : VRel ρ v v') : AR (VRel ρ) v.cells v'.cells := by
  have one : ∀ {v v' : Value}, VRel ρ v v' → AR (VRel ρ) #[v] #[v'] := fun h => ⟨rfl, fun i x y hx hy => by
    cases i with
    | zero => simp at hx hy; subst hx hy; exact h
    | succ i => simp at hx⟩
  cases h with
  | agg a a' sa ha => exact ⟨sa, ha⟩
  | junk => exact one (.junk _ _)
  | nan m h => exact one (.nan m h)
  | cpx k x y hx hy => exact one (.cpx k x y hx hy)
  | bool => exact one (.bool _)
  | int => exact one (.int _ _)
  | float => exact one (.float _ _)
  | complex => exact one (.complex _ _ _)
  | string => exact one (.string _)
  | ptrNil => exact one .ptrNil
  | ptr i off r x h => exact one (.ptr i off r x h)
  | sliceNil => exact one (.sliceNil _ _)
  | void a => exact one (.void a)
  | hid a n c h => exact one (.hid a n c h)
  | slice i off l c r x h => exact one (.slice i off l c r x h)
  | mapNil => exact one .mapNil
  | map i r x h => exact one (.map i r x h)
  | nilFunc => exact one .nilFunc
  | nilIface => exact one .nilIface
  | iface t v v' h => exact one (.iface t v v' h)
  | func fn a a' b b' sa ha sb hb hn => exact one (.func fn a a' b b' sa ha sb hb hn)
  | yield i r x h => exact one (.yield i r x h)
  | tok c x l k n h => exact one (.tok c x l k n h)
  | tuple a a' sa ha => exact one (.tuple a a' sa ha)
theorem VRel.plain {ρ : Ren} {v v' : Value} (h : VRel ρ v v') (hp : plainCell v = true) : v'.oneCell' = true := by
  cases h <;> first | rfl | (simp [plainCell] at hp)
/-! ### Memory -/
/-- The machine's cells begin with the evaluator's. -/
def Begins (R : Value → Value → Prop) (l : List Value) (C : Array Value) : Prop := l.length ≤ C.size ∧ ∀ (j : Nat) v, l[j]? = some v → isJunk v = false → ∃ v', C[j]? = some v' ∧ R v v'
def unfrozen (C : Array Value) (fr : Nat × Nat) : Prop := fr.1 ≤ fr.2 ∧ ∀ j, j < C.size → ¬ (fr.1 ≤ j ∧ j < fr.2)
theorem Tr.get_n {α : Type} (l : Tr α) (v : Option α) (r : Tr α) (k : Nat) : (Tr.n l v r).get k = if k = 0 then v else if k % 2 = 1 then l.get (k / 2) else r.get (k / 2 - 1) := by
  show pick2 (Nat.beq k 0) v (pick2 (Nat.beq (k % 2) 1) (l.get (k / 2)) (r.get (k / 2 - 1))) = _
  rw [pick2_eq, pick2_eq]; simp only [Nat.beq_eq]
theorem Tr.set_n {α : Type} (l : Tr α) (v : Option α) (r : Tr α) (k : Nat) (x : α) : (Tr.n l v r).set k x = if k = 0 then some (.n l (some x) r) else if k % 2 = 1 then (l.set (k / 2) x).map (fun l' => .n l' v r) else (r.set (k / 2 - 1) x).map (fun r' => .n l v r') := by
  show pick2 (Nat.beq k 0) (some (Tr.n l (some x) r)) (pick2 (Nat.beq (k % 2) 1) (Option.rec (motive := fun _ => Option (Tr α)) none (fun l' => some (Tr.n l' v r)) (l.set (k / 2) x)) (Option.rec (motive := fun _ => Option (Tr α)) none (fun r' => some (Tr.n l v r')) (r.set (k / 2 - 1) x))) = _
  rw [pick2_eq, pick2_eq]; simp only [Nat.beq_eq]
  cases l.set (k / 2) x <;> cases r.set (k / 2 - 1) x <;> rfl
theorem Tr.get_e {α : Type} (j : Nat) : (Tr.e : Tr α).get j = none := rfl
theorem Tr.get_mk1 {α : Type} {x : α} : ∀ (d k : Nat), k ≤ d → ∀ j, (Tr.mk1 x d k).get j = if j = k then some x else none
  | 0, k, hk, j => by
    obtain rfl : k = 0 := by omega
    show (Tr.n .e (some x) .e).get j = _
    rw [Tr.get_n]; simp only [Tr.get_e]; split <;> simp_all
  | d + 1, k, hk, j => by
    show (pick2 (Nat.beq k 0) (Tr.n .e (some x) .e) (pick2 (Nat.beq (k % 2) 1) (.n (Tr.mk1 x d (k / 2)) none .e) (.n .e none (Tr.mk1 x d (k / 2 - 1))))).get j = _
    rw [pick2_eq, pick2_eq]; simp only [Nat.beq_eq]
    by_cases h0 : k = 0
    · rw [if_pos h0, Tr.get_n]; simp only [Tr.get_e]; subst h0; split <;> simp_all
    · rw [if_neg h0]
      by_cases h1 : k % 2 = 1
      · rw [if_pos h1, Tr.get_n, Tr.get_mk1 d (k / 2) (by omega)]
        simp only [Tr.get_e]
        by_cases hj : j = 0
        · rw [if_pos hj, if_neg (by omega)]
        · rw [if_neg hj]
          by_cases hjm : j % 2 = 1
          · rw [if_pos hjm]
            by_cases hjk : j / 2 = k / 2
            · rw [if_pos hjk, if_pos (by omega)]
            · rw [if_neg hjk, if_neg (by omega)]
          · rw [if_neg hjm, if_neg (by omega)]
      · rw [if_neg h1, Tr.get_n, Tr.get_mk1 d (k / 2 - 1) (by omega)]
        simp only [Tr.get_e]
        by_cases hj : j = 0
        · rw [if_pos hj, if_neg (by omega)]
        · rw [if_neg hj]
          by_cases hjm : j % 2 = 1
          · rw [if_pos hjm, if_neg (by omega)]
          · rw [if_neg hjm]
            by_cases hjk : j / 2 - 1 = k / 2 - 1
            · rw [if_pos hjk, if_pos (by omega)]
            · rw [if_neg hjk, if_neg (by omega)]
theorem Tr.set_total {α : Type} (x : α) : ∀ (t : Tr α) (k : Nat), ∃ t', t.set k x = some t' := by
  intro t
  induction t with
  | e => exact fun k => ⟨_, rfl⟩
  | n l v r ihl ihr =>
    intro k
    rw [Tr.set_n]
    obtain ⟨l', hl⟩ := ihl (k / 2)
    obtain ⟨r', hr⟩ := ihr (k / 2 - 1)
    rw [hl, hr]
    split
    · exact ⟨_, rfl⟩
    · split <;> exact ⟨_, rfl⟩
theorem Tr.get_set {α : Type} {x : α} : ∀ {t t' : Tr α} {k : Nat}, t.set k x = some t' → ∀ j, t'.get j = if j = k then some x else t.get j := by
  intro t
  induction t with
  | e =>
    intro t' k h j
    have h' : some (Tr.mk1 x k k) = some t' := h
    cases h'
    exact Tr.get_mk1 k k (Nat.le_refl k) j
  | n l v r ihl ihr =>
    intro t' k h j
    rw [Tr.set_n] at h
    by_cases hk : k = 0
    · rw [if_pos hk] at h; cases h
      rw [Tr.get_n, Tr.get_n, hk]
      by_cases hj : j = 0 <;> simp [hj]
    · rw [if_neg hk] at h
      by_cases hm : k % 2 = 1
      · rw [if_pos hm] at h
        simp only [Option.map_eq_some_iff] at h
        obtain ⟨l', hl, rfl⟩ := h
        rw [Tr.get_n, Tr.get_n]
        by_cases hj : j = 0
        · rw [if_pos hj, if_pos hj, if_neg (by omega)]
        · rw [if_neg hj, if_neg hj]
          by_cases hjm : j % 2 = 1
          · rw [if_pos hjm, if_pos hjm, ihl hl]
            by_cases hjk : j / 2 = k / 2
            · rw [if_pos hjk, if_pos (by omega)]
            · rw [if_neg hjk, if_neg (by omega)]
          · rw [if_neg hjm, if_neg hjm, if_neg (by omega)]
      · rw [if_neg hm] at h
        simp only [Option.map_eq_some_iff] at h
        obtain ⟨r', hr, rfl⟩ := h
        rw [Tr.get_n, Tr.get_n]
        by_cases hj : j = 0
        · rw [if_pos hj, if_pos hj, if_neg (by omega)]
        · rw [if_neg hj, if_neg hj]
          by_cases hjm : j % 2 = 1
          · rw [if_pos hjm, if_pos hjm, if_neg (by omega)]
          · rw [if_neg hjm, if_neg hjm, ihr hr]
            by_cases hjk : j / 2 - 1 = k / 2 - 1
            · rw [if_pos hjk, if_pos (by omega)]
            · rw [if_neg hjk, if_neg (by omega)]
theorem ble_succ (i n : Nat) : Nat.ble (Nat.succ i) n = decide (i < n) := by
  rw [Bool.eq_iff_iff]; simp [Nat.ble_eq]; omega
theorem ble_dec (i n : Nat) : Nat.ble i n = decide (i ≤ n) := by
  rw [Bool.eq_iff_iff]; simp [Nat.ble_eq]
theorem Mem.get_eq (H : Mem) (i : Nat) : H.get i = if i < H.size then (H.t.get i).map Row.blk else none := by
  unfold Mem.get; rw [pick2_eq, ble_succ]
  cases H.t.get i <;> simp
theorem Mem.get_lt {H : Mem} {i : Nat} {b : Blk} (h : H.get i = some b) : i < H.size := by
  rw [Mem.get_eq] at h; split at h
  · assumption
  · cases h
theorem Mem.pushR_spec {H H' : Mem} {b : Row} (h : H.pushR b = some H') : H'.size = H.size + 1 ∧ H'.lk = H.lk ∧ ∀ i, H'.get i = if i = H.size then some b.blk else H.get i := by
  unfold Mem.pushR at h
  cases hs : H.t.set H.size b with
  | none => rw [hs] at h; cases h
  | some t =>
    rw [hs] at h
    have h' : some (Mem.mk (H.size + 1) H.lk t) = some H' := h
    cases h'
    refine ⟨rfl, rfl, fun i => ?_⟩
    rw [Mem.get_eq, Mem.get_eq]
    simp only [Tr.get_set hs]
    by_cases h1 : i = H.size
    · subst h1; simp
    · rw [if_neg h1, if_neg h1]
      by_cases h2 : i < H.size
      · rw [if_pos h2, if_pos (by omega)]
      · rw [if_neg h2, if_neg (by omega)]
theorem Mem.push_spec {H H' : Mem} {b : Blk} (h : H.push b = some H') : H'.size = H.size + 1 ∧ H'.lk = H.lk ∧ ∀ i, H'.get i = if i = H.size then some b else H.get i := by
  have := Mem.pushR_spec (b := Row.of b) h
  rwa [Row.blk_of] at this
theorem Mem.push_total (H : Mem) (b : Blk) : ∃ H', H.push b = some H' := by
  obtain ⟨t, ht⟩ := Tr.set_total (Row.of b) H.t H.size
  exact ⟨⟨Nat.add H.size 1, H.lk, t⟩, by unfold Mem.push Mem.pushR; rw [ht]⟩
theorem Mem.set_spec {H H' : Mem} {i : Nat} {b : Blk} (h : H.set i b = some H') : i < H.size ∧ H.lk ≤ i ∧ H'.size = H.size ∧ H'.lk = H.lk ∧ ∀ j, H'.get j = if j = i then some b else H.get j := by
  unfold Mem.set at h
  rw [pick2_eq, pick2_eq, ble_succ, ble_dec] at h
  split at h
  · rename_i hi
    simp only [decide_eq_true_eq] at hi
    split at h
    · rename_i hl
      simp only [decide_eq_true_eq] at hl
      cases hs : H.t.set i (Row.of b) with
      | none => rw [hs] at h; cases h
      | some t =>
        rw [hs] at h
        have h' : some (Mem.mk H.size H.lk t) = some H' := h
        cases h'
        refine ⟨hi, hl, rfl, rfl, fun j => ?_⟩
        rw [Mem.get_eq, Mem.get_eq]
        simp only [Tr.get_set hs]
        by_cases h1 : j = i
        · subst h1; rw [if_pos rfl, if_pos rfl, if_pos hi]; rfl
        · rw [if_neg h1, if_neg h1]
    · cases h
  · cases h
/-- Where a run stands: the program, the heap's size when it began, how many rows are given, how many of them are package-level variables, the world when it began. -/
structure Cx where
  P : Program
  B : Nat
  L : Nat
  G : Nat
  w0 : World
  K : Nat → Option Obj
  ρ0 : Ren
  Lp : Nat → Option Loop
/-- A row that the run may write: behind what was there, and none of those that are to stay. -/
def Cx.own (c : Cx) (r : Nat) : Prop := c.B ≤ r ∧ c.K r = none ∧ c.Lp r = none
/-- What was there stays, and so do some rows. -/
structure Stay (c : Cx) (w : World) : Prop where
  below : Below c.B c.w0 w
  kept : ∀ r o, c.K r = some o → w.heap[r]? = some o
  loops : ∀ r l, c.Lp r = some l → w.heap[r]? = some (.loop l)
theorem Stay.drew {c : Cx} {w : World} (h : Stay c w) : Stay c w.drew := ⟨h.below.drew, h.kept, h.loops⟩
theorem Stay.grow {c : Cx} {w w' : World} (h : Stay c w) (hb : c.B ≤ w.heap.size) (hw : Below w.heap.size w w') : Stay c w' :=
  ⟨h.below.trans (hw.mono hb), fun r o hr => by
    have h1 := h.kept r o hr
    rw [hw.block r (Array.getElem?_eq_some_iff.1 h1).1]; exact h1, fun r o hr => by
    have h1 := h.loops r o hr
    rw [hw.block r (Array.getElem?_eq_some_iff.1 h1).1]; exact h1⟩
theorem Stay.alloc {c : Cx} {w : World} (h : Stay c w) (hb : c.B ≤ w.heap.size) (o : Obj) : Stay c (w.alloc o) := h.grow hb ((Below.refl _ _).alloc (Nat.le_refl _) _)
theorem Stay.touch {c : Cx} {w w' : World} (h : Stay c w) {r : Nat} (hr : c.own r) (hb : Below c.B w w') (hh : ∀ k, k ≠ r → w'.heap[k]? = w.heap[k]?) : Stay c w' :=
  ⟨h.below.trans hb, fun k o hk => by
    rw [hh k (fun e => by subst e; rw [hr.2.1] at hk; cases hk)]; exact h.kept k o hk, fun k o hk => by
    rw [hh k (fun e => by subst e; rw [hr.2.2] at hk; cases hk)]; exact h.loops k o hk⟩
theorem Stay.fresh {c : Cx} {w : World} (h : Stay c w) (hb : c.B ≤ w.heap.size) : c.own w.heap.size :=
  ⟨hb, by
    cases hk : c.K w.heap.size with
    | none => rfl
    | some o => have := h.kept _ _ hk; simp at this, by
    cases hk : c.Lp w.heap.size with
    | none => rfl
    | some o => have := h.loops _ _ hk; simp at this⟩
/-- Behind what is known of a row stand cells of the type's zero value. -/
structure Spare (P : Program) (t : TypeId) (n : Nat) (C : Array Value) : Prop where
  zero : ∀ (j : Nat) (v : Value), n ≤ j → C[j]? = some v → (∃ z, zeroA P t = some z ∧ v ∈ z.cells.toList) ∨ (P.underlying t = some (.int .u8) ∧ v = .int .u8 0)
  room : C.size ≤ n ∨ (∀ s, sizeA P t = some s → C.size < 9223372036854775808 * s) ∨ 9223372036854775808 ≤ n
theorem Spare.full {P : Program} {t : TypeId} {n : Nat} {C : Array Value} (h : C.size ≤ n) : Spare P t n C := ⟨fun j v hj hv => by
  have := (Array.getElem?_eq_some_iff.1 hv).1
  omega, .inl h⟩
omit [TokE] in
/-- A row of the evaluator's, held against the machine's memory. -/
def BlkAt [TokR] (c : Cx) (ρ : Ren) (w : World) (i : Nat) (b : Blk) : Prop :=
  ∃ r x C fr s, ρ i = some (r, x) ∧ ((i < c.L ∧ c.K r = none) ∨ c.own r) ∧ w.heap[r]? = some (.cells C b.elem fr) ∧ (i < c.L ∨ unfrozen C fr) ∧ ((i < c.L ∨ sizeA c.P b.elem = some s) ∧ (b.fix = true → x = 0)) ∧ (∃ e, C.size = b.cells.length + (x + e) * s ∧ (b.fix = true → e = 0)) ∧ Begins (VRel ρ) b.cells C ∧ (i < c.L ∨ Spare c.P b.elem b.cells.length C)
/-- The keys and values of a map, by turns. -/
def turns (es : List MapEntry) : List Value := es.flatMap fun e => [e.key, e.val]
def NotCells (o : Obj) : Prop := ∀ C t fr, o ≠ .cells C t fr
omit [TokE] in
/-- What a row holds that is none of cells: a map, an iterator over a text, one over a map of at most one entry. -/
def IsObj [TokR] (ρ : Ren) (l : List Value) (o : Obj) : Prop :=
  (∃ es, isIterL l = false ∧ o = .map es es.size ∧ LR (VRel ρ) l (turns es.toList) ∧ ∀ (k : Nat) e, es[k]? = some e → e.born = k) ∨
  (∃ s p, l = [.chan none, .string s, .int .i64 (.ofNat p)] ∧ o = .stringIter s p) ∨
  (∃ m r x n d seen last, l = [.chan none, .map (some m), .int .i64 (.ofNat n), .bool d] ∧ ρ m = some (r, x) ∧ n ≤ 1 ∧ o = .mapIter (some r) n seen last ∧ (d = false → seen = #[]) ∧ (d = true → n = 1 ∧ seen = #[0] ∧ last = 1))
theorem IsObj.mono {ρ ρ' : Ren} (hle : ρ.le ρ') {l : List Value} {o : Obj} (h : IsObj ρ l o) : IsObj ρ' l o := by
  rcases h with ⟨es, h0, h1, h2, h3⟩ | ⟨s, p, h1, h2⟩ | ⟨m, r, x, n, d, seen, last, h1, h2, h3⟩
  · exact .inl ⟨es, h0, h1, h2.mono fun _ _ => VRel.mono hle, h3⟩
  · exact .inr (.inl ⟨s, p, h1, h2⟩)
  · exact .inr (.inr ⟨m, r, x, n, d, seen, last, h1, hle _ _ h2, h3⟩)
theorem IsObj.not {ρ : Ren} {l : List Value} {o : Obj} (h : IsObj ρ l o) : NotCells o := by
  rintro C t fr rfl
  rcases h with ⟨es, _, h1, _⟩ | ⟨s, p, _, h2⟩ | ⟨m, r, x, n, d, seen, last, _, _, _, h4, _⟩
  · cases h1
  · cases h2
  · cases h4
theorem IsObj.noLoop {ρ : Ren} {l : List Value} {r : Loop} (h : IsObj ρ l (.loop r)) : False := by
  rcases h with ⟨es, _, h1, _⟩ | ⟨s, p, _, h2⟩ | ⟨m, r, x, n, d, seen, last, _, _, _, h4, _⟩
  · cases h1
  · cases h2
  · cases h4
omit [TokE] in
/-- A map of the evaluator's, or an iterator, held against the machine's. -/
def MapAt [TokR] (c : Cx) (ρ : Ren) (w : World) (i : Nat) (b : Blk) : Prop :=
  ∃ (r : Nat) (o : Obj) (_u : Unit), ρ i = some (r, 0) ∧ c.own r ∧ w.heap[r]? = some o ∧ IsObj ρ b.cells o
omit [TokE] in
structure Emb [TokR] (c : Cx) (ρ : Ren) (H : Mem) (w : World) : Prop where
  stay : Stay c w
  base : c.B ≤ w.heap.size
  dom : ∀ i x, ρ i = some x → i < H.size
  lk : c.L ≤ H.lk
  lsz : c.L ≤ H.size
  glob : ∀ g, g < c.G → ρ g = some (g, 0)
  blk : ∀ i b, H.get i = some b → b.live = true → BlkAt c ρ w i b
  inj : ∀ i j bi bj r x y, H.get i = some bi → bi.live = true → H.get j = some bj → bj.live = true → ρ i = some (r, x) → ρ j = some (r, y) → i = j
  maps : ∀ i b, H.get i = some b → isMapB b = true → MapAt c ρ w i b
  minj : ∀ i j bi bj r x y, H.get i = some bi → isMapB bi = true → H.get j = some bj → isMapB bj = true → ρ i = some (r, x) → ρ j = some (r, y) → i = j
  old : c.ρ0.le ρ
theorem Emb.below {c : Cx} {ρ : Ren} {H : Mem} {w : World} (h : Emb c ρ H w) : Below c.B c.w0 w := h.stay.below
theorem not_map {b : Blk} (h : b.live = true) : isMapB b = false := by unfold isMapB; rw [h]
theorem MapAt.mono {c : Cx} {ρ ρ' : Ren} {w : World} {i : Nat} {b : Blk} (hle : ρ.le ρ') (h : MapAt c ρ w i b) : MapAt c ρ' w i b := by
  obtain ⟨r, es, clock, h1, h2, h3, h4⟩ := h
  exact ⟨r, es, clock, hle _ _ h1, h2, h3, h4.mono hle⟩
theorem MapAt.heap {c : Cx} {ρ : Ren} {w w' : World} {i : Nat} {b : Blk} (h : MapAt c ρ w i b) (hh : ∀ (r : Nat) (o : Obj), NotCells o → w.heap[r]? = some o → w'.heap[r]? = some o) : MapAt c ρ w' i b := by
  obtain ⟨r, es, clock, h1, h2, h3, h4⟩ := h
  exact ⟨r, es, clock, h1, h2, hh _ _ h4.not h3, h4⟩
theorem alive_some {H : Mem} {i : Nat} {b : Blk} (h : alive H i = some b) : H.get i = some b ∧ b.live = true := by
  unfold alive at h
  split at h
  · rename_i b' hb'
    cases hl : b'.live with
    | true => rw [hl] at h; cases h; exact ⟨hb', hl⟩
    | false => rw [hl] at h; cases h
  · cases h
section
variable {c : Cx} {w : World} {ρ : Ren} {H : Mem}
theorem Emb.drew (h : Emb c ρ H w) : Emb c ρ H w.drew := ⟨h.stay.drew, h.base, h.dom, h.lk, h.lsz, h.glob, h.blk, h.inj, h.maps, h.minj, h.old⟩
/-- The machine's memory may grow behind what there is. -/
theorem Emb.grow {w' : World} (h : Emb c ρ H w) (hb : Below w.heap.size w w') : Emb c ρ H w' := by
  refine ⟨h.stay.grow h.base hb, Nat.le_trans h.base hb.size, h.dom, h.lk, h.lsz, h.glob, fun i b hi hl => ?_, h.inj, fun i b hi hm => (h.maps i b hi hm).heap fun r es clock hh => by rw [hb.block r (Array.getElem?_eq_some_iff.1 hh).1]; exact hh, h.minj, h.old⟩
  obtain ⟨r, x, C, fr, s, h1, h2, h3, h4⟩ := h.blk i b hi hl
  have hr : r < w.heap.size := (Array.getElem?_eq_some_iff.1 h3).1
  exact ⟨r, x, C, fr, s, h1, h2, by rw [hb.block r hr]; exact h3, h4⟩
theorem Begins.mono {R R' : Value → Value → Prop} (hr : ∀ x y, R x y → R' x y) {l : List Value} {C : Array Value} (h : Begins R l C) : Begins R' l C :=
  ⟨h.1, fun j v hv hj => let ⟨v', h1, h2⟩ := h.2 j v hv hj; ⟨v', h1, hr _ _ h2⟩⟩
def Ren.put (ρ : Ren) (i : Nat) (x : Nat × Nat) : Ren := fun j => if j = i then some x else ρ j
theorem Ren.put_same (ρ : Ren) (i : Nat) (x : Nat × Nat) : ρ.put i x i = some x := by simp [Ren.put]
theorem Ren.put_other (ρ : Ren) {i j : Nat} (x : Nat × Nat) (h : j ≠ i) : ρ.put i x j = ρ j := by simp [Ren.put, h]
theorem Emb.unused (h : Emb c ρ H w) {i : Nat} (hi : H.size ≤ i) : ρ i = Option.none := by
  cases hx : ρ i with
  | none => rfl
  | some x => have := h.dom i x hx; omega
theorem Emb.le_put (h : Emb c ρ H w) {i : Nat} (hi : H.size ≤ i) (x : Nat × Nat) : ρ.le (ρ.put i x) := by
  intro j y hy
  have : j ≠ i := by intro e; subst e; rw [h.unused hi] at hy; cases hy
  rw [Ren.put_other ρ x this]; exact hy
/-- A row more, wherever it lies, if it is none of those that are live. -/
theorem Emb.add {w' : World} {H' : Mem} (h : Emb c ρ H w) {t : TypeId} {cs : List Value} {C : Array Value} {fr : Nat × Nat} {r x s : Nat} {fx : Bool} (hp : H.push ⟨cs, t, true, fx⟩ = some H')
    (hbel : Stay c w') (hbase : c.B ≤ w'.heap.size) (hold : ∀ (i : Nat) (b : Blk), H.get i = some b → b.live = true → BlkAt c ρ w' i b) (hmap : ∀ (i : Nat) (b : Blk), H.get i = some b → isMapB b = true → MapAt c ρ w' i b)
    (hfresh : ∀ (i : Nat) (b : Blk) r' y, H.get i = some b → b.live = true → ρ i = some (r', y) → r' ≠ r)
    (hnew : w'.heap[r]? = some (.cells C t fr)) (hB : c.own r) (hf : unfrozen C fr) (hs : sizeA c.P t = some s) (hsz : ∃ e, C.size = cs.length + (x + e) * s ∧ (fx = true → e = 0)) (hb : Begins (VRel ρ) cs C) (hfx : fx = true → x = 0) (hsp : Spare c.P t cs.length C) :
    Emb c (ρ.put H.size (r, x)) H' w' := by
  have hle := h.le_put (Nat.le_refl H.size) (r, x)
  obtain ⟨q1, q2, q3⟩ := Mem.push_spec hp
  have at1 : ∀ {i : Nat} {b : Blk}, H'.get i = some b → (i < H.size ∧ H.get i = some b) ∨ (i = H.size ∧ b = ⟨cs, t, true, fx⟩) := by
    intro i b hi
    rw [q3] at hi
    by_cases h1 : i = H.size
    · rw [if_pos h1] at hi; cases hi; exact .inr ⟨h1, rfl⟩
    · rw [if_neg h1] at hi; exact .inl ⟨Mem.get_lt hi, hi⟩
  have at2 : ∀ {i : Nat} {b : Blk}, H'.get i = some b → isMapB b = true → i < H.size ∧ H.get i = some b := by
    intro i b hi hm
    rcases at1 hi with h1 | ⟨_, rfl⟩
    · exact h1
    · rw [not_map rfl] at hm; cases hm
  refine ⟨hbel, hbase, ?_, by rw [q2]; exact h.lk, by rw [q1]; have := h.lsz; omega, fun g hg => hle _ _ (h.glob g hg), ?_, ?_, fun i b hi hm => (hmap i b (at2 hi hm).2 hm).mono hle, fun i j bi bj q y z hi hmi hj hmj hr hr' => ?_, Ren.le_trans h.old hle⟩
  · intro i y hy
    rw [q1]
    by_cases hi : i = H.size
    · omega
    · rw [Ren.put_other ρ _ hi] at hy; have := h.dom i y hy; omega
  · intro i b hi hl
    rcases at1 hi with ⟨hlt, hi'⟩ | ⟨rfl, rfl⟩
    · obtain ⟨r', y, D, gr, s', h1, h2, h3, h4, h5, h6, h7⟩ := hold i b hi' hl
      exact ⟨r', y, D, gr, s', hle _ _ h1, h2, h3, h4, h5, h6, h7.1.mono fun _ _ => VRel.mono hle, h7.2⟩
    · exact ⟨r, x, C, fr, s, Ren.put_same _ _ _, .inr hB, hnew, .inr hf, ⟨.inr hs, hfx⟩, hsz, hb.mono fun _ _ => VRel.mono hle, .inr hsp⟩
  · intro i j bi bj q y z hi hli hj hlj hr hr'
    rcases at1 hi with ⟨hlt, hi'⟩ | ⟨rfl, rfl⟩
    · rw [Ren.put_other ρ _ (by omega)] at hr
      rcases at1 hj with ⟨hlt', hj'⟩ | ⟨rfl, rfl⟩
      · rw [Ren.put_other ρ _ (by omega)] at hr'
        exact h.inj i j bi bj q y z hi' hli hj' hlj hr hr'
      · rw [Ren.put_same] at hr'; cases hr'
        exact absurd rfl (hfresh i bi _ _ hi' hli hr)
    · rcases at1 hj with ⟨hlt', hj'⟩ | ⟨rfl, rfl⟩
      · rw [Ren.put_other ρ _ (by omega)] at hr'
        rw [Ren.put_same] at hr; cases hr
        exact absurd rfl (hfresh j bj _ _ hj' hlj hr')
      · rfl
  · obtain ⟨k1, k2⟩ := at2 hi hmi
    obtain ⟨k3, k4⟩ := at2 hj hmj
    rw [Ren.put_other ρ _ (by omega)] at hr hr'
    exact h.minj i j bi bj q y z k2 hmi k4 hmj hr hr'
/-- A new row. -/
theorem Emb.new (h : Emb c ρ H w) {t : TypeId} {cs : List Value} {C : Array Value} {fr : Nat × Nat} {x s : Nat} {H' : Mem} {fx : Bool} (hp : H.push ⟨cs, t, true, fx⟩ = some H')
    (hs : sizeA c.P t = some s) (hb : Begins (VRel ρ) cs C) (hsz : C.size = cs.length + x * s) (hf : unfrozen C fr) (hfx : fx = true → x = 0) (hsp : Spare c.P t cs.length C) :
    Emb c (ρ.put H.size (w.heap.size, x)) H' (w.alloc (.cells C t fr)) := by
  refine h.add hp (h.stay.alloc h.base _) (Nat.le_trans h.base (by simp)) ?_ (fun i b hi hm => (h.maps i b hi hm).heap fun r es clock hh => by rw [Below.heap_alloc _ _ _ (Array.getElem?_eq_some_iff.1 hh).1]; exact hh) ?_ (by show (w.heap.push _)[w.heap.size]? = _; simp) (h.stay.fresh h.base) hf hs ⟨0, hsz, fun _ => rfl⟩ hb hfx hsp
  · intro i b hi hl
    obtain ⟨r, y, D, gr, s', h1, h2, h3, h4⟩ := h.blk i b hi hl
    have hr : r < w.heap.size := (Array.getElem?_eq_some_iff.1 h3).1
    exact ⟨r, y, D, gr, s', h1, h2, by rw [Below.heap_alloc _ _ _ hr]; exact h3, h4⟩
  · intro i b r' y hi hl hr
    obtain ⟨r2, y2, D, gr, s', h1, h2, h3, _⟩ := h.blk i b hi hl
    rw [hr] at h1; cases h1
    exact Nat.ne_of_lt (Array.getElem?_eq_some_iff.1 h3).1
/-- Less is asked of a memory whose live rows are live, and the same, in another. -/
theorem Emb.less {H' : Mem} (h : Emb c ρ H w) (hl : H.size ≤ H'.size) (hlk : c.L ≤ H'.lk) (hh : ∀ (i : Nat) (b' : Blk), H'.get i = some b' → (b'.live = true ∨ isMapB b' = true) → H.get i = some b') : Emb c ρ H' w := by
  refine ⟨h.stay, h.base, fun i x hx => Nat.lt_of_lt_of_le (h.dom i x hx) hl, hlk, Nat.le_trans h.lsz hl, h.glob, fun i b' hi hb' => h.blk i b' (hh i b' hi (.inl hb')) hb', fun i j bi bj r x y hi hli hj hlj hr hr' => ?_,
    fun i b' hi hb' => h.maps i b' (hh i b' hi (.inr hb')) hb', fun i j bi bj r x y hi hli hj hlj hr hr' => h.minj i j bi bj r x y (hh i bi hi (.inr hli)) hli (hh j bj hj (.inr hlj)) hlj hr hr', h.old⟩
  exact h.inj i j bi bj r x y (hh i bi hi (.inl hli)) hli (hh j bj hj (.inl hlj)) hlj hr hr'
theorem kill_spec {H H' : Mem} {i : Nat} (h : kill H i = some H') : H'.size = H.size ∧ H'.lk = H.lk ∧ (∀ (j : Nat) (b : Blk), H'.get j = some b → (b.live = true ∨ isMapB b = true) → H.get j = some b ∧ j ≠ i) ∧ (∀ j, j ≠ i → H'.get j = H.get j) ∧ H.lk ≤ i := by
  unfold kill at h
  split at h
  · rename_i b hb
    obtain ⟨h1, h2, h3, h4, h5⟩ := Mem.set_spec h
    refine ⟨h3, h4, fun j b' hj hl => ?_, fun j hj => by rw [h5, if_neg hj], h2⟩
    rw [h5] at hj
    by_cases hij : j = i
    · rw [if_pos hij] at hj; cases hj; simp [isMapB] at hl
    · rw [if_neg hij] at hj; exact ⟨hj, hij⟩
  · cases h
theorem Emb.kill {H' : Mem} {i : Nat} (h : Emb c ρ H w) (hk : kill H i = some H') : Emb c ρ H' w := by
  obtain ⟨h1, h2, h3, _⟩ := kill_spec hk
  exact h.less (by omega) (by rw [h2]; exact h.lk) fun j b' hj hl => (h3 j b' hj hl).1
/-- A quick append is the slow one, but for how its memory is kept. -/
theorem grow_spec {P : Program} {H H' : Mem} {st xt : TypeId} {s x v : Value} (h : growA P H st xt s x = some (v, H')) :
    ∃ H2, appendB P H st xt s x = some (v, H2) ∧ H2.size = H'.size ∧ H2.lk = H'.lk ∧ ∀ i, H2.get i = H'.get i := by
  unfold growA at h
  split at h
  case h_2 => cases h
  rename_i e i sLen sCap hu hxt
  split at h
  case h_2 => cases h
  rename_i inf z n base more t fx hi hz hn hrow
  rw [pick2_eq] at h
  split at h
  case isFalse => cases h
  rename_i hc
  simp only [Bool.and_eq_true, Nat.beq_eq] at hc
  obtain ⟨⟨⟨⟨⟨⟨c1, c2⟩, c3⟩, c4⟩, c5⟩, c6⟩, ⟨⟨⟨⟨⟨d1, d2⟩, d3⟩, d4⟩, d5⟩, d6⟩⟩ := hc
  subst c1 c2
  have c3 := Nat.le_of_ble_eq_true c3
  have d1 := Nat.le_of_ble_eq_true d1
  have d2 := Nat.le_of_ble_eq_true d2
  have d3 := Nat.le_of_ble_eq_true d3
  have d4 : sLen + n ≤ 2000000 := Nat.le_of_ble_eq_true d4
  have d5 := Nat.le_of_ble_eq_true d5
  split at h
  case h_2 => cases h
  rename_i new hnew
  rw [pick2_eq] at h
  split at h
  case isFalse => cases h
  rename_i hpl
  split at h
  case h_2 => cases h
  rename_i H1 hkill
  split at h
  case h_2 => cases h
  rename_i H2 hp
  cases h
  -- the row
  have hget : H.get i = some ⟨rowL base more, t, true, fx⟩ := by
    unfold Mem.rowAt at hrow
    unfold Mem.get
    rw [pick2_eq] at hrow ⊢
    split at hrow
    · rename_i hlt; rw [if_pos hlt, hrow]; rfl
    · cases hrow
  have hal : alive H i = some ⟨rowL base more, t, true, fx⟩ := by unfold alive; rw [hget]; rfl
  have hlen : (rowL base more).length = sLen * inf.size := by
    have c4 : lenM more + lenL base = sLen * inf.size := c4
    rw [rowL_eq, List.length_append, ← c4, lenM_eq, lenL_eq]
    exact Nat.add_comm _ _
  have hjunk : (rowL base more).any isJunk = false := by
    rw [rowL_eq, List.any_append]
    rw [okL_eq] at c6
    rw [okM_eq] at c5
    simp only [Bool.not_eq_true'] at c5 c6
    rw [c5, c6]; rfl
  have hread : readCells H i 0 (sLen * inf.size) = some (rowL base more) := by
    rw [readCells_def, hal]
    simp only [List.drop_zero]
    rw [if_pos (by omega), List.take_of_length_le (by omega), hjunk]
  have hold : firstA H inf.size sLen (.slice (some ⟨i, 0, none⟩) sLen sLen) = some (rowL base more) := hread
  obtain ⟨k1, k2, k3, k4, k5⟩ := kill_spec hkill
  obtain ⟨H3, hp3⟩ := Mem.push_total H1 ⟨rowL base more ++ new, t, true, false⟩
  have hns : newSlice H1 t (rowL base more ++ new) (sLen + n) (sLen + n) = some (.slice (some ⟨H1.size, 0, none⟩) (sLen + n) (sLen + n), H3) := by
    unfold newSlice; rw [hp3]
  refine ⟨H3, ?_, ?_⟩
  · unfold appendB
    simp only [hu, hxt, hi, hz, hn, hnew, hold]
    have hbad : ¬ (inf.size = 0 ∨ inf.bytes = 0 ∨ inf.bytes > 100000 ∨ sLen + n > 2000000 ∨ sLen > 2000000 ∨ z.cells.size ≠ inf.size ∨ (!new.all plainCell) = true) := by
      simp only [hpl, Bool.not_true, Bool.false_eq_true, or_false]
      omega
    rw [if_neg hbad, if_neg (by omega)]
    have hcond : (0 : Nat) = 0 ∧ (rowL base more).length = sLen * inf.size ∧ (alive H i).any (fun k => decide (k.cells.length = sLen * inf.size) && (k.elem == t)) = true := ⟨rfl, hlen, by rw [hal]; simp [hlen]⟩
    simp only [hcond, and_self, if_true, hkill]
    exact hns
  · obtain ⟨a1, a2, a3⟩ := Mem.push_spec hp3
    obtain ⟨b1, b2, b3⟩ := Mem.pushR_spec hp
    refine ⟨by rw [a1, b1], by rw [a2, b2], fun j => ?_⟩
    rw [a3, b3]
    have : (Row.mk base (new :: more) t true false).blk = ⟨rowL base more ++ new, t, true, false⟩ := by
      show (⟨rowL base (new :: more), t, true, false⟩ : Blk) = _
      rw [rowL_cons]
    rw [this]
/-! ### One row written -/
def withBlk (w : World) (r : Nat) (o : Obj) : World := { w with heap := w.heap.setIfInBounds r o }
theorem withBlk_heap (w : World) (r : Nat) (o : Obj) (k : Nat) (h : k ≠ r) : (withBlk w r o).heap[k]? = w.heap[k]? := by
  simp [withBlk, Ne.symm h]
theorem withBlk_same (w : World) (r : Nat) (o : Obj) (h : r < w.heap.size) : (withBlk w r o).heap[r]? = some o := by
  simp [withBlk, h]
theorem withBlk_twice (w : World) (r : Nat) (o o' : Obj) : withBlk (withBlk w r o) r o' = withBlk w r o' := by
  simp [withBlk]
theorem withBlk_self (w : World) (r : Nat) (o : Obj) (h : w.heap[r]? = some o) : withBlk w r o = w := by
  have hr : r < w.heap.size := (Array.getElem?_eq_some_iff.1 h).1
  have : w.heap.setIfInBounds r o = w.heap := by
    apply Array.ext_getElem?
    intro k
    rw [Array.getElem?_setIfInBounds]
    by_cases hk : r = k
    · subst hk; simp [hr]; exact ((Array.getElem?_eq_some_iff.1 h).2).symm
    · simp [hk]
  simp [withBlk, this]
theorem setCell_withBlk {r j : Nat} {C : Array Value} {t : TypeId} {fr : Nat × Nat} (v : Value) (h : w.heap[r]? = some (.cells C t fr)) :
    w.setCell ⟨r, j, none⟩ v = withBlk w r (.cells (C.setIfInBounds j v) t fr) := by
  have : w.heap.modify r (fun | .cells c elem frozen => .cells (if (none : Option Nat).isSome then c else c.setIfInBounds j v) elem frozen | o => o) = w.heap.setIfInBounds r (.cells (C.setIfInBounds j v) t fr) := by
    apply Array.ext_getElem?
    intro k
    rw [Array.getElem?_modify, Array.getElem?_setIfInBounds]
    by_cases hk : r = k
    · subst hk
      have hr : r < w.heap.size := (Array.getElem?_eq_some_iff.1 h).1
      have hv := (Array.getElem?_eq_some_iff.1 h).2
      simp [hr, hv]
    · simp [hk]
  simp only [World.setCell, withBlk]
  rw [← this]
  rfl
def putArr (C : Array Value) (k : Nat) : List Value → Array Value
  | [] => C
  | v :: vs => putArr (C.setIfInBounds k v) (k + 1) vs
theorem putArr_size : ∀ (vs : List Value) (C : Array Value) (k : Nat), (putArr C k vs).size = C.size
  | [], _, _ => rfl
  | v :: vs, C, k => by simp [putArr, putArr_size vs]
theorem putCells_length : ∀ (vs l : List Value) (k : Nat), (putCells l k vs).length = l.length
  | [], _, _ => rfl
  | v :: vs, l, k => by simp [putCells, putCells_length vs]
theorem Begins.set {R : Value → Value → Prop} {l : List Value} {C : Array Value} (h : Begins R l C) (k : Nat) {v v' : Value} (hv : R v v') : Begins R (l.set k v) (C.setIfInBounds k v') := by
  refine ⟨by simpa using h.1, fun j u hu hju => ?_⟩
  rw [List.getElem?_set] at hu
  by_cases hkj : k = j
  · subst hkj
    rw [if_pos rfl] at hu
    split at hu
    · rename_i hlt
      cases hu
      have hC : k < C.size := Nat.lt_of_lt_of_le hlt h.1
      exact ⟨v', by simp [hC], hv⟩
    · cases hu
  · rw [if_neg hkj] at hu
    obtain ⟨u', h1, h2⟩ := h.2 j u hu hju
    exact ⟨u', by rw [Array.getElem?_setIfInBounds, if_neg hkj]; exact h1, h2⟩
theorem Begins.put {R : Value → Value → Prop} : ∀ {vs vs' l : List Value} {C : Array Value} {k : Nat}, LR R vs vs' → Begins R l C → Begins R (putCells l k vs) (putArr C k vs')
  | [], vs', l, C, k, hv, h => by rw [hv.unnil]; exact h
  | v :: vs, vs', l, C, k, hv, h => by
    obtain ⟨v', t', rfl, h1, h2⟩ := hv.uncons
    simp only [putCells, putArr]
    exact Begins.put h2 (h.set k h1)
/-- The machine's stores, one behind the other. -/
theorem run_stores {r off : Nat} {t : TypeId} {fr : Nat × Nat} : ∀ (vs : List Value) (i : Nat) (C : Array Value) (w : World), w.heap[r]? = some (.cells C t fr) → unfrozen C fr → off + i + vs.length ≤ C.size →
    (∀ v ∈ vs, v.oneCell' = true) → (storeCells ⟨r, off, none⟩ vs i).run c.P w = .ok () (withBlk w r (.cells (putArr C (off + i) vs) t fr))
  | [], i, C, w, hw, _, _, _ => by
    simp only [storeCells, putArr]
    rw [withBlk_self w r _ hw]; rfl
  | v :: vs, i, C, w, hw, hf, hl, hv => by
    simp only [List.length_cons] at hl
    have hadd : (⟨r, off, none⟩ : Addr).add i = ⟨r, off + i, none⟩ := by
      unfold Addr.add; split
      · rename_i h; subst h; rfl
      · rfl
    have hlt : off + i < C.size := by omega
    have hcell : w.cell? ⟨r, off + i, none⟩ = some C[off + i] := by simp [World.cell?, hw, hlt]
    have hfz : w.frozen? ⟨r, off + i, none⟩ = false := by
      have := hf.2 _ hlt
      simp only [World.frozen?, hw]
      rw [← Bool.not_eq_true]; intro hh
      simp at hh
      exact this hh
    have hone := hv v (by simp)
    simp only [storeCells, Sem.run_bind, hadd]
    rw [run_store c.P w _ v _ hone, hcell]
    simp only [hfz, Bool.false_eq_true, if_false, Result.andThen]
    rw [setCell_withBlk v hw]
    have hr : r < w.heap.size := (Array.getElem?_eq_some_iff.1 hw).1
    rw [run_stores vs (i + 1) (C.setIfInBounds (off + i) v) _ (withBlk_same w r _ hr) ⟨hf.1, fun j hj => hf.2 j (by simpa using hj)⟩ (by simp; omega) (fun u hu => hv u (by simp [hu]))]
    rw [withBlk_twice]
    simp [putArr, Nat.add_assoc]
/-- A row of the evaluator's written, and the machine's. -/
theorem Emb.write (h : Emb c ρ H w) {i : Nat} {b : Blk} {H' : Mem} (hi : alive H i = some b) {cs : List Value} {r x : Nat} {C C' : Array Value} {fr : Nat × Nat} (hset : H.set i { b with cells := cs } = some H')
    (hr : ρ i = some (r, x)) (hw : w.heap[r]? = some (.cells C b.elem fr)) (hl : cs.length = b.cells.length) (hC : C'.size = C.size) (hb : Begins (VRel ρ) cs C') (hkeep : ∀ j, b.cells.length ≤ j → C'[j]? = C[j]?) :
    Emb c ρ H' (withBlk w r (.cells C' b.elem fr)) := by
  obtain ⟨hi1, hi2⟩ := alive_some hi
  obtain ⟨e1, e2, e3, e4, e5⟩ := Mem.set_spec hset
  obtain ⟨r', x', D, gr, s, k1, k2, k3, k4, k5, k6, k7⟩ := h.blk i b hi1 hi2
  rw [hr] at k1; cases k1
  rw [hw] at k3; cases k3
  have hrs : r < w.heap.size := (Array.getElem?_eq_some_iff.1 hw).1
  have hB : c.own r := by rcases k2 with k2 | k2; · have := h.lk; omega
                          · exact k2
  have back2 : ∀ {j : Nat} {bj : Blk}, H'.get j = some bj → isMapB bj = true → H.get j = some bj := by
    intro j bj hj hm
    rw [e5] at hj
    by_cases hij : j = i
    · rw [if_pos hij] at hj
      cases hj
      rw [not_map (by exact hi2)] at hm; cases hm
    · rw [if_neg hij] at hj; exact hj
  refine ⟨h.stay.touch hB ⟨rfl, rfl, rfl, by simp [withBlk], fun k hk => withBlk_heap _ _ _ _ (by have := hB.1; omega)⟩ (fun k hk => withBlk_heap _ _ _ _ hk), by simpa [withBlk] using h.base, fun j y hy => by rw [e3]; exact h.dom j y hy, by rw [e4]; exact h.lk, by rw [e3]; exact h.lsz, h.glob, ?_, ?_, fun j bj hj hm => (h.maps j bj (back2 hj hm) hm).heap fun q es clock hh => ?_, fun j k bj bk q y z hj hmj hk hmk hq hq' => h.minj j k bj bk q y z (back2 hj hmj) hmj (back2 hk hmk) hmk hq hq', h.old⟩
  · intro j bj hj hlj
    rw [e5] at hj
    by_cases hij : j = i
    · subst hij
      rw [if_pos rfl] at hj
      cases hj
      exact ⟨r, x, C', fr, s, hr, k2, withBlk_same _ _ _ hrs, by
        rcases k4 with k4 | k4
        · exact .inl k4
        · exact .inr ⟨k4.1, fun q hq => k4.2 q (by rw [← hC]; exact hq)⟩, k5, by simp only [hl, hC]; exact k6, hb, k7.2.imp id fun h => ⟨fun j v hj hv => by
          simp only [hl] at hj
          exact h.zero j v hj (by rw [← hkeep j hj]; exact hv), by simp only [hl, hC]; exact h.room⟩⟩
    · rw [if_neg hij] at hj
      obtain ⟨q, y, E, er, s', m1, m2, m3, m4⟩ := h.blk j bj hj hlj
      have hne : q ≠ r := by
        intro e; subst e
        exact hij (h.inj j i bj b q y x hj hlj hi1 hi2 m1 hr)
      exact ⟨q, y, E, er, s', m1, m2, by rw [withBlk_heap _ _ _ _ hne]; exact m3, m4⟩
  · intro j k bj bk q y z hj hlj hk hlk hq hq'
    have back : ∀ {j : Nat} {bj : Blk}, H'.get j = some bj → bj.live = true → ∃ b', H.get j = some b' ∧ b'.live = true := by
      intro j bj hj hlj
      rw [e5] at hj
      by_cases hij : j = i
      · subst hij; exact ⟨b, hi1, hi2⟩
      · rw [if_neg hij] at hj; exact ⟨bj, hj, hlj⟩
    obtain ⟨b1, e1, e2⟩ := back hj hlj
    obtain ⟨b2, e3, e4⟩ := back hk hlk
    exact h.inj j k b1 b2 q y z e1 e2 e3 e4 hq hq'
  · rw [withBlk_heap _ _ _ _ (fun e => by subst e; rw [hw] at hh; cases hh; exact clock _ _ _ rfl)]; exact hh
end
end Go.Ev
