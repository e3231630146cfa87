/- Expressions: the contract of Names. -/
import Derived.Test.YtpaddkkfefgkfaaDoorEj
namespace Go.Proofs.YtpaddkkfefgkfaaDoor.ex
open Go.Tv Go.Ev Go.Px
noncomputable section
def pNm : List Bool := [true, true, true, true, false, true, false]
def anNm : FnAnn := ⟨annOf [4, 3, 11, 12, 13] pNm, .none, []⟩
abbrev Key := List UInt8 × Int
def jNm0 (x : List Nd) (r m : Nat) (ks : List Key) (i : Int) : Option (AV × Option Row) := loopN X0 (cN M14 [] _) anNm r 9 pNm kGet m (frOf 37 [(4, .mpt 0), (3, .nils), (11, .lst tyNd x), (12, .int .i64 x.length), (13, .int .i64 i)]) (memOf [.mp 52 ks])
def jNm1 (x : List Nd) (r m n : Nat) (ks : List Key) (o : List (List UInt8)) (i : Int) : Option (AV × Option Row) := loopN X0 (cN M14 [] _) anNm r 9 pNm kGet m (frOf 37 [(4, .mpt 0), (3, .own 1 n), (11, .lst tyNd x), (12, .int .i64 x.length), (13, .int .i64 i)]) (memOf [.mp 52 ks, .list 9 .str o 0 false false])
def stepNm (x : List Nd) (ks : List Key) (i : Int) (fin skip : Option (AV × Option Row)) (new : List UInt8 → Option (AV × Option Row)) : Option (AV × Option Row) :=
  pick2 (ltI i x.length) (Option.rec (motive := fun _ => Option (AV × Option Row)) none (fun nd => pick2 (!eqI nd.1 2) skip (pick2 (ltI 0 (mapGet ks nd.2.2.1)) skip (new nd.2.2.1))) (getI x i)) fin
set_option maxRecDepth 100000 in
theorem stepNm0 (x : List Nd) (r m : Nat) (ks : List Key) (i : Int) : jNm0 x r (m + 1) ks i = stepNm x ks i (some (.nils, none)) (jNm0 x r m ks (IntKind.wrap .i64 (i + 1))) fun s => jNm1 x r m 1 (mapSet ks s 1) [s] (IntKind.wrap .i64 (i + 1)) := by kernel_rfl
set_option maxRecDepth 100000 in
theorem stepNm1 (x : List Nd) (r m n : Nat) (ks : List Key) (o : List (List UInt8)) (i : Int) : jNm1 x r (m + 1) n ks o i = stepNm x ks i (some (.own 1 n, some (.list 9 .str o 0 false false))) (jNm1 x r m n ks o (IntKind.wrap .i64 (i + 1)))
    fun s => pick2 (Nat.ble (o.length + 1) 1000000) (jNm1 x r m (o.length + 1) (mapSet ks s 1) (o ++ [s]) (IntKind.wrap .i64 (i + 1))) none := by kernel_rfl
set_option maxRecDepth 100000 in
theorem enterNm (x : List Nd) (r : Nat) : enterT X0 (cN M14 [] _) anNm r 9 [.lst tyNd x] TMem.empty kGet = pick2 (!eqI (chkF nameB x) 0) (some (.nils, none)) (jNm0 x r r [] 0) := by kernel_rfl
set_option maxRecDepth 100000 in
theorem enterNm0 (r : Nat) : enterT X0 (cN M14 [] _) anNm r 9 [.nils] TMem.empty kGet = some (.nils, none) := by kernel_rfl

def keys (o : List (List UInt8)) : List Key := o.map fun s => (s, 1)
theorem keys_get (s : List UInt8) : ∀ o : List (List UInt8), mapGet (keys o) s = if s ∈ o then 1 else 0
  | [] => rfl
  | a :: o => by
    show pick2 (decide (s = a)) 1 (mapGet (keys o) s) = _
    by_cases h : s = a
    · rw [decide_eq_true h, if_pos (by simp [h])]
    · rw [decide_eq_false h]
      show mapGet (keys o) s = _
      rw [keys_get s o]
      by_cases h' : s ∈ o
      · rw [if_pos h', if_pos (by simp [h'])]
      · rw [if_neg h', if_neg (by simp [h, h'])]
theorem keys_set {s : List UInt8} : ∀ {o : List (List UInt8)}, s ∉ o → mapSet (keys o) s 1 = keys (o ++ [s])
  | [], _ => rfl
  | a :: o, h => by
    have h1 : s ≠ a := fun e => h (by simp [e])
    have h2 : s ∉ o := fun e => h (by simp [e])
    show pick2 (decide (s = a)) ((a, 1) :: keys o) ((a, 1) :: mapSet (keys o) s 1) = _
    rw [decide_eq_false h1]
    show (a, 1) :: mapSet (keys o) s 1 = _
    rw [keys_set h2]; rfl
theorem stepN_in {x : List Nd} {nd : Nd} {pre rest : List Nd} {o : List (List UInt8)} (he : x = pre ++ nd :: rest) (fin skip : Option (AV × Option Row)) (new : List UInt8 → Option (AV × Option Row)) :
    stepNm x (keys o) pre.length fin skip new = if nd.1 = 2 ∧ nd.2.2.1 ∉ o then new nd.2.2.1 else skip := by
  have hl : x.length = pre.length + (rest.length + 1) := by rw [he]; simp
  have hg : getI x (pre.length : Int) = some nd := by rw [he]; exact getI_at pre rest nd
  unfold stepNm
  rw [ltT (by omega), hg]
  show pick2 (!eqI nd.1 2) _ _ = _
  rw [pick_neq, pick_lt, keys_get]
  by_cases h2 : nd.1 = 2
  · rw [if_pos h2]
    by_cases hm : nd.2.2.1 ∈ o
    · rw [if_pos hm, if_pos (by decide), if_neg (fun h => h.2 hm)]
    · rw [if_neg hm, if_neg (by decide), if_pos ⟨h2, hm⟩]
  · rw [if_neg h2, if_neg (fun h => h2 h.1)]
theorem stepN_end {x : List Nd} {ks : List Key} (fin skip : Option (AV × Option Row)) (new : List UInt8 → Option (AV × Option Row)) : stepNm x ks x.length fin skip new = fin := by
  unfold stepNm
  rw [ltF (by omega)]
def obsN1 (o : List (List UInt8)) : AV × Option Row := (.own 1 o.length, some (.list 9 .str o 0 false false))
def obsN (o : List (List UInt8)) : AV × Option Row := if o = [] then (.nils, none) else obsN1 o
theorem loopNm1 {x : List Nd} (hx : x.length ≤ 200) (r : Nat) : ∀ (rest pre : List Nd) (m : Nat) (o : List (List UInt8)), x = pre ++ rest → rest.length < m → o.length ≤ pre.length →
    jNm1 x r m o.length (keys o) o pre.length = some (obsN1 (nmsL rest o)) := by
  intro rest
  induction rest with
  | nil =>
    intro pre m o he hm ho
    obtain ⟨m, rfl⟩ : ∃ m', m = m' + 1 := ⟨m - 1, by simp at hm; omega⟩
    obtain rfl : x = pre := by rw [he]; simp
    rw [stepNm1, stepN_end]; rfl
  | cons nd rest ih =>
    intro pre m o he hm ho
    obtain ⟨m, rfl⟩ : ∃ m', m = m' + 1 := ⟨m - 1, by simp at hm; omega⟩
    have hl : x.length = pre.length + (rest.length + 1) := by rw [he]; simp
    rw [stepNm1, stepN_in he, i64_in (n := (pre.length : Int) + 1) (by omega) (by omega), nmsL]
    have go : ∀ o' : List (List UInt8), o'.length ≤ pre.length + 1 → jNm1 x r m o'.length (keys o') o' ((pre.length : Int) + 1) = some (obsN1 (nmsL rest o')) := fun o' ho' => by
      have := ih (pre ++ [nd]) m o' (by rw [he]; simp) (by simp at hm; omega) (by simp; omega)
      simpa using this
    split
    · rename_i h
      rw [bleT (by omega), keys_set h.2]
      have := go (o ++ [nd.2.2.1]) (by simp; omega)
      simpa using this
    · exact go o (by omega)
theorem loopNm0 {x : List Nd} (hx : x.length ≤ 200) (r : Nat) : ∀ (rest pre : List Nd) (m : Nat), x = pre ++ rest → rest.length < m → jNm0 x r m [] pre.length = some (obsN (nmsL rest [])) := by
  intro rest
  induction rest with
  | nil =>
    intro pre m he hm
    obtain ⟨m, rfl⟩ : ∃ m', m = m' + 1 := ⟨m - 1, by simp at hm; omega⟩
    obtain rfl : x = pre := by rw [he]; simp
    rw [stepNm0, stepN_end]; rfl
  | cons nd rest ih =>
    intro pre m he hm
    obtain ⟨m, rfl⟩ : ∃ m', m = m' + 1 := ⟨m - 1, by simp at hm; omega⟩
    have hl : x.length = pre.length + (rest.length + 1) := by rw [he]; simp
    have hstep := stepN_in (o := []) he (some (AV.nils, (none : Option Row))) (jNm0 x r m [] (IntKind.wrap .i64 ((pre.length : Int) + 1))) fun s => jNm1 x r m 1 (mapSet [] s 1) [s] (IntKind.wrap .i64 ((pre.length : Int) + 1))
    rw [stepNm0]
    refine hstep.trans ?_
    rw [i64_in (n := (pre.length : Int) + 1) (by omega) (by omega), nmsL]
    split
    · rename_i h
      have := loopNm1 hx r rest (pre ++ [nd]) m [nd.2.2.1] (by rw [he]; simp) (by simp at hm; omega) (by simp)
      have hne : nmsL rest [nd.2.2.1] ≠ [] := fun e => by
        have := (nms_mem rest [nd.2.2.1] nd.2.2.1).2 (.inl (by simp))
        rw [e] at this; cases this
      unfold obsN
      rw [List.nil_append, if_neg hne]
      have h3 : jNm1 x r m 1 [(nd.2.2.1, 1)] [nd.2.2.1] ((pre.length : Int) + 1) = some (obsN1 (nmsL rest [nd.2.2.1])) := by simpa [keys] using this
      exact h3
    · have := ih (pre ++ [nd]) m (by rw [he]; simp) (by simp at hm; omega)
      simpa using this
def gNm (args : List AV) : Option (Bool × List PRes) :=
  match args with
  | [L] => match asLs tyNd L with
    | some x => some (true, [.list 9 .str (if chkF nameB x = 0 then nmsL x [] else [])])
    | none => none
  | _ => none
theorem con_nm : ConOk X0 cf0 9 gNm := by
  intro args rs hg
  unfold gNm at hg
  split at hg
  case h_2 => cases hg
  rename_i L
  split at hg
  case h_2 => cases hg
  rename_i x hx
  simp only [Option.some.injEq, Prod.mk.injEq] at hg
  obtain ⟨_, rfl⟩ := hg
  have hrun : enterT X0 (cN M14 [] _) anNm 202 9 [L] TMem.empty kGet = some (obsN (if chkF nameB x = 0 then nmsL x [] else [])) := by
    rcases asLs_spec hx with rfl | ⟨rfl, rfl⟩
    · rw [enterNm, pick_neq]
      by_cases h0 : chkF nameB x = 0
      · rw [if_pos h0, if_pos h0]
        exact loopNm0 (chkF_bnd h0).2.1 202 x [] 202 rfl (by have := (chkF_bnd h0).2.1; omega)
      · rw [if_neg h0, if_neg h0]; rfl
    · rw [enterNm0, if_neg (by decide)]; rfl
  obtain ⟨v, M1, h1, h2⟩ := nrun_obs (nk _) (cN_ok M14_ok n0 _) hrun
  generalize (if chkF nameB x = 0 then nmsL x [] else []) = o at *
  have e := kGet_inv h1
  subst e
  unfold obsN at h1 h2
  by_cases ho : o = []
  · rw [if_pos ho] at h1 h2
    exact ⟨_, M1, h2 [.nils] rfl, rfl, .inr ⟨rfl, ho, trivial⟩⟩
  · rw [if_neg ho] at h1 h2
    exact ⟨_, M1, h2 [.own 1 o.length] rfl, rfl, .inl ⟨1, 0, false, rfl, (Prod.mk.inj (Option.some.inj h1)).2, by simp, trivial⟩⟩
def M15 : List Con := (9, [some tyNd], gNm) :: M14
theorem M15_ok : TabOk X0 cf0 M15 := .cons con_nm M14_ok
end
end Go.Proofs.YtpaddkkfefgkfaaDoor.ex
