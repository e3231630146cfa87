/- Expressions: the contract of Parse. -/
import Derived.Test.YtpaddkkfefgkfaaDoorEd
import Derived.Test.YtpaddkkfefgkfaaDoorPy
namespace Go.Proofs.YtpaddkkfefgkfaaDoor.ex
open Go.Tv Go.Ev Go.Px
noncomputable section

/-- The value, and the row of a list that comes first. -/
def kGet (v : AV) (H : TMem) : Option (AV × Option Row) :=
  match v with
  | .tup (.own i _ :: _) => some (v, H.get i)
  | .own i _ => some (v, H.get i)
  | _ => some (v, none)
theorem kGet_inv {v : AV} {H : TMem} {r : AV × Option Row} (h : kGet v H = some r) : v = r.1 := by
  unfold kGet at h
  split at h <;> (cases h; rfl)

def parseD (l : List Tok) (a : Int) : List Nd × Int × Int × Int := (parseF nameB l a).getD ([], 0, 0, 0)
def errP (e f : Int) : Option (AV × Option Row) := some (.tup [.nils, .int .i64 0, .agg [.int .i64 e, .int .i64 f]], none)
def endP (x : List Nd) (n : Nat) (a : Int) : Option (AV × Option Row) := some (.tup [.own 2 n, .int .i64 a, .agg [.int .i64 0, .int .i64 0]], some (.list 30 tyNd x 0 false false))
abbrev cM (M : List Con) (rec : List Tok → Int → St → Res) (β : Type) : CallT β := cN M (N1 rec) β
set_option maxRecDepth 100000 in
theorem enterPs (rec : List Tok → Int → St → Res) (l : List Tok) (a : Int) (r : Nat) : enterT X0 (cM M5 rec _) an0 r 14 [.lst tyTok l, .int .i64 a] TMem.empty kGet =
    pick2 (ltI a 0) (errP 2 0) (pick2 (ltI l.length a) (errP 2 0) (pick2 (okC rec l 1 ⟨a, 0, [], 0, 0⟩ && true) (pick2 (!(outC rec l 1 ⟨a, 0, [], 0, 0⟩).1) (errP (outC rec l 1 ⟨a, 0, [], 0, 0⟩).2.e (outC rec l 1 ⟨a, 0, [], 0, 0⟩).2.f)
      (endP (outC rec l 1 ⟨a, 0, [], 0, 0⟩).2.x (outC rec l 1 ⟨a, 0, [], 0, 0⟩).2.x.length (outC rec l 1 ⟨a, 0, [], 0, 0⟩).2.a)) none)) := by kernel_rfl

def gPs (args : List AV) : Option (Bool × List PRes) :=
  match args with
  | [L, .int .i64 a] => match asLs tyTok L with
    | some l => some (Nat.ble l.length 1000000, [.list 30 tyNd (parseD l a).1, .val (.int .i64 (parseD l a).2.1), .val (.agg [.int .i64 (parseD l a).2.2.1, .int .i64 (parseD l a).2.2.2])])
    | none => none
  | _ => none
theorem asLs_spec {e : Ty} {a : AV} {l : List e.den} (h : asLs e a = some l) : a = .lst e l ∨ (a = .nils ∧ l = []) := by
  unfold asLs at h
  split at h
  · obtain ⟨he, h2⟩ := castL_spec h
    subst he
    have h2 : _ = l := h2
    subst h2
    exact .inl rfl
  · cases h; exact .inr ⟨rfl, rfl⟩
  · cases h
theorem enterPs0 (rec : List Tok → Int → St → Res) (a : Int) (r : Nat) : enterT X0 (cM M5 rec _) an0 r 14 [.nils, .int .i64 a] TMem.empty kGet =
    pick2 (ltI a 0) (errP 2 0) (pick2 (ltI 0 a) (errP 2 0) (pick2 (okC rec [] 1 ⟨a, 0, [], 0, 0⟩ && true) (pick2 (!(outC rec [] 1 ⟨a, 0, [], 0, 0⟩).1) (errP (outC rec [] 1 ⟨a, 0, [], 0, 0⟩).2.e (outC rec [] 1 ⟨a, 0, [], 0, 0⟩).2.f)
      (endP (outC rec [] 1 ⟨a, 0, [], 0, 0⟩).2.x (outC rec [] 1 ⟨a, 0, [], 0, 0⟩).2.x.length (outC rec [] 1 ⟨a, 0, [], 0, 0⟩).2.a)) none)) := by kernel_rfl

theorem con_ps : ConOk X0 cf0 14 gPs := by
  intro args rs hg
  unfold gPs at hg
  split at hg
  case h_2 => cases hg
  rename_i L a
  split at hg
  case h_2 => cases hg
  rename_i l hl
  simp only [Option.some.injEq, Prod.mk.injEq] at hg
  obtain ⟨hb, rfl⟩ := hg
  have hb := Nat.le_of_ble_eq_true hb
  have hrun : enterT X0 (cM M5 (fun l0 => climbF nameB l0 (l.length + 1)) _) an0 5 14 [L, .int .i64 a] TMem.empty kGet =
      if (parseD l a).2.2.1 = 0 then endP (parseD l a).1 (parseD l a).1.length (parseD l a).2.1 else errP (parseD l a).2.2.1 (parseD l a).2.2.2 := by
    have e : enterT X0 (cM M5 (fun l0 => climbF nameB l0 (l.length + 1)) _) an0 5 14 [L, .int .i64 a] TMem.empty kGet =
        pick2 (ltI a 0) (errP 2 0) (pick2 (ltI l.length a) (errP 2 0) (pick2 (okC (fun l0 => climbF nameB l0 (l.length + 1)) l 1 ⟨a, 0, [], 0, 0⟩ && true) (pick2 (!(outC (fun l0 => climbF nameB l0 (l.length + 1)) l 1 ⟨a, 0, [], 0, 0⟩).1) (errP (outC (fun l0 => climbF nameB l0 (l.length + 1)) l 1 ⟨a, 0, [], 0, 0⟩).2.e (outC (fun l0 => climbF nameB l0 (l.length + 1)) l 1 ⟨a, 0, [], 0, 0⟩).2.f)
          (endP (outC (fun l0 => climbF nameB l0 (l.length + 1)) l 1 ⟨a, 0, [], 0, 0⟩).2.x (outC (fun l0 => climbF nameB l0 (l.length + 1)) l 1 ⟨a, 0, [], 0, 0⟩).2.x.length (outC (fun l0 => climbF nameB l0 (l.length + 1)) l 1 ⟨a, 0, [], 0, 0⟩).2.a)) none)) := by
      rcases asLs_spec hl with rfl | ⟨rfl, rfl⟩
      · exact enterPs _ l a 5
      · exact enterPs0 _ a 5
    rw [e, pick_lt, pick_lt]
    have key : ∀ r, parseF nameB l a = some r → parseD l a = r := fun r h => by unfold parseD; rw [h]; rfl
    by_cases h1 : a < 0
    · rw [if_pos h1, key ([], 0, 2, 0) (by unfold parseF; rw [if_pos (Or.inl h1)])]; rfl
    · rw [if_neg h1]
      by_cases h2 : (l.length : Int) < a
      · rw [if_pos h2, key ([], 0, 2, 0) (by unfold parseF; rw [if_pos (Or.inr h2)])]; rfl
      · rw [if_neg h2]
        have hno : ¬ (a < 0 ∨ (l.length : Int) < a) := by omega
        have hbd : BD l ⟨a, 0, [], 0, 0⟩ := ⟨hb, by show 0 ≤ a; omega, by show a ≤ _; omega, Int.le_refl 0, by show (0 : Int) ≤ 50; decide, by simp⟩
        obtain ⟨⟨b, st⟩, hr⟩ := climb_some (nm := nameB) l (l.length + 1) 1 ⟨a, 0, [], 0, 0⟩ (by decide) (by simp) hbd.a0 hbd.a1 (by show _ - a < _; omega)
        unfold okC outC
        rw [bleT hb, ltF hbd.a0, ltF hbd.a1, ltF hbd.d0, ltF hbd.d1, bleT hbd.x]
        simp only [hr]
        cases b with
        | true => rw [key (st.x, st.a, 0, 0) (by unfold parseF; rw [if_neg hno, hr])]; rfl
        | false =>
          have hne := climb_f l _ _ _ st hr
          rw [key ([], 0, st.e, st.f) (by unfold parseF; rw [if_neg hno, hr])]
          simp only
          rw [if_neg hne]; rfl
  obtain ⟨r, hr⟩ := parse_some (nm := nameB) l a
  by_cases h0 : (parseD l a).2.2.1 = 0
  · rw [if_pos h0] at hrun
    unfold endP at hrun
    obtain ⟨v, M1, h1, h2⟩ := nrun_obs (nk _) (cN_ok M5_ok (.cons (con_cl (l.length + 1)) .nil) (AV × Option Row)) hrun
    have hv := kGet_inv h1
    subst hv
    refine ⟨_, M1, h2 [.own 2 (parseD l a).1.length, .int .i64 (parseD l a).2.1, .agg [.int .i64 0, .int .i64 0]] rfl, rfl, .inl ⟨2, 0, false, rfl, ?_, by simp, rfl, rfl, ?_, rfl, trivial⟩⟩
    · exact (Prod.mk.inj (Option.some.inj h1)).2
    · have hz : (parseD l a).2.2.2 = 0 := by
        unfold parseD at h0 ⊢
        rw [hr] at h0 ⊢
        unfold parseF at hr
        split at hr
        · cases hr; exact absurd h0 (by decide)
        · split at hr
          · cases hr; rfl
          · rename_i st hc
            cases hr
            exact absurd h0 (climb_f l _ _ _ st hc)
          · cases hr
      rw [h0, hz]
  · rw [if_neg h0] at hrun
    unfold errP at hrun
    obtain ⟨v, M1, h1, h2⟩ := nrun_obs (nk _) (cN_ok M5_ok (.cons (con_cl (l.length + 1)) .nil) (AV × Option Row)) hrun
    have hv := kGet_inv h1
    subst hv
    have hz : (parseD l a).1 = [] ∧ (parseD l a).2.1 = 0 := by
      unfold parseD at h0 ⊢
      rw [hr] at h0 ⊢
      exact (parse_ok (nm := nameB) (l := l) (a := a) hr).1 h0
    refine ⟨_, M1, h2 [.nils, .int .i64 0, .agg [.int .i64 (parseD l a).2.2.1, .int .i64 (parseD l a).2.2.2]] rfl, rfl, .inr ⟨rfl, hz.1, ?_, rfl, rfl, rfl, trivial⟩⟩
    rw [hz.2]
def M6 : List Con := (14, [some tyTok, none], gPs) :: M5
theorem M6_ok : TabOk X0 cf0 M6 := .cons con_ps M5_ok
end
end Go.Proofs.YtpaddkkfefgkfaaDoor.ex
