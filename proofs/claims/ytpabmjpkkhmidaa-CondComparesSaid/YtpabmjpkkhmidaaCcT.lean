/- The trees of CondCompares (printed by gen_cc.py). -/
import Derived.Test.YtpabmjpkkhmidaaCc
namespace Go.Proofs.Ytpabmjpkkhmidaa.condCompares
open Go.Tv Go.Ev
set_option linter.unusedVariables false

noncomputable def T0 (a b : Int) (c : Bool) : Option AV :=
  pick2 (ltI
    (IntKind.wrap IntKind.i64
      (IntKind.wrap IntKind.i64 (IntKind.wrap IntKind.i8 a) - IntKind.wrap IntKind.i64 (IntKind.wrap IntKind.i8 b)))
    (-128))
    (pick2 (ltI
    (IntKind.wrap IntKind.i64
      (IntKind.wrap IntKind.i64 (IntKind.wrap IntKind.i8 b) - IntKind.wrap IntKind.i64 (IntKind.wrap IntKind.i8 a)))
    (-128))
      (pick2 (c)
        (some (.bool (true)))
        (none))
      (pick2 (c)
        (some (.bool (true)))
        (none)))
    (pick2 (ltI
    (IntKind.wrap IntKind.i64
      (IntKind.wrap IntKind.i64 (IntKind.wrap IntKind.i8 b) - IntKind.wrap IntKind.i64 (IntKind.wrap IntKind.i8 a)))
    (-128))
      (pick2 (c)
        (some (.bool (true)))
        (none))
      (pick2 (c)
        (some (.bool (true)))
        (none)))
theorem tr0 (a b n : Int) : run8 0 a b n = T0 a b (eqI (pk n) 0 && eqI 16 16) := by kernel_rfl

noncomputable def T1 (a b : Int) (c : Bool) : Option AV :=
  pick2 (ltI
    (IntKind.wrap IntKind.i64
      (IntKind.wrap IntKind.i64 (IntKind.wrap IntKind.i8 a) - IntKind.wrap IntKind.i64 (IntKind.wrap IntKind.i8 b)))
    (-128))
    (pick2 (ltI
    (IntKind.wrap IntKind.i64
      (IntKind.wrap IntKind.i64 (IntKind.wrap IntKind.i8 b) - IntKind.wrap IntKind.i64 (IntKind.wrap IntKind.i8 a)))
    (-128))
      (pick2 (c)
        (some (.bool (true)))
        (none))
      (pick2 (c)
        (some (.bool (true)))
        (none)))
    (pick2 (ltI
    (IntKind.wrap IntKind.i64
      (IntKind.wrap IntKind.i64 (IntKind.wrap IntKind.i8 b) - IntKind.wrap IntKind.i64 (IntKind.wrap IntKind.i8 a)))
    (-128))
      (pick2 (c)
        (some (.bool (true)))
        (none))
      (pick2 (c)
        (some (.bool (true)))
        (none)))
theorem tr1 (a b n : Int) : run8 1 a b n = T1 a b (eqI (pk n) 1 && eqI 16 16) := by kernel_rfl

noncomputable def T2 (a b : Int) (c : Bool) : Option AV :=
  pick2 (ltI
    (IntKind.wrap IntKind.i64
      (IntKind.wrap IntKind.i64 (IntKind.wrap IntKind.i8 a) - IntKind.wrap IntKind.i64 (IntKind.wrap IntKind.i8 b)))
    (-128))
    (pick2 (ltI
    (IntKind.wrap IntKind.i64
      (IntKind.wrap IntKind.i64 (IntKind.wrap IntKind.i8 b) - IntKind.wrap IntKind.i64 (IntKind.wrap IntKind.i8 a)))
    (-128))
      (pick2 (c)
        (pick2 ((ltI a b == eqI 0 0) == ltI a b)
          (pick2 (ltI b a)
            (some (.bool ((true == eqI 1 0) == ltI a b)))
            (some (.bool ((eqI b a == eqI 1 0) == ltI a b))))
          (some (.bool (false))))
        (none))
      (pick2 (c)
        (pick2 ((ltI a b == eqI 0 0) == ltI a b)
          (pick2 (ltI b a)
            (some (.bool ((true == eqI 1 0) == ltI a b)))
            (some (.bool ((eqI b a == eqI 1 0) == ltI a b))))
          (some (.bool (false))))
        (none)))
    (pick2 (ltI
    (IntKind.wrap IntKind.i64
      (IntKind.wrap IntKind.i64 (IntKind.wrap IntKind.i8 b) - IntKind.wrap IntKind.i64 (IntKind.wrap IntKind.i8 a)))
    (-128))
      (pick2 (c)
        (pick2 ((ltI a b == eqI 0 0) == ltI a b)
          (pick2 (ltI b a)
            (some (.bool ((true == eqI 1 0) == ltI a b)))
            (some (.bool ((eqI b a == eqI 1 0) == ltI a b))))
          (some (.bool (false))))
        (none))
      (pick2 (c)
        (pick2 ((ltI a b == eqI 0 0) == ltI a b)
          (pick2 (ltI b a)
            (some (.bool ((true == eqI 1 0) == ltI a b)))
            (some (.bool ((eqI b a == eqI 1 0) == ltI a b))))
          (some (.bool (false))))
        (none)))
theorem tr2 (a b n : Int) : run8 2 a b n = T2 a b (eqI (pk n) 2 && eqI 16 16) := by kernel_rfl

noncomputable def T3 (a b : Int) (c : Bool) : Option AV :=
  pick2 (ltI
    (IntKind.wrap IntKind.i64
      (IntKind.wrap IntKind.i64 (IntKind.wrap IntKind.i8 a) - IntKind.wrap IntKind.i64 (IntKind.wrap IntKind.i8 b)))
    (-128))
    (pick2 (ltI
    (IntKind.wrap IntKind.i64
      (IntKind.wrap IntKind.i64 (IntKind.wrap IntKind.i8 b) - IntKind.wrap IntKind.i64 (IntKind.wrap IntKind.i8 a)))
    (-128))
      (pick2 (c)
        (pick2 ((ltI a b == eqI 1 0) == !ltI a b)
          (pick2 (ltI b a)
            (some (.bool ((true == eqI 0 0) == !ltI a b)))
            (some (.bool ((eqI b a == eqI 0 0) == !ltI a b))))
          (some (.bool (false))))
        (none))
      (pick2 (c)
        (pick2 ((ltI a b == eqI 1 0) == !ltI a b)
          (pick2 (ltI b a)
            (some (.bool ((true == eqI 0 0) == !ltI a b)))
            (some (.bool ((eqI b a == eqI 0 0) == !ltI a b))))
          (some (.bool (false))))
        (none)))
    (pick2 (ltI
    (IntKind.wrap IntKind.i64
      (IntKind.wrap IntKind.i64 (IntKind.wrap IntKind.i8 b) - IntKind.wrap IntKind.i64 (IntKind.wrap IntKind.i8 a)))
    (-128))
      (pick2 (c)
        (pick2 ((ltI a b == eqI 1 0) == !ltI a b)
          (pick2 (ltI b a)
            (some (.bool ((true == eqI 0 0) == !ltI a b)))
            (some (.bool ((eqI b a == eqI 0 0) == !ltI a b))))
          (some (.bool (false))))
        (none))
      (pick2 (c)
        (pick2 ((ltI a b == eqI 1 0) == !ltI a b)
          (pick2 (ltI b a)
            (some (.bool ((true == eqI 0 0) == !ltI a b)))
            (some (.bool ((eqI b a == eqI 0 0) == !ltI a b))))
          (some (.bool (false))))
        (none)))
theorem tr3 (a b n : Int) : run8 3 a b n = T3 a b (eqI (pk n) 3 && eqI 16 16) := by kernel_rfl

noncomputable def T4 (a b : Int) (c : Bool) : Option AV :=
  pick2 (ltI
    (IntKind.wrap IntKind.i64
      (IntKind.wrap IntKind.i64 (IntKind.wrap IntKind.i8 a) - IntKind.wrap IntKind.i64 (IntKind.wrap IntKind.i8 b)))
    (-128))
    (pick2 (ltI
    (IntKind.wrap IntKind.i64
      (IntKind.wrap IntKind.i64 (IntKind.wrap IntKind.i8 b) - IntKind.wrap IntKind.i64 (IntKind.wrap IntKind.i8 a)))
    (-128))
      (pick2 (c)
        (pick2 ((eqI a b == eqI 0 0) == eqI a b)
          (some (.bool ((eqI b a == eqI 0 0) == eqI a b)))
          (some (.bool (false))))
        (none))
      (pick2 (c)
        (pick2 ((eqI a b == eqI 0 0) == eqI a b)
          (some (.bool ((eqI b a == eqI 0 0) == eqI a b)))
          (some (.bool (false))))
        (none)))
    (pick2 (ltI
    (IntKind.wrap IntKind.i64
      (IntKind.wrap IntKind.i64 (IntKind.wrap IntKind.i8 b) - IntKind.wrap IntKind.i64 (IntKind.wrap IntKind.i8 a)))
    (-128))
      (pick2 (c)
        (pick2 ((eqI a b == eqI 0 0) == eqI a b)
          (some (.bool ((eqI b a == eqI 0 0) == eqI a b)))
          (some (.bool (false))))
        (none))
      (pick2 (c)
        (pick2 ((eqI a b == eqI 0 0) == eqI a b)
          (some (.bool ((eqI b a == eqI 0 0) == eqI a b)))
          (some (.bool (false))))
        (none)))
theorem tr4 (a b n : Int) : run8 4 a b n = T4 a b (eqI (pk n) 4 && eqI 16 16) := by kernel_rfl

noncomputable def T5 (a b : Int) (c : Bool) : Option AV :=
  pick2 (ltI
    (IntKind.wrap IntKind.i64
      (IntKind.wrap IntKind.i64 (IntKind.wrap IntKind.i8 a) - IntKind.wrap IntKind.i64 (IntKind.wrap IntKind.i8 b)))
    (-128))
    (pick2 (ltI
    (IntKind.wrap IntKind.i64
      (IntKind.wrap IntKind.i64 (IntKind.wrap IntKind.i8 b) - IntKind.wrap IntKind.i64 (IntKind.wrap IntKind.i8 a)))
    (-128))
      (pick2 (c)
        (pick2 ((eqI a b == eqI 1 0) == !eqI a b)
          (some (.bool ((eqI b a == eqI 1 0) == !eqI a b)))
          (some (.bool (false))))
        (none))
      (pick2 (c)
        (pick2 ((eqI a b == eqI 1 0) == !eqI a b)
          (some (.bool ((eqI b a == eqI 1 0) == !eqI a b)))
          (some (.bool (false))))
        (none)))
    (pick2 (ltI
    (IntKind.wrap IntKind.i64
      (IntKind.wrap IntKind.i64 (IntKind.wrap IntKind.i8 b) - IntKind.wrap IntKind.i64 (IntKind.wrap IntKind.i8 a)))
    (-128))
      (pick2 (c)
        (pick2 ((eqI a b == eqI 1 0) == !eqI a b)
          (some (.bool ((eqI b a == eqI 1 0) == !eqI a b)))
          (some (.bool (false))))
        (none))
      (pick2 (c)
        (pick2 ((eqI a b == eqI 1 0) == !eqI a b)
          (some (.bool ((eqI b a == eqI 1 0) == !eqI a b)))
          (some (.bool (false))))
        (none)))
theorem tr5 (a b n : Int) : run8 5 a b n = T5 a b (eqI (pk n) 5 && eqI 16 16) := by kernel_rfl

noncomputable def T6 (a b : Int) (c : Bool) : Option AV :=
  pick2 (ltI
    (IntKind.wrap IntKind.i64
      (IntKind.wrap IntKind.i64 (IntKind.wrap IntKind.i8 a) - IntKind.wrap IntKind.i64 (IntKind.wrap IntKind.i8 b)))
    (-128))
    (pick2 (ltI
    (IntKind.wrap IntKind.i64
      (IntKind.wrap IntKind.i64 (IntKind.wrap IntKind.i8 b) - IntKind.wrap IntKind.i64 (IntKind.wrap IntKind.i8 a)))
    (-128))
      (pick2 (c)
        (pick2 (ltI a b)
          (pick2 ((true == eqI 0 0) == !ltI b a)
            (some (.bool ((ltI b a == eqI 1 0) == !ltI b a)))
            (some (.bool (false))))
          (pick2 ((eqI a b == eqI 0 0) == !ltI b a)
            (some (.bool ((ltI b a == eqI 1 0) == !ltI b a)))
            (some (.bool (false)))))
        (none))
      (pick2 (c)
        (pick2 (ltI a b)
          (pick2 ((true == eqI 0 0) == !ltI b a)
            (some (.bool ((ltI b a == eqI 1 0) == !ltI b a)))
            (some (.bool (false))))
          (pick2 ((eqI a b == eqI 0 0) == !ltI b a)
            (some (.bool ((ltI b a == eqI 1 0) == !ltI b a)))
            (some (.bool (false)))))
        (none)))
    (pick2 (ltI
    (IntKind.wrap IntKind.i64
      (IntKind.wrap IntKind.i64 (IntKind.wrap IntKind.i8 b) - IntKind.wrap IntKind.i64 (IntKind.wrap IntKind.i8 a)))
    (-128))
      (pick2 (c)
        (pick2 (ltI a b)
          (pick2 ((true == eqI 0 0) == !ltI b a)
            (some (.bool ((ltI b a == eqI 1 0) == !ltI b a)))
            (some (.bool (false))))
          (pick2 ((eqI a b == eqI 0 0) == !ltI b a)
            (some (.bool ((ltI b a == eqI 1 0) == !ltI b a)))
            (some (.bool (false)))))
        (none))
      (pick2 (c)
        (pick2 (ltI a b)
          (pick2 ((true == eqI 0 0) == !ltI b a)
            (some (.bool ((ltI b a == eqI 1 0) == !ltI b a)))
            (some (.bool (false))))
          (pick2 ((eqI a b == eqI 0 0) == !ltI b a)
            (some (.bool ((ltI b a == eqI 1 0) == !ltI b a)))
            (some (.bool (false)))))
        (none)))
theorem tr6 (a b n : Int) : run8 6 a b n = T6 a b (eqI (pk n) 6 && eqI 16 16) := by kernel_rfl

noncomputable def T7 (a b : Int) (c : Bool) : Option AV :=
  pick2 (ltI
    (IntKind.wrap IntKind.i64
      (IntKind.wrap IntKind.i64 (IntKind.wrap IntKind.i8 a) - IntKind.wrap IntKind.i64 (IntKind.wrap IntKind.i8 b)))
    (-128))
    (pick2 (ltI
    (IntKind.wrap IntKind.i64
      (IntKind.wrap IntKind.i64 (IntKind.wrap IntKind.i8 b) - IntKind.wrap IntKind.i64 (IntKind.wrap IntKind.i8 a)))
    (-128))
      (pick2 (c)
        (pick2 (ltI a b)
          (pick2 ((true == eqI 1 0) == ltI b a)
            (some (.bool ((ltI b a == eqI 0 0) == ltI b a)))
            (some (.bool (false))))
          (pick2 ((eqI a b == eqI 1 0) == ltI b a)
            (some (.bool ((ltI b a == eqI 0 0) == ltI b a)))
            (some (.bool (false)))))
        (none))
      (pick2 (c)
        (pick2 (ltI a b)
          (pick2 ((true == eqI 1 0) == ltI b a)
            (some (.bool ((ltI b a == eqI 0 0) == ltI b a)))
            (some (.bool (false))))
          (pick2 ((eqI a b == eqI 1 0) == ltI b a)
            (some (.bool ((ltI b a == eqI 0 0) == ltI b a)))
            (some (.bool (false)))))
        (none)))
    (pick2 (ltI
    (IntKind.wrap IntKind.i64
      (IntKind.wrap IntKind.i64 (IntKind.wrap IntKind.i8 b) - IntKind.wrap IntKind.i64 (IntKind.wrap IntKind.i8 a)))
    (-128))
      (pick2 (c)
        (pick2 (ltI a b)
          (pick2 ((true == eqI 1 0) == ltI b a)
            (some (.bool ((ltI b a == eqI 0 0) == ltI b a)))
            (some (.bool (false))))
          (pick2 ((eqI a b == eqI 1 0) == ltI b a)
            (some (.bool ((ltI b a == eqI 0 0) == ltI b a)))
            (some (.bool (false)))))
        (none))
      (pick2 (c)
        (pick2 (ltI a b)
          (pick2 ((true == eqI 1 0) == ltI b a)
            (some (.bool ((ltI b a == eqI 0 0) == ltI b a)))
            (some (.bool (false))))
          (pick2 ((eqI a b == eqI 1 0) == ltI b a)
            (some (.bool ((ltI b a == eqI 0 0) == ltI b a)))
            (some (.bool (false)))))
        (none)))
theorem tr7 (a b n : Int) : run8 7 a b n = T7 a b (eqI (pk n) 7 && eqI 16 16) := by kernel_rfl

noncomputable def T8 (a b : Int) (c : Bool) : Option AV :=
  pick2 (ltI
    (IntKind.wrap IntKind.i64
      (IntKind.wrap IntKind.i64 (IntKind.wrap IntKind.i8 a) - IntKind.wrap IntKind.i64 (IntKind.wrap IntKind.i8 b)))
    (-128))
    (pick2 (ltI
    (IntKind.wrap IntKind.i64
      (IntKind.wrap IntKind.i64 (IntKind.wrap IntKind.i8 b) - IntKind.wrap IntKind.i64 (IntKind.wrap IntKind.i8 a)))
    (-128))
      (pick2 (c)
        (some (.bool (true)))
        (none))
      (pick2 (c)
        (some (.bool (true)))
        (none)))
    (pick2 (ltI
    (IntKind.wrap IntKind.i64
      (IntKind.wrap IntKind.i64 (IntKind.wrap IntKind.i8 b) - IntKind.wrap IntKind.i64 (IntKind.wrap IntKind.i8 a)))
    (-128))
      (pick2 (c)
        (some (.bool (true)))
        (none))
      (pick2 (c)
        (some (.bool (true)))
        (none)))
theorem tr8 (a b n : Int) : run8 8 a b n = T8 a b (eqI (pk n) 8 && eqI 16 16) := by kernel_rfl

noncomputable def T9 (a b : Int) (c : Bool) : Option AV :=
  pick2 (ltI
    (IntKind.wrap IntKind.i64
      (IntKind.wrap IntKind.i64 (IntKind.wrap IntKind.i8 a) - IntKind.wrap IntKind.i64 (IntKind.wrap IntKind.i8 b)))
    (-128))
    (pick2 (ltI
    (IntKind.wrap IntKind.i64
      (IntKind.wrap IntKind.i64 (IntKind.wrap IntKind.i8 b) - IntKind.wrap IntKind.i64 (IntKind.wrap IntKind.i8 a)))
    (-128))
      (pick2 (c)
        (some (.bool (true)))
        (none))
      (pick2 (c)
        (some (.bool (true)))
        (none)))
    (pick2 (ltI
    (IntKind.wrap IntKind.i64
      (IntKind.wrap IntKind.i64 (IntKind.wrap IntKind.i8 b) - IntKind.wrap IntKind.i64 (IntKind.wrap IntKind.i8 a)))
    (-128))
      (pick2 (c)
        (some (.bool (true)))
        (none))
      (pick2 (c)
        (some (.bool (true)))
        (none)))
theorem tr9 (a b n : Int) : run8 9 a b n = T9 a b (eqI (pk n) 9 && eqI 16 16) := by kernel_rfl

noncomputable def T10 (a b : Int) (c : Bool) : Option AV :=
  pick2 (ltI
    (IntKind.wrap IntKind.i64
      (IntKind.wrap IntKind.i64 (IntKind.wrap IntKind.i8 a) - IntKind.wrap IntKind.i64 (IntKind.wrap IntKind.i8 b)))
    (-128))
    (pick2 (ltI
    (IntKind.wrap IntKind.i64
      (IntKind.wrap IntKind.i64 (IntKind.wrap IntKind.i8 b) - IntKind.wrap IntKind.i64 (IntKind.wrap IntKind.i8 a)))
    (-128))
      (pick2 (c)
        (some (.bool (true)))
        (none))
      (pick2 (c)
        (some (.bool (true)))
        (none)))
    (pick2 (ltI
    (IntKind.wrap IntKind.i64
      (IntKind.wrap IntKind.i64 (IntKind.wrap IntKind.i8 b) - IntKind.wrap IntKind.i64 (IntKind.wrap IntKind.i8 a)))
    (-128))
      (pick2 (c)
        (some (.bool (true)))
        (none))
      (pick2 (c)
        (some (.bool (true)))
        (none)))
theorem tr10 (a b n : Int) : run8 10 a b n = T10 a b (eqI (pk n) 10 && eqI 16 16) := by kernel_rfl

noncomputable def T11 (a b : Int) (c : Bool) : Option AV :=
  pick2 (ltI
    (IntKind.wrap IntKind.i64
      (IntKind.wrap IntKind.i64 (IntKind.wrap IntKind.i8 a) - IntKind.wrap IntKind.i64 (IntKind.wrap IntKind.i8 b)))
    (-128))
    (pick2 (ltI
    (IntKind.wrap IntKind.i64
      (IntKind.wrap IntKind.i64 (IntKind.wrap IntKind.i8 b) - IntKind.wrap IntKind.i64 (IntKind.wrap IntKind.i8 a)))
    (-128))
      (pick2 (c)
        (some (.bool (true)))
        (none))
      (pick2 (c)
        (some (.bool (true)))
        (none)))
    (pick2 (ltI
    (IntKind.wrap IntKind.i64
      (IntKind.wrap IntKind.i64 (IntKind.wrap IntKind.i8 b) - IntKind.wrap IntKind.i64 (IntKind.wrap IntKind.i8 a)))
    (-128))
      (pick2 (c)
        (some (.bool (true)))
        (none))
      (pick2 (c)
        (some (.bool (true)))
        (none)))
theorem tr11 (a b n : Int) : run8 11 a b n = T11 a b (eqI (pk n) 11 && eqI 16 16) := by kernel_rfl

noncomputable def T12 (a b : Int) (c : Bool) : Option AV :=
  pick2 (ltI
    (IntKind.wrap IntKind.i64
      (IntKind.wrap IntKind.i64 (IntKind.wrap IntKind.i8 a) - IntKind.wrap IntKind.i64 (IntKind.wrap IntKind.i8 b)))
    (-128))
    (pick2 (ltI
    (IntKind.wrap IntKind.i64
      (IntKind.wrap IntKind.i64 (IntKind.wrap IntKind.i8 b) - IntKind.wrap IntKind.i64 (IntKind.wrap IntKind.i8 a)))
    (-128))
      (pick2 (c)
        (pick2 (((!ltI 127 (IntKind.wrap IntKind.u8 (a - b)) == true) == eqI 0 0) ==
    ltI (IntKind.wrap IntKind.i8 a) (IntKind.wrap IntKind.i8 b))
          (pick2 (eqI b a)
            (some (.bool ((true == eqI 1 0) == ltI (IntKind.wrap IntKind.i8 a) (IntKind.wrap IntKind.i8 b))))
            (some (.bool (((!ltI 127 (IntKind.wrap IntKind.u8 (b - a)) == true) == eqI 1 0) ==
    ltI (IntKind.wrap IntKind.i8 a) (IntKind.wrap IntKind.i8 b)))))
          (some (.bool (false))))
        (none))
      (pick2 (c)
        (pick2 (((!ltI 127 (IntKind.wrap IntKind.u8 (a - b)) == true) == eqI 0 0) ==
    ltI (IntKind.wrap IntKind.i8 a) (IntKind.wrap IntKind.i8 b))
          (pick2 (eqI b a)
            (some (.bool ((true == eqI 1 0) == ltI (IntKind.wrap IntKind.i8 a) (IntKind.wrap IntKind.i8 b))))
            (some (.bool (((!ltI 127 (IntKind.wrap IntKind.u8 (b - a)) ==
          ltI 127
            (IntKind.wrap IntKind.i64
              (IntKind.wrap IntKind.i64 (IntKind.wrap IntKind.i8 b) -
                IntKind.wrap IntKind.i64 (IntKind.wrap IntKind.i8 a)))) ==
      eqI 1 0) ==
    ltI (IntKind.wrap IntKind.i8 a) (IntKind.wrap IntKind.i8 b)))))
          (some (.bool (false))))
        (none)))
    (pick2 (ltI
    (IntKind.wrap IntKind.i64
      (IntKind.wrap IntKind.i64 (IntKind.wrap IntKind.i8 b) - IntKind.wrap IntKind.i64 (IntKind.wrap IntKind.i8 a)))
    (-128))
      (pick2 (c)
        (pick2 (((!ltI 127 (IntKind.wrap IntKind.u8 (a - b)) ==
          ltI 127
            (IntKind.wrap IntKind.i64
              (IntKind.wrap IntKind.i64 (IntKind.wrap IntKind.i8 a) -
                IntKind.wrap IntKind.i64 (IntKind.wrap IntKind.i8 b)))) ==
      eqI 0 0) ==
    ltI (IntKind.wrap IntKind.i8 a) (IntKind.wrap IntKind.i8 b))
          (pick2 (eqI b a)
            (some (.bool ((true == eqI 1 0) == ltI (IntKind.wrap IntKind.i8 a) (IntKind.wrap IntKind.i8 b))))
            (some (.bool (((!ltI 127 (IntKind.wrap IntKind.u8 (b - a)) == true) == eqI 1 0) ==
    ltI (IntKind.wrap IntKind.i8 a) (IntKind.wrap IntKind.i8 b)))))
          (some (.bool (false))))
        (none))
      (pick2 (c)
        (pick2 (((!ltI 127 (IntKind.wrap IntKind.u8 (a - b)) ==
          ltI 127
            (IntKind.wrap IntKind.i64
              (IntKind.wrap IntKind.i64 (IntKind.wrap IntKind.i8 a) -
                IntKind.wrap IntKind.i64 (IntKind.wrap IntKind.i8 b)))) ==
      eqI 0 0) ==
    ltI (IntKind.wrap IntKind.i8 a) (IntKind.wrap IntKind.i8 b))
          (pick2 (eqI b a)
            (some (.bool ((true == eqI 1 0) == ltI (IntKind.wrap IntKind.i8 a) (IntKind.wrap IntKind.i8 b))))
            (some (.bool (((!ltI 127 (IntKind.wrap IntKind.u8 (b - a)) ==
          ltI 127
            (IntKind.wrap IntKind.i64
              (IntKind.wrap IntKind.i64 (IntKind.wrap IntKind.i8 b) -
                IntKind.wrap IntKind.i64 (IntKind.wrap IntKind.i8 a)))) ==
      eqI 1 0) ==
    ltI (IntKind.wrap IntKind.i8 a) (IntKind.wrap IntKind.i8 b)))))
          (some (.bool (false))))
        (none)))
theorem tr12 (a b n : Int) : run8 12 a b n = T12 a b (eqI (pk n) 12 && eqI 16 16) := by kernel_rfl

noncomputable def T13 (a b : Int) (c : Bool) : Option AV :=
  pick2 (ltI
    (IntKind.wrap IntKind.i64
      (IntKind.wrap IntKind.i64 (IntKind.wrap IntKind.i8 a) - IntKind.wrap IntKind.i64 (IntKind.wrap IntKind.i8 b)))
    (-128))
    (pick2 (ltI
    (IntKind.wrap IntKind.i64
      (IntKind.wrap IntKind.i64 (IntKind.wrap IntKind.i8 b) - IntKind.wrap IntKind.i64 (IntKind.wrap IntKind.i8 a)))
    (-128))
      (pick2 (c)
        (pick2 (((!ltI 127 (IntKind.wrap IntKind.u8 (a - b)) == true) == eqI 1 0) ==
    !ltI (IntKind.wrap IntKind.i8 a) (IntKind.wrap IntKind.i8 b))
          (pick2 (eqI b a)
            (some (.bool ((true == eqI 0 0) == !ltI (IntKind.wrap IntKind.i8 a) (IntKind.wrap IntKind.i8 b))))
            (some (.bool (((!ltI 127 (IntKind.wrap IntKind.u8 (b - a)) == true) == eqI 0 0) ==
    !ltI (IntKind.wrap IntKind.i8 a) (IntKind.wrap IntKind.i8 b)))))
          (some (.bool (false))))
        (none))
      (pick2 (c)
        (pick2 (((!ltI 127 (IntKind.wrap IntKind.u8 (a - b)) == true) == eqI 1 0) ==
    !ltI (IntKind.wrap IntKind.i8 a) (IntKind.wrap IntKind.i8 b))
          (pick2 (eqI b a)
            (some (.bool ((true == eqI 0 0) == !ltI (IntKind.wrap IntKind.i8 a) (IntKind.wrap IntKind.i8 b))))
            (some (.bool (((!ltI 127 (IntKind.wrap IntKind.u8 (b - a)) ==
          ltI 127
            (IntKind.wrap IntKind.i64
              (IntKind.wrap IntKind.i64 (IntKind.wrap IntKind.i8 b) -
                IntKind.wrap IntKind.i64 (IntKind.wrap IntKind.i8 a)))) ==
      eqI 0 0) ==
    !ltI (IntKind.wrap IntKind.i8 a) (IntKind.wrap IntKind.i8 b)))))
          (some (.bool (false))))
        (none)))
    (pick2 (ltI
    (IntKind.wrap IntKind.i64
      (IntKind.wrap IntKind.i64 (IntKind.wrap IntKind.i8 b) - IntKind.wrap IntKind.i64 (IntKind.wrap IntKind.i8 a)))
    (-128))
      (pick2 (c)
        (pick2 (((!ltI 127 (IntKind.wrap IntKind.u8 (a - b)) ==
          ltI 127
            (IntKind.wrap IntKind.i64
              (IntKind.wrap IntKind.i64 (IntKind.wrap IntKind.i8 a) -
                IntKind.wrap IntKind.i64 (IntKind.wrap IntKind.i8 b)))) ==
      eqI 1 0) ==
    !ltI (IntKind.wrap IntKind.i8 a) (IntKind.wrap IntKind.i8 b))
          (pick2 (eqI b a)
            (some (.bool ((true == eqI 0 0) == !ltI (IntKind.wrap IntKind.i8 a) (IntKind.wrap IntKind.i8 b))))
            (some (.bool (((!ltI 127 (IntKind.wrap IntKind.u8 (b - a)) == true) == eqI 0 0) ==
    !ltI (IntKind.wrap IntKind.i8 a) (IntKind.wrap IntKind.i8 b)))))
          (some (.bool (false))))
        (none))
      (pick2 (c)
        (pick2 (((!ltI 127 (IntKind.wrap IntKind.u8 (a - b)) ==
          ltI 127
            (IntKind.wrap IntKind.i64
              (IntKind.wrap IntKind.i64 (IntKind.wrap IntKind.i8 a) -
                IntKind.wrap IntKind.i64 (IntKind.wrap IntKind.i8 b)))) ==
      eqI 1 0) ==
    !ltI (IntKind.wrap IntKind.i8 a) (IntKind.wrap IntKind.i8 b))
          (pick2 (eqI b a)
            (some (.bool ((true == eqI 0 0) == !ltI (IntKind.wrap IntKind.i8 a) (IntKind.wrap IntKind.i8 b))))
            (some (.bool (((!ltI 127 (IntKind.wrap IntKind.u8 (b - a)) ==
          ltI 127
            (IntKind.wrap IntKind.i64
              (IntKind.wrap IntKind.i64 (IntKind.wrap IntKind.i8 b) -
                IntKind.wrap IntKind.i64 (IntKind.wrap IntKind.i8 a)))) ==
      eqI 0 0) ==
    !ltI (IntKind.wrap IntKind.i8 a) (IntKind.wrap IntKind.i8 b)))))
          (some (.bool (false))))
        (none)))
theorem tr13 (a b n : Int) : run8 13 a b n = T13 a b (eqI (pk n) 13 && eqI 16 16) := by kernel_rfl

noncomputable def T14 (a b : Int) (c : Bool) : Option AV :=
  pick2 (ltI
    (IntKind.wrap IntKind.i64
      (IntKind.wrap IntKind.i64 (IntKind.wrap IntKind.i8 a) - IntKind.wrap IntKind.i64 (IntKind.wrap IntKind.i8 b)))
    (-128))
    (pick2 (ltI
    (IntKind.wrap IntKind.i64
      (IntKind.wrap IntKind.i64 (IntKind.wrap IntKind.i8 b) - IntKind.wrap IntKind.i64 (IntKind.wrap IntKind.i8 a)))
    (-128))
      (pick2 (c)
        (pick2 (eqI a b)
          (pick2 ((true == eqI 0 0) == !ltI (IntKind.wrap IntKind.i8 b) (IntKind.wrap IntKind.i8 a))
            (some (.bool (((!ltI 127 (IntKind.wrap IntKind.u8 (b - a)) == true) == eqI 1 0) ==
    !ltI (IntKind.wrap IntKind.i8 b) (IntKind.wrap IntKind.i8 a))))
            (some (.bool (false))))
          (pick2 (((!ltI 127 (IntKind.wrap IntKind.u8 (a - b)) == true) == eqI 0 0) ==
    !ltI (IntKind.wrap IntKind.i8 b) (IntKind.wrap IntKind.i8 a))
            (some (.bool (((!ltI 127 (IntKind.wrap IntKind.u8 (b - a)) == true) == eqI 1 0) ==
    !ltI (IntKind.wrap IntKind.i8 b) (IntKind.wrap IntKind.i8 a))))
            (some (.bool (false)))))
        (none))
      (pick2 (c)
        (pick2 (eqI a b)
          (pick2 ((true == eqI 0 0) == !ltI (IntKind.wrap IntKind.i8 b) (IntKind.wrap IntKind.i8 a))
            (some (.bool (((!ltI 127 (IntKind.wrap IntKind.u8 (b - a)) ==
          ltI 127
            (IntKind.wrap IntKind.i64
              (IntKind.wrap IntKind.i64 (IntKind.wrap IntKind.i8 b) -
                IntKind.wrap IntKind.i64 (IntKind.wrap IntKind.i8 a)))) ==
      eqI 1 0) ==
    !ltI (IntKind.wrap IntKind.i8 b) (IntKind.wrap IntKind.i8 a))))
            (some (.bool (false))))
          (pick2 (((!ltI 127 (IntKind.wrap IntKind.u8 (a - b)) == true) == eqI 0 0) ==
    !ltI (IntKind.wrap IntKind.i8 b) (IntKind.wrap IntKind.i8 a))
            (some (.bool (((!ltI 127 (IntKind.wrap IntKind.u8 (b - a)) ==
          ltI 127
            (IntKind.wrap IntKind.i64
              (IntKind.wrap IntKind.i64 (IntKind.wrap IntKind.i8 b) -
                IntKind.wrap IntKind.i64 (IntKind.wrap IntKind.i8 a)))) ==
      eqI 1 0) ==
    !ltI (IntKind.wrap IntKind.i8 b) (IntKind.wrap IntKind.i8 a))))
            (some (.bool (false)))))
        (none)))
    (pick2 (ltI
    (IntKind.wrap IntKind.i64
      (IntKind.wrap IntKind.i64 (IntKind.wrap IntKind.i8 b) - IntKind.wrap IntKind.i64 (IntKind.wrap IntKind.i8 a)))
    (-128))
      (pick2 (c)
        (pick2 (eqI a b)
          (pick2 ((true == eqI 0 0) == !ltI (IntKind.wrap IntKind.i8 b) (IntKind.wrap IntKind.i8 a))
            (some (.bool (((!ltI 127 (IntKind.wrap IntKind.u8 (b - a)) == true) == eqI 1 0) ==
    !ltI (IntKind.wrap IntKind.i8 b) (IntKind.wrap IntKind.i8 a))))
            (some (.bool (false))))
          (pick2 (((!ltI 127 (IntKind.wrap IntKind.u8 (a - b)) ==
          ltI 127
            (IntKind.wrap IntKind.i64
              (IntKind.wrap IntKind.i64 (IntKind.wrap IntKind.i8 a) -
                IntKind.wrap IntKind.i64 (IntKind.wrap IntKind.i8 b)))) ==
      eqI 0 0) ==
    !ltI (IntKind.wrap IntKind.i8 b) (IntKind.wrap IntKind.i8 a))
            (some (.bool (((!ltI 127 (IntKind.wrap IntKind.u8 (b - a)) == true) == eqI 1 0) ==
    !ltI (IntKind.wrap IntKind.i8 b) (IntKind.wrap IntKind.i8 a))))
            (some (.bool (false)))))
        (none))
      (pick2 (c)
        (pick2 (eqI a b)
          (pick2 ((true == eqI 0 0) == !ltI (IntKind.wrap IntKind.i8 b) (IntKind.wrap IntKind.i8 a))
            (some (.bool (((!ltI 127 (IntKind.wrap IntKind.u8 (b - a)) ==
          ltI 127
            (IntKind.wrap IntKind.i64
              (IntKind.wrap IntKind.i64 (IntKind.wrap IntKind.i8 b) -
                IntKind.wrap IntKind.i64 (IntKind.wrap IntKind.i8 a)))) ==
      eqI 1 0) ==
    !ltI (IntKind.wrap IntKind.i8 b) (IntKind.wrap IntKind.i8 a))))
            (some (.bool (false))))
          (pick2 (((!ltI 127 (IntKind.wrap IntKind.u8 (a - b)) ==
          ltI 127
            (IntKind.wrap IntKind.i64
              (IntKind.wrap IntKind.i64 (IntKind.wrap IntKind.i8 a) -
                IntKind.wrap IntKind.i64 (IntKind.wrap IntKind.i8 b)))) ==
      eqI 0 0) ==
    !ltI (IntKind.wrap IntKind.i8 b) (IntKind.wrap IntKind.i8 a))
            (some (.bool (((!ltI 127 (IntKind.wrap IntKind.u8 (b - a)) ==
          ltI 127
            (IntKind.wrap IntKind.i64
              (IntKind.wrap IntKind.i64 (IntKind.wrap IntKind.i8 b) -
                IntKind.wrap IntKind.i64 (IntKind.wrap IntKind.i8 a)))) ==
      eqI 1 0) ==
    !ltI (IntKind.wrap IntKind.i8 b) (IntKind.wrap IntKind.i8 a))))
            (some (.bool (false)))))
        (none)))
theorem tr14 (a b n : Int) : run8 14 a b n = T14 a b (eqI (pk n) 14 && eqI 16 16) := by kernel_rfl

noncomputable def T15 (a b : Int) (c : Bool) : Option AV :=
  pick2 (ltI
    (IntKind.wrap IntKind.i64
      (IntKind.wrap IntKind.i64 (IntKind.wrap IntKind.i8 a) - IntKind.wrap IntKind.i64 (IntKind.wrap IntKind.i8 b)))
    (-128))
    (pick2 (ltI
    (IntKind.wrap IntKind.i64
      (IntKind.wrap IntKind.i64 (IntKind.wrap IntKind.i8 b) - IntKind.wrap IntKind.i64 (IntKind.wrap IntKind.i8 a)))
    (-128))
      (pick2 (c)
        (pick2 (eqI a b)
          (pick2 ((true == eqI 1 0) == ltI (IntKind.wrap IntKind.i8 b) (IntKind.wrap IntKind.i8 a))
            (some (.bool (((!ltI 127 (IntKind.wrap IntKind.u8 (b - a)) == true) == eqI 0 0) ==
    ltI (IntKind.wrap IntKind.i8 b) (IntKind.wrap IntKind.i8 a))))
            (some (.bool (false))))
          (pick2 (((!ltI 127 (IntKind.wrap IntKind.u8 (a - b)) == true) == eqI 1 0) ==
    ltI (IntKind.wrap IntKind.i8 b) (IntKind.wrap IntKind.i8 a))
            (some (.bool (((!ltI 127 (IntKind.wrap IntKind.u8 (b - a)) == true) == eqI 0 0) ==
    ltI (IntKind.wrap IntKind.i8 b) (IntKind.wrap IntKind.i8 a))))
            (some (.bool (false)))))
        (none))
      (pick2 (c)
        (pick2 (eqI a b)
          (pick2 ((true == eqI 1 0) == ltI (IntKind.wrap IntKind.i8 b) (IntKind.wrap IntKind.i8 a))
            (some (.bool (((!ltI 127 (IntKind.wrap IntKind.u8 (b - a)) ==
          ltI 127
            (IntKind.wrap IntKind.i64
              (IntKind.wrap IntKind.i64 (IntKind.wrap IntKind.i8 b) -
                IntKind.wrap IntKind.i64 (IntKind.wrap IntKind.i8 a)))) ==
      eqI 0 0) ==
    ltI (IntKind.wrap IntKind.i8 b) (IntKind.wrap IntKind.i8 a))))
            (some (.bool (false))))
          (pick2 (((!ltI 127 (IntKind.wrap IntKind.u8 (a - b)) == true) == eqI 1 0) ==
    ltI (IntKind.wrap IntKind.i8 b) (IntKind.wrap IntKind.i8 a))
            (some (.bool (((!ltI 127 (IntKind.wrap IntKind.u8 (b - a)) ==
          ltI 127
            (IntKind.wrap IntKind.i64
              (IntKind.wrap IntKind.i64 (IntKind.wrap IntKind.i8 b) -
                IntKind.wrap IntKind.i64 (IntKind.wrap IntKind.i8 a)))) ==
      eqI 0 0) ==
    ltI (IntKind.wrap IntKind.i8 b) (IntKind.wrap IntKind.i8 a))))
            (some (.bool (false)))))
        (none)))
    (pick2 (ltI
    (IntKind.wrap IntKind.i64
      (IntKind.wrap IntKind.i64 (IntKind.wrap IntKind.i8 b) - IntKind.wrap IntKind.i64 (IntKind.wrap IntKind.i8 a)))
    (-128))
      (pick2 (c)
        (pick2 (eqI a b)
          (pick2 ((true == eqI 1 0) == ltI (IntKind.wrap IntKind.i8 b) (IntKind.wrap IntKind.i8 a))
            (some (.bool (((!ltI 127 (IntKind.wrap IntKind.u8 (b - a)) == true) == eqI 0 0) ==
    ltI (IntKind.wrap IntKind.i8 b) (IntKind.wrap IntKind.i8 a))))
            (some (.bool (false))))
          (pick2 (((!ltI 127 (IntKind.wrap IntKind.u8 (a - b)) ==
          ltI 127
            (IntKind.wrap IntKind.i64
              (IntKind.wrap IntKind.i64 (IntKind.wrap IntKind.i8 a) -
                IntKind.wrap IntKind.i64 (IntKind.wrap IntKind.i8 b)))) ==
      eqI 1 0) ==
    ltI (IntKind.wrap IntKind.i8 b) (IntKind.wrap IntKind.i8 a))
            (some (.bool (((!ltI 127 (IntKind.wrap IntKind.u8 (b - a)) == true) == eqI 0 0) ==
    ltI (IntKind.wrap IntKind.i8 b) (IntKind.wrap IntKind.i8 a))))
            (some (.bool (false)))))
        (none))
      (pick2 (c)
        (pick2 (eqI a b)
          (pick2 ((true == eqI 1 0) == ltI (IntKind.wrap IntKind.i8 b) (IntKind.wrap IntKind.i8 a))
            (some (.bool (((!ltI 127 (IntKind.wrap IntKind.u8 (b - a)) ==
          ltI 127
            (IntKind.wrap IntKind.i64
              (IntKind.wrap IntKind.i64 (IntKind.wrap IntKind.i8 b) -
                IntKind.wrap IntKind.i64 (IntKind.wrap IntKind.i8 a)))) ==
      eqI 0 0) ==
    ltI (IntKind.wrap IntKind.i8 b) (IntKind.wrap IntKind.i8 a))))
            (some (.bool (false))))
          (pick2 (((!ltI 127 (IntKind.wrap IntKind.u8 (a - b)) ==
          ltI 127
            (IntKind.wrap IntKind.i64
              (IntKind.wrap IntKind.i64 (IntKind.wrap IntKind.i8 a) -
                IntKind.wrap IntKind.i64 (IntKind.wrap IntKind.i8 b)))) ==
      eqI 1 0) ==
    ltI (IntKind.wrap IntKind.i8 b) (IntKind.wrap IntKind.i8 a))
            (some (.bool (((!ltI 127 (IntKind.wrap IntKind.u8 (b - a)) ==
          ltI 127
            (IntKind.wrap IntKind.i64
              (IntKind.wrap IntKind.i64 (IntKind.wrap IntKind.i8 b) -
                IntKind.wrap IntKind.i64 (IntKind.wrap IntKind.i8 a)))) ==
      eqI 0 0) ==
    ltI (IntKind.wrap IntKind.i8 b) (IntKind.wrap IntKind.i8 a))))
            (some (.bool (false)))))
        (none)))
theorem tr15 (a b n : Int) : run8 15 a b n = T15 a b (eqI (pk n) 15 && eqI 16 16) := by kernel_rfl

end Go.Proofs.Ytpabmjpkkhmidaa.condCompares
