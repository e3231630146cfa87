/- ExprSums: the trees, the first operator being number 2. -/
import Derived.Test.YtpajehginfbamaaDoorEs2
namespace Go.Proofs.YtpajehginfbamaaDoor.es
open Go.Tv Go.Ev
theorem s20 (a b c : Int) : stS a b c 2 0 = three (rk 0 (rk 2 a b) c) (rk 0 (rk 2 a b) c) (rk 2 a (rk 0 b c)) := by kernel_rfl
theorem s21 (a b c : Int) : stS a b c 2 1 = three (rk 1 (rk 2 a b) c) (rk 1 (rk 2 a b) c) (rk 2 a (rk 1 b c)) := by kernel_rfl
theorem s22 (a b c : Int) : stS a b c 2 2 = three (rk 2 (rk 2 a b) c) (rk 2 (rk 2 a b) c) (rk 2 a (rk 2 b c)) := by kernel_rfl
theorem s23 (a b c : Int) : stS a b c 2 3 = three (rk 3 (rk 2 a b) c) (rk 3 (rk 2 a b) c) (rk 2 a (rk 3 b c)) := by kernel_rfl
theorem s24 (a b c : Int) : stS a b c 2 4 = three (rk 4 (rk 2 a b) c) (rk 4 (rk 2 a b) c) (rk 2 a (rk 4 b c)) := by kernel_rfl
theorem s25 (a b c : Int) : stS a b c 2 5 = three (rk 5 (rk 2 a b) c) (rk 5 (rk 2 a b) c) (rk 2 a (rk 5 b c)) := by kernel_rfl
end Go.Proofs.YtpajehginfbamaaDoor.es
