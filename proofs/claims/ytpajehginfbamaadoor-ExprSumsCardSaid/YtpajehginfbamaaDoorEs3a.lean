/- ExprSums: the trees, the first operator being number 0. -/
import Derived.Test.YtpajehginfbamaaDoorEs2
namespace Go.Proofs.YtpajehginfbamaaDoor.es
open Go.Tv Go.Ev
theorem s00 (a b c : Int) : stS a b c 0 0 = three (rk 0 (rk 0 a b) c) (rk 0 (rk 0 a b) c) (rk 0 a (rk 0 b c)) := by kernel_rfl
theorem s01 (a b c : Int) : stS a b c 0 1 = three (rk 1 (rk 0 a b) c) (rk 1 (rk 0 a b) c) (rk 0 a (rk 1 b c)) := by kernel_rfl
theorem s02 (a b c : Int) : stS a b c 0 2 = three (rk 0 a (rk 2 b c)) (rk 2 (rk 0 a b) c) (rk 0 a (rk 2 b c)) := by kernel_rfl
theorem s03 (a b c : Int) : stS a b c 0 3 = three (rk 3 (rk 0 a b) c) (rk 3 (rk 0 a b) c) (rk 0 a (rk 3 b c)) := by kernel_rfl
theorem s04 (a b c : Int) : stS a b c 0 4 = three (rk 4 (rk 0 a b) c) (rk 4 (rk 0 a b) c) (rk 0 a (rk 4 b c)) := by kernel_rfl
theorem s05 (a b c : Int) : stS a b c 0 5 = three (rk 5 (rk 0 a b) c) (rk 5 (rk 0 a b) c) (rk 0 a (rk 5 b c)) := by kernel_rfl
end Go.Proofs.YtpajehginfbamaaDoor.es
