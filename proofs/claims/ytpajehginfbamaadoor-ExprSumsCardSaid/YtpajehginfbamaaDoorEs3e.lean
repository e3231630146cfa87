/- ExprSums: the trees, the first operator being number 4. -/
import Derived.Test.YtpajehginfbamaaDoorEs2
namespace Go.Proofs.YtpajehginfbamaaDoor.es
open Go.Tv Go.Ev
theorem s40 (a b c : Int) : stS a b c 4 0 = three (rk 4 a (rk 0 b c)) (rk 0 (rk 4 a b) c) (rk 4 a (rk 0 b c)) := by kernel_rfl
theorem s41 (a b c : Int) : stS a b c 4 1 = three (rk 4 a (rk 1 b c)) (rk 1 (rk 4 a b) c) (rk 4 a (rk 1 b c)) := by kernel_rfl
theorem s42 (a b c : Int) : stS a b c 4 2 = three (rk 4 a (rk 2 b c)) (rk 2 (rk 4 a b) c) (rk 4 a (rk 2 b c)) := by kernel_rfl
theorem s43 (a b c : Int) : stS a b c 4 3 = three (rk 4 a (rk 3 b c)) (rk 3 (rk 4 a b) c) (rk 4 a (rk 3 b c)) := by kernel_rfl
theorem s44 (a b c : Int) : stS a b c 4 4 = three (rk 4 (rk 4 a b) c) (rk 4 (rk 4 a b) c) (rk 4 a (rk 4 b c)) := by kernel_rfl
theorem s45 (a b c : Int) : stS a b c 4 5 = three (rk 5 (rk 4 a b) c) (rk 5 (rk 4 a b) c) (rk 4 a (rk 5 b c)) := by kernel_rfl
end Go.Proofs.YtpajehginfbamaaDoor.es
