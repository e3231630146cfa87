/- ExprSums: the trees, the first operator being number 3. -/
import Derived.Test.YtpajehginfbamaaDoorEs2
namespace Go.Proofs.YtpajehginfbamaaDoor.es
open Go.Tv Go.Ev
theorem s30 (a b c : Int) : stS a b c 3 0 = three (rk 3 a (rk 0 b c)) (rk 0 (rk 3 a b) c) (rk 3 a (rk 0 b c)) := by kernel_rfl
theorem s31 (a b c : Int) : stS a b c 3 1 = three (rk 3 a (rk 1 b c)) (rk 1 (rk 3 a b) c) (rk 3 a (rk 1 b c)) := by kernel_rfl
theorem s32 (a b c : Int) : stS a b c 3 2 = three (rk 3 a (rk 2 b c)) (rk 2 (rk 3 a b) c) (rk 3 a (rk 2 b c)) := by kernel_rfl
theorem s33 (a b c : Int) : stS a b c 3 3 = three (rk 3 (rk 3 a b) c) (rk 3 (rk 3 a b) c) (rk 3 a (rk 3 b c)) := by kernel_rfl
theorem s34 (a b c : Int) : stS a b c 3 4 = three (rk 4 (rk 3 a b) c) (rk 4 (rk 3 a b) c) (rk 3 a (rk 4 b c)) := by kernel_rfl
theorem s35 (a b c : Int) : stS a b c 3 5 = three (rk 5 (rk 3 a b) c) (rk 5 (rk 3 a b) c) (rk 3 a (rk 5 b c)) := by kernel_rfl
end Go.Proofs.YtpajehginfbamaaDoor.es
