/- ExprSums: the trees, the first operator being number 1. -/
import Derived.Test.YtpajehginfbamaaDoorEs2
namespace Go.Proofs.YtpajehginfbamaaDoor.es
open Go.Tv Go.Ev
theorem s10 (a b c : Int) : stS a b c 1 0 = three (rk 0 (rk 1 a b) c) (rk 0 (rk 1 a b) c) (rk 1 a (rk 0 b c)) := by kernel_rfl
theorem s11 (a b c : Int) : stS a b c 1 1 = three (rk 1 (rk 1 a b) c) (rk 1 (rk 1 a b) c) (rk 1 a (rk 1 b c)) := by kernel_rfl
theorem s12 (a b c : Int) : stS a b c 1 2 = three (rk 1 a (rk 2 b c)) (rk 2 (rk 1 a b) c) (rk 1 a (rk 2 b c)) := by kernel_rfl
theorem s13 (a b c : Int) : stS a b c 1 3 = three (rk 3 (rk 1 a b) c) (rk 3 (rk 1 a b) c) (rk 1 a (rk 3 b c)) := by kernel_rfl
theorem s14 (a b c : Int) : stS a b c 1 4 = three (rk 4 (rk 1 a b) c) (rk 4 (rk 1 a b) c) (rk 1 a (rk 4 b c)) := by kernel_rfl
theorem s15 (a b c : Int) : stS a b c 1 5 = three (rk 5 (rk 1 a b) c) (rk 5 (rk 1 a b) c) (rk 1 a (rk 5 b c)) := by kernel_rfl
end Go.Proofs.YtpajehginfbamaaDoor.es
