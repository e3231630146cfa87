/- ExprSums: the trees, the first operator being number 5. -/
import Derived.Test.YtpajehginfbamaaDoorEs2
namespace Go.Proofs.YtpajehginfbamaaDoor.es
open Go.Tv Go.Ev
theorem s50 (a b c : Int) : stS a b c 5 0 = three (rk 5 a (rk 0 b c)) (rk 0 (rk 5 a b) c) (rk 5 a (rk 0 b c)) := by kernel_rfl
theorem s51 (a b c : Int) : stS a b c 5 1 = three (rk 5 a (rk 1 b c)) (rk 1 (rk 5 a b) c) (rk 5 a (rk 1 b c)) := by kernel_rfl
theorem s52 (a b c : Int) : stS a b c 5 2 = three (rk 5 a (rk 2 b c)) (rk 2 (rk 5 a b) c) (rk 5 a (rk 2 b c)) := by kernel_rfl
theorem s53 (a b c : Int) : stS a b c 5 3 = three (rk 5 a (rk 3 b c)) (rk 3 (rk 5 a b) c) (rk 5 a (rk 3 b c)) := by kernel_rfl
theorem s54 (a b c : Int) : stS a b c 5 4 = three (rk 5 a (rk 4 b c)) (rk 4 (rk 5 a b) c) (rk 5 a (rk 4 b c)) := by kernel_rfl
theorem s55 (a b c : Int) : stS a b c 5 5 = three (rk 5 (rk 5 a b) c) (rk 5 (rk 5 a b) c) (rk 5 a (rk 5 b c)) := by kernel_rfl
end Go.Proofs.YtpajehginfbamaaDoor.es
