/-
  The law StreamWrong at its inputs, by evaluation.
-/
import Derived.Test.YtmeijmmfkgpamabGreatEf4
import Derived.KernelRfl
namespace Go.Proofs.YtmeijmmfkgpamabGreat
open Go.Eva
theorem streamWrong_p0 : isTrue (run Tryz.prog (oneTab 4 (.bool true)) 1000 100 3 ([.int .i64 (.ofNat 0)].map .raw)) = true := by kernel_rfl
theorem streamWrong_p1 : isTrue (run Tryz.prog (oneTab 4 (.bool true)) 1000 100 3 ([.int .i64 (.ofNat 1)].map .raw)) = true := by kernel_rfl
theorem streamWrong_p2 : isTrue (run Tryz.prog (oneTab 4 (.bool true)) 1000 100 3 ([.int .i64 (.ofNat 2)].map .raw)) = true := by kernel_rfl
theorem streamWrong_p3 : isTrue (run Tryz.prog (oneTab 4 (.bool true)) 1000 100 3 ([.int .i64 (.ofNat 3)].map .raw)) = true := by kernel_rfl
theorem streamWrong_p4 : isTrue (run Tryz.prog (oneTab 4 (.bool true)) 1000 100 3 ([.int .i64 (.ofNat 4)].map .raw)) = true := by kernel_rfl
theorem streamWrong_p5 : isTrue (run Tryz.prog (oneTab 4 (.bool true)) 1000 100 3 ([.int .i64 (.ofNat 5)].map .raw)) = true := by kernel_rfl
end Go.Proofs.YtmeijmmfkgpamabGreat
