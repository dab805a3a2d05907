/-
  The law StreamWrong at its inputs, by evaluation.
-/
import Derived.Test.YtmeijmmfkgpamabGreatEf4
import Derived.KernelRfl
namespace Go.Proofs.YtmeijmmfkgpamabGreat
open Go.Eva
theorem streamWrong_p6 : isTrue (run Tryz.prog (oneTab 4 (.bool true)) 1000 100 3 ([.int .i64 (.ofNat 6)].map .raw)) = true := by kernel_rfl
theorem streamWrong_p7 : isTrue (run Tryz.prog (oneTab 4 (.bool true)) 1000 100 3 ([.int .i64 (.ofNat 7)].map .raw)) = true := by kernel_rfl
theorem streamWrong_p8 : isTrue (run Tryz.prog (oneTab 4 (.bool true)) 1000 100 3 ([.int .i64 (.ofNat 8)].map .raw)) = true := by kernel_rfl
theorem streamWrong_p9 : isTrue (run Tryz.prog (oneTab 4 (.bool true)) 1000 100 3 ([.int .i64 (.ofNat 9)].map .raw)) = true := by kernel_rfl
theorem streamWrong_p10 : isTrue (run Tryz.prog (oneTab 4 (.bool true)) 1000 100 3 ([.int .i64 (.ofNat 10)].map .raw)) = true := by kernel_rfl
theorem streamWrong_p11 : isTrue (run Tryz.prog (oneTab 4 (.bool true)) 1000 100 3 ([.int .i64 (.ofNat 11)].map .raw)) = true := by kernel_rfl
end Go.Proofs.YtmeijmmfkgpamabGreat
