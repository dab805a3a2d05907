/-
  The law ParserWrong at its inputs, by evaluation.
-/
import Derived.Test.YtmeijmmfkgpamaaGreatEf14
import Derived.KernelRfl
namespace Go.Proofs.YtmeijmmfkgpamaaGreat
open Go.Eva
theorem parserWrong_p0 : isTrue (run Tryz.prog (oneTab 14 (.bool true)) 1000 100 6 ([.int .i64 (.ofNat 0)].map .raw)) = true := by kernel_rfl
theorem parserWrong_p1 : isTrue (run Tryz.prog (oneTab 14 (.bool true)) 1000 100 6 ([.int .i64 (.ofNat 1)].map .raw)) = true := by kernel_rfl
theorem parserWrong_p2 : isTrue (run Tryz.prog (oneTab 14 (.bool true)) 1000 100 6 ([.int .i64 (.ofNat 2)].map .raw)) = true := by kernel_rfl
theorem parserWrong_p3 : isTrue (run Tryz.prog (oneTab 14 (.bool true)) 1000 100 6 ([.int .i64 (.ofNat 3)].map .raw)) = true := by kernel_rfl
theorem parserWrong_p4 : isTrue (run Tryz.prog (oneTab 14 (.bool true)) 1000 100 6 ([.int .i64 (.ofNat 4)].map .raw)) = true := by kernel_rfl
theorem parserWrong_p5 : isTrue (run Tryz.prog (oneTab 14 (.bool true)) 1000 100 6 ([.int .i64 (.ofNat 5)].map .raw)) = true := by kernel_rfl
theorem parserWrong_p6 : isTrue (run Tryz.prog (oneTab 14 (.bool true)) 1000 100 6 ([.int .i64 (.ofNat 6)].map .raw)) = true := by kernel_rfl
theorem parserWrong_p7 : isTrue (run Tryz.prog (oneTab 14 (.bool true)) 1000 100 6 ([.int .i64 (.ofNat 7)].map .raw)) = true := by kernel_rfl
theorem parserWrong_p8 : isTrue (run Tryz.prog (oneTab 14 (.bool true)) 1000 100 6 ([.int .i64 (.ofNat 8)].map .raw)) = true := by kernel_rfl
end Go.Proofs.YtmeijmmfkgpamaaGreat
