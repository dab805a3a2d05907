/-
  The law ParserShapes at its inputs, by evaluation.
-/
import Derived.Test.YtmeijmmfkgpamaaGreatEf14
import Derived.KernelRfl
namespace Go.Proofs.YtmeijmmfkgpamaaGreat
open Go.Eva
theorem parserShapes_p0 : isTrue (run Tryz.prog (oneTab 14 (.bool true)) 1000 100 7 ([.int .i64 (.ofNat 0)].map .raw)) = true := by kernel_rfl
theorem parserShapes_p1 : isTrue (run Tryz.prog (oneTab 14 (.bool true)) 1000 100 7 ([.int .i64 (.ofNat 1)].map .raw)) = true := by kernel_rfl
theorem parserShapes_p2 : isTrue (run Tryz.prog (oneTab 14 (.bool true)) 1000 100 7 ([.int .i64 (.ofNat 2)].map .raw)) = true := by kernel_rfl
theorem parserShapes_p3 : isTrue (run Tryz.prog (oneTab 14 (.bool true)) 1000 100 7 ([.int .i64 (.ofNat 3)].map .raw)) = true := by kernel_rfl
theorem parserShapes_p4 : isTrue (run Tryz.prog (oneTab 14 (.bool true)) 1000 100 7 ([.int .i64 (.ofNat 4)].map .raw)) = true := by kernel_rfl
theorem parserShapes_p5 : isTrue (run Tryz.prog (oneTab 14 (.bool true)) 1000 100 7 ([.int .i64 (.ofNat 5)].map .raw)) = true := by kernel_rfl
theorem parserShapes_p6 : isTrue (run Tryz.prog (oneTab 14 (.bool true)) 1000 100 7 ([.int .i64 (.ofNat 6)].map .raw)) = true := by kernel_rfl
theorem parserShapes_p7 : isTrue (run Tryz.prog (oneTab 14 (.bool true)) 1000 100 7 ([.int .i64 (.ofNat 7)].map .raw)) = true := by kernel_rfl
end Go.Proofs.YtmeijmmfkgpamaaGreat
