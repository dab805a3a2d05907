/-
  The law ParserShapes at its inputs, by evaluation.
-/
import Derived.Test.YtmeijmmfkgpamaaGreatEf14
import Derived.KernelRfl
namespace Go.Proofs.YtmeijmmfkgpamaaGreat
open Go.Eva
theorem parserShapes_p8 : isTrue (run Tryz.prog (oneTab 14 (.bool true)) 1000 100 7 ([.int .i64 (.ofNat 8)].map .raw)) = true := by kernel_rfl
theorem parserShapes_p9 : isTrue (run Tryz.prog (oneTab 14 (.bool true)) 1000 100 7 ([.int .i64 (.ofNat 9)].map .raw)) = true := by kernel_rfl
theorem parserShapes_p10 : isTrue (run Tryz.prog (oneTab 14 (.bool true)) 1000 100 7 ([.int .i64 (.ofNat 10)].map .raw)) = true := by kernel_rfl
theorem parserShapes_p11 : isTrue (run Tryz.prog (oneTab 14 (.bool true)) 1000 100 7 ([.int .i64 (.ofNat 11)].map .raw)) = true := by kernel_rfl
theorem parserShapes_p12 : isTrue (run Tryz.prog (oneTab 14 (.bool true)) 1000 100 7 ([.int .i64 (.ofNat 12)].map .raw)) = true := by kernel_rfl
theorem parserShapes_p13 : isTrue (run Tryz.prog (oneTab 14 (.bool true)) 1000 100 7 ([.int .i64 (.ofNat 13)].map .raw)) = true := by kernel_rfl
theorem parserShapes_p14 : isTrue (run Tryz.prog (oneTab 14 (.bool true)) 1000 100 7 ([.int .i64 (.ofNat 14)].map .raw)) = true := by kernel_rfl
theorem parserShapes_p15 : isTrue (run Tryz.prog (oneTab 14 (.bool true)) 1000 100 7 ([.int .i64 (.ofNat 15)].map .raw)) = true := by kernel_rfl
end Go.Proofs.YtmeijmmfkgpamaaGreat
