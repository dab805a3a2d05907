/-
  The law ParserWrong at its inputs, by evaluation.
-/
import Derived.Test.YtmeijmmfkgpamaaGreatEf14
import Derived.KernelRfl
namespace Go.Proofs.YtmeijmmfkgpamaaGreat
open Go.Eva
theorem parserWrong_p9 : isTrue (run Tryz.prog (oneTab 14 (.bool true)) 1000 100 6 ([.int .i64 (.ofNat 9)].map .raw)) = true := by kernel_rfl
theorem parserWrong_p10 : isTrue (run Tryz.prog (oneTab 14 (.bool true)) 1000 100 6 ([.int .i64 (.ofNat 10)].map .raw)) = true := by kernel_rfl
theorem parserWrong_p11 : isTrue (run Tryz.prog (oneTab 14 (.bool true)) 1000 100 6 ([.int .i64 (.ofNat 11)].map .raw)) = true := by kernel_rfl
theorem parserWrong_p12 : isTrue (run Tryz.prog (oneTab 14 (.bool true)) 1000 100 6 ([.int .i64 (.ofNat 12)].map .raw)) = true := by kernel_rfl
theorem parserWrong_p13 : isTrue (run Tryz.prog (oneTab 14 (.bool true)) 1000 100 6 ([.int .i64 (.ofNat 13)].map .raw)) = true := by kernel_rfl
theorem parserWrong_p14 : isTrue (run Tryz.prog (oneTab 14 (.bool true)) 1000 100 6 ([.int .i64 (.ofNat 14)].map .raw)) = true := by kernel_rfl
theorem parserWrong_p15 : isTrue (run Tryz.prog (oneTab 14 (.bool true)) 1000 100 6 ([.int .i64 (.ofNat 15)].map .raw)) = true := by kernel_rfl
theorem parserWrong_p16 : isTrue (run Tryz.prog (oneTab 14 (.bool true)) 1000 100 6 ([.int .i64 (.ofNat 16)].map .raw)) = true := by kernel_rfl
theorem parserWrong_p17 : isTrue (run Tryz.prog (oneTab 14 (.bool true)) 1000 100 6 ([.int .i64 (.ofNat 17)].map .raw)) = true := by kernel_rfl
end Go.Proofs.YtmeijmmfkgpamaaGreat
