/-
  The law ParserWrong at its inputs, by evaluation.
-/
import Derived.Test.YtmeijmmfkgpamaaGreatEf14
import Derived.KernelRfl
namespace Go.Proofs.YtmeijmmfkgpamaaGreat
open Go.Eva
theorem parserWrong_p18 : isTrue (run Tryz.prog (oneTab 14 (.bool true)) 1000 100 6 ([.int .i64 (.ofNat 18)].map .raw)) = true := by kernel_rfl
theorem parserWrong_p19 : isTrue (run Tryz.prog (oneTab 14 (.bool true)) 1000 100 6 ([.int .i64 (.ofNat 19)].map .raw)) = true := by kernel_rfl
theorem parserWrong_p20 : isTrue (run Tryz.prog (oneTab 14 (.bool true)) 1000 100 6 ([.int .i64 (.ofNat 20)].map .raw)) = true := by kernel_rfl
theorem parserWrong_p21 : isTrue (run Tryz.prog (oneTab 14 (.bool true)) 1000 100 6 ([.int .i64 (.ofNat 21)].map .raw)) = true := by kernel_rfl
theorem parserWrong_p22 : isTrue (run Tryz.prog (oneTab 14 (.bool true)) 1000 100 6 ([.int .i64 (.ofNat 22)].map .raw)) = true := by kernel_rfl
theorem parserWrong_p23 : isTrue (run Tryz.prog (oneTab 14 (.bool true)) 1000 100 6 ([.int .i64 (.ofNat 23)].map .raw)) = true := by kernel_rfl
theorem parserWrong_p24 : isTrue (run Tryz.prog (oneTab 14 (.bool true)) 1000 100 6 ([.int .i64 (.ofNat 24)].map .raw)) = true := by kernel_rfl
theorem parserWrong_hi (m : Nat) : isTrue (run Tryz.prog (oneTab 14 (.bool true)) 1000 100 6 ([.int .i64 (.ofNat (m + 25))].map .raw)) = true := by kernel_rfl
theorem parserWrong_lo (m : Nat) : isTrue (run Tryz.prog (oneTab 14 (.bool true)) 1000 100 6 ([.int .i64 (.negSucc m)].map .raw)) = true := by kernel_rfl
end Go.Proofs.YtmeijmmfkgpamaaGreat
