/-
  The law ParserShapes at its inputs, by evaluation.
-/
import Derived.Test.YtmeijmmfkgpamaaGreatEf14
import Derived.KernelRfl
namespace Go.Proofs.YtmeijmmfkgpamaaGreat
open Go.Eva
theorem parserShapes_p16 : isTrue (run Tryz.prog (oneTab 14 (.bool true)) 1000 100 7 ([.int .i64 (.ofNat 16)].map .raw)) = true := by kernel_rfl
theorem parserShapes_p17 : isTrue (run Tryz.prog (oneTab 14 (.bool true)) 1000 100 7 ([.int .i64 (.ofNat 17)].map .raw)) = true := by kernel_rfl
theorem parserShapes_p18 : isTrue (run Tryz.prog (oneTab 14 (.bool true)) 1000 100 7 ([.int .i64 (.ofNat 18)].map .raw)) = true := by kernel_rfl
theorem parserShapes_p19 : isTrue (run Tryz.prog (oneTab 14 (.bool true)) 1000 100 7 ([.int .i64 (.ofNat 19)].map .raw)) = true := by kernel_rfl
theorem parserShapes_p20 : isTrue (run Tryz.prog (oneTab 14 (.bool true)) 1000 100 7 ([.int .i64 (.ofNat 20)].map .raw)) = true := by kernel_rfl
theorem parserShapes_hi (m : Nat) : isTrue (run Tryz.prog (oneTab 14 (.bool true)) 1000 100 7 ([.int .i64 (.ofNat (m + 21))].map .raw)) = true := by kernel_rfl
theorem parserShapes_lo (m : Nat) : isTrue (run Tryz.prog (oneTab 14 (.bool true)) 1000 100 7 ([.int .i64 (.negSucc m)].map .raw)) = true := by kernel_rfl
end Go.Proofs.YtmeijmmfkgpamaaGreat
