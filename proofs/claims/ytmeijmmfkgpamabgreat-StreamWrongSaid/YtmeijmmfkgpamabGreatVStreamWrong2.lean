/-
  The law StreamWrong at its inputs, by evaluation.
-/
import Derived.Test.YtmeijmmfkgpamabGreatEf4
import Derived.KernelRfl
namespace Go.Proofs.YtmeijmmfkgpamabGreat
open Go.Eva
theorem streamWrong_p12 : isTrue (run Tryz.prog (oneTab 4 (.bool true)) 1000 100 3 ([.int .i64 (.ofNat 12)].map .raw)) = true := by kernel_rfl
theorem streamWrong_p13 : isTrue (run Tryz.prog (oneTab 4 (.bool true)) 1000 100 3 ([.int .i64 (.ofNat 13)].map .raw)) = true := by kernel_rfl
theorem streamWrong_p14 : isTrue (run Tryz.prog (oneTab 4 (.bool true)) 1000 100 3 ([.int .i64 (.ofNat 14)].map .raw)) = true := by kernel_rfl
theorem streamWrong_p15 : isTrue (run Tryz.prog (oneTab 4 (.bool true)) 1000 100 3 ([.int .i64 (.ofNat 15)].map .raw)) = true := by kernel_rfl
theorem streamWrong_hi (m : Nat) : isTrue (run Tryz.prog (oneTab 4 (.bool true)) 1000 100 3 ([.int .i64 (.ofNat (m + 16))].map .raw)) = true := by kernel_rfl
theorem streamWrong_lo (m : Nat) : isTrue (run Tryz.prog (oneTab 4 (.bool true)) 1000 100 3 ([.int .i64 (.negSucc m)].map .raw)) = true := by kernel_rfl
end Go.Proofs.YtmeijmmfkgpamabGreat
