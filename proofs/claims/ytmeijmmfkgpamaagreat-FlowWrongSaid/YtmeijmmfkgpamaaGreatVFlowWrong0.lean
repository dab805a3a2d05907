/-
  The law FlowWrong at its inputs, by evaluation.
-/
import Derived.Test.YtmeijmmfkgpamaaGreatEf8
import Derived.KernelRfl
namespace Go.Proofs.YtmeijmmfkgpamaaGreat
open Go.Eva
theorem flowWrong_p0 : isTrue (run Tryz.prog (oneTab 8 (.bool true)) 1000 100 3 ([.int .i64 (.ofNat 0)].map .raw)) = true := by kernel_rfl
theorem flowWrong_p1 : isTrue (run Tryz.prog (oneTab 8 (.bool true)) 1000 100 3 ([.int .i64 (.ofNat 1)].map .raw)) = true := by kernel_rfl
theorem flowWrong_p2 : isTrue (run Tryz.prog (oneTab 8 (.bool true)) 1000 100 3 ([.int .i64 (.ofNat 2)].map .raw)) = true := by kernel_rfl
theorem flowWrong_p3 : isTrue (run Tryz.prog (oneTab 8 (.bool true)) 1000 100 3 ([.int .i64 (.ofNat 3)].map .raw)) = true := by kernel_rfl
theorem flowWrong_p4 : isTrue (run Tryz.prog (oneTab 8 (.bool true)) 1000 100 3 ([.int .i64 (.ofNat 4)].map .raw)) = true := by kernel_rfl
theorem flowWrong_p5 : isTrue (run Tryz.prog (oneTab 8 (.bool true)) 1000 100 3 ([.int .i64 (.ofNat 5)].map .raw)) = true := by kernel_rfl
theorem flowWrong_p6 : isTrue (run Tryz.prog (oneTab 8 (.bool true)) 1000 100 3 ([.int .i64 (.ofNat 6)].map .raw)) = true := by kernel_rfl
theorem flowWrong_p7 : isTrue (run Tryz.prog (oneTab 8 (.bool true)) 1000 100 3 ([.int .i64 (.ofNat 7)].map .raw)) = true := by kernel_rfl
theorem flowWrong_p8 : isTrue (run Tryz.prog (oneTab 8 (.bool true)) 1000 100 3 ([.int .i64 (.ofNat 8)].map .raw)) = true := by kernel_rfl
theorem flowWrong_p9 : isTrue (run Tryz.prog (oneTab 8 (.bool true)) 1000 100 3 ([.int .i64 (.ofNat 9)].map .raw)) = true := by kernel_rfl
theorem flowWrong_p10 : isTrue (run Tryz.prog (oneTab 8 (.bool true)) 1000 100 3 ([.int .i64 (.ofNat 10)].map .raw)) = true := by kernel_rfl
theorem flowWrong_p11 : isTrue (run Tryz.prog (oneTab 8 (.bool true)) 1000 100 3 ([.int .i64 (.ofNat 11)].map .raw)) = true := by kernel_rfl
theorem flowWrong_p12 : isTrue (run Tryz.prog (oneTab 8 (.bool true)) 1000 100 3 ([.int .i64 (.ofNat 12)].map .raw)) = true := by kernel_rfl
theorem flowWrong_p13 : isTrue (run Tryz.prog (oneTab 8 (.bool true)) 1000 100 3 ([.int .i64 (.ofNat 13)].map .raw)) = true := by kernel_rfl
theorem flowWrong_p14 : isTrue (run Tryz.prog (oneTab 8 (.bool true)) 1000 100 3 ([.int .i64 (.ofNat 14)].map .raw)) = true := by kernel_rfl
theorem flowWrong_p15 : isTrue (run Tryz.prog (oneTab 8 (.bool true)) 1000 100 3 ([.int .i64 (.ofNat 15)].map .raw)) = true := by kernel_rfl
theorem flowWrong_p16 : isTrue (run Tryz.prog (oneTab 8 (.bool true)) 1000 100 3 ([.int .i64 (.ofNat 16)].map .raw)) = true := by kernel_rfl
theorem flowWrong_p17 : isTrue (run Tryz.prog (oneTab 8 (.bool true)) 1000 100 3 ([.int .i64 (.ofNat 17)].map .raw)) = true := by kernel_rfl
theorem flowWrong_p18 : isTrue (run Tryz.prog (oneTab 8 (.bool true)) 1000 100 3 ([.int .i64 (.ofNat 18)].map .raw)) = true := by kernel_rfl
theorem flowWrong_p19 : isTrue (run Tryz.prog (oneTab 8 (.bool true)) 1000 100 3 ([.int .i64 (.ofNat 19)].map .raw)) = true := by kernel_rfl
theorem flowWrong_p20 : isTrue (run Tryz.prog (oneTab 8 (.bool true)) 1000 100 3 ([.int .i64 (.ofNat 20)].map .raw)) = true := by kernel_rfl
theorem flowWrong_p21 : isTrue (run Tryz.prog (oneTab 8 (.bool true)) 1000 100 3 ([.int .i64 (.ofNat 21)].map .raw)) = true := by kernel_rfl
end Go.Proofs.YtmeijmmfkgpamaaGreat
