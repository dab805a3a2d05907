/-
  The law FlowWrong at its inputs, by evaluation.
-/
import Derived.Test.YtmeijmmfkgpamaaGreatEf8
import Derived.KernelRfl
namespace Go.Proofs.YtmeijmmfkgpamaaGreat
open Go.Eva
theorem flowWrong_p22 : isTrue (run Tryz.prog (oneTab 8 (.bool true)) 1000 100 3 ([.int .i64 (.ofNat 22)].map .raw)) = true := by kernel_rfl
theorem flowWrong_p23 : isTrue (run Tryz.prog (oneTab 8 (.bool true)) 1000 100 3 ([.int .i64 (.ofNat 23)].map .raw)) = true := by kernel_rfl
theorem flowWrong_p24 : isTrue (run Tryz.prog (oneTab 8 (.bool true)) 1000 100 3 ([.int .i64 (.ofNat 24)].map .raw)) = true := by kernel_rfl
theorem flowWrong_p25 : isTrue (run Tryz.prog (oneTab 8 (.bool true)) 1000 100 3 ([.int .i64 (.ofNat 25)].map .raw)) = true := by kernel_rfl
theorem flowWrong_p26 : isTrue (run Tryz.prog (oneTab 8 (.bool true)) 1000 100 3 ([.int .i64 (.ofNat 26)].map .raw)) = true := by kernel_rfl
theorem flowWrong_p27 : isTrue (run Tryz.prog (oneTab 8 (.bool true)) 1000 100 3 ([.int .i64 (.ofNat 27)].map .raw)) = true := by kernel_rfl
theorem flowWrong_p28 : isTrue (run Tryz.prog (oneTab 8 (.bool true)) 1000 100 3 ([.int .i64 (.ofNat 28)].map .raw)) = true := by kernel_rfl
theorem flowWrong_p29 : isTrue (run Tryz.prog (oneTab 8 (.bool true)) 1000 100 3 ([.int .i64 (.ofNat 29)].map .raw)) = true := by kernel_rfl
theorem flowWrong_p30 : isTrue (run Tryz.prog (oneTab 8 (.bool true)) 1000 100 3 ([.int .i64 (.ofNat 30)].map .raw)) = true := by kernel_rfl
theorem flowWrong_p31 : isTrue (run Tryz.prog (oneTab 8 (.bool true)) 1000 100 3 ([.int .i64 (.ofNat 31)].map .raw)) = true := by kernel_rfl
theorem flowWrong_p32 : isTrue (run Tryz.prog (oneTab 8 (.bool true)) 1000 100 3 ([.int .i64 (.ofNat 32)].map .raw)) = true := by kernel_rfl
theorem flowWrong_p33 : isTrue (run Tryz.prog (oneTab 8 (.bool true)) 1000 100 3 ([.int .i64 (.ofNat 33)].map .raw)) = true := by kernel_rfl
theorem flowWrong_p34 : isTrue (run Tryz.prog (oneTab 8 (.bool true)) 1000 100 3 ([.int .i64 (.ofNat 34)].map .raw)) = true := by kernel_rfl
theorem flowWrong_p35 : isTrue (run Tryz.prog (oneTab 8 (.bool true)) 1000 100 3 ([.int .i64 (.ofNat 35)].map .raw)) = true := by kernel_rfl
theorem flowWrong_p36 : isTrue (run Tryz.prog (oneTab 8 (.bool true)) 1000 100 3 ([.int .i64 (.ofNat 36)].map .raw)) = true := by kernel_rfl
theorem flowWrong_p37 : isTrue (run Tryz.prog (oneTab 8 (.bool true)) 1000 100 3 ([.int .i64 (.ofNat 37)].map .raw)) = true := by kernel_rfl
theorem flowWrong_p38 : isTrue (run Tryz.prog (oneTab 8 (.bool true)) 1000 100 3 ([.int .i64 (.ofNat 38)].map .raw)) = true := by kernel_rfl
theorem flowWrong_p39 : isTrue (run Tryz.prog (oneTab 8 (.bool true)) 1000 100 3 ([.int .i64 (.ofNat 39)].map .raw)) = true := by kernel_rfl
theorem flowWrong_p40 : isTrue (run Tryz.prog (oneTab 8 (.bool true)) 1000 100 3 ([.int .i64 (.ofNat 40)].map .raw)) = true := by kernel_rfl
theorem flowWrong_hi (m : Nat) : isTrue (run Tryz.prog (oneTab 8 (.bool true)) 1000 100 3 ([.int .i64 (.ofNat (m + 41))].map .raw)) = true := by kernel_rfl
theorem flowWrong_lo (m : Nat) : isTrue (run Tryz.prog (oneTab 8 (.bool true)) 1000 100 3 ([.int .i64 (.negSucc m)].map .raw)) = true := by kernel_rfl
end Go.Proofs.YtmeijmmfkgpamaaGreat
