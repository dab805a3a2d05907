/-
  The law FlowPairs at its inputs, by evaluation.
-/
import Derived.Test.YtmeijmmfkgpamaaGreatEf8
import Derived.KernelRfl
namespace Go.Proofs.YtmeijmmfkgpamaaGreat
open Go.Eva
theorem flowPairs_p0 : isTrue (run Tryz.prog (oneTab 8 (.bool true)) 1000 100 4 ([.int .i64 (.ofNat 0)].map .raw)) = true := by kernel_rfl
theorem flowPairs_p1 : isTrue (run Tryz.prog (oneTab 8 (.bool true)) 1000 100 4 ([.int .i64 (.ofNat 1)].map .raw)) = true := by kernel_rfl
theorem flowPairs_p2 : isTrue (run Tryz.prog (oneTab 8 (.bool true)) 1000 100 4 ([.int .i64 (.ofNat 2)].map .raw)) = true := by kernel_rfl
theorem flowPairs_p3 : isTrue (run Tryz.prog (oneTab 8 (.bool true)) 1000 100 4 ([.int .i64 (.ofNat 3)].map .raw)) = true := by kernel_rfl
theorem flowPairs_p4 : isTrue (run Tryz.prog (oneTab 8 (.bool true)) 1000 100 4 ([.int .i64 (.ofNat 4)].map .raw)) = true := by kernel_rfl
theorem flowPairs_p5 : isTrue (run Tryz.prog (oneTab 8 (.bool true)) 1000 100 4 ([.int .i64 (.ofNat 5)].map .raw)) = true := by kernel_rfl
theorem flowPairs_p6 : isTrue (run Tryz.prog (oneTab 8 (.bool true)) 1000 100 4 ([.int .i64 (.ofNat 6)].map .raw)) = true := by kernel_rfl
theorem flowPairs_p7 : isTrue (run Tryz.prog (oneTab 8 (.bool true)) 1000 100 4 ([.int .i64 (.ofNat 7)].map .raw)) = true := by kernel_rfl
theorem flowPairs_p8 : isTrue (run Tryz.prog (oneTab 8 (.bool true)) 1000 100 4 ([.int .i64 (.ofNat 8)].map .raw)) = true := by kernel_rfl
theorem flowPairs_p9 : isTrue (run Tryz.prog (oneTab 8 (.bool true)) 1000 100 4 ([.int .i64 (.ofNat 9)].map .raw)) = true := by kernel_rfl
theorem flowPairs_p10 : isTrue (run Tryz.prog (oneTab 8 (.bool true)) 1000 100 4 ([.int .i64 (.ofNat 10)].map .raw)) = true := by kernel_rfl
theorem flowPairs_p11 : isTrue (run Tryz.prog (oneTab 8 (.bool true)) 1000 100 4 ([.int .i64 (.ofNat 11)].map .raw)) = true := by kernel_rfl
theorem flowPairs_p12 : isTrue (run Tryz.prog (oneTab 8 (.bool true)) 1000 100 4 ([.int .i64 (.ofNat 12)].map .raw)) = true := by kernel_rfl
theorem flowPairs_p13 : isTrue (run Tryz.prog (oneTab 8 (.bool true)) 1000 100 4 ([.int .i64 (.ofNat 13)].map .raw)) = true := by kernel_rfl
theorem flowPairs_p14 : isTrue (run Tryz.prog (oneTab 8 (.bool true)) 1000 100 4 ([.int .i64 (.ofNat 14)].map .raw)) = true := by kernel_rfl
theorem flowPairs_p15 : isTrue (run Tryz.prog (oneTab 8 (.bool true)) 1000 100 4 ([.int .i64 (.ofNat 15)].map .raw)) = true := by kernel_rfl
theorem flowPairs_p16 : isTrue (run Tryz.prog (oneTab 8 (.bool true)) 1000 100 4 ([.int .i64 (.ofNat 16)].map .raw)) = true := by kernel_rfl
theorem flowPairs_hi (m : Nat) : isTrue (run Tryz.prog (oneTab 8 (.bool true)) 1000 100 4 ([.int .i64 (.ofNat (m + 17))].map .raw)) = true := by kernel_rfl
theorem flowPairs_lo (m : Nat) : isTrue (run Tryz.prog (oneTab 8 (.bool true)) 1000 100 4 ([.int .i64 (.negSucc m)].map .raw)) = true := by kernel_rfl
end Go.Proofs.YtmeijmmfkgpamaaGreat
