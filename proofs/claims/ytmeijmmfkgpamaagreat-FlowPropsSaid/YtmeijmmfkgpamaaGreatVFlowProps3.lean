/-
  The law FlowProps at its inputs, by evaluation.
-/
import Derived.Test.YtmeijmmfkgpamaaGreatEf8
import Derived.KernelRfl
namespace Go.Proofs.YtmeijmmfkgpamaaGreat
open Go.Eva
theorem flowProps_p5_1_t_f : isTrue (run Tryz.prog (oneTab 8 (.bool true)) 1000 100 5 ([.int .i64 (.ofNat 5), .int .i64 (.ofNat 1), .bool true, .bool false].map .raw)) = true := by kernel_rfl
theorem flowProps_p5_1_t_t : isTrue (run Tryz.prog (oneTab 8 (.bool true)) 1000 100 5 ([.int .i64 (.ofNat 5), .int .i64 (.ofNat 1), .bool true, .bool true].map .raw)) = true := by kernel_rfl
theorem flowProps_p5_2_f_f : isTrue (run Tryz.prog (oneTab 8 (.bool true)) 1000 100 5 ([.int .i64 (.ofNat 5), .int .i64 (.ofNat 2), .bool false, .bool false].map .raw)) = true := by kernel_rfl
theorem flowProps_p5_2_f_t : isTrue (run Tryz.prog (oneTab 8 (.bool true)) 1000 100 5 ([.int .i64 (.ofNat 5), .int .i64 (.ofNat 2), .bool false, .bool true].map .raw)) = true := by kernel_rfl
theorem flowProps_p5_2_t_f : isTrue (run Tryz.prog (oneTab 8 (.bool true)) 1000 100 5 ([.int .i64 (.ofNat 5), .int .i64 (.ofNat 2), .bool true, .bool false].map .raw)) = true := by kernel_rfl
theorem flowProps_p5_2_t_t : isTrue (run Tryz.prog (oneTab 8 (.bool true)) 1000 100 5 ([.int .i64 (.ofNat 5), .int .i64 (.ofNat 2), .bool true, .bool true].map .raw)) = true := by kernel_rfl
theorem flowProps_p5_3_f_f : isTrue (run Tryz.prog (oneTab 8 (.bool true)) 1000 100 5 ([.int .i64 (.ofNat 5), .int .i64 (.ofNat 3), .bool false, .bool false].map .raw)) = true := by kernel_rfl
theorem flowProps_p5_3_f_t : isTrue (run Tryz.prog (oneTab 8 (.bool true)) 1000 100 5 ([.int .i64 (.ofNat 5), .int .i64 (.ofNat 3), .bool false, .bool true].map .raw)) = true := by kernel_rfl
theorem flowProps_p5_3_t_f : isTrue (run Tryz.prog (oneTab 8 (.bool true)) 1000 100 5 ([.int .i64 (.ofNat 5), .int .i64 (.ofNat 3), .bool true, .bool false].map .raw)) = true := by kernel_rfl
theorem flowProps_p5_3_t_t : isTrue (run Tryz.prog (oneTab 8 (.bool true)) 1000 100 5 ([.int .i64 (.ofNat 5), .int .i64 (.ofNat 3), .bool true, .bool true].map .raw)) = true := by kernel_rfl
theorem flowProps_hi5 (m : Nat) (b c : Bool) : isTrue (run Tryz.prog (oneTab 8 (.bool true)) 1000 100 5 ([.int .i64 (.ofNat 5), .int .i64 (.ofNat (m + 4)), .bool b, .bool c].map .raw)) = true := by kernel_rfl
theorem flowProps_lo5 (m : Nat) (b c : Bool) : isTrue (run Tryz.prog (oneTab 8 (.bool true)) 1000 100 5 ([.int .i64 (.ofNat 5), .int .i64 (.negSucc m), .bool b, .bool c].map .raw)) = true := by kernel_rfl
theorem flowProps_p6_0_f_f : isTrue (run Tryz.prog (oneTab 8 (.bool true)) 1000 100 5 ([.int .i64 (.ofNat 6), .int .i64 (.ofNat 0), .bool false, .bool false].map .raw)) = true := by kernel_rfl
theorem flowProps_p6_0_f_t : isTrue (run Tryz.prog (oneTab 8 (.bool true)) 1000 100 5 ([.int .i64 (.ofNat 6), .int .i64 (.ofNat 0), .bool false, .bool true].map .raw)) = true := by kernel_rfl
theorem flowProps_p6_0_t_f : isTrue (run Tryz.prog (oneTab 8 (.bool true)) 1000 100 5 ([.int .i64 (.ofNat 6), .int .i64 (.ofNat 0), .bool true, .bool false].map .raw)) = true := by kernel_rfl
theorem flowProps_p6_0_t_t : isTrue (run Tryz.prog (oneTab 8 (.bool true)) 1000 100 5 ([.int .i64 (.ofNat 6), .int .i64 (.ofNat 0), .bool true, .bool true].map .raw)) = true := by kernel_rfl
theorem flowProps_p6_1_f_f : isTrue (run Tryz.prog (oneTab 8 (.bool true)) 1000 100 5 ([.int .i64 (.ofNat 6), .int .i64 (.ofNat 1), .bool false, .bool false].map .raw)) = true := by kernel_rfl
theorem flowProps_p6_1_f_t : isTrue (run Tryz.prog (oneTab 8 (.bool true)) 1000 100 5 ([.int .i64 (.ofNat 6), .int .i64 (.ofNat 1), .bool false, .bool true].map .raw)) = true := by kernel_rfl
theorem flowProps_p6_1_t_f : isTrue (run Tryz.prog (oneTab 8 (.bool true)) 1000 100 5 ([.int .i64 (.ofNat 6), .int .i64 (.ofNat 1), .bool true, .bool false].map .raw)) = true := by kernel_rfl
theorem flowProps_p6_1_t_t : isTrue (run Tryz.prog (oneTab 8 (.bool true)) 1000 100 5 ([.int .i64 (.ofNat 6), .int .i64 (.ofNat 1), .bool true, .bool true].map .raw)) = true := by kernel_rfl
theorem flowProps_p6_2_f_f : isTrue (run Tryz.prog (oneTab 8 (.bool true)) 1000 100 5 ([.int .i64 (.ofNat 6), .int .i64 (.ofNat 2), .bool false, .bool false].map .raw)) = true := by kernel_rfl
theorem flowProps_p6_2_f_t : isTrue (run Tryz.prog (oneTab 8 (.bool true)) 1000 100 5 ([.int .i64 (.ofNat 6), .int .i64 (.ofNat 2), .bool false, .bool true].map .raw)) = true := by kernel_rfl
theorem flowProps_p6_2_t_f : isTrue (run Tryz.prog (oneTab 8 (.bool true)) 1000 100 5 ([.int .i64 (.ofNat 6), .int .i64 (.ofNat 2), .bool true, .bool false].map .raw)) = true := by kernel_rfl
theorem flowProps_p6_2_t_t : isTrue (run Tryz.prog (oneTab 8 (.bool true)) 1000 100 5 ([.int .i64 (.ofNat 6), .int .i64 (.ofNat 2), .bool true, .bool true].map .raw)) = true := by kernel_rfl
theorem flowProps_p6_3_f_f : isTrue (run Tryz.prog (oneTab 8 (.bool true)) 1000 100 5 ([.int .i64 (.ofNat 6), .int .i64 (.ofNat 3), .bool false, .bool false].map .raw)) = true := by kernel_rfl
theorem flowProps_p6_3_f_t : isTrue (run Tryz.prog (oneTab 8 (.bool true)) 1000 100 5 ([.int .i64 (.ofNat 6), .int .i64 (.ofNat 3), .bool false, .bool true].map .raw)) = true := by kernel_rfl
theorem flowProps_p6_3_t_f : isTrue (run Tryz.prog (oneTab 8 (.bool true)) 1000 100 5 ([.int .i64 (.ofNat 6), .int .i64 (.ofNat 3), .bool true, .bool false].map .raw)) = true := by kernel_rfl
theorem flowProps_p6_3_t_t : isTrue (run Tryz.prog (oneTab 8 (.bool true)) 1000 100 5 ([.int .i64 (.ofNat 6), .int .i64 (.ofNat 3), .bool true, .bool true].map .raw)) = true := by kernel_rfl
theorem flowProps_hi6 (m : Nat) (b c : Bool) : isTrue (run Tryz.prog (oneTab 8 (.bool true)) 1000 100 5 ([.int .i64 (.ofNat 6), .int .i64 (.ofNat (m + 4)), .bool b, .bool c].map .raw)) = true := by kernel_rfl
theorem flowProps_lo6 (m : Nat) (b c : Bool) : isTrue (run Tryz.prog (oneTab 8 (.bool true)) 1000 100 5 ([.int .i64 (.ofNat 6), .int .i64 (.negSucc m), .bool b, .bool c].map .raw)) = true := by kernel_rfl
theorem flowProps_hi (m : Nat) (j : Int) (b c : Bool) : isTrue (run Tryz.prog (oneTab 8 (.bool true)) 1000 100 5 ([.int .i64 (.ofNat (m + 7)), .int .i64 (j), .bool b, .bool c].map .raw)) = true := by kernel_rfl
theorem flowProps_lo (m : Nat) (j : Int) (b c : Bool) : isTrue (run Tryz.prog (oneTab 8 (.bool true)) 1000 100 5 ([.int .i64 (.negSucc m), .int .i64 (j), .bool b, .bool c].map .raw)) = true := by kernel_rfl
end Go.Proofs.YtmeijmmfkgpamaaGreat
