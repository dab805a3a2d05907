/-
  The law FlowProps at its inputs, by evaluation.
-/
import Derived.Test.YtmeijmmfkgpamaaGreatEf8
import Derived.KernelRfl
namespace Go.Proofs.YtmeijmmfkgpamaaGreat
open Go.Eva
theorem flowProps_p1_3_t_f : isTrue (run Tryz.prog (oneTab 8 (.bool true)) 1000 100 5 ([.int .i64 (.ofNat 1), .int .i64 (.ofNat 3), .bool true, .bool false].map .raw)) = true := by kernel_rfl
theorem flowProps_p1_3_t_t : isTrue (run Tryz.prog (oneTab 8 (.bool true)) 1000 100 5 ([.int .i64 (.ofNat 1), .int .i64 (.ofNat 3), .bool true, .bool true].map .raw)) = true := by kernel_rfl
theorem flowProps_hi1 (m : Nat) (b c : Bool) : isTrue (run Tryz.prog (oneTab 8 (.bool true)) 1000 100 5 ([.int .i64 (.ofNat 1), .int .i64 (.ofNat (m + 4)), .bool b, .bool c].map .raw)) = true := by kernel_rfl
theorem flowProps_lo1 (m : Nat) (b c : Bool) : isTrue (run Tryz.prog (oneTab 8 (.bool true)) 1000 100 5 ([.int .i64 (.ofNat 1), .int .i64 (.negSucc m), .bool b, .bool c].map .raw)) = true := by kernel_rfl
theorem flowProps_p2_0_f_f : isTrue (run Tryz.prog (oneTab 8 (.bool true)) 1000 100 5 ([.int .i64 (.ofNat 2), .int .i64 (.ofNat 0), .bool false, .bool false].map .raw)) = true := by kernel_rfl
theorem flowProps_p2_0_f_t : isTrue (run Tryz.prog (oneTab 8 (.bool true)) 1000 100 5 ([.int .i64 (.ofNat 2), .int .i64 (.ofNat 0), .bool false, .bool true].map .raw)) = true := by kernel_rfl
theorem flowProps_p2_0_t_f : isTrue (run Tryz.prog (oneTab 8 (.bool true)) 1000 100 5 ([.int .i64 (.ofNat 2), .int .i64 (.ofNat 0), .bool true, .bool false].map .raw)) = true := by kernel_rfl
theorem flowProps_p2_0_t_t : isTrue (run Tryz.prog (oneTab 8 (.bool true)) 1000 100 5 ([.int .i64 (.ofNat 2), .int .i64 (.ofNat 0), .bool true, .bool true].map .raw)) = true := by kernel_rfl
theorem flowProps_p2_1_f_f : isTrue (run Tryz.prog (oneTab 8 (.bool true)) 1000 100 5 ([.int .i64 (.ofNat 2), .int .i64 (.ofNat 1), .bool false, .bool false].map .raw)) = true := by kernel_rfl
theorem flowProps_p2_1_f_t : isTrue (run Tryz.prog (oneTab 8 (.bool true)) 1000 100 5 ([.int .i64 (.ofNat 2), .int .i64 (.ofNat 1), .bool false, .bool true].map .raw)) = true := by kernel_rfl
theorem flowProps_p2_1_t_f : isTrue (run Tryz.prog (oneTab 8 (.bool true)) 1000 100 5 ([.int .i64 (.ofNat 2), .int .i64 (.ofNat 1), .bool true, .bool false].map .raw)) = true := by kernel_rfl
theorem flowProps_p2_1_t_t : isTrue (run Tryz.prog (oneTab 8 (.bool true)) 1000 100 5 ([.int .i64 (.ofNat 2), .int .i64 (.ofNat 1), .bool true, .bool true].map .raw)) = true := by kernel_rfl
theorem flowProps_p2_2_f_f : isTrue (run Tryz.prog (oneTab 8 (.bool true)) 1000 100 5 ([.int .i64 (.ofNat 2), .int .i64 (.ofNat 2), .bool false, .bool false].map .raw)) = true := by kernel_rfl
theorem flowProps_p2_2_f_t : isTrue (run Tryz.prog (oneTab 8 (.bool true)) 1000 100 5 ([.int .i64 (.ofNat 2), .int .i64 (.ofNat 2), .bool false, .bool true].map .raw)) = true := by kernel_rfl
theorem flowProps_p2_2_t_f : isTrue (run Tryz.prog (oneTab 8 (.bool true)) 1000 100 5 ([.int .i64 (.ofNat 2), .int .i64 (.ofNat 2), .bool true, .bool false].map .raw)) = true := by kernel_rfl
theorem flowProps_p2_2_t_t : isTrue (run Tryz.prog (oneTab 8 (.bool true)) 1000 100 5 ([.int .i64 (.ofNat 2), .int .i64 (.ofNat 2), .bool true, .bool true].map .raw)) = true := by kernel_rfl
theorem flowProps_p2_3_f_f : isTrue (run Tryz.prog (oneTab 8 (.bool true)) 1000 100 5 ([.int .i64 (.ofNat 2), .int .i64 (.ofNat 3), .bool false, .bool false].map .raw)) = true := by kernel_rfl
theorem flowProps_p2_3_f_t : isTrue (run Tryz.prog (oneTab 8 (.bool true)) 1000 100 5 ([.int .i64 (.ofNat 2), .int .i64 (.ofNat 3), .bool false, .bool true].map .raw)) = true := by kernel_rfl
theorem flowProps_p2_3_t_f : isTrue (run Tryz.prog (oneTab 8 (.bool true)) 1000 100 5 ([.int .i64 (.ofNat 2), .int .i64 (.ofNat 3), .bool true, .bool false].map .raw)) = true := by kernel_rfl
theorem flowProps_p2_3_t_t : isTrue (run Tryz.prog (oneTab 8 (.bool true)) 1000 100 5 ([.int .i64 (.ofNat 2), .int .i64 (.ofNat 3), .bool true, .bool true].map .raw)) = true := by kernel_rfl
theorem flowProps_hi2 (m : Nat) (b c : Bool) : isTrue (run Tryz.prog (oneTab 8 (.bool true)) 1000 100 5 ([.int .i64 (.ofNat 2), .int .i64 (.ofNat (m + 4)), .bool b, .bool c].map .raw)) = true := by kernel_rfl
theorem flowProps_lo2 (m : Nat) (b c : Bool) : isTrue (run Tryz.prog (oneTab 8 (.bool true)) 1000 100 5 ([.int .i64 (.ofNat 2), .int .i64 (.negSucc m), .bool b, .bool c].map .raw)) = true := by kernel_rfl
theorem flowProps_p3_0_f_f : isTrue (run Tryz.prog (oneTab 8 (.bool true)) 1000 100 5 ([.int .i64 (.ofNat 3), .int .i64 (.ofNat 0), .bool false, .bool false].map .raw)) = true := by kernel_rfl
theorem flowProps_p3_0_f_t : isTrue (run Tryz.prog (oneTab 8 (.bool true)) 1000 100 5 ([.int .i64 (.ofNat 3), .int .i64 (.ofNat 0), .bool false, .bool true].map .raw)) = true := by kernel_rfl
theorem flowProps_p3_0_t_f : isTrue (run Tryz.prog (oneTab 8 (.bool true)) 1000 100 5 ([.int .i64 (.ofNat 3), .int .i64 (.ofNat 0), .bool true, .bool false].map .raw)) = true := by kernel_rfl
theorem flowProps_p3_0_t_t : isTrue (run Tryz.prog (oneTab 8 (.bool true)) 1000 100 5 ([.int .i64 (.ofNat 3), .int .i64 (.ofNat 0), .bool true, .bool true].map .raw)) = true := by kernel_rfl
theorem flowProps_p3_1_f_f : isTrue (run Tryz.prog (oneTab 8 (.bool true)) 1000 100 5 ([.int .i64 (.ofNat 3), .int .i64 (.ofNat 1), .bool false, .bool false].map .raw)) = true := by kernel_rfl
theorem flowProps_p3_1_f_t : isTrue (run Tryz.prog (oneTab 8 (.bool true)) 1000 100 5 ([.int .i64 (.ofNat 3), .int .i64 (.ofNat 1), .bool false, .bool true].map .raw)) = true := by kernel_rfl
theorem flowProps_p3_1_t_f : isTrue (run Tryz.prog (oneTab 8 (.bool true)) 1000 100 5 ([.int .i64 (.ofNat 3), .int .i64 (.ofNat 1), .bool true, .bool false].map .raw)) = true := by kernel_rfl
theorem flowProps_p3_1_t_t : isTrue (run Tryz.prog (oneTab 8 (.bool true)) 1000 100 5 ([.int .i64 (.ofNat 3), .int .i64 (.ofNat 1), .bool true, .bool true].map .raw)) = true := by kernel_rfl
theorem flowProps_p3_2_f_f : isTrue (run Tryz.prog (oneTab 8 (.bool true)) 1000 100 5 ([.int .i64 (.ofNat 3), .int .i64 (.ofNat 2), .bool false, .bool false].map .raw)) = true := by kernel_rfl
theorem flowProps_p3_2_f_t : isTrue (run Tryz.prog (oneTab 8 (.bool true)) 1000 100 5 ([.int .i64 (.ofNat 3), .int .i64 (.ofNat 2), .bool false, .bool true].map .raw)) = true := by kernel_rfl
end Go.Proofs.YtmeijmmfkgpamaaGreat
