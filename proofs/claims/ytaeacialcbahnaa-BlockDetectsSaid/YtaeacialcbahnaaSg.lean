/-
  Walks: functions of Go's package slices, at []int.
-/
import Derived.Test.YtaeacialcbahnaaCh
namespace Go.Proofs.Ytaeacialcbahnaa
open Go.Abs
set_option linter.unusedVariables false
set_option linter.unusedSimpArgs false
-- hb: 2000000
variable {κ : Ctx} {σ : List Res} {K : Ret → List Res → Prop} {o o' : Option (Option (Nat × Nat))}

-- slices.IndexFunc[[]int,int]
-- (no function slices.IndexFunc[[]int,int] in this program)
-- slices.Clone[[]int,int]
-- (no function slices.Clone[[]int,int] in this program)
