/-
  Walks: the reference's folding.
-/
import Derived.Test.YtaeacialcbahnaaSg
import Derived.Test.YtaeacialcbahnaaSf
namespace Go.Proofs.Ytaeacialcbahnaa
open Go.Abs
set_option linter.unusedVariables false
set_option linter.unusedSimpArgs false
-- hb: 4000000
variable {κ : Ctx} {σ : List Res} {K : Ret → List Res → Prop} {o o' : Option (Option (Nat × Nat))}

def trimB (f b : Bool) (l : List Int) : List Int := if b then backI (if f then l.dropWhile blankI else l) else if f then l.dropWhile blankI else l
set_option maxHeartbeats 4000000 in
theorem trimAt_B {n i : Nat} {t : List Int} : trimAt n i t = trimB (decide (0 < i)) (decide (i + 1 < n)) t := by
  unfold trimAt trimB
  by_cases h1 : i + 1 < n <;> by_cases h2 : 0 < i <;> simp [h1, h2]

-- marginaliaref1.trim
-- (no function marginaliaref1.trim in this program)
-- marginaliaref1.FoldFlow
-- (no function marginaliaref1.FoldFlow in this program)
