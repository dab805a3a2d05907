/-
  What is asked of the program holds; the function marginalia/marginalialaw13.alive returns true.
-/
import Derived.Test.YtmeijmmfkgpamaaGreatChecked
import Derived.Test.YtmeijmmfkgpamaaGreatEB
import Derived.KernelRfl
namespace Go.Proofs.YtmeijmmfkgpamaaGreat
open Go.Eva
theorem fit8 : Fit Tryz.prog := ⟨named_of (by kernel_rfl), by kernel_rfl⟩
theorem alive8 : TabOk Tryz.prog (oneTab 8 (.bool true)) := oneTab_ok fit8 (lim := 1000) (n := 100) (by kernel_rfl)
end Go.Proofs.YtmeijmmfkgpamaaGreat
