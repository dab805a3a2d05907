/-
  What is asked of the program holds; the function marginalia/marginalialaw15.alive returns true.
-/
import Derived.Test.YtmeijmmfkgpamabGreatChecked
import Derived.Test.YtmeijmmfkgpamabGreatEB
import Derived.KernelRfl
namespace Go.Proofs.YtmeijmmfkgpamabGreat
open Go.Eva
theorem fit4 : Fit Tryz.prog := ⟨named_of (by kernel_rfl), by kernel_rfl⟩
theorem alive4 : TabOk Tryz.prog (oneTab 4 (.bool true)) := oneTab_ok fit4 (lim := 1000) (n := 100) (by kernel_rfl)
end Go.Proofs.YtmeijmmfkgpamabGreat
