/-
  One heavy call of the run of alive, reckoned by the kernel.
-/
import Derived.Test.YtoplphimhbnelaaGreatDoorI
import Derived.KernelRfl
set_option linter.all false
set_option linter.unusedVariables false
set_option linter.unusedSimpArgs false
namespace Tz
open Go Go.Proofs Go.Ax Go.Ax.Lit
set_option maxRecDepth 100000
theorem run6 : (partRun env1 ih1 51 a6 p6 6664 v6 d6 7300).isGood = true := by kernel_rfl
end Tz
