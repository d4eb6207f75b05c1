/-
  One heavy call of the run of alive, reckoned by the kernel.
-/
import Derived.Test.YtoplphimhbnelaaGreatDoorI
import Derived.KernelRfl
set_option linter.all false
set_option linter.unusedVariables false
set_option linter.unusedSimpArgs false
namespace Tz
open Go Go.Proofs Go.Ax Go.Ax.Lit
set_option maxRecDepth 100000
theorem run22 : (partRun env ih 596 a22 p22 25110 v22 d22 26065).isGood = true := by kernel_rfl
end Tz
