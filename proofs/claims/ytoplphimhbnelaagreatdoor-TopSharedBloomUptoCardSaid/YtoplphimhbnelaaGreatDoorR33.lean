/-
  One heavy call of the run of alive, reckoned by the kernel.
-/
import Derived.Test.YtoplphimhbnelaaGreatDoorI
import Derived.KernelRfl
set_option linter.all false
set_option linter.unusedVariables false
set_option linter.unusedSimpArgs false
namespace Tz
open Go Go.Proofs Go.Ax Go.Ax.Lit
set_option maxRecDepth 100000
theorem run33 : (partRun env1 ih1 55 a33 p33 31509 v33 d33 33212).isGood = true := by kernel_rfl
end Tz
