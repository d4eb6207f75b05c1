/-
  One heavy call of the run of alive, reckoned by the kernel.
-/
import Derived.Test.YtoplphimhbnelaaGreatDoorI
import Derived.KernelRfl
set_option linter.all false
set_option linter.unusedVariables false
set_option linter.unusedSimpArgs false
namespace Tz
open Go Go.Proofs Go.Ax Go.Ax.Lit
set_option maxRecDepth 100000
theorem run8 : (partRun env ih 596 a8 p8 7479 v8 d8 8434).isGood = true := by kernel_rfl
end Tz
