/-
  One heavy call of the run of alive, reckoned by the kernel.
-/
import Derived.Test.YtoplphimhbnelaaGreatDoorI
import Derived.KernelRfl
set_option linter.all false
set_option linter.unusedVariables false
set_option linter.unusedSimpArgs false
namespace Tz
open Go Go.Proofs Go.Ax Go.Ax.Lit
set_option maxRecDepth 100000
theorem run16 : (partRun env1 ih1 51 a16 p16 22371 v16 d16 24536).isGood = true := by kernel_rfl
end Tz
