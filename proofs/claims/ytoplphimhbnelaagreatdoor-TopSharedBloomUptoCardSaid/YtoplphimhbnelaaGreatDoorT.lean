/-
  The run of alive from its first state to true, joined from its parts; so alive returns true in the machine.
-/
import Derived.Test.YtoplphimhbnelaaGreatDoorI
import Derived.KernelRfl
import Derived.Test.YtoplphimhbnelaaGreatDoorG
import Derived.Test.YtoplphimhbnelaaGreatDoorF
import Derived.Test.YtoplphimhbnelaaGreatDoorR0
import Derived.Test.YtoplphimhbnelaaGreatDoorR1
import Derived.Test.YtoplphimhbnelaaGreatDoorR2
import Derived.Test.YtoplphimhbnelaaGreatDoorR3
import Derived.Test.YtoplphimhbnelaaGreatDoorR4
import Derived.Test.YtoplphimhbnelaaGreatDoorR5
import Derived.Test.YtoplphimhbnelaaGreatDoorR6
import Derived.Test.YtoplphimhbnelaaGreatDoorR7
import Derived.Test.YtoplphimhbnelaaGreatDoorR8
import Derived.Test.YtoplphimhbnelaaGreatDoorR9
import Derived.Test.YtoplphimhbnelaaGreatDoorR10
import Derived.Test.YtoplphimhbnelaaGreatDoorR11
import Derived.Test.YtoplphimhbnelaaGreatDoorR12
import Derived.Test.YtoplphimhbnelaaGreatDoorR13
import Derived.Test.YtoplphimhbnelaaGreatDoorR14
import Derived.Test.YtoplphimhbnelaaGreatDoorR15
import Derived.Test.YtoplphimhbnelaaGreatDoorR16
import Derived.Test.YtoplphimhbnelaaGreatDoorR17
import Derived.Test.YtoplphimhbnelaaGreatDoorR21
import Derived.Test.YtoplphimhbnelaaGreatDoorR22
import Derived.Test.YtoplphimhbnelaaGreatDoorR23
import Derived.Test.YtoplphimhbnelaaGreatDoorR24
import Derived.Test.YtoplphimhbnelaaGreatDoorR25
import Derived.Test.YtoplphimhbnelaaGreatDoorR26
import Derived.Test.YtoplphimhbnelaaGreatDoorR33
set_option linter.all false
set_option linter.unusedVariables false
set_option linter.unusedSimpArgs false
section
namespace Tz
open Go Go.Proofs Go.Ax Go.Ax.Lit
set_option maxRecDepth 100000
theorem runAlive : (topRun envA ihA 20 s0).isGood = true := by kernel_rfl
end Tz
end
section
namespace Tz
open Go Go.Proofs Go.Ax Go.Ax.Lit
set_option maxRecDepth 100000
theorem ihOk {op : Nat → Value} (hop : ∀ n, (op n).oneCell' = true) : IhOk Tryz.prog op ti ih := exec_ok tiOk okToOk hop envOk (fun _ IOk => drawn_ok tiOk okToOk hop envOk IOk mixed) _
theorem x596Ok {op : Nat → Value} (hop : ∀ n, (op n).oneCell' = true) : ExtOk Tryz.prog op ti 596 x596 := have h := ihOk hop; ext_frag tiOk envOk h run2 (ext_frag tiOk envOk h run3 (ext_frag tiOk envOk h run4 (ext_frag tiOk envOk h run5 (ext_frag tiOk envOk h run8 (ext_frag tiOk envOk h run9 (ext_frag tiOk envOk h run10 (ext_frag tiOk envOk h run22 (ext_frag tiOk envOk h run25 (ext_frag tiOk envOk h run26 (ext_walk tiOk envOk h))))))))))
theorem env1Ok {op : Nat → Value} (hop : ∀ n, (op n).oneCell' = true) : EnvOk Tryz.prog op ti okTo env1 := (envOk.put (x596Ok hop))
theorem ih1Ok {op : Nat → Value} (hop : ∀ n, (op n).oneCell' = true) : IhOk Tryz.prog op ti ih1 := exec_ok tiOk okToOk hop (env1Ok hop) (fun _ IOk => drawn_ok tiOk okToOk hop (env1Ok hop) IOk mixed) _
theorem x49Ok {op : Nat → Value} (hop : ∀ n, (op n).oneCell' = true) : ExtOk Tryz.prog op ti 49 x49 := have h := ih1Ok hop; ext_frag tiOk (env1Ok hop) h run0 (ext_walk tiOk (env1Ok hop) h)
theorem x51Ok {op : Nat → Value} (hop : ∀ n, (op n).oneCell' = true) : ExtOk Tryz.prog op ti 51 x51 := have h := ih1Ok hop; ext_frag tiOk (env1Ok hop) h run1 (ext_frag tiOk (env1Ok hop) h run6 (ext_frag tiOk (env1Ok hop) h run7 (ext_frag tiOk (env1Ok hop) h run11 (ext_frag tiOk (env1Ok hop) h run12 (ext_frag tiOk (env1Ok hop) h run13 (ext_frag tiOk (env1Ok hop) h run14 (ext_frag tiOk (env1Ok hop) h run15 (ext_frag tiOk (env1Ok hop) h run16 (ext_frag tiOk (env1Ok hop) h run17 (ext_frag tiOk (env1Ok hop) h run21 (ext_frag tiOk (env1Ok hop) h run23 (ext_frag tiOk (env1Ok hop) h run24 (ext_walk tiOk (env1Ok hop) h)))))))))))))
theorem x55Ok {op : Nat → Value} (hop : ∀ n, (op n).oneCell' = true) : ExtOk Tryz.prog op ti 55 x55 := have h := ih1Ok hop; ext_frag tiOk (env1Ok hop) h run33 (ext_walk tiOk (env1Ok hop) h)
theorem envAOk {op : Nat → Value} (hop : ∀ n, (op n).oneCell' = true) : EnvOk Tryz.prog op ti okTo envA := ((((env1Ok hop).put (x49Ok hop)).put (x51Ok hop)).put (x55Ok hop))
theorem ihAOk {op : Nat → Value} (hop : ∀ n, (op n).oneCell' = true) : IhOk Tryz.prog op ti ihA := exec_ok tiOk okToOk hop (envAOk hop) (fun _ IOk => drawn_ok tiOk okToOk hop (envAOk hop) IOk mixed) _
/-- The call of alive. -/
theorem alive_done {op : Nat → Value} (hop : ∀ n, (op n).oneCell' = true) {w0 : Base} {ρ : Rho} {w : World} (hG : GRel ti ρ) (hH : HRel op w0 ρ s0 w) :
    CallDone Tryz.prog 20 #[] w fun v w' => v = .bool true ∧ ∃ ρ' s', ρ.sub ρ' ∧ HRel op w0 ρ' s' w' := top_ok tiOk (envAOk hop) (ihAOk hop) runAlive hG hH
end Tz
end
