/-
  The witness world of the card: a state in which the laid variables read as the row says.
-/
import Derived.Test.YtoplphimhbnelaaGreatDoorYW2
set_option linter.all false
set_option linter.unusedVariables false
set_option linter.unusedSimpArgs false
namespace Go.Proofs.YtoplphimhbnelaaGreatDoor
open Go.ChangeShapes Go.WideShapes Go.ChangeAt Go.RowKit
set_option maxRecDepth 100000
namespace Wit
theorem wc_eq (os : Os) : wc os = { heap := ⟨HL⟩, tape := fun _ _ => 0, drawn := 0, os := os, output := #[] } := by
  have := wc_heap os
  unfold wc World.forCall wl at *
  simp only [Input.heap] at *
  simp
theorem hv (os : Os) : (wc os).variablesRefB Tryz.prog = true := by
  have h := begin_heap (fun _ _ => 0) default
  rw [wc_eq]
  unfold World.variablesRefB
  revert h
  generalize (begin Tryz.prog (fun _ _ => 0) default).world.heap = x
  intro h
  subst h
  show _ = _
  kernel_rfl
end Wit
end Go.Proofs.YtoplphimhbnelaaGreatDoor
