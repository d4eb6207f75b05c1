/-
  Closed conditions of the card over the program's table, each in small.
-/
import Derived.Test.YtoplphimhbnelaaGreatDoorYK3
import GoSem.ClaimSevenParts
import GoSem.ClaimLaidByText
import Derived.Test.YtoplphimhbnelaaGreatDoorCards
set_option linter.all false
set_option linter.unusedVariables false
set_option linter.unusedSimpArgs false
section
namespace Tz
open Go Go.Proofs Go.Ax Go.Proofs.YtoplphimhbnelaaGreatDoor
set_option maxRecDepth 100000
theorem q_unfol : Tryz.prog.unfollowed 4 = true := by
  unfold Program.unfollowed; rw [closure3]; simp only [func_at]
  show (_ : Bool) = true
  kernel_rfl
theorem q_recurs : Tryz.prog.recurses 4 = true := by unfold Program.recurses; rw [q_unfol]; rfl
theorem q_inPlace : Tryz.prog.inPlace 4 = Rows.topSharedBloomUptoRow.inPlace := by
  unfold Program.inPlace; rw [closure3]; simp only [func_at]
  show (_ : List String) = Rows.topSharedBloomUptoRow.inPlace
  kernel_rfl
theorem q_named : Tryz.prog.varsNamed 4 = Rows.topSharedBloomUptoRow.named := by
  unfold Program.varsNamed; rw [closure3]; simp only [func_at]
  show (_ : List String) = Rows.topSharedBloomUptoRow.named
  kernel_rfl
theorem q_goes3 : Tryz.prog.goes 4 = false := by
  unfold Program.goes; rw [q_goes, Bool.and_false, Bool.or_false, List.any_eq_false]
  intro g hg
  cases h : Tryz.prog.funcs[g]? with
  | none => simp
  | some fn =>
    have h1 := Array.any_eq_false.1 q_goes
    obtain ⟨hlt, he⟩ := Array.getElem?_eq_some_iff.1 h
    have := h1 g hlt
    rw [he] at this
    simpa using this
theorem q_may : Tryz.prog.mayEnter = true := by
  unfold Program.mayEnter; rw [q_later, q_reflect]
  unfold Program.doorFits Program.doorRows
  rw [fns_eq]
  show (_ : Bool) = true
  kernel_rfl
end Tz
end
section
namespace Tz
open Go Go.Proofs Go.Ax Go.Proofs.YtoplphimhbnelaaGreatDoor
set_option maxRecDepth 100000
theorem funcs_size : Tryz.prog.funcs.size = 1025 := by
  rw [← Array.length_toList, fns_eq]
  show (_ : Nat) = 1025
  kernel_rfl
theorem q_looks : Tryz.prog.looks [] = true := by
  unfold Program.looks; rw [List.any_eq_true]
  refine ⟨143, List.mem_range.2 (by rw [funcs_size]; decide), ?_⟩
  simp only [func_at]
  show (_ : Bool) = true
  kernel_rfl
theorem q_wants : Tryz.prog.wantsStandIn 52 = false := by kernel_rfl
theorem q_wf7 : Rows.topSharedBloomUptoRow.wfByText (Rows.OpenSpec.upto Rows.topSharedBloomSpec) = true := by kernel_rfl
theorem q_wf : Rows.topSharedBloomUptoRow.wf (OpenSpec.ofChange (Rows.OpenSpec.upto Rows.topSharedBloomSpec).bare) = true := by kernel_rfl
end Tz
end
