/-
  Closed conditions of the card over the program's table, each in small.
-/
import Derived.Test.YtlckcnkognnlpaaGreatDoorK3
import GoSem.ClaimSevenParts
import GoSem.ClaimLaidByText
import Derived.Test.YtlckcnkognnlpaaGreatDoorCards
set_option linter.all false
set_option linter.unusedVariables false
set_option linter.unusedSimpArgs false
section
namespace Tz
open Go Go.Proofs Go.Ax Go.Proofs.YtlckcnkognnlpaaGreatDoor
set_option maxRecDepth 100000
theorem q_unfol : Tryz.prog.unfollowed 3 = true := by
  unfold Program.unfollowed; rw [closure3]; simp only [func_at]
  show (_ : Bool) = true
  kernel_rfl
theorem q_recurs : Tryz.prog.recurses 3 = true := by unfold Program.recurses; rw [q_unfol]; rfl
theorem q_inPlace : Tryz.prog.inPlace 3 = Rows.topSharedCrcUptoRow.inPlace := by
  unfold Program.inPlace; rw [closure3]; simp only [func_at]
  show (_ : List String) = Rows.topSharedCrcUptoRow.inPlace
  kernel_rfl
theorem q_named : Tryz.prog.varsNamed 3 = Rows.topSharedCrcUptoRow.named := by
  unfold Program.varsNamed; rw [closure3]; simp only [func_at]
  show (_ : List String) = Rows.topSharedCrcUptoRow.named
  kernel_rfl
theorem q_goes3 : Tryz.prog.goes 3 = false := by
  unfold Program.goes; rw [q_goes, Bool.and_false, Bool.or_false, List.any_eq_false]
  intro g hg
  cases h : Tryz.prog.funcs[g]? with
  | none => simp
  | some fn =>
    have h1 := Array.any_eq_false.1 q_goes
    obtain ⟨hlt, he⟩ := Array.getElem?_eq_some_iff.1 h
    have := h1 g hlt
    rw [he] at this
    simpa using this
theorem q_may : Tryz.prog.mayEnter = true := by
  unfold Program.mayEnter; rw [q_later, q_reflect]
  unfold Program.doorFits Program.doorRows
  rw [fns_eq]
  show (_ : Bool) = true
  kernel_rfl
end Tz
end
section
namespace Tz
open Go Go.Proofs Go.Ax Go.Proofs.YtlckcnkognnlpaaGreatDoor
set_option maxRecDepth 100000
theorem funcs_size : Tryz.prog.funcs.size = 1011 := by
  rw [← Array.length_toList, fns_eq]
  show (_ : Nat) = 1011
  kernel_rfl
theorem q_looks : Tryz.prog.looks [] = true := by
  unfold Program.looks; rw [List.any_eq_true]
  refine ⟨117, List.mem_range.2 (by rw [funcs_size]; decide), ?_⟩
  simp only [func_at]
  show (_ : Bool) = true
  kernel_rfl
theorem q_wants : Tryz.prog.wantsStandIn 25 = false := by kernel_rfl
theorem q_wf7 : Rows.topSharedCrcUptoRow.wfByText (Rows.OpenSpec.upto Rows.topSharedCrcSpec) = true := by kernel_rfl
theorem q_wf : Rows.topSharedCrcUptoRow.wf (OpenSpec.ofChange (Rows.OpenSpec.upto Rows.topSharedCrcSpec).bare) = true := by kernel_rfl
end Tz
end
