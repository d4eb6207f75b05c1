/-
  Closed conditions of the card over the program's table, each in small.
-/
import Derived.Test.YtoplphimhbnelaaGreatDoorYK6
set_option linter.all false
set_option linter.unusedVariables false
set_option linter.unusedSimpArgs false
namespace Go.Ax
open Go
theorem funcNamed_of {P : Program} {name : String} {i : Nat} (h : ((List.range P.funcs.size).filter fun i => (P.funcs[i]?).any (·.name == name)) = [i]) : P.funcNamed name = some i := by
  unfold Program.funcNamed; rw [h]
end Go.Ax
namespace Tz
open Go Go.Proofs Go.Ax Go.Proofs.YtoplphimhbnelaaGreatDoor
set_option maxRecDepth 100000
noncomputable def named (i : Nat) : Bool := (look 38 fns i).any (·.name == "stagepost/stageposttop.TopSharedBloom")
theorem n_0 : (List.range' 0 38).filter named = [4] := by kernel_rfl
theorem n_38 : (List.range' 38 38).filter named = [] := by kernel_rfl
theorem n_76 : (List.range' 76 38).filter named = [] := by kernel_rfl
theorem n_114 : (List.range' 114 38).filter named = [] := by kernel_rfl
theorem n_152 : (List.range' 152 38).filter named = [] := by kernel_rfl
theorem n_190 : (List.range' 190 38).filter named = [] := by kernel_rfl
theorem n_228 : (List.range' 228 38).filter named = [] := by kernel_rfl
theorem n_266 : (List.range' 266 38).filter named = [] := by kernel_rfl
theorem n_304 : (List.range' 304 38).filter named = [] := by kernel_rfl
theorem n_342 : (List.range' 342 38).filter named = [] := by kernel_rfl
theorem n_380 : (List.range' 380 38).filter named = [] := by kernel_rfl
theorem n_418 : (List.range' 418 38).filter named = [] := by kernel_rfl
theorem n_456 : (List.range' 456 38).filter named = [] := by kernel_rfl
theorem n_494 : (List.range' 494 38).filter named = [] := by kernel_rfl
theorem n_532 : (List.range' 532 38).filter named = [] := by kernel_rfl
theorem n_570 : (List.range' 570 38).filter named = [] := by kernel_rfl
theorem n_608 : (List.range' 608 38).filter named = [] := by kernel_rfl
theorem n_646 : (List.range' 646 38).filter named = [] := by kernel_rfl
theorem n_684 : (List.range' 684 38).filter named = [] := by kernel_rfl
theorem n_722 : (List.range' 722 38).filter named = [] := by kernel_rfl
theorem n_760 : (List.range' 760 38).filter named = [] := by kernel_rfl
theorem n_798 : (List.range' 798 38).filter named = [] := by kernel_rfl
theorem n_836 : (List.range' 836 38).filter named = [] := by kernel_rfl
theorem n_874 : (List.range' 874 38).filter named = [] := by kernel_rfl
theorem n_912 : (List.range' 912 38).filter named = [] := by kernel_rfl
theorem n_950 : (List.range' 950 38).filter named = [] := by kernel_rfl
theorem n_988 : (List.range' 988 37).filter named = [] := by kernel_rfl
theorem range_parts : List.range 1025 = List.range' 0 38 ++ (List.range' 38 38 ++ (List.range' 76 38 ++ (List.range' 114 38 ++ (List.range' 152 38 ++ (List.range' 190 38 ++ (List.range' 228 38 ++ (List.range' 266 38 ++ (List.range' 304 38 ++ (List.range' 342 38 ++ (List.range' 380 38 ++ (List.range' 418 38 ++ (List.range' 456 38 ++ (List.range' 494 38 ++ (List.range' 532 38 ++ (List.range' 570 38 ++ (List.range' 608 38 ++ (List.range' 646 38 ++ (List.range' 684 38 ++ (List.range' 722 38 ++ (List.range' 760 38 ++ (List.range' 798 38 ++ (List.range' 836 38 ++ (List.range' 874 38 ++ (List.range' 912 38 ++ (List.range' 950 38 ++ (List.range' 988 37)))))))))))))))))))))))))) := by kernel_rfl
theorem q_filter : ((List.range Tryz.prog.funcs.size).filter fun i => (Tryz.prog.funcs[i]?).any (·.name == "stagepost/stageposttop.TopSharedBloom")) = [4] := by
  rw [funcs_size]; simp only [func_at]
  show (List.range 1025).filter named = [4]
  rw [range_parts]
  simp only [List.filter_append, n_0, n_38, n_76, n_114, n_152, n_190, n_228, n_266, n_304, n_342, n_380, n_418, n_456, n_494, n_532, n_570, n_608, n_646, n_684, n_722, n_760, n_798, n_836, n_874, n_912, n_950, n_988]
  rfl
theorem q_name : Tryz.prog.funcNamed "stagepost/stageposttop.TopSharedBloom" = some 4 := funcNamed_of q_filter
theorem q_inst : Tryz.f4.isInstance Tryz.prog "" [] := of_decide_eq_true (by kernel_rfl)
end Tz
