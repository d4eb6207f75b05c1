/-
  Closed conditions of the card over the program's table, each in small.
-/
import Derived.Test.YtoplphimhbnelaaGreatDoorXK4
set_option linter.all false
set_option linter.unusedVariables false
set_option linter.unusedSimpArgs false
namespace Tz
open Go Go.Proofs Go.Ax Go.Proofs.YtoplphimhbnelaaGreatDoor
set_option maxRecDepth 100000
theorem hv : Tryz.f3.params.toList ++ (Rows.OpenSpec.upto Rows.topSharedRangesSpec).bare.plain.varTypes Tryz.prog = [26] := by kernel_rfl
theorem hv2 : Tryz.f3.params.toList ++ (Rows.OpenSpec.upto Rows.topSharedRangesSpec).bare.plain.varTypes Tryz.prog ++ Tryz.f3.resultTypes.toList = [26, 4] := by kernel_rfl
theorem maps26' : (List.any [26] fun t => Tryz.prog.mapsRec t) = false := by rw [List.any_cons, maps26]; rfl
theorem ifaces26' : (List.any [26] fun t => Tryz.prog.ifacesRec t) = false := by rw [List.any_cons, ifaces26]; rfl
theorem loops26' : (List.any [26] fun t => Tryz.prog.loopsFrom t) = false := by rw [List.any_cons, loops26]; rfl
theorem wide26' : (List.any [26, 4] fun t => Tryz.prog.wideKeysFrom t) = false := by rw [List.any_cons, List.any_cons, wide26, wide4]; rfl
theorem veiled26' : (List.any [26, 4] fun t => Tryz.prog.veiledRec t) = false := by rw [List.any_cons, List.any_cons, veiled26, veiled4]; rfl
theorem resOk : (Tryz.f3.resultTypes.all fun t => Tryz.prog.readableRec t && decide (t < Tryz.prog.types.size)) = true := by
  rw [← Array.all_toList, results, types_size]
  show (List.all [4] fun t => Tryz.prog.readableRec t && decide (t < 1174)) = true
  rw [List.all_cons, read4]; rfl
theorem laidTypes : (Rows.topSharedRangesUptoRow.laid.filterMap fun x => (Tryz.prog.globalNamed x.1).bind fun g => (Tryz.prog.globals[g]?).map (·.type)) = [1149, 1150, 1119, 972, 609, 609, 977, 856, 1061, 856] := by kernel_rfl
theorem fitsOk : Rows.topSharedRangesUptoRow.veiledFits Tryz.prog Tryz.f3.params.toList (Tryz.f3.params.toList ++ (Rows.OpenSpec.upto Rows.topSharedRangesSpec).bare.plain.varTypes Tryz.prog ++ Tryz.f3.resultTypes.toList) = true := by
  unfold OpenClaim.veiledFits
  rw [hv2, laidTypes]
  show (true && (List.all [26, 4, 1149, 1150, 1119, 972, 609, 609, 977, 856, 1061, 856] (fun t => Tryz.prog.veiledOwn t) || _)) = true
  simp only [List.all_cons, List.all_nil, own26, own4, own1149, own1150, own1119, own972, own609, own977, own856, own1061, Bool.and_true, Bool.true_or]
theorem closed : joinedFacts Tryz.prog 3 Tryz.f3 (Rows.OpenSpec.upto Rows.topSharedRangesSpec).bare Rows.topSharedRangesUptoRow = true := by
  unfold joinedFacts
  simp only [Bool.and_eq_true]
  refine ⟨⟨⟨⟨⟨⟨⟨⟨⟨⟨⟨⟨⟨⟨⟨⟨⟨⟨⟨⟨⟨⟨⟨⟨⟨⟨⟨⟨⟨⟨⟨?_, ?_⟩, ?_⟩, ?_⟩, ?_⟩, ?_⟩, ?_⟩, ?_⟩, ?_⟩, ?_⟩, ?_⟩, ?_⟩, ?_⟩, ?_⟩, ?_⟩, ?_⟩, ?_⟩, ?_⟩, ?_⟩, ?_⟩, ?_⟩, ?_⟩, ?_⟩, ?_⟩, ?_⟩, ?_⟩, ?_⟩, ?_⟩, ?_⟩, ?_⟩, ?_⟩, ?_⟩
  · exact (q_wf)
  · exact (q_laidOut)
  · exact (q_mapsRowed)
  · rw [paramsA]; simp only [Array.all_toList.symm]; show (List.all [26] fun t => Tryz.prog.readableRec t) = true; rw [List.all_cons, read26]; rfl
  · kernel_rfl
  · kernel_rfl
  · kernel_rfl
  · kernel_rfl
  · kernel_rfl
  · rw [q_inPlace]; exact beq_self_eq_true _
  · rw [q_unfol]; rfl
  · rw [q_recurs]; rfl
  · rw [q_named]; exact beq_self_eq_true _
  · rw [hv, maps26']; rfl
  · rw [hv, ifaces26']; rfl
  · kernel_rfl
  · rw [hv, loops26']; rfl
  · rw [hv2, wide26']; rfl
  · exact (rfl)
  · exact (resOk)
  · rw [results]; show (false == List.any [4] fun t => Tryz.prog.ifacesRec t) = true; rw [List.any_cons, ifaces4]; rfl
  · rw [results]; show (false == List.any [4] fun t => Tryz.prog.loopsFrom t) = true; rw [List.any_cons, loops4]; rfl
  · rw [q_plainKeys0]; rfl
  · exact (rfl)
  · exact (q_heard)
  · exact (q_may)
  · kernel_rfl
  · kernel_rfl
  · kernel_rfl
  · kernel_rfl
  · rw [hv2, veiled26']; rfl
  · exact (fitsOk)
end Tz
