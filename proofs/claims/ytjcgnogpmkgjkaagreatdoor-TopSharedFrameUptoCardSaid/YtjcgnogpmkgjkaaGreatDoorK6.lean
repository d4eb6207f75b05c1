/-
  Closed conditions of the card over the program's table, each in small.
-/
import Derived.Test.YtjcgnogpmkgjkaaGreatDoorK4
set_option linter.all false
set_option linter.unusedVariables false
set_option linter.unusedSimpArgs false
namespace Tz
open Go Go.Proofs Go.Ax Go.Proofs.YtjcgnogpmkgjkaaGreatDoor
set_option maxRecDepth 100000
theorem hv : Tryz.f3.params.toList ++ (Rows.OpenSpec.upto Rows.topSharedFrameSpec).bare.plain.varTypes Tryz.prog = [24] := by kernel_rfl
theorem hv2 : Tryz.f3.params.toList ++ (Rows.OpenSpec.upto Rows.topSharedFrameSpec).bare.plain.varTypes Tryz.prog ++ Tryz.f3.resultTypes.toList = [24, 4] := by kernel_rfl
theorem maps24' : (List.any [24] fun t => Tryz.prog.mapsRec t) = false := by rw [List.any_cons, maps24]; rfl
theorem ifaces24' : (List.any [24] fun t => Tryz.prog.ifacesRec t) = false := by rw [List.any_cons, ifaces24]; rfl
theorem loops24' : (List.any [24] fun t => Tryz.prog.loopsFrom t) = false := by rw [List.any_cons, loops24]; rfl
theorem wide24' : (List.any [24, 4] fun t => Tryz.prog.wideKeysFrom t) = false := by rw [List.any_cons, List.any_cons, wide24, wide4]; rfl
theorem veiled24' : (List.any [24, 4] fun t => Tryz.prog.veiledRec t) = false := by rw [List.any_cons, List.any_cons, veiled24, veiled4]; rfl
theorem resOk : (Tryz.f3.resultTypes.all fun t => Tryz.prog.readableRec t && decide (t < Tryz.prog.types.size)) = true := by
  rw [← Array.all_toList, results, types_size]
  show (List.all [4] fun t => Tryz.prog.readableRec t && decide (t < 1157)) = true
  rw [List.all_cons, read4]; rfl
theorem laidTypes : (Rows.topSharedFrameUptoRow.laid.filterMap fun x => (Tryz.prog.globalNamed x.1).bind fun g => (Tryz.prog.globals[g]?).map (·.type)) = [1132, 1133, 1102, 956, 586, 586, 961, 840, 1044, 840] := by kernel_rfl
theorem fitsOk : Rows.topSharedFrameUptoRow.veiledFits Tryz.prog Tryz.f3.params.toList (Tryz.f3.params.toList ++ (Rows.OpenSpec.upto Rows.topSharedFrameSpec).bare.plain.varTypes Tryz.prog ++ Tryz.f3.resultTypes.toList) = true := by
  unfold OpenClaim.veiledFits
  rw [hv2, laidTypes]
  show (true && (List.all [24, 4, 1132, 1133, 1102, 956, 586, 586, 961, 840, 1044, 840] (fun t => Tryz.prog.veiledOwn t) || _)) = true
  simp only [List.all_cons, List.all_nil, own24, own4, own1132, own1133, own1102, own956, own586, own961, own840, own1044, Bool.and_true, Bool.true_or]
theorem closed : joinedFacts Tryz.prog 3 Tryz.f3 (Rows.OpenSpec.upto Rows.topSharedFrameSpec).bare Rows.topSharedFrameUptoRow = true := by
  unfold joinedFacts
  simp only [Bool.and_eq_true]
  refine ⟨⟨⟨⟨⟨⟨⟨⟨⟨⟨⟨⟨⟨⟨⟨⟨⟨⟨⟨⟨⟨⟨⟨⟨⟨⟨⟨⟨⟨⟨⟨?_, ?_⟩, ?_⟩, ?_⟩, ?_⟩, ?_⟩, ?_⟩, ?_⟩, ?_⟩, ?_⟩, ?_⟩, ?_⟩, ?_⟩, ?_⟩, ?_⟩, ?_⟩, ?_⟩, ?_⟩, ?_⟩, ?_⟩, ?_⟩, ?_⟩, ?_⟩, ?_⟩, ?_⟩, ?_⟩, ?_⟩, ?_⟩, ?_⟩, ?_⟩, ?_⟩, ?_⟩
  · exact (q_wf)
  · exact (q_laidOut)
  · exact (q_mapsRowed)
  · rw [paramsA]; simp only [Array.all_toList.symm]; show (List.all [24] fun t => Tryz.prog.readableRec t) = true; rw [List.all_cons, read24]; rfl
  · kernel_rfl
  · kernel_rfl
  · kernel_rfl
  · kernel_rfl
  · kernel_rfl
  · rw [q_inPlace]; exact beq_self_eq_true _
  · rw [q_unfol]; rfl
  · rw [q_recurs]; rfl
  · rw [q_named]; exact beq_self_eq_true _
  · rw [hv, maps24']; rfl
  · rw [hv, ifaces24']; rfl
  · kernel_rfl
  · rw [hv, loops24']; rfl
  · rw [hv2, wide24']; rfl
  · exact (rfl)
  · exact (resOk)
  · rw [results]; show (false == List.any [4] fun t => Tryz.prog.ifacesRec t) = true; rw [List.any_cons, ifaces4]; rfl
  · rw [results]; show (false == List.any [4] fun t => Tryz.prog.loopsFrom t) = true; rw [List.any_cons, loops4]; rfl
  · rw [q_plainKeys0]; rfl
  · exact (rfl)
  · exact (q_heard)
  · exact (q_may)
  · kernel_rfl
  · kernel_rfl
  · kernel_rfl
  · kernel_rfl
  · rw [hv2, veiled24']; rfl
  · exact (fitsOk)
end Tz
