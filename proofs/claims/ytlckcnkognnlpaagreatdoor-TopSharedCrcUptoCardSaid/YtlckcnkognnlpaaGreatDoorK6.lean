/-
  Closed conditions of the card over the program's table, each in small.
-/
import Derived.Test.YtlckcnkognnlpaaGreatDoorK4
set_option linter.all false
set_option linter.unusedVariables false
set_option linter.unusedSimpArgs false
namespace Tz
open Go Go.Proofs Go.Ax Go.Proofs.YtlckcnkognnlpaaGreatDoor
set_option maxRecDepth 100000
theorem hv : Tryz.f3.params.toList ++ (Rows.OpenSpec.upto Rows.topSharedCrcSpec).bare.plain.varTypes Tryz.prog = [25] := by kernel_rfl
theorem hv2 : Tryz.f3.params.toList ++ (Rows.OpenSpec.upto Rows.topSharedCrcSpec).bare.plain.varTypes Tryz.prog ++ Tryz.f3.resultTypes.toList = [25, 4] := by kernel_rfl
theorem maps25' : (List.any [25] fun t => Tryz.prog.mapsRec t) = false := by rw [List.any_cons, maps25]; rfl
theorem ifaces25' : (List.any [25] fun t => Tryz.prog.ifacesRec t) = false := by rw [List.any_cons, ifaces25]; rfl
theorem loops25' : (List.any [25] fun t => Tryz.prog.loopsFrom t) = false := by rw [List.any_cons, loops25]; rfl
theorem wide25' : (List.any [25, 4] fun t => Tryz.prog.wideKeysFrom t) = false := by rw [List.any_cons, List.any_cons, wide25, wide4]; rfl
theorem veiled25' : (List.any [25, 4] fun t => Tryz.prog.veiledRec t) = false := by rw [List.any_cons, List.any_cons, veiled25, veiled4]; rfl
theorem resOk : (Tryz.f3.resultTypes.all fun t => Tryz.prog.readableRec t && decide (t < Tryz.prog.types.size)) = true := by
  rw [← Array.all_toList, results, types_size]
  show (List.all [4] fun t => Tryz.prog.readableRec t && decide (t < 1158)) = true
  rw [List.all_cons, read4]; rfl
theorem laidTypes : (Rows.topSharedCrcUptoRow.laid.filterMap fun x => (Tryz.prog.globalNamed x.1).bind fun g => (Tryz.prog.globals[g]?).map (·.type)) = [1133, 1134, 1103, 957, 583, 583, 962, 841, 1045, 841] := by kernel_rfl
theorem fitsOk : Rows.topSharedCrcUptoRow.veiledFits Tryz.prog Tryz.f3.params.toList (Tryz.f3.params.toList ++ (Rows.OpenSpec.upto Rows.topSharedCrcSpec).bare.plain.varTypes Tryz.prog ++ Tryz.f3.resultTypes.toList) = true := by
  unfold OpenClaim.veiledFits
  rw [hv2, laidTypes]
  show (true && (List.all [25, 4, 1133, 1134, 1103, 957, 583, 583, 962, 841, 1045, 841] (fun t => Tryz.prog.veiledOwn t) || _)) = true
  simp only [List.all_cons, List.all_nil, own25, own4, own1133, own1134, own1103, own957, own583, own962, own841, own1045, Bool.and_true, Bool.true_or]
theorem closed : joinedFacts Tryz.prog 3 Tryz.f3 (Rows.OpenSpec.upto Rows.topSharedCrcSpec).bare Rows.topSharedCrcUptoRow = true := by
  unfold joinedFacts
  simp only [Bool.and_eq_true]
  refine ⟨⟨⟨⟨⟨⟨⟨⟨⟨⟨⟨⟨⟨⟨⟨⟨⟨⟨⟨⟨⟨⟨⟨⟨⟨⟨⟨⟨⟨⟨⟨?_, ?_⟩, ?_⟩, ?_⟩, ?_⟩, ?_⟩, ?_⟩, ?_⟩, ?_⟩, ?_⟩, ?_⟩, ?_⟩, ?_⟩, ?_⟩, ?_⟩, ?_⟩, ?_⟩, ?_⟩, ?_⟩, ?_⟩, ?_⟩, ?_⟩, ?_⟩, ?_⟩, ?_⟩, ?_⟩, ?_⟩, ?_⟩, ?_⟩, ?_⟩, ?_⟩, ?_⟩
  · exact (q_wf)
  · exact (q_laidOut)
  · exact (q_mapsRowed)
  · rw [paramsA]; simp only [Array.all_toList.symm]; show (List.all [25] fun t => Tryz.prog.readableRec t) = true; rw [List.all_cons, read25]; rfl
  · kernel_rfl
  · kernel_rfl
  · kernel_rfl
  · kernel_rfl
  · kernel_rfl
  · rw [q_inPlace]; exact beq_self_eq_true _
  · rw [q_unfol]; rfl
  · rw [q_recurs]; rfl
  · rw [q_named]; exact beq_self_eq_true _
  · rw [hv, maps25']; rfl
  · rw [hv, ifaces25']; rfl
  · kernel_rfl
  · rw [hv, loops25']; rfl
  · rw [hv2, wide25']; rfl
  · exact (rfl)
  · exact (resOk)
  · rw [results]; show (false == List.any [4] fun t => Tryz.prog.ifacesRec t) = true; rw [List.any_cons, ifaces4]; rfl
  · rw [results]; show (false == List.any [4] fun t => Tryz.prog.loopsFrom t) = true; rw [List.any_cons, loops4]; rfl
  · rw [q_plainKeys0]; rfl
  · exact (rfl)
  · exact (q_heard)
  · exact (q_may)
  · kernel_rfl
  · kernel_rfl
  · kernel_rfl
  · kernel_rfl
  · rw [hv2, veiled25']; rfl
  · exact (fitsOk)
end Tz
