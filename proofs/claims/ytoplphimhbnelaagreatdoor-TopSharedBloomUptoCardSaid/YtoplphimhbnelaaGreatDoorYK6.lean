/-
  Closed conditions of the card over the program's table, each in small.
-/
import Derived.Test.YtoplphimhbnelaaGreatDoorYK4
set_option linter.all false
set_option linter.unusedVariables false
set_option linter.unusedSimpArgs false
namespace Tz
open Go Go.Proofs Go.Ax Go.Proofs.YtoplphimhbnelaaGreatDoor
set_option maxRecDepth 100000
theorem hv : Tryz.f4.params.toList ++ (Rows.OpenSpec.upto Rows.topSharedBloomSpec).bare.plain.varTypes Tryz.prog = [52] := by kernel_rfl
theorem hv2 : Tryz.f4.params.toList ++ (Rows.OpenSpec.upto Rows.topSharedBloomSpec).bare.plain.varTypes Tryz.prog ++ Tryz.f4.resultTypes.toList = [52, 4] := by kernel_rfl
theorem maps52' : (List.any [52] fun t => Tryz.prog.mapsRec t) = false := by rw [List.any_cons, maps52]; rfl
theorem ifaces52' : (List.any [52] fun t => Tryz.prog.ifacesRec t) = false := by rw [List.any_cons, ifaces52]; rfl
theorem loops52' : (List.any [52] fun t => Tryz.prog.loopsFrom t) = false := by rw [List.any_cons, loops52]; rfl
theorem wide52' : (List.any [52, 4] fun t => Tryz.prog.wideKeysFrom t) = false := by rw [List.any_cons, List.any_cons, wide52, wide4]; rfl
theorem veiled52' : (List.any [52, 4] fun t => Tryz.prog.veiledRec t) = false := by rw [List.any_cons, List.any_cons, veiled52, veiled4]; rfl
theorem resOk : (Tryz.f4.resultTypes.all fun t => Tryz.prog.readableRec t && decide (t < Tryz.prog.types.size)) = true := by
  rw [← Array.all_toList, results, types_size]
  show (List.all [4] fun t => Tryz.prog.readableRec t && decide (t < 1174)) = true
  rw [List.all_cons, read4]; rfl
theorem laidTypes : (Rows.topSharedBloomUptoRow.laid.filterMap fun x => (Tryz.prog.globalNamed x.1).bind fun g => (Tryz.prog.globals[g]?).map (·.type)) = [1149, 1150, 1119, 972, 609, 609, 977, 856, 1061, 856] := by kernel_rfl
theorem fitsOk : Rows.topSharedBloomUptoRow.veiledFits Tryz.prog Tryz.f4.params.toList (Tryz.f4.params.toList ++ (Rows.OpenSpec.upto Rows.topSharedBloomSpec).bare.plain.varTypes Tryz.prog ++ Tryz.f4.resultTypes.toList) = true := by
  unfold OpenClaim.veiledFits
  rw [hv2, laidTypes]
  show (true && (List.all [52, 4, 1149, 1150, 1119, 972, 609, 609, 977, 856, 1061, 856] (fun t => Tryz.prog.veiledOwn t) || _)) = true
  simp only [List.all_cons, List.all_nil, own52, own4, own1149, own1150, own1119, own972, own609, own977, own856, own1061, Bool.and_true, Bool.true_or]
theorem closed : joinedFacts Tryz.prog 4 Tryz.f4 (Rows.OpenSpec.upto Rows.topSharedBloomSpec).bare Rows.topSharedBloomUptoRow = true := by
  unfold joinedFacts
  simp only [Bool.and_eq_true]
  refine ⟨⟨⟨⟨⟨⟨⟨⟨⟨⟨⟨⟨⟨⟨⟨⟨⟨⟨⟨⟨⟨⟨⟨⟨⟨⟨⟨⟨⟨⟨⟨?_, ?_⟩, ?_⟩, ?_⟩, ?_⟩, ?_⟩, ?_⟩, ?_⟩, ?_⟩, ?_⟩, ?_⟩, ?_⟩, ?_⟩, ?_⟩, ?_⟩, ?_⟩, ?_⟩, ?_⟩, ?_⟩, ?_⟩, ?_⟩, ?_⟩, ?_⟩, ?_⟩, ?_⟩, ?_⟩, ?_⟩, ?_⟩, ?_⟩, ?_⟩, ?_⟩, ?_⟩
  · exact (q_wf)
  · exact (q_laidOut)
  · exact (q_mapsRowed)
  · rw [paramsA]; simp only [Array.all_toList.symm]; show (List.all [52] fun t => Tryz.prog.readableRec t) = true; rw [List.all_cons, read52]; rfl
  · kernel_rfl
  · kernel_rfl
  · kernel_rfl
  · kernel_rfl
  · kernel_rfl
  · rw [q_inPlace]; exact beq_self_eq_true _
  · rw [q_unfol]; rfl
  · rw [q_recurs]; rfl
  · rw [q_named]; exact beq_self_eq_true _
  · rw [hv, maps52']; rfl
  · rw [hv, ifaces52']; rfl
  · kernel_rfl
  · rw [hv, loops52']; rfl
  · rw [hv2, wide52']; rfl
  · exact (rfl)
  · exact (resOk)
  · rw [results]; show (false == List.any [4] fun t => Tryz.prog.ifacesRec t) = true; rw [List.any_cons, ifaces4]; rfl
  · rw [results]; show (false == List.any [4] fun t => Tryz.prog.loopsFrom t) = true; rw [List.any_cons, loops4]; rfl
  · rw [q_plainKeys0]; rfl
  · exact (rfl)
  · exact (q_heard)
  · exact (q_may)
  · kernel_rfl
  · kernel_rfl
  · kernel_rfl
  · kernel_rfl
  · rw [hv2, veiled52']; rfl
  · exact (fitsOk)
end Tz
