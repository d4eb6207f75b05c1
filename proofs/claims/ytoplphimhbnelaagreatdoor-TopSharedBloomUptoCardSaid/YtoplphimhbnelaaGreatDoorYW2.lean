/-
  The witness world of the card: a state in which the laid variables read as the row says.
-/
import Derived.Test.YtoplphimhbnelaaGreatDoorYW4
import Derived.Deep.DeepWitnessRowRef
set_option linter.all false
set_option linter.unusedVariables false
set_option linter.unusedSimpArgs false
namespace Go.Proofs.YtoplphimhbnelaaGreatDoor
open Go.ChangeShapes Go.WideShapes Go.ChangeAt Go.RowKit
set_option maxRecDepth 100000
namespace Wit
noncomputable def bas (os : Os) : World := { heap := ⟨H0⟩, tape := fun _ _ => 0, drawn := 0, os := os, output := #[] }
noncomputable def HL : List Obj := Lay.setRows H0 Y.1 ++ Y.2
noncomputable def wl (os : Os) : World := { heap := ⟨HL⟩, tape := fun _ _ => 0, drawn := 0, os := os, output := #[] }
noncomputable def wc (os : Os) : World := (wl os).forCall (fun _ _ => 0) ⟨#[], #[z], []⟩
theorem layVars_of {P : Program} {w : World} {l : List (String × DataW Unit)} {y} (h : Lay.layList P w.heap.size l = some y) : w.layVars P l = { w with heap := ⟨Lay.setRows w.heap.toList y.1 ++ y.2⟩ } := by
  unfold World.layVars; rw [h]
theorem layFits_of {P : Program} {w : World} {l : List (String × DataW Unit)} {y} (h : Lay.layList P w.heap.size l = some y)
    (k : (decide (y.1.map (·.1)).Nodup && (y.1.all fun r => Lay.isRow w.heap.toList[r.1]? && !([] : List Nat).contains r.1) && ([] : List Nat).all (· < w.heap.size)) = true) : w.layFits P l [] = true := by
  unfold World.layFits; rw [h]; exact k
theorem layIfaces_of {P : Program} {w w' : World} {l : List (String × DataW Unit)} {y} (h : Lay.layList P w.heap.size l = some y)
    (k : ((y.1.all fun r => r.2.all (Lay.okV P w')) && y.2.all (Lay.okO P w')) = true) : w.layIfaces P l w' = true := by
  unfold World.layIfaces; rw [h]; exact k
theorem bas_size (os : Os) : (bas os).heap.size = 17 := rfl
theorem hYb (os : Os) : Lay.layList Tryz.prog (bas os).heap.size Rows.topSharedBloomRow.laid = some Y := hY
theorem wl_eq (os : Os) : (bas os).layVars Tryz.prog Rows.topSharedBloomRow.laid = wl os := layVars_of (hYb os)
theorem wc_heap (os : Os) : (wc os).heap = (wl os).heap := by simp [wc, World.forCall, Input.heap]
theorem fits (os : Os) : (bas os).layFits Tryz.prog Rows.topSharedBloomRow.laid [] = true := layFits_of (hYb os) (by kernel_rfl)
theorem ifaces (os : Os) : (bas os).layIfaces Tryz.prog Rows.topSharedBloomRow.laid (wl os) = true := layIfaces_of (hYb os) (by kernel_rfl)
theorem met (os : Os) : laidMet Tryz.prog Rows.topSharedBloomRow.laid (wl os) := by
  have e1 : (Rows.topSharedBloomRow.laid.filter fun x => (Rows.topSharedBloomRow.laid.map (·.1)).contains x.1) = Rows.topSharedBloomRow.laid := List.filter_eq_self.2 fun x hx => List.contains_iff_mem.2 (List.mem_map.2 ⟨x, hx, rfl⟩)
  have e2 : (Rows.topSharedBloomRow.laid.filter fun x => !(Rows.topSharedBloomRow.laid.map (·.1)).contains x.1) = [] := List.filter_eq_nil_iff.2 fun x hx => by rw [List.contains_iff_mem.2 (List.mem_map.2 ⟨x, hx, rfl⟩)]; simp
  exact laidMet_layVars (w0 := bas os) (w' := wl os) (Rows.topSharedBloomRow.laid.map (·.1)) [] (by rw [e1, wl_eq]) (by rw [e1]; exact fits os) (by rw [e1]; exact ifaces os) (by rw [e2]; exact LaidIn.none)
end Wit
end Go.Proofs.YtoplphimhbnelaaGreatDoor
