/-
  The witness world of the card: a state in which the laid variables read as the row says.
-/
import Derived.Test.YtoplphimhbnelaaGreatDoorYW2
import Derived.Test.YtoplphimhbnelaaGreatDoorYW6
import Derived.Carry
set_option linter.all false
set_option linter.unusedVariables false
set_option linter.unusedSimpArgs false
section
namespace Go.Proofs.YtoplphimhbnelaaGreatDoor
open Go.ChangeShapes Go.WideShapes Go.ChangeAt Go.RowKit
set_option maxRecDepth 100000
namespace Wit
theorem hr_of {P : Program} {w : World} {H : Array Obj} (h : ∀ tape os, (begin P tape os).world.heap = H)
    (k : (w.heap.toList.drop P.globals.size).take (H.size - P.globals.size) = H.toList.drop P.globals.size) :
    (w.heap.toList.drop P.globals.size).take ((begin P (fun _ _ => 0) default).world.heap.size - P.globals.size) = (begin P (fun _ _ => 0) default).world.heap.toList.drop P.globals.size := by
  simp only [h]; exact k
theorem hr (os : Os) : ((wc os).heap.toList.drop Tryz.prog.globals.size).take ((begin Tryz.prog (fun _ _ => 0) default).world.heap.size - Tryz.prog.globals.size) = (begin Tryz.prog (fun _ _ => 0) default).world.heap.toList.drop Tryz.prog.globals.size :=
  hr_of begin_heap (by rw [wc_heap]; kernel_rfl)
end Wit
end Go.Proofs.YtoplphimhbnelaaGreatDoor
end
section
namespace Go.Proofs.YtoplphimhbnelaaGreatDoor
open Go.ChangeShapes Go.WideShapes Go.ChangeAt Go.RowKit
set_option maxRecDepth 100000
namespace Wit
theorem hok (os : Os) : Input.okWideB Tryz.prog (wc os) 4 ⟨#[], #[z], []⟩ = true := by kernel_rfl
theorem hl (os : Os) : laidMetH Tryz.prog Rows.topSharedBloomRow.laid (wc os).memory := by
  rw [MakeChecks.laidMetH_plain _ _ _ (by kernel_rfl)]
  exact (met os).of_heap (by simp [World.memory, wc_heap])
theorem hx (os : Os) {H : Type} (enc : TypeId × Value → H) : ∃ places, DataW.whole enc Tryz.prog (wc os).memory Tryz.f4.params.toList [] false #[z].toList 8 = some ([.agg [.lit (.string []), .nil, .lit (.int .i64 0), .nil, .nil, .nil]], [], places) := ⟨[], by kernel_rfl⟩
theorem hsz (os : Os) {H : Type} (enc : TypeId × Value → H) : (Rows.OpenSpec.upto Rows.topSharedBloomSpec).bare.sizedB enc Tryz.prog Tryz.f4 false (wc os).memory #[z] 8 = true := by kernel_rfl
end Wit
end Go.Proofs.YtoplphimhbnelaaGreatDoor
end
section
namespace Go.Proofs.YtoplphimhbnelaaGreatDoor
open Go.ChangeShapes Go.WideShapes Go.ChangeAt Go.RowKit
set_option maxRecDepth 100000
theorem ownK : ownKnob Tryz.prog.godebug = none := by kernel_rfl
theorem noInit : Tryz.prog.inits.idxOf? 4 = none := by kernel_rfl
theorem rowLt : 52 < Tryz.prog.types.size := of_decide_eq_true (by kernel_rfl)
theorem und4 : Tryz.prog.underlying 4 = some .bool := by kernel_rfl
/-- WHAT IS LEFT OF THE CARD: the door's call with any argument of the bound's size returns true and turns no old memory. -/
def Door : Prop := ∀ (H : Type) (enc : TypeId × Value → H) (W : World) (base : Nat) (v : Value) (d : DataW H) (p : List MemPlace),
  Value.okWide Tryz.prog W .any base 52 v → DataW.Trod enc Tryz.prog W 0 (fun _ => true) true 52 v d p → (∀ x ∈ p, x.block < W.heap.size) → W.noneFrozen p → Rows.uptoBulk d ≤ 1048576 →
  laidMet Tryz.prog Rows.topSharedBloomRow.laid W → W.ShapedOpen Tryz.prog →
  Calls Tryz.prog 4 #[v] W fun e W' => e = .returned (.bool true) ∧ Below W.heap.size W W'
theorem liftedUpto_of (door : Door) (os : Os) (started : os.Started) (H : Type) (enc : TypeId × Value → H) (F : Stop.Interp) :
    ReturnsInHanded {} Tryz.checked os 4 .any ((Rows.OpenSpec.upto Rows.topSharedBloomSpec).preRow enc Tryz.prog Tryz.f4 Rows.topSharedBloomUptoRow.domain false Rows.topSharedBloomUptoRow.laid) (((Rows.OpenSpec.upto Rows.topSharedBloomSpec).at F).post enc Tryz.prog Tryz.f4 false true false false) := by
  obtain ⟨places, hx⟩ := Wit.hx os enc
  refine returnsInHanded_of_row (C := Tryz.checked) (s := Rows.OpenSpec.upto Rows.topSharedBloomSpec) ownK started noInit Tryz.func4
    (witness_row_atRef (enc := enc) (C := Tryz.checked) false (Wit.wl os) #[Wit.z] rfl (Wit.hv os) (Wit.hr os) (Wit.hok os)
      (OpenSpec.preRow_of_cond 8 hx (by kernel_rfl) (fun k hk => by cases hk; kernel_rfl) (Wit.hsz os enc) (Wit.hl os))) ?_
  intro W base args ds gs before hval0 hW _ hcond _ hL hS _
  have hval : ∀ (j : Nat) t v, Tryz.f4.params[j]? = some t → args[j]? = some v → Value.okWide Tryz.prog W .any base t v := hval0
  have hW' := hW
  have hlt0 := hW.lt
  obtain ⟨p, q, hA0, hV, rfl, hNF, _⟩ := hW
  have hA : DataW.TrodAll enc Tryz.prog W 0 (fun _ => true) true Tryz.f4.params.toList args.toList ds p := hA0
  rw [Tryz.params4] at hA hval
  obtain ⟨v0, d0, rfl, rfl, h0⟩ := trodAll_one hA
  obtain ⟨rfl, rfl⟩ := trodVars_none hV
  simp only [List.append_nil] at hW' hlt0 hNF
  rw [MakeChecks.laidMetH_plain _ _ _ (by kernel_rfl)] at hL
  have hbulk : Rows.uptoBulk d0 ≤ 1048576 := by
    have := of_decide_eq_true (hcond _ rfl)
    simpa [Rows.uptoBulkAll] using this
  have hlt : ∀ x ∈ p, x.block < W.heap.size := fun x hx => by simpa using hlt0 x hx
  refine (door H enc W base v0 d0 p (hval 0 52 v0 rfl rfl) h0 hlt hNF hbulk hL hS).mono fun e W' ⟨he, hb⟩ => ?_
  subst he
  exact ⟨_, rfl, _, _, _, [], p, [], hW', trodAll_mk1 (shut_bool und4 _), trodAll_mk1 (Below.trod Tz.q_laidOut Tz.read52 rowLt h0 hb hlt), rfl, hb.frame _, fun h => by cases h⟩
end Go.Proofs.YtoplphimhbnelaaGreatDoor
end
