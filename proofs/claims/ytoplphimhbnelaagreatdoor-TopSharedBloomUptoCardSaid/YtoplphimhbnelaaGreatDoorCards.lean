/-
  DERIVED. GIVEN WITH THE SEED: THE CARDS: each row of YtoplphimhbnelaaGreatDoorRows.lean that lists a variable, with what it lists TIED to the program's text (the seventh form; the later family's looks); each row that meets fmt, with fmt's text TOLD by the authors' own Lean function (tested against real Go, not proved from fmt's source: count such statements apart). THE CARD IS WHAT COUNTS. Prove the row's statement (the work); the ties are given (YtoplphimhbnelaaGreatDoorTie.lean); close each card by the builder's one call (the guide's Derived/Test/ToyasCard.lean, 'card_holds'). Laid BY PROGRAM, IN A SANDBOX (cutbox-door.mjs). By AI agents, Wed Nov 11 2026. No macro, syntax, notation, axiom, sorry.
-/
import Derived.Test.YtoplphimhbnelaaGreatDoorRows
import GoSem.ClaimSeven
namespace Go.Proofs.YtoplphimhbnelaaGreatDoor
namespace Rows

/-- THE TIED CARD OF 'stageposttop.TopSharedRanges'. -/
def topSharedRangesCard : Claim7 := { stood := { row := topSharedRangesRow, standIns := [], harness := (true, "e88cb1d2931ba79f4ffa5279f10a2e67dfe0066efd1cb3ef438dbe01adf74346"), looks := true }, kinds := [], alts := [], laidByText := true, laidKinds := [.data, .data, .data, .data, .sentinel, .sentinel, .listed, .data, .pinned, .pinned], laidTests := true, laidLooks := .later }
def TopSharedRangesCardSaid : Prop := Claim7.holds Tryz.pinned (.plain (OpenSpec.ofChange topSharedRangesSpec)) topSharedRangesCard

/-- THE TIED CARD OF 'stageposttop.TopSharedBloom'. -/
def topSharedBloomCard : Claim7 := { stood := { row := topSharedBloomRow, standIns := [], harness := (true, "e88cb1d2931ba79f4ffa5279f10a2e67dfe0066efd1cb3ef438dbe01adf74346"), looks := true }, kinds := [], alts := [], laidByText := true, laidKinds := [.data, .data, .data, .data, .sentinel, .sentinel, .listed, .data, .pinned, .pinned], laidTests := true, laidLooks := .later }
def TopSharedBloomCardSaid : Prop := Claim7.holds Tryz.pinned (.plain (OpenSpec.ofChange topSharedBloomSpec)) topSharedBloomCard

/-- THE SECOND FORM's CARD OF 'stageposttop.TopSharedRanges'. -/
def topSharedRangesUptoCard : Claim7 := { stood := { row := topSharedRangesUptoRow, standIns := [], harness := (true, "e88cb1d2931ba79f4ffa5279f10a2e67dfe0066efd1cb3ef438dbe01adf74346"), looks := true }, kinds := [], alts := [], laidByText := true, laidKinds := [.data, .data, .data, .data, .sentinel, .sentinel, .listed, .data, .pinned, .pinned], laidTests := true, laidLooks := .later }
def TopSharedRangesUptoCardSaid : Prop := Claim7.holds Tryz.pinned (.plain (OpenSpec.upto topSharedRangesSpec)) topSharedRangesUptoCard

/-- THE SECOND FORM's CARD OF 'stageposttop.TopSharedBloom'. -/
def topSharedBloomUptoCard : Claim7 := { stood := { row := topSharedBloomUptoRow, standIns := [], harness := (true, "e88cb1d2931ba79f4ffa5279f10a2e67dfe0066efd1cb3ef438dbe01adf74346"), looks := true }, kinds := [], alts := [], laidByText := true, laidKinds := [.data, .data, .data, .data, .sentinel, .sentinel, .listed, .data, .pinned, .pinned], laidTests := true, laidLooks := .later }
def TopSharedBloomUptoCardSaid : Prop := Claim7.holds Tryz.pinned (.plain (OpenSpec.upto topSharedBloomSpec)) topSharedBloomUptoCard
end Rows
end Go.Proofs.YtoplphimhbnelaaGreatDoor
