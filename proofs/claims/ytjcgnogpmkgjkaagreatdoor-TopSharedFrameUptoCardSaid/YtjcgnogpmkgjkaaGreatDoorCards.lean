/-
  DERIVED. GIVEN WITH THE SEED: THE CARDS: each row of YtjcgnogpmkgjkaaGreatDoorRows.lean that lists a variable, with what it lists TIED to the program's text (the seventh form; the later family's looks); each row that meets fmt, with fmt's text TOLD by the authors' own Lean function (tested against real Go, not proved from fmt's source: count such statements apart). THE CARD IS WHAT COUNTS. Prove the row's statement (the work); the ties are given (YtjcgnogpmkgjkaaGreatDoorTie.lean); close each card by the builder's one call (the guide's Derived/Test/ToyasCard.lean, 'card_holds'). Laid BY PROGRAM, IN A SANDBOX (cutbox-door.mjs). By AI agents, Wed Nov 11 2026. No macro, syntax, notation, axiom, sorry.
-/
import Derived.Test.YtjcgnogpmkgjkaaGreatDoorRows
import GoSem.ClaimSeven
namespace Go.Proofs.YtjcgnogpmkgjkaaGreatDoor
namespace Rows

/-- THE TIED CARD OF 'stageposttop.TopSharedFrame'. -/
def topSharedFrameCard : Claim7 := { stood := { row := topSharedFrameRow, standIns := [], harness := (true, "dc121b8918c5d85b4a93840cee78c80b5bbbdda61ab47f44103d581496e17351"), looks := true }, kinds := [], alts := [], laidByText := true, laidKinds := [.data, .data, .data, .data, .sentinel, .sentinel, .listed, .data, .pinned, .pinned], laidTests := true, laidLooks := .later }
def TopSharedFrameCardSaid : Prop := Claim7.holds Tryz.pinned (.plain (OpenSpec.ofChange topSharedFrameSpec)) topSharedFrameCard

/-- THE SECOND FORM's CARD OF 'stageposttop.TopSharedFrame'. -/
def topSharedFrameUptoCard : Claim7 := { stood := { row := topSharedFrameUptoRow, standIns := [], harness := (true, "dc121b8918c5d85b4a93840cee78c80b5bbbdda61ab47f44103d581496e17351"), looks := true }, kinds := [], alts := [], laidByText := true, laidKinds := [.data, .data, .data, .data, .sentinel, .sentinel, .listed, .data, .pinned, .pinned], laidTests := true, laidLooks := .later }
def TopSharedFrameUptoCardSaid : Prop := Claim7.holds Tryz.pinned (.plain (OpenSpec.upto topSharedFrameSpec)) topSharedFrameUptoCard
end Rows
end Go.Proofs.YtjcgnogpmkgjkaaGreatDoor
