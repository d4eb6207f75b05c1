/-
  DERIVED. GIVEN WITH THE SEED: THE CARDS: each row of YtlckcnkognnlpaaGreatDoorRows.lean that lists a variable, with what it lists TIED to the program's text (the seventh form; the later family's looks); each row that meets fmt, with fmt's text TOLD by the authors' own Lean function (tested against real Go, not proved from fmt's source: count such statements apart). THE CARD IS WHAT COUNTS. Prove the row's statement (the work); the ties are given (YtlckcnkognnlpaaGreatDoorTie.lean); close each card by the builder's one call (the guide's Derived/Test/ToyasCard.lean, 'card_holds'). Laid BY PROGRAM, IN A SANDBOX (cutbox-door.mjs). By AI agents, Wed Nov 11 2026. No macro, syntax, notation, axiom, sorry.
-/
import Derived.Test.YtlckcnkognnlpaaGreatDoorRows
import GoSem.ClaimSeven
namespace Go.Proofs.YtlckcnkognnlpaaGreatDoor
namespace Rows

/-- THE TIED CARD OF 'stageposttop.TopSharedCrc'. -/
def topSharedCrcCard : Claim7 := { stood := { row := topSharedCrcRow, standIns := [], harness := (true, "08248b72ddaed04194a471ae49c75d45ba31d2a1a8da1e3951f8121f2540f9f3"), looks := true }, kinds := [], alts := [], laidByText := true, laidKinds := [.data, .data, .data, .data, .sentinel, .sentinel, .listed, .data, .pinned, .pinned], laidTests := true, laidLooks := .later }
def TopSharedCrcCardSaid : Prop := Claim7.holds Tryz.pinned (.plain (OpenSpec.ofChange topSharedCrcSpec)) topSharedCrcCard

/-- THE SECOND FORM's CARD OF 'stageposttop.TopSharedCrc'. -/
def topSharedCrcUptoCard : Claim7 := { stood := { row := topSharedCrcUptoRow, standIns := [], harness := (true, "08248b72ddaed04194a471ae49c75d45ba31d2a1a8da1e3951f8121f2540f9f3"), looks := true }, kinds := [], alts := [], laidByText := true, laidKinds := [.data, .data, .data, .data, .sentinel, .sentinel, .listed, .data, .pinned, .pinned], laidTests := true, laidLooks := .later }
def TopSharedCrcUptoCardSaid : Prop := Claim7.holds Tryz.pinned (.plain (OpenSpec.upto topSharedCrcSpec)) topSharedCrcUptoCard
end Rows
end Go.Proofs.YtlckcnkognnlpaaGreatDoor
