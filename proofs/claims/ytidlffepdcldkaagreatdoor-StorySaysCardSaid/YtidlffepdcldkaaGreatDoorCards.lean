/-
  DERIVED. GIVEN WITH THE SEED: THE CARDS: each row of YtidlffepdcldkaaGreatDoorRows.lean that lists a variable, with what it lists TIED to the program's text (the seventh form; the later family's looks); each row that meets fmt, with fmt's text TOLD by the authors' own Lean function (tested against real Go, not proved from fmt's source: count such statements apart). THE CARD IS WHAT COUNTS. Prove the row's statement (the work); the ties are given (YtidlffepdcldkaaGreatDoorTie.lean); close each card by the builder's one call (the guide's Derived/Test/ToyasCard.lean, 'card_holds'). Laid BY PROGRAM, IN A SANDBOX (cutbox-door.mjs). By AI agents, Wed Nov 11 2026. No macro, syntax, notation, axiom, sorry.
-/
import Derived.Test.YtidlffepdcldkaaGreatDoorRows
import GoSem.ClaimSeven
namespace Go.Proofs.YtidlffepdcldkaaGreatDoor
namespace Rows

/-- THE TIED CARD OF 'carillonlaw.StorySays'. -/
def storySaysCard : Claim7 := { stood := { row := storySaysRow, standIns := [], harness := (true, "37ed7c1ff9ba9a85d3027762ffa86ab19c1afbf8e8bff442b304c5cec6c0fd50"), looks := true }, kinds := [], alts := [], laidByText := true, laidKinds := [.data, .data, .data, .data, .sentinel, .sentinel, .pinned], laidTests := true, laidLooks := .later }
def StorySaysCardSaid : Prop := Claim7.holds Tryz.pinned (.plain (OpenSpec.ofChange storySaysSpec)) storySaysCard

/-- THE SECOND FORM's CARD OF 'carillonlaw.StorySays'. -/
def storySaysUptoCard : Claim7 := { stood := { row := storySaysUptoRow, standIns := [], harness := (true, "37ed7c1ff9ba9a85d3027762ffa86ab19c1afbf8e8bff442b304c5cec6c0fd50"), looks := true }, kinds := [], alts := [], laidByText := true, laidKinds := [.data, .data, .data, .data, .sentinel, .sentinel, .pinned], laidTests := true, laidLooks := .later }
def StorySaysUptoCardSaid : Prop := Claim7.holds Tryz.pinned (.plain (OpenSpec.upto storySaysSpec)) storySaysUptoCard
end Rows
end Go.Proofs.YtidlffepdcldkaaGreatDoor
