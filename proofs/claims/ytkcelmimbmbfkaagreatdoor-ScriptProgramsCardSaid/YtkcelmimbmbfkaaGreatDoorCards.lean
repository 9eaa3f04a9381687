/-
  DERIVED. GIVEN WITH THE SEED: THE CARDS: each row of YtkcelmimbmbfkaaGreatDoorRows.lean that lists a variable, with what it lists TIED to the program's text (the seventh form; the later family's looks); each row that meets fmt, with fmt's text TOLD by the authors' own Lean function (tested against real Go, not proved from fmt's source: count such statements apart). THE CARD IS WHAT COUNTS. Prove the row's statement (the work); the ties are given (YtkcelmimbmbfkaaGreatDoorTie.lean); close each card by the builder's one call (the guide's Derived/Test/ToyasCard.lean, 'card_holds'). Laid BY PROGRAM, IN A SANDBOX (cutbox-door.mjs). By AI agents, Wed Nov 11 2026. No macro, syntax, notation, axiom, sorry.
-/
import Derived.Test.YtkcelmimbmbfkaaGreatDoorRows
import GoSem.ClaimSeven
namespace Go.Proofs.YtkcelmimbmbfkaaGreatDoor
namespace Rows

/-- THE TIED CARD OF 'steadinglaw29.ScriptPrograms'. -/
def scriptProgramsCard : Claim7 := { stood := { row := scriptProgramsRow, standIns := [], harness := (true, "9be6af2d51d04cc339a36db618ef66166d78547fb77f01dd21156fbbc7ab0135"), looks := true }, kinds := [], alts := [], laidByText := true, laidKinds := [.data, .data, .data, .data, .sentinel, .sentinel, .pinned, .pinned], laidTests := true, laidLooks := .later }
def ScriptProgramsCardSaid : Prop := Claim7.holds Tryz.pinned (.plain (OpenSpec.ofChange scriptProgramsSpec)) scriptProgramsCard

/-- THE SECOND FORM's CARD OF 'steadinglaw29.ScriptPrograms'. -/
def scriptProgramsUptoCard : Claim7 := { stood := { row := scriptProgramsUptoRow, standIns := [], harness := (true, "9be6af2d51d04cc339a36db618ef66166d78547fb77f01dd21156fbbc7ab0135"), looks := true }, kinds := [], alts := [], laidByText := true, laidKinds := [.data, .data, .data, .data, .sentinel, .sentinel, .pinned, .pinned], laidTests := true, laidLooks := .later }
def ScriptProgramsUptoCardSaid : Prop := Claim7.holds Tryz.pinned (.plain (OpenSpec.upto scriptProgramsSpec)) scriptProgramsUptoCard
end Rows
end Go.Proofs.YtkcelmimbmbfkaaGreatDoor
