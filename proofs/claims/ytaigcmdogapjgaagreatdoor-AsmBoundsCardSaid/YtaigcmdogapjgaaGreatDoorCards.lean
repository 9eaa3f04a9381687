/-
  DERIVED. GIVEN WITH THE SEED: THE CARDS: each row of YtaigcmdogapjgaaGreatDoorRows.lean that lists a variable, with what it lists TIED to the program's text (the seventh form; the later family's looks); each row that meets fmt, with fmt's text TOLD by the authors' own Lean function (tested against real Go, not proved from fmt's source: count such statements apart). THE CARD IS WHAT COUNTS. Prove the row's statement (the work); the ties are given (YtaigcmdogapjgaaGreatDoorTie.lean); close each card by the builder's one call (the guide's Derived/Test/ToyasCard.lean, 'card_holds'). Laid BY PROGRAM, IN A SANDBOX (cutbox-door.mjs). By AI agents, Wed Nov 11 2026. No macro, syntax, notation, axiom, sorry.
-/
import Derived.Test.YtaigcmdogapjgaaGreatDoorRows
import GoSem.ClaimSeven
namespace Go.Proofs.YtaigcmdogapjgaaGreatDoor
namespace Rows

/-- THE TIED CARD OF 'steadinglaw04.AsmBounds'. -/
def asmBoundsCard : Claim7 := { stood := { row := asmBoundsRow, standIns := [], harness := (true, "b18e621379094b0532d5c88a6d4a984f237b83d10056541b5aa35e4ff69f5de9"), looks := true }, kinds := [], alts := [], laidByText := true, laidKinds := [.data, .data, .data, .sentinel, .sentinel], laidTests := true, laidLooks := .later }
def AsmBoundsCardSaid : Prop := Claim7.holds Tryz.pinned (.plain (OpenSpec.ofChange asmBoundsSpec)) asmBoundsCard

/-- THE SECOND FORM's CARD OF 'steadinglaw04.AsmBounds'. -/
def asmBoundsUptoCard : Claim7 := { stood := { row := asmBoundsUptoRow, standIns := [], harness := (true, "b18e621379094b0532d5c88a6d4a984f237b83d10056541b5aa35e4ff69f5de9"), looks := true }, kinds := [], alts := [], laidByText := true, laidKinds := [.data, .data, .data, .sentinel, .sentinel], laidTests := true, laidLooks := .later }
def AsmBoundsUptoCardSaid : Prop := Claim7.holds Tryz.pinned (.plain (OpenSpec.upto asmBoundsSpec)) asmBoundsUptoCard
end Rows
end Go.Proofs.YtaigcmdogapjgaaGreatDoor
