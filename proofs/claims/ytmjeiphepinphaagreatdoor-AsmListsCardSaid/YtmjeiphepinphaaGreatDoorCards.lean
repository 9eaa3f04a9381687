/-
  DERIVED. GIVEN WITH THE SEED: THE CARDS: each row of YtmjeiphepinphaaGreatDoorRows.lean that lists a variable, with what it lists TIED to the program's text (the seventh form; the later family's looks); each row that meets fmt, with fmt's text TOLD by the authors' own Lean function (tested against real Go, not proved from fmt's source: count such statements apart). THE CARD IS WHAT COUNTS. Prove the row's statement (the work); the ties are given (YtmjeiphepinphaaGreatDoorTie.lean); close each card by the builder's one call (the guide's Derived/Test/ToyasCard.lean, 'card_holds'). Laid BY PROGRAM, IN A SANDBOX (cutbox-door.mjs). By AI agents, Wed Nov 11 2026. No macro, syntax, notation, axiom, sorry.
-/
import Derived.Test.YtmjeiphepinphaaGreatDoorRows
import GoSem.ClaimSeven
namespace Go.Proofs.YtmjeiphepinphaaGreatDoor
namespace Rows

/-- THE TIED CARD OF 'steadinglaw04.AsmLists'. -/
def asmListsCard : Claim7 := { stood := { row := asmListsRow, standIns := [], harness := (true, "3863390bf6570a32940eefe6185d860b5168e99b0ad97224b93d5b53c822d2b1"), looks := true }, kinds := [], alts := [], laidByText := true, laidKinds := [.data, .data, .data, .sentinel, .sentinel], laidTests := true, laidLooks := .later }
def AsmListsCardSaid : Prop := Claim7.holds Tryz.pinned (.plain (OpenSpec.ofChange asmListsSpec)) asmListsCard

/-- THE SECOND FORM's CARD OF 'steadinglaw04.AsmLists'. -/
def asmListsUptoCard : Claim7 := { stood := { row := asmListsUptoRow, standIns := [], harness := (true, "3863390bf6570a32940eefe6185d860b5168e99b0ad97224b93d5b53c822d2b1"), looks := true }, kinds := [], alts := [], laidByText := true, laidKinds := [.data, .data, .data, .sentinel, .sentinel], laidTests := true, laidLooks := .later }
def AsmListsUptoCardSaid : Prop := Claim7.holds Tryz.pinned (.plain (OpenSpec.upto asmListsSpec)) asmListsUptoCard
end Rows
end Go.Proofs.YtmjeiphepinphaaGreatDoor
