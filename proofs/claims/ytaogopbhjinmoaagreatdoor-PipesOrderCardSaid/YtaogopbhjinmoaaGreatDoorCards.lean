/-
  DERIVED. GIVEN WITH THE SEED: THE CARDS: each row of YtaogopbhjinmoaaGreatDoorRows.lean that lists a variable, with what it lists TIED to the program's text (the seventh form; the later family's looks); each row that meets fmt, with fmt's text TOLD by the authors' own Lean function (tested against real Go, not proved from fmt's source: count such statements apart). THE CARD IS WHAT COUNTS. Prove the row's statement (the work); the ties are given (YtaogopbhjinmoaaGreatDoorTie.lean); close each card by the builder's one call (the guide's Derived/Test/ToyasCard.lean, 'card_holds'). Laid BY PROGRAM, IN A SANDBOX (cutbox-door.mjs). By AI agents, Wed Nov 11 2026. No macro, syntax, notation, axiom, sorry.
-/
import Derived.Test.YtaogopbhjinmoaaGreatDoorRows
import GoSem.ClaimSeven
namespace Go.Proofs.YtaogopbhjinmoaaGreatDoor
namespace Rows

/-- THE TIED CARD OF 'steadinglaw21.PipesOrder'. -/
def pipesOrderCard : Claim7 := { stood := { row := pipesOrderRow, standIns := [], harness := (true, "5866c833520065f5f151f3e1caa004fba209881e298a0eef1743369e3c9d82b1"), looks := true }, kinds := [], alts := [], laidByText := true, laidKinds := [.data, .pinned], laidTests := true, laidLooks := .later }
def PipesOrderCardSaid : Prop := Claim7.holds Tryz.pinned (.plain (OpenSpec.ofChange pipesOrderSpec)) pipesOrderCard

/-- THE SECOND FORM's CARD OF 'steadinglaw21.PipesOrder'. -/
def pipesOrderUptoCard : Claim7 := { stood := { row := pipesOrderUptoRow, standIns := [], harness := (true, "5866c833520065f5f151f3e1caa004fba209881e298a0eef1743369e3c9d82b1"), looks := true }, kinds := [], alts := [], laidByText := true, laidKinds := [.data, .pinned], laidTests := true, laidLooks := .later }
def PipesOrderUptoCardSaid : Prop := Claim7.holds Tryz.pinned (.plain (OpenSpec.upto pipesOrderSpec)) pipesOrderUptoCard
end Rows
end Go.Proofs.YtaogopbhjinmoaaGreatDoor
