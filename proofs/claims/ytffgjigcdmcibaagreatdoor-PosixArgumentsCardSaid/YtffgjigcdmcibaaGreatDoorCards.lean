/-
  DERIVED. GIVEN WITH THE SEED: THE CARDS: each row of YtffgjigcdmcibaaGreatDoorRows.lean that lists a variable, with what it lists TIED to the program's text (the seventh form; the later family's looks); each row that meets fmt, with fmt's text TOLD by the authors' own Lean function (tested against real Go, not proved from fmt's source: count such statements apart). THE CARD IS WHAT COUNTS. Prove the row's statement (the work); the ties are given (YtffgjigcdmcibaaGreatDoorTie.lean); close each card by the builder's one call (the guide's Derived/Test/ToyasCard.lean, 'card_holds'). Laid BY PROGRAM, IN A SANDBOX (cutbox-door.mjs). By AI agents, Wed Nov 11 2026. No macro, syntax, notation, axiom, sorry.
-/
import Derived.Test.YtffgjigcdmcibaaGreatDoorRows
import GoSem.ClaimSeven
namespace Go.Proofs.YtffgjigcdmcibaaGreatDoor
namespace Rows

/-- THE TIED CARD OF 'steadinglaw25.PosixArguments'. -/
def posixArgumentsCard : Claim7 := { stood := { row := posixArgumentsRow, standIns := [], harness := (true, "ad0d039302bc8d0c006ff7e6ce8792e1089ea97685ce3351d674f054a5786b0b"), looks := true }, kinds := [], alts := [], laidByText := true, laidKinds := [.data, .pinned], laidTests := true, laidLooks := .later }
def PosixArgumentsCardSaid : Prop := Claim7.holds Tryz.pinned (.plain (OpenSpec.ofChange posixArgumentsSpec)) posixArgumentsCard

/-- THE SECOND FORM's CARD OF 'steadinglaw25.PosixArguments'. -/
def posixArgumentsUptoCard : Claim7 := { stood := { row := posixArgumentsUptoRow, standIns := [], harness := (true, "ad0d039302bc8d0c006ff7e6ce8792e1089ea97685ce3351d674f054a5786b0b"), looks := true }, kinds := [], alts := [], laidByText := true, laidKinds := [.data, .pinned], laidTests := true, laidLooks := .later }
def PosixArgumentsUptoCardSaid : Prop := Claim7.holds Tryz.pinned (.plain (OpenSpec.upto posixArgumentsSpec)) posixArgumentsUptoCard
end Rows
end Go.Proofs.YtffgjigcdmcibaaGreatDoor
