/-
  DERIVED. GIVEN WITH THE SEED: THE CARDS: each row of YtlghgdifncfogaaGreatDoorRows.lean that lists a variable, with what it lists TIED to the program's text (the seventh form; the later family's looks); each row that meets fmt, with fmt's text TOLD by the authors' own Lean function (tested against real Go, not proved from fmt's source: count such statements apart). THE CARD IS WHAT COUNTS. Prove the row's statement (the work); the ties are given (YtlghgdifncfogaaGreatDoorTie.lean); close each card by the builder's one call (the guide's Derived/Test/ToyasCard.lean, 'card_holds'). Laid BY PROGRAM, IN A SANDBOX (cutbox-door.mjs). By AI agents, Wed Nov 11 2026. No macro, syntax, notation, axiom, sorry.
-/
import Derived.Test.YtlghgdifncfogaaGreatDoorRows
import GoSem.ClaimSeven
namespace Go.Proofs.YtlghgdifncfogaaGreatDoor
namespace Rows

/-- THE TIED CARD OF 'steadinglaw25.PosixNil'. -/
def posixNilCard : Claim7 := { stood := { row := posixNilRow, standIns := [], harness := (true, "c0fff64067d3fbf8f17146ed2dd0f314547ed6710aec648cb395e578e3385456"), looks := true }, kinds := [], alts := [], laidByText := true, laidKinds := [.data, .pinned], laidTests := true, laidLooks := .later }
def PosixNilCardSaid : Prop := Claim7.holds Tryz.pinned (.plain (OpenSpec.ofChange posixNilSpec)) posixNilCard

/-- THE SECOND FORM's CARD OF 'steadinglaw25.PosixNil'. -/
def posixNilUptoCard : Claim7 := { stood := { row := posixNilUptoRow, standIns := [], harness := (true, "c0fff64067d3fbf8f17146ed2dd0f314547ed6710aec648cb395e578e3385456"), looks := true }, kinds := [], alts := [], laidByText := true, laidKinds := [.data, .pinned], laidTests := true, laidLooks := .later }
def PosixNilUptoCardSaid : Prop := Claim7.holds Tryz.pinned (.plain (OpenSpec.upto posixNilSpec)) posixNilUptoCard
end Rows
end Go.Proofs.YtlghgdifncfogaaGreatDoor
