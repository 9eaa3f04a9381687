/-
  DERIVED. GIVEN WITH THE SEED: THE CARDS: each row of YtngllbbkjnhgbaaGreatDoorRows.lean that lists a variable, with what it lists TIED to the program's text (the seventh form; the later family's looks); each row that meets fmt, with fmt's text TOLD by the authors' own Lean function (tested against real Go, not proved from fmt's source: count such statements apart). THE CARD IS WHAT COUNTS. Prove the row's statement (the work); the ties are given (YtngllbbkjnhgbaaGreatDoorTie.lean); close each card by the builder's one call (the guide's Derived/Test/ToyasCard.lean, 'card_holds'). Laid BY PROGRAM, IN A SANDBOX (cutbox-door.mjs). By AI agents, Wed Nov 11 2026. No macro, syntax, notation, axiom, sorry.
-/
import Derived.Test.YtngllbbkjnhgbaaGreatDoorRows
import GoSem.ClaimSeven
namespace Go.Proofs.YtngllbbkjnhgbaaGreatDoor
namespace Rows

/-- THE TIED CARD OF 'steadinglaw24.UnixNil'. -/
def unixNilCard : Claim7 := { stood := { row := unixNilRow, standIns := [], harness := (true, "d3fe7ca67c9015c2d76f61738c5101e6c167d6432306460dd71a6ced733fa93f"), looks := true }, kinds := [], alts := [], laidByText := true, laidKinds := [.data, .pinned], laidTests := true, laidLooks := .later }
def UnixNilCardSaid : Prop := Claim7.holds Tryz.pinned (.plain (OpenSpec.ofChange unixNilSpec)) unixNilCard

/-- THE SECOND FORM's CARD OF 'steadinglaw24.UnixNil'. -/
def unixNilUptoCard : Claim7 := { stood := { row := unixNilUptoRow, standIns := [], harness := (true, "d3fe7ca67c9015c2d76f61738c5101e6c167d6432306460dd71a6ced733fa93f"), looks := true }, kinds := [], alts := [], laidByText := true, laidKinds := [.data, .pinned], laidTests := true, laidLooks := .later }
def UnixNilUptoCardSaid : Prop := Claim7.holds Tryz.pinned (.plain (OpenSpec.upto unixNilSpec)) unixNilUptoCard
end Rows
end Go.Proofs.YtngllbbkjnhgbaaGreatDoor
