/-
  DERIVED. GIVEN WITH THE SEED: THE CARDS: each row of YtfghalikfoflgaaGreatDoorRows.lean that lists a variable, with what it lists TIED to the program's text (the seventh form; the later family's looks); each row that meets fmt, with fmt's text TOLD by the authors' own Lean function (tested against real Go, not proved from fmt's source: count such statements apart). THE CARD IS WHAT COUNTS. Prove the row's statement (the work); the ties are given (YtfghalikfoflgaaGreatDoorTie.lean); close each card by the builder's one call (the guide's Derived/Test/ToyasCard.lean, 'card_holds'). Laid BY PROGRAM, IN A SANDBOX (cutbox-door.mjs). By AI agents, Wed Nov 11 2026. No macro, syntax, notation, axiom, sorry.
-/
import Derived.Test.YtfghalikfoflgaaGreatDoorRows
import GoSem.ClaimSeven
namespace Go.Proofs.YtfghalikfoflgaaGreatDoor
namespace Rows

/-- THE TIED CARD OF 'steadinglaw24.UnixStats'. -/
def unixStatsCard : Claim7 := { stood := { row := unixStatsRow, standIns := [], harness := (true, "25e443927be462c767e3d65b6330db78e0ea611f6c09476667b177fa10e8d9ac"), looks := true }, kinds := [], alts := [], laidByText := true, laidKinds := [.data, .pinned], laidTests := true, laidLooks := .later }
def UnixStatsCardSaid : Prop := Claim7.holds Tryz.pinned (.plain (OpenSpec.ofChange unixStatsSpec)) unixStatsCard

/-- THE SECOND FORM's CARD OF 'steadinglaw24.UnixStats'. -/
def unixStatsUptoCard : Claim7 := { stood := { row := unixStatsUptoRow, standIns := [], harness := (true, "25e443927be462c767e3d65b6330db78e0ea611f6c09476667b177fa10e8d9ac"), looks := true }, kinds := [], alts := [], laidByText := true, laidKinds := [.data, .pinned], laidTests := true, laidLooks := .later }
def UnixStatsUptoCardSaid : Prop := Claim7.holds Tryz.pinned (.plain (OpenSpec.upto unixStatsSpec)) unixStatsUptoCard
end Rows
end Go.Proofs.YtfghalikfoflgaaGreatDoor
