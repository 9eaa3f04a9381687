/-
  DERIVED. GIVEN WITH THE SEED: THE CARDS: each row of YtmbfboidfbaeiaaGreatDoorRows.lean that lists a variable, with what it lists TIED to the program's text (the seventh form; the later family's looks); each row that meets fmt, with fmt's text TOLD by the authors' own Lean function (tested against real Go, not proved from fmt's source: count such statements apart). THE CARD IS WHAT COUNTS. Prove the row's statement (the work); the ties are given (YtmbfboidfbaeiaaGreatDoorTie.lean); close each card by the builder's one call (the guide's Derived/Test/ToyasCard.lean, 'card_holds'). Laid BY PROGRAM, IN A SANDBOX (cutbox-door.mjs). By AI agents, Wed Nov 11 2026. No macro, syntax, notation, axiom, sorry.
-/
import Derived.Test.YtmbfboidfbaeiaaGreatDoorRows
import GoSem.ClaimSeven
namespace Go.Proofs.YtmbfboidfbaeiaaGreatDoor
namespace Rows

/-- THE TIED CARD OF 'steadinglaw27.MeanRows'. -/
def meanRowsCard : Claim7 := { stood := { row := meanRowsRow, standIns := [], harness := (true, "fef9e904696bbca468165a48ee5c4cbd845651567d942f5b29b8b43567769ffc"), looks := true }, kinds := [], alts := [], laidByText := true, laidKinds := [.data, .data, .data, .data, .sentinel, .sentinel, .pinned], laidTests := true, laidLooks := .later }
def MeanRowsCardSaid : Prop := Claim7.holds Tryz.pinned (.plain (OpenSpec.ofChange meanRowsSpec)) meanRowsCard

/-- THE TIED CARD OF 'steadinglaw27.MeanNil'. -/
def meanNilCard : Claim7 := { stood := { row := meanNilRow, standIns := [], harness := (true, "fef9e904696bbca468165a48ee5c4cbd845651567d942f5b29b8b43567769ffc"), looks := true }, kinds := [], alts := [], laidByText := true, laidKinds := [.data, .data, .data, .data, .sentinel, .sentinel, .pinned], laidTests := true, laidLooks := .later }
def MeanNilCardSaid : Prop := Claim7.holds Tryz.pinned (.plain (OpenSpec.ofChange meanNilSpec)) meanNilCard

/-- THE SECOND FORM's CARD OF 'steadinglaw27.MeanRows'. -/
def meanRowsUptoCard : Claim7 := { stood := { row := meanRowsUptoRow, standIns := [], harness := (true, "fef9e904696bbca468165a48ee5c4cbd845651567d942f5b29b8b43567769ffc"), looks := true }, kinds := [], alts := [], laidByText := true, laidKinds := [.data, .data, .data, .data, .sentinel, .sentinel, .pinned], laidTests := true, laidLooks := .later }
def MeanRowsUptoCardSaid : Prop := Claim7.holds Tryz.pinned (.plain (OpenSpec.upto meanRowsSpec)) meanRowsUptoCard

/-- THE SECOND FORM's CARD OF 'steadinglaw27.MeanNil'. -/
def meanNilUptoCard : Claim7 := { stood := { row := meanNilUptoRow, standIns := [], harness := (true, "fef9e904696bbca468165a48ee5c4cbd845651567d942f5b29b8b43567769ffc"), looks := true }, kinds := [], alts := [], laidByText := true, laidKinds := [.data, .data, .data, .data, .sentinel, .sentinel, .pinned], laidTests := true, laidLooks := .later }
def MeanNilUptoCardSaid : Prop := Claim7.holds Tryz.pinned (.plain (OpenSpec.upto meanNilSpec)) meanNilUptoCard
end Rows
end Go.Proofs.YtmbfboidfbaeiaaGreatDoor
