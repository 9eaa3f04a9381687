/-
  DERIVED. GIVEN WITH THE SEED: THE CARDS: each row of YtjimcbpkpgempaaGreatDoorRows.lean that lists a variable, with what it lists TIED to the program's text (the seventh form; the later family's looks); each row that meets fmt, with fmt's text TOLD by the authors' own Lean function (tested against real Go, not proved from fmt's source: count such statements apart). THE CARD IS WHAT COUNTS. Prove the row's statement (the work); the ties are given (YtjimcbpkpgempaaGreatDoorTie.lean); close each card by the builder's one call (the guide's Derived/Test/ToyasCard.lean, 'card_holds'). Laid BY PROGRAM, IN A SANDBOX (cutbox-door.mjs). By AI agents, Wed Nov 11 2026. No macro, syntax, notation, axiom, sorry.
-/
import Derived.Test.YtjimcbpkpgempaaGreatDoorRows
import GoSem.ClaimSeven
namespace Go.Proofs.YtjimcbpkpgempaaGreatDoor
namespace Rows

/-- THE TIED CARD OF 'steadinglaw21.PipesNil'. -/
def pipesNilCard : Claim7 := { stood := { row := pipesNilRow, standIns := [], harness := (true, "30f93975e087067f0394bdb483c5f23cbc95be2caa434ba0cc5ceb0d5dd3f620"), looks := true }, kinds := [], alts := [], laidByText := true, laidKinds := [.data, .pinned], laidTests := true, laidLooks := .later }
def PipesNilCardSaid : Prop := Claim7.holds Tryz.pinned (.plain (OpenSpec.ofChange pipesNilSpec)) pipesNilCard

/-- THE TIED CARD OF 'steadinglaw21.PipesMay'. -/
def pipesMayCard : Claim7 := { stood := { row := pipesMayRow, standIns := [], harness := (true, "30f93975e087067f0394bdb483c5f23cbc95be2caa434ba0cc5ceb0d5dd3f620"), looks := true }, kinds := [], alts := [], laidByText := true, laidKinds := [.data, .pinned], laidTests := true, laidLooks := .later }
def PipesMayCardSaid : Prop := Claim7.holds Tryz.pinned (.plain (OpenSpec.ofChange pipesMaySpec)) pipesMayCard

/-- THE SECOND FORM's CARD OF 'steadinglaw21.PipesNil'. -/
def pipesNilUptoCard : Claim7 := { stood := { row := pipesNilUptoRow, standIns := [], harness := (true, "30f93975e087067f0394bdb483c5f23cbc95be2caa434ba0cc5ceb0d5dd3f620"), looks := true }, kinds := [], alts := [], laidByText := true, laidKinds := [.data, .pinned], laidTests := true, laidLooks := .later }
def PipesNilUptoCardSaid : Prop := Claim7.holds Tryz.pinned (.plain (OpenSpec.upto pipesNilSpec)) pipesNilUptoCard

/-- THE SECOND FORM's CARD OF 'steadinglaw21.PipesMay'. -/
def pipesMayUptoCard : Claim7 := { stood := { row := pipesMayUptoRow, standIns := [], harness := (true, "30f93975e087067f0394bdb483c5f23cbc95be2caa434ba0cc5ceb0d5dd3f620"), looks := true }, kinds := [], alts := [], laidByText := true, laidKinds := [.data, .pinned], laidTests := true, laidLooks := .later }
def PipesMayUptoCardSaid : Prop := Claim7.holds Tryz.pinned (.plain (OpenSpec.upto pipesMaySpec)) pipesMayUptoCard
end Rows
end Go.Proofs.YtjimcbpkpgempaaGreatDoor
