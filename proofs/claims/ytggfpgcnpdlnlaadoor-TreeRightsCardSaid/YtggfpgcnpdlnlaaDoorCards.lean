/-
  DERIVED. GIVEN WITH THE SEED: THE CARDS: each row of YtggfpgcnpdlnlaaDoorRows.lean that lists a variable, with what it lists TIED to the program's text (the seventh form; the later family's looks); each row that meets fmt, with fmt's text TOLD by the authors' own Lean function (tested against real Go, not proved from fmt's source: count such statements apart). THE CARD IS WHAT COUNTS. Prove the row's statement (the work); the ties are given (YtggfpgcnpdlnlaaDoorTie.lean); close each card by the builder's one call (the guide's Derived/Test/ToyasCard.lean, 'card_holds'). Laid BY PROGRAM, IN A SANDBOX (cutbox-door.mjs). By AI agents, Wed Nov 11 2026. No macro, syntax, notation, axiom, sorry.
-/
import Derived.Test.YtggfpgcnpdlnlaaDoorRows
import GoSem.ClaimSeven
namespace Go.Proofs.YtggfpgcnpdlnlaaDoor
namespace Rows

/-- THE TIED CARD OF 'steadinglaw18.TreeRights'. -/
def treeRightsCard : Claim7 := { stood := { row := treeRightsRow, standIns := [], harness := (true, "999070e10f91841f3438c2657a9c4ae1cbe534ef79a0c347e70fb376db7d40e7"), looks := false }, kinds := [], alts := [], laidByText := true, laidKinds := [.data, .pinned], laidTests := true, laidLooks := .later }
def TreeRightsCardSaid : Prop := Claim7.holds Tryd.pinned (.plain (OpenSpec.ofChange treeRightsSpec)) treeRightsCard

/-- THE SECOND FORM's CARD OF 'steadinglaw18.TreeRights'. -/
def treeRightsUptoCard : Claim7 := { stood := { row := treeRightsUptoRow, standIns := [], harness := (true, "999070e10f91841f3438c2657a9c4ae1cbe534ef79a0c347e70fb376db7d40e7"), looks := false }, kinds := [], alts := [], laidByText := true, laidKinds := [.data, .pinned], laidTests := true, laidLooks := .later }
def TreeRightsUptoCardSaid : Prop := Claim7.holds Tryd.pinned (.plain (OpenSpec.upto treeRightsSpec)) treeRightsUptoCard
end Rows
end Go.Proofs.YtggfpgcnpdlnlaaDoor
