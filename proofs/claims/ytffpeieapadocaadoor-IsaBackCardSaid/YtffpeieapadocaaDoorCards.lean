/-
  DERIVED. GIVEN WITH THE SEED: THE CARDS: each row of YtffpeieapadocaaDoorRows.lean that lists a variable, with what it lists TIED to the program's text (the seventh form; the later family's looks); each row that meets fmt, with fmt's text TOLD by the authors' own Lean function (tested against real Go, not proved from fmt's source: count such statements apart). THE CARD IS WHAT COUNTS. Prove the row's statement (the work); the ties are given (YtffpeieapadocaaDoorTie.lean); close each card by the builder's one call (the guide's Derived/Test/ToyasCard.lean, 'card_holds'). Laid BY PROGRAM, IN A SANDBOX (cutbox-door.mjs). By AI agents, Wed Nov 11 2026. No macro, syntax, notation, axiom, sorry.
-/
import Derived.Test.YtffpeieapadocaaDoorRows
import GoSem.ClaimSeven
namespace Go.Proofs.YtffpeieapadocaaDoor
namespace Rows

/-- THE TIED CARD OF 'steadinglaw03.IsaBack'. -/
def isaBackCard : Claim7 := { stood := { row := isaBackRow, standIns := [], harness := (true, "d539a37f9e976849a0ae5c8e2aac8164d0c6a4dcc7ee5cbe7124596763c859df"), looks := true }, kinds := [], alts := [], laidByText := true, laidKinds := [.data, .data, .data, .sentinel, .sentinel], laidTests := true, laidLooks := .later }
def IsaBackCardSaid : Prop := Claim7.holds Tryd.pinned (.plain (OpenSpec.ofChange isaBackSpec)) isaBackCard

/-- THE TIED CARD OF 'steadinglaw03.IsaOps'. -/
def isaOpsCard : Claim7 := { stood := { row := isaOpsRow, standIns := [], harness := (true, "d539a37f9e976849a0ae5c8e2aac8164d0c6a4dcc7ee5cbe7124596763c859df"), looks := true }, kinds := [], alts := [], laidByText := true, laidKinds := [.data, .data, .data, .sentinel, .sentinel], laidTests := true, laidLooks := .later }
def IsaOpsCardSaid : Prop := Claim7.holds Tryd.pinned (.plain (OpenSpec.ofChange isaOpsSpec)) isaOpsCard

/-- THE SECOND FORM's CARD OF 'steadinglaw03.IsaBack'. -/
def isaBackUptoCard : Claim7 := { stood := { row := isaBackUptoRow, standIns := [], harness := (true, "d539a37f9e976849a0ae5c8e2aac8164d0c6a4dcc7ee5cbe7124596763c859df"), looks := true }, kinds := [], alts := [], laidByText := true, laidKinds := [.data, .data, .data, .sentinel, .sentinel], laidTests := true, laidLooks := .later }
def IsaBackUptoCardSaid : Prop := Claim7.holds Tryd.pinned (.plain (OpenSpec.upto isaBackSpec)) isaBackUptoCard

/-- THE SECOND FORM's CARD OF 'steadinglaw03.IsaOps'. -/
def isaOpsUptoCard : Claim7 := { stood := { row := isaOpsUptoRow, standIns := [], harness := (true, "d539a37f9e976849a0ae5c8e2aac8164d0c6a4dcc7ee5cbe7124596763c859df"), looks := true }, kinds := [], alts := [], laidByText := true, laidKinds := [.data, .data, .data, .sentinel, .sentinel], laidTests := true, laidLooks := .later }
def IsaOpsUptoCardSaid : Prop := Claim7.holds Tryd.pinned (.plain (OpenSpec.upto isaOpsSpec)) isaOpsUptoCard
end Rows
end Go.Proofs.YtffpeieapadocaaDoor
