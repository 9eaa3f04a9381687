/-
  DERIVED. GIVEN WITH THE SEED: THE CARDS: each row of YtmbpllipombieaaDoorRows.lean that lists a variable, with what it lists TIED to the program's text (the seventh form; the later family's looks); each row that meets fmt, with fmt's text TOLD by the authors' own Lean function (tested against real Go, not proved from fmt's source: count such statements apart). THE CARD IS WHAT COUNTS. Prove the row's statement (the work); the ties are given (YtmbpllipombieaaDoorTie.lean); close each card by the builder's one call (the guide's Derived/Test/ToyasCard.lean, 'card_holds'). Laid BY PROGRAM, IN A SANDBOX (cutbox-door.mjs). By AI agents, Wed Nov 11 2026. No macro, syntax, notation, axiom, sorry.
-/
import Derived.Test.YtmbpllipombieaaDoorRows
import GoSem.ClaimSeven
namespace Go.Proofs.YtmbpllipombieaaDoor
namespace Rows

/-- THE TIED CARD OF 'steadinglaw26.ShellParses'. -/
def shellParsesCard : Claim7 := { stood := { row := shellParsesRow, standIns := [], harness := (true, "2270e15249f9b873c26b916644616447053140a24bee2b698995d5265533c1fc"), looks := false }, kinds := [], alts := [], laidByText := true, laidKinds := [.data, .data, .data], laidTests := true, laidLooks := .later }
def ShellParsesCardSaid : Prop := Claim7.holds Tryd.pinned (.plain (OpenSpec.ofChange shellParsesSpec)) shellParsesCard

/-- THE TIED CARD OF 'steadinglaw26.ShellTexts'. -/
def shellTextsCard : Claim7 := { stood := { row := shellTextsRow, standIns := [], harness := (true, "2270e15249f9b873c26b916644616447053140a24bee2b698995d5265533c1fc"), looks := false }, kinds := [], alts := [], laidByText := true, laidKinds := [.data, .data, .data], laidTests := true, laidLooks := .later }
def ShellTextsCardSaid : Prop := Claim7.holds Tryd.pinned (.plain (OpenSpec.ofChange shellTextsSpec)) shellTextsCard

/-- THE TIED CARD OF 'steadinglaw26.ShellTokens'. -/
def shellTokensCard : Claim7 := { stood := { row := shellTokensRow, standIns := [], harness := (true, "2270e15249f9b873c26b916644616447053140a24bee2b698995d5265533c1fc"), looks := false }, kinds := [], alts := [], laidByText := true, laidKinds := [.data, .data, .data], laidTests := true, laidLooks := .later }
def ShellTokensCardSaid : Prop := Claim7.holds Tryd.pinned (.plain (OpenSpec.ofChange shellTokensSpec)) shellTokensCard

/-- THE TIED CARD OF 'steadinglaw26.ShellSame'. -/
def shellSameCard : Claim7 := { stood := { row := shellSameRow, standIns := [], harness := (true, "2270e15249f9b873c26b916644616447053140a24bee2b698995d5265533c1fc"), looks := false }, kinds := [], alts := [], laidByText := true, laidKinds := [.data, .data, .data], laidTests := true, laidLooks := .later }
def ShellSameCardSaid : Prop := Claim7.holds Tryd.pinned (.plain (OpenSpec.ofChange shellSameSpec)) shellSameCard

/-- THE TIED CARD OF 'steadinglaw26.ShellBounds'. -/
def shellBoundsCard : Claim7 := { stood := { row := shellBoundsRow, standIns := [], harness := (true, "2270e15249f9b873c26b916644616447053140a24bee2b698995d5265533c1fc"), looks := false }, kinds := [], alts := [], laidByText := true, laidKinds := [.data, .data, .data], laidTests := true, laidLooks := .later }
def ShellBoundsCardSaid : Prop := Claim7.holds Tryd.pinned (.plain (OpenSpec.ofChange shellBoundsSpec)) shellBoundsCard

/-- THE TIED CARD OF 'steadinglaw26.ShellBack'. -/
def shellBackCard : Claim7 := { stood := { row := shellBackRow, standIns := [], harness := (true, "2270e15249f9b873c26b916644616447053140a24bee2b698995d5265533c1fc"), looks := false }, kinds := [], alts := [], laidByText := true, laidKinds := [.data, .data, .data], laidTests := true, laidLooks := .later }
def ShellBackCardSaid : Prop := Claim7.holds Tryd.pinned (.plain (OpenSpec.ofChange shellBackSpec)) shellBackCard

/-- THE SECOND FORM's CARD OF 'steadinglaw26.ShellParses'. -/
def shellParsesUptoCard : Claim7 := { stood := { row := shellParsesUptoRow, standIns := [], harness := (true, "2270e15249f9b873c26b916644616447053140a24bee2b698995d5265533c1fc"), looks := false }, kinds := [], alts := [], laidByText := true, laidKinds := [.data, .data, .data], laidTests := true, laidLooks := .later }
def ShellParsesUptoCardSaid : Prop := Claim7.holds Tryd.pinned (.plain (OpenSpec.upto shellParsesSpec)) shellParsesUptoCard

/-- THE SECOND FORM's CARD OF 'steadinglaw26.ShellTexts'. -/
def shellTextsUptoCard : Claim7 := { stood := { row := shellTextsUptoRow, standIns := [], harness := (true, "2270e15249f9b873c26b916644616447053140a24bee2b698995d5265533c1fc"), looks := false }, kinds := [], alts := [], laidByText := true, laidKinds := [.data, .data, .data], laidTests := true, laidLooks := .later }
def ShellTextsUptoCardSaid : Prop := Claim7.holds Tryd.pinned (.plain (OpenSpec.upto shellTextsSpec)) shellTextsUptoCard

/-- THE SECOND FORM's CARD OF 'steadinglaw26.ShellTokens'. -/
def shellTokensUptoCard : Claim7 := { stood := { row := shellTokensUptoRow, standIns := [], harness := (true, "2270e15249f9b873c26b916644616447053140a24bee2b698995d5265533c1fc"), looks := false }, kinds := [], alts := [], laidByText := true, laidKinds := [.data, .data, .data], laidTests := true, laidLooks := .later }
def ShellTokensUptoCardSaid : Prop := Claim7.holds Tryd.pinned (.plain (OpenSpec.upto shellTokensSpec)) shellTokensUptoCard

/-- THE SECOND FORM's CARD OF 'steadinglaw26.ShellSame'. -/
def shellSameUptoCard : Claim7 := { stood := { row := shellSameUptoRow, standIns := [], harness := (true, "2270e15249f9b873c26b916644616447053140a24bee2b698995d5265533c1fc"), looks := false }, kinds := [], alts := [], laidByText := true, laidKinds := [.data, .data, .data], laidTests := true, laidLooks := .later }
def ShellSameUptoCardSaid : Prop := Claim7.holds Tryd.pinned (.plain (OpenSpec.upto shellSameSpec)) shellSameUptoCard

/-- THE SECOND FORM's CARD OF 'steadinglaw26.ShellBounds'. -/
def shellBoundsUptoCard : Claim7 := { stood := { row := shellBoundsUptoRow, standIns := [], harness := (true, "2270e15249f9b873c26b916644616447053140a24bee2b698995d5265533c1fc"), looks := false }, kinds := [], alts := [], laidByText := true, laidKinds := [.data, .data, .data], laidTests := true, laidLooks := .later }
def ShellBoundsUptoCardSaid : Prop := Claim7.holds Tryd.pinned (.plain (OpenSpec.upto shellBoundsSpec)) shellBoundsUptoCard

/-- THE SECOND FORM's CARD OF 'steadinglaw26.ShellBack'. -/
def shellBackUptoCard : Claim7 := { stood := { row := shellBackUptoRow, standIns := [], harness := (true, "2270e15249f9b873c26b916644616447053140a24bee2b698995d5265533c1fc"), looks := false }, kinds := [], alts := [], laidByText := true, laidKinds := [.data, .data, .data], laidTests := true, laidLooks := .later }
def ShellBackUptoCardSaid : Prop := Claim7.holds Tryd.pinned (.plain (OpenSpec.upto shellBackSpec)) shellBackUptoCard
end Rows
end Go.Proofs.YtmbpllipombieaaDoor
