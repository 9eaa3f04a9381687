/-
  DERIVED. GIVEN WITH THE SEED: THE CARDS: each row of YtffpeieapadocaaGreatDoorRows.lean that lists a variable, with what it lists TIED to the program's text (the seventh form; the later family's looks); each row that meets fmt, with fmt's text TOLD by the authors' own Lean function (tested against real Go, not proved from fmt's source: count such statements apart). THE CARD IS WHAT COUNTS. Prove the row's statement (the work); the ties are given (YtffpeieapadocaaGreatDoorTie.lean); close each card by the builder's one call (the guide's Derived/Test/ToyasCard.lean, 'card_holds'). Laid BY PROGRAM, IN A SANDBOX (cutbox-door.mjs). By AI agents, Wed Nov 11 2026. No macro, syntax, notation, axiom, sorry.
-/
import Derived.Test.YtffpeieapadocaaGreatDoorRows
import GoSem.ClaimSeven
namespace Go.Proofs.YtffpeieapadocaaGreatDoor
namespace Rows

/-- THE TIED CARD OF 'steadinglaw03.IsaWords'. -/
def isaWordsCard : Claim7 := { stood := { row := isaWordsRow, standIns := [], harness := (true, "e21abc8748d6c8db5597deb8270235c749e0fadeefde202f2a1a4dcc8ddbd682"), looks := true }, kinds := [], alts := [], laidByText := true, laidKinds := [.data, .data, .data, .sentinel, .sentinel], laidTests := true, laidLooks := .later }
def IsaWordsCardSaid : Prop := Claim7.holds Tryz.pinned (.plain (OpenSpec.ofChange isaWordsSpec)) isaWordsCard

/-- THE TIED CARD OF 'steadinglaw03.IsaTexts'. -/
def isaTextsCard : Claim7 := { stood := { row := isaTextsRow, standIns := [], harness := (true, "e21abc8748d6c8db5597deb8270235c749e0fadeefde202f2a1a4dcc8ddbd682"), looks := true }, kinds := [], alts := [], laidByText := true, laidKinds := [.data, .data, .data, .sentinel, .sentinel], laidTests := true, laidLooks := .later }
def IsaTextsCardSaid : Prop := Claim7.holds Tryz.pinned (.plain (OpenSpec.ofChange isaTextsSpec)) isaTextsCard

/-- THE TIED CARD OF 'steadinglaw03.IsaTouches'. -/
def isaTouchesCard : Claim7 := { stood := { row := isaTouchesRow, standIns := [], harness := (true, "e21abc8748d6c8db5597deb8270235c749e0fadeefde202f2a1a4dcc8ddbd682"), looks := true }, kinds := [], alts := [], laidByText := true, laidKinds := [.data, .data, .data, .sentinel, .sentinel], laidTests := true, laidLooks := .later }
def IsaTouchesCardSaid : Prop := Claim7.holds Tryz.pinned (.plain (OpenSpec.ofChange isaTouchesSpec)) isaTouchesCard

/-- THE TIED CARD OF 'steadinglaw03.IsaOf'. -/
def isaOfCard : Claim7 := { stood := { row := isaOfRow, standIns := [], harness := (true, "e21abc8748d6c8db5597deb8270235c749e0fadeefde202f2a1a4dcc8ddbd682"), looks := true }, kinds := [], alts := [], laidByText := true, laidKinds := [.data, .data, .data, .sentinel, .sentinel], laidTests := true, laidLooks := .later }
def IsaOfCardSaid : Prop := Claim7.holds Tryz.pinned (.plain (OpenSpec.ofChange isaOfSpec)) isaOfCard

/-- THE TIED CARD OF 'steadinglaw03.IsaAll'. -/
def isaAllCard : Claim7 := { stood := { row := isaAllRow, standIns := [], harness := (true, "e21abc8748d6c8db5597deb8270235c749e0fadeefde202f2a1a4dcc8ddbd682"), looks := true }, kinds := [], alts := [], laidByText := true, laidKinds := [.data, .data, .data, .sentinel, .sentinel], laidTests := true, laidLooks := .later }
def IsaAllCardSaid : Prop := Claim7.holds Tryz.pinned (.plain (OpenSpec.ofChange isaAllSpec)) isaAllCard

/-- THE SECOND FORM's CARD OF 'steadinglaw03.IsaWords'. -/
def isaWordsUptoCard : Claim7 := { stood := { row := isaWordsUptoRow, standIns := [], harness := (true, "e21abc8748d6c8db5597deb8270235c749e0fadeefde202f2a1a4dcc8ddbd682"), looks := true }, kinds := [], alts := [], laidByText := true, laidKinds := [.data, .data, .data, .sentinel, .sentinel], laidTests := true, laidLooks := .later }
def IsaWordsUptoCardSaid : Prop := Claim7.holds Tryz.pinned (.plain (OpenSpec.upto isaWordsSpec)) isaWordsUptoCard

/-- THE SECOND FORM's CARD OF 'steadinglaw03.IsaTexts'. -/
def isaTextsUptoCard : Claim7 := { stood := { row := isaTextsUptoRow, standIns := [], harness := (true, "e21abc8748d6c8db5597deb8270235c749e0fadeefde202f2a1a4dcc8ddbd682"), looks := true }, kinds := [], alts := [], laidByText := true, laidKinds := [.data, .data, .data, .sentinel, .sentinel], laidTests := true, laidLooks := .later }
def IsaTextsUptoCardSaid : Prop := Claim7.holds Tryz.pinned (.plain (OpenSpec.upto isaTextsSpec)) isaTextsUptoCard

/-- THE SECOND FORM's CARD OF 'steadinglaw03.IsaTouches'. -/
def isaTouchesUptoCard : Claim7 := { stood := { row := isaTouchesUptoRow, standIns := [], harness := (true, "e21abc8748d6c8db5597deb8270235c749e0fadeefde202f2a1a4dcc8ddbd682"), looks := true }, kinds := [], alts := [], laidByText := true, laidKinds := [.data, .data, .data, .sentinel, .sentinel], laidTests := true, laidLooks := .later }
def IsaTouchesUptoCardSaid : Prop := Claim7.holds Tryz.pinned (.plain (OpenSpec.upto isaTouchesSpec)) isaTouchesUptoCard

/-- THE SECOND FORM's CARD OF 'steadinglaw03.IsaOf'. -/
def isaOfUptoCard : Claim7 := { stood := { row := isaOfUptoRow, standIns := [], harness := (true, "e21abc8748d6c8db5597deb8270235c749e0fadeefde202f2a1a4dcc8ddbd682"), looks := true }, kinds := [], alts := [], laidByText := true, laidKinds := [.data, .data, .data, .sentinel, .sentinel], laidTests := true, laidLooks := .later }
def IsaOfUptoCardSaid : Prop := Claim7.holds Tryz.pinned (.plain (OpenSpec.upto isaOfSpec)) isaOfUptoCard

/-- THE SECOND FORM's CARD OF 'steadinglaw03.IsaAll'. -/
def isaAllUptoCard : Claim7 := { stood := { row := isaAllUptoRow, standIns := [], harness := (true, "e21abc8748d6c8db5597deb8270235c749e0fadeefde202f2a1a4dcc8ddbd682"), looks := true }, kinds := [], alts := [], laidByText := true, laidKinds := [.data, .data, .data, .sentinel, .sentinel], laidTests := true, laidLooks := .later }
def IsaAllUptoCardSaid : Prop := Claim7.holds Tryz.pinned (.plain (OpenSpec.upto isaAllSpec)) isaAllUptoCard
end Rows
end Go.Proofs.YtffpeieapadocaaGreatDoor
