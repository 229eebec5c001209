/-
  DERIVED. GIVEN WITH THE SEED: THE CARDS: each row of YtagcnokaajinlaaDoorRows.lean that lists a variable, with what it lists TIED to the program's text (the seventh form; the later family's looks); each row that meets fmt, with fmt's text TOLD by the authors' own Lean function (tested against real Go, not proved from fmt's source: count such statements apart). THE CARD IS WHAT COUNTS. Prove the row's statement (the work); the ties are given (YtagcnokaajinlaaDoorTie.lean); close each card by the builder's one call (the guide's Derived/Test/ToyasCard.lean, 'card_holds'). Laid BY PROGRAM, IN A SANDBOX (cutbox-door.mjs). By AI agents, Wed Nov 11 2026. No macro, syntax, notation, axiom, sorry.
-/
import Derived.Test.YtagcnokaajinlaaDoorRows
import GoSem.ClaimSeven
namespace Go.Proofs.YtagcnokaajinlaaDoor
namespace Rows

/-- THE TIED CARD OF 'azalailaw05.LoadRests'. -/
def loadRestsCard : Claim7 := { stood := { row := loadRestsRow, standIns := [], harness := (true, "5e250161c78c3ab55ca589243ccbdb3b06cfa1012200efb1cdf11ae0bfbd5b60"), looks := true }, kinds := [], alts := [], laidByText := true, laidKinds := [.data], laidTests := true, laidLooks := .later }
def LoadRestsCardSaid : Prop := Claim7.holds Tryd.pinned (.plain (OpenSpec.ofChange loadRestsSpec)) loadRestsCard

/-- THE TIED CARD OF 'azalailaw05.LoadStows'. -/
def loadStowsCard : Claim7 := { stood := { row := loadStowsRow, standIns := [], harness := (true, "5e250161c78c3ab55ca589243ccbdb3b06cfa1012200efb1cdf11ae0bfbd5b60"), looks := true }, kinds := [], alts := [], laidByText := true, laidKinds := [.data], laidTests := true, laidLooks := .later }
def LoadStowsCardSaid : Prop := Claim7.holds Tryd.pinned (.plain (OpenSpec.ofChange loadStowsSpec)) loadStowsCard

/-- THE TIED CARD OF 'azalailaw05.LoadSides'. -/
def loadSidesCard : Claim7 := { stood := { row := loadSidesRow, standIns := [], harness := (true, "5e250161c78c3ab55ca589243ccbdb3b06cfa1012200efb1cdf11ae0bfbd5b60"), looks := true }, kinds := [], alts := [], laidByText := true, laidKinds := [.data], laidTests := true, laidLooks := .later }
def LoadSidesCardSaid : Prop := Claim7.holds Tryd.pinned (.plain (OpenSpec.ofChange loadSidesSpec)) loadSidesCard

/-- THE SECOND FORM's CARD OF 'azalailaw05.LoadRests'. -/
def loadRestsUptoCard : Claim7 := { stood := { row := loadRestsUptoRow, standIns := [], harness := (true, "5e250161c78c3ab55ca589243ccbdb3b06cfa1012200efb1cdf11ae0bfbd5b60"), looks := true }, kinds := [], alts := [], laidByText := true, laidKinds := [.data], laidTests := true, laidLooks := .later }
def LoadRestsUptoCardSaid : Prop := Claim7.holds Tryd.pinned (.plain (OpenSpec.upto loadRestsSpec)) loadRestsUptoCard

/-- THE SECOND FORM's CARD OF 'azalailaw05.LoadStows'. -/
def loadStowsUptoCard : Claim7 := { stood := { row := loadStowsUptoRow, standIns := [], harness := (true, "5e250161c78c3ab55ca589243ccbdb3b06cfa1012200efb1cdf11ae0bfbd5b60"), looks := true }, kinds := [], alts := [], laidByText := true, laidKinds := [.data], laidTests := true, laidLooks := .later }
def LoadStowsUptoCardSaid : Prop := Claim7.holds Tryd.pinned (.plain (OpenSpec.upto loadStowsSpec)) loadStowsUptoCard

/-- THE SECOND FORM's CARD OF 'azalailaw05.LoadSides'. -/
def loadSidesUptoCard : Claim7 := { stood := { row := loadSidesUptoRow, standIns := [], harness := (true, "5e250161c78c3ab55ca589243ccbdb3b06cfa1012200efb1cdf11ae0bfbd5b60"), looks := true }, kinds := [], alts := [], laidByText := true, laidKinds := [.data], laidTests := true, laidLooks := .later }
def LoadSidesUptoCardSaid : Prop := Claim7.holds Tryd.pinned (.plain (OpenSpec.upto loadSidesSpec)) loadSidesUptoCard
end Rows
end Go.Proofs.YtagcnokaajinlaaDoor
