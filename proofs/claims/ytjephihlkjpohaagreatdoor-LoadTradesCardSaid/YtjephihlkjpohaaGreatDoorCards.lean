/-
  DERIVED. GIVEN WITH THE SEED: THE CARDS: each row of YtjephihlkjpohaaGreatDoorRows.lean that lists a variable, with what it lists TIED to the program's text (the seventh form; the later family's looks); each row that meets fmt, with fmt's text TOLD by the authors' own Lean function (tested against real Go, not proved from fmt's source: count such statements apart). THE CARD IS WHAT COUNTS. Prove the row's statement (the work); the ties are given (YtjephihlkjpohaaGreatDoorTie.lean); close each card by the builder's one call (the guide's Derived/Test/ToyasCard.lean, 'card_holds'). Laid BY PROGRAM, IN A SANDBOX (cutbox-door.mjs). By AI agents, Wed Nov 11 2026. No macro, syntax, notation, axiom, sorry.
-/
import Derived.Test.YtjephihlkjpohaaGreatDoorRows
import GoSem.ClaimSeven
namespace Go.Proofs.YtjephihlkjpohaaGreatDoor
namespace Rows

/-- THE TIED CARD OF 'azalailaw05.LoadTrades'. -/
def loadTradesCard : Claim7 := { stood := { row := loadTradesRow, standIns := [], harness := (true, "58ed05b042d3d994c9c1517feb5f2354d1167661a4dd5a646f573e59d7470ae1"), looks := true }, kinds := [], alts := [], laidByText := true, laidKinds := [.data], laidTests := true, laidLooks := .later }
def LoadTradesCardSaid : Prop := Claim7.holds Tryz.pinned (.plain (OpenSpec.ofChange loadTradesSpec)) loadTradesCard

/-- THE TIED CARD OF 'azalailaw05.LoadTrue'. -/
def loadTrueCard : Claim7 := { stood := { row := loadTrueRow, standIns := [], harness := (true, "58ed05b042d3d994c9c1517feb5f2354d1167661a4dd5a646f573e59d7470ae1"), looks := true }, kinds := [], alts := [], laidByText := true, laidKinds := [.data], laidTests := true, laidLooks := .later }
def LoadTrueCardSaid : Prop := Claim7.holds Tryz.pinned (.plain (OpenSpec.ofChange loadTrueSpec)) loadTrueCard

/-- THE TIED CARD OF 'azalailaw05.LoadSettled'. -/
def loadSettledCard : Claim7 := { stood := { row := loadSettledRow, standIns := [], harness := (true, "58ed05b042d3d994c9c1517feb5f2354d1167661a4dd5a646f573e59d7470ae1"), looks := true }, kinds := [], alts := [], laidByText := true, laidKinds := [.data], laidTests := true, laidLooks := .later }
def LoadSettledCardSaid : Prop := Claim7.holds Tryz.pinned (.plain (OpenSpec.ofChange loadSettledSpec)) loadSettledCard

/-- THE TIED CARD OF 'azalailaw05.LoadTraded'. -/
def loadTradedCard : Claim7 := { stood := { row := loadTradedRow, standIns := [], harness := (true, "58ed05b042d3d994c9c1517feb5f2354d1167661a4dd5a646f573e59d7470ae1"), looks := true }, kinds := [], alts := [], laidByText := true, laidKinds := [.data], laidTests := true, laidLooks := .later }
def LoadTradedCardSaid : Prop := Claim7.holds Tryz.pinned (.plain (OpenSpec.ofChange loadTradedSpec)) loadTradedCard

/-- THE TIED CARD OF 'azalailaw05.LoadNarrow'. -/
def loadNarrowCard : Claim7 := { stood := { row := loadNarrowRow, standIns := [], harness := (true, "58ed05b042d3d994c9c1517feb5f2354d1167661a4dd5a646f573e59d7470ae1"), looks := true }, kinds := [], alts := [], laidByText := true, laidKinds := [.data], laidTests := true, laidLooks := .later }
def LoadNarrowCardSaid : Prop := Claim7.holds Tryz.pinned (.plain (OpenSpec.ofChange loadNarrowSpec)) loadNarrowCard

/-- THE TIED CARD OF 'azalailaw05.LoadLevel'. -/
def loadLevelCard : Claim7 := { stood := { row := loadLevelRow, standIns := [], harness := (true, "58ed05b042d3d994c9c1517feb5f2354d1167661a4dd5a646f573e59d7470ae1"), looks := true }, kinds := [], alts := [], laidByText := true, laidKinds := [.data], laidTests := true, laidLooks := .later }
def LoadLevelCardSaid : Prop := Claim7.holds Tryz.pinned (.plain (OpenSpec.ofChange loadLevelSpec)) loadLevelCard

/-- THE TIED CARD OF 'azalailaw05.LoadBears'. -/
def loadBearsCard : Claim7 := { stood := { row := loadBearsRow, standIns := [], harness := (true, "58ed05b042d3d994c9c1517feb5f2354d1167661a4dd5a646f573e59d7470ae1"), looks := true }, kinds := [], alts := [], laidByText := true, laidKinds := [.data], laidTests := true, laidLooks := .later }
def LoadBearsCardSaid : Prop := Claim7.holds Tryz.pinned (.plain (OpenSpec.ofChange loadBearsSpec)) loadBearsCard

/-- THE TIED CARD OF 'azalailaw05.LoadMost'. -/
def loadMostCard : Claim7 := { stood := { row := loadMostRow, standIns := [], harness := (true, "58ed05b042d3d994c9c1517feb5f2354d1167661a4dd5a646f573e59d7470ae1"), looks := true }, kinds := [], alts := [], laidByText := true, laidKinds := [.data], laidTests := true, laidLooks := .later }
def LoadMostCardSaid : Prop := Claim7.holds Tryz.pinned (.plain (OpenSpec.ofChange loadMostSpec)) loadMostCard

/-- THE TIED CARD OF 'azalailaw05.LoadLess'. -/
def loadLessCard : Claim7 := { stood := { row := loadLessRow, standIns := [], harness := (true, "58ed05b042d3d994c9c1517feb5f2354d1167661a4dd5a646f573e59d7470ae1"), looks := true }, kinds := [], alts := [], laidByText := true, laidKinds := [.data], laidTests := true, laidLooks := .later }
def LoadLessCardSaid : Prop := Claim7.holds Tryz.pinned (.plain (OpenSpec.ofChange loadLessSpec)) loadLessCard

/-- THE TIED CARD OF 'azalailaw05.LoadExamples'. -/
def loadExamplesCard : Claim7 := { stood := { row := loadExamplesRow, standIns := [], harness := (true, "58ed05b042d3d994c9c1517feb5f2354d1167661a4dd5a646f573e59d7470ae1"), looks := true }, kinds := [], alts := [], laidByText := true, laidKinds := [.data], laidTests := true, laidLooks := .later }
def LoadExamplesCardSaid : Prop := Claim7.holds Tryz.pinned (.plain (OpenSpec.ofChange loadExamplesSpec)) loadExamplesCard

/-- THE SECOND FORM's CARD OF 'azalailaw05.LoadTrades'. -/
def loadTradesUptoCard : Claim7 := { stood := { row := loadTradesUptoRow, standIns := [], harness := (true, "58ed05b042d3d994c9c1517feb5f2354d1167661a4dd5a646f573e59d7470ae1"), looks := true }, kinds := [], alts := [], laidByText := true, laidKinds := [.data], laidTests := true, laidLooks := .later }
def LoadTradesUptoCardSaid : Prop := Claim7.holds Tryz.pinned (.plain (OpenSpec.upto loadTradesSpec)) loadTradesUptoCard

/-- THE SECOND FORM's CARD OF 'azalailaw05.LoadTrue'. -/
def loadTrueUptoCard : Claim7 := { stood := { row := loadTrueUptoRow, standIns := [], harness := (true, "58ed05b042d3d994c9c1517feb5f2354d1167661a4dd5a646f573e59d7470ae1"), looks := true }, kinds := [], alts := [], laidByText := true, laidKinds := [.data], laidTests := true, laidLooks := .later }
def LoadTrueUptoCardSaid : Prop := Claim7.holds Tryz.pinned (.plain (OpenSpec.upto loadTrueSpec)) loadTrueUptoCard

/-- THE SECOND FORM's CARD OF 'azalailaw05.LoadSettled'. -/
def loadSettledUptoCard : Claim7 := { stood := { row := loadSettledUptoRow, standIns := [], harness := (true, "58ed05b042d3d994c9c1517feb5f2354d1167661a4dd5a646f573e59d7470ae1"), looks := true }, kinds := [], alts := [], laidByText := true, laidKinds := [.data], laidTests := true, laidLooks := .later }
def LoadSettledUptoCardSaid : Prop := Claim7.holds Tryz.pinned (.plain (OpenSpec.upto loadSettledSpec)) loadSettledUptoCard

/-- THE SECOND FORM's CARD OF 'azalailaw05.LoadTraded'. -/
def loadTradedUptoCard : Claim7 := { stood := { row := loadTradedUptoRow, standIns := [], harness := (true, "58ed05b042d3d994c9c1517feb5f2354d1167661a4dd5a646f573e59d7470ae1"), looks := true }, kinds := [], alts := [], laidByText := true, laidKinds := [.data], laidTests := true, laidLooks := .later }
def LoadTradedUptoCardSaid : Prop := Claim7.holds Tryz.pinned (.plain (OpenSpec.upto loadTradedSpec)) loadTradedUptoCard

/-- THE SECOND FORM's CARD OF 'azalailaw05.LoadNarrow'. -/
def loadNarrowUptoCard : Claim7 := { stood := { row := loadNarrowUptoRow, standIns := [], harness := (true, "58ed05b042d3d994c9c1517feb5f2354d1167661a4dd5a646f573e59d7470ae1"), looks := true }, kinds := [], alts := [], laidByText := true, laidKinds := [.data], laidTests := true, laidLooks := .later }
def LoadNarrowUptoCardSaid : Prop := Claim7.holds Tryz.pinned (.plain (OpenSpec.upto loadNarrowSpec)) loadNarrowUptoCard

/-- THE SECOND FORM's CARD OF 'azalailaw05.LoadLevel'. -/
def loadLevelUptoCard : Claim7 := { stood := { row := loadLevelUptoRow, standIns := [], harness := (true, "58ed05b042d3d994c9c1517feb5f2354d1167661a4dd5a646f573e59d7470ae1"), looks := true }, kinds := [], alts := [], laidByText := true, laidKinds := [.data], laidTests := true, laidLooks := .later }
def LoadLevelUptoCardSaid : Prop := Claim7.holds Tryz.pinned (.plain (OpenSpec.upto loadLevelSpec)) loadLevelUptoCard

/-- THE SECOND FORM's CARD OF 'azalailaw05.LoadBears'. -/
def loadBearsUptoCard : Claim7 := { stood := { row := loadBearsUptoRow, standIns := [], harness := (true, "58ed05b042d3d994c9c1517feb5f2354d1167661a4dd5a646f573e59d7470ae1"), looks := true }, kinds := [], alts := [], laidByText := true, laidKinds := [.data], laidTests := true, laidLooks := .later }
def LoadBearsUptoCardSaid : Prop := Claim7.holds Tryz.pinned (.plain (OpenSpec.upto loadBearsSpec)) loadBearsUptoCard

/-- THE SECOND FORM's CARD OF 'azalailaw05.LoadMost'. -/
def loadMostUptoCard : Claim7 := { stood := { row := loadMostUptoRow, standIns := [], harness := (true, "58ed05b042d3d994c9c1517feb5f2354d1167661a4dd5a646f573e59d7470ae1"), looks := true }, kinds := [], alts := [], laidByText := true, laidKinds := [.data], laidTests := true, laidLooks := .later }
def LoadMostUptoCardSaid : Prop := Claim7.holds Tryz.pinned (.plain (OpenSpec.upto loadMostSpec)) loadMostUptoCard

/-- THE SECOND FORM's CARD OF 'azalailaw05.LoadLess'. -/
def loadLessUptoCard : Claim7 := { stood := { row := loadLessUptoRow, standIns := [], harness := (true, "58ed05b042d3d994c9c1517feb5f2354d1167661a4dd5a646f573e59d7470ae1"), looks := true }, kinds := [], alts := [], laidByText := true, laidKinds := [.data], laidTests := true, laidLooks := .later }
def LoadLessUptoCardSaid : Prop := Claim7.holds Tryz.pinned (.plain (OpenSpec.upto loadLessSpec)) loadLessUptoCard

/-- THE SECOND FORM's CARD OF 'azalailaw05.LoadExamples'. -/
def loadExamplesUptoCard : Claim7 := { stood := { row := loadExamplesUptoRow, standIns := [], harness := (true, "58ed05b042d3d994c9c1517feb5f2354d1167661a4dd5a646f573e59d7470ae1"), looks := true }, kinds := [], alts := [], laidByText := true, laidKinds := [.data], laidTests := true, laidLooks := .later }
def LoadExamplesUptoCardSaid : Prop := Claim7.holds Tryz.pinned (.plain (OpenSpec.upto loadExamplesSpec)) loadExamplesUptoCard
end Rows
end Go.Proofs.YtjephihlkjpohaaGreatDoor
