/-
  DERIVED. GIVEN WITH THE SEED: THE CARDS: each row of YtljhdcclajikiaaGreatDoorRows.lean that lists a variable, with what it lists TIED to the program's text (the seventh form; the later family's looks); each row that meets fmt, with fmt's text TOLD by the authors' own Lean function (tested against real Go, not proved from fmt's source: count such statements apart). THE CARD IS WHAT COUNTS. Prove the row's statement (the work); the ties are given (YtljhdcclajikiaaGreatDoorTie.lean); close each card by the builder's one call (the guide's Derived/Test/ToyasCard.lean, 'card_holds'). Laid BY PROGRAM, IN A SANDBOX (cutbox-door.mjs). By AI agents, Wed Nov 11 2026. No macro, syntax, notation, axiom, sorry.
-/
import Derived.Test.YtljhdcclajikiaaGreatDoorRows
import GoSem.ClaimSeven
namespace Go.Proofs.YtljhdcclajikiaaGreatDoor
namespace Rows

/-- THE TIED CARD OF 'azalailaw05.LoadTraded'. -/
def loadTradedCard : Claim7 := { stood := { row := loadTradedRow, standIns := [], harness := (true, "c43401af9d6783908cfc6a8fdc070360aa5b4e1ab4b200a0b4f18ce956b2f1e5"), looks := true }, kinds := [], alts := [], laidByText := true, laidKinds := [.data], laidTests := true, laidLooks := .later }
def LoadTradedCardSaid : Prop := Claim7.holds Tryz.pinned (.plain (OpenSpec.ofChange loadTradedSpec)) loadTradedCard

/-- THE TIED CARD OF 'azalailaw05.LoadMost'. -/
def loadMostCard : Claim7 := { stood := { row := loadMostRow, standIns := [], harness := (true, "c43401af9d6783908cfc6a8fdc070360aa5b4e1ab4b200a0b4f18ce956b2f1e5"), looks := true }, kinds := [], alts := [], laidByText := true, laidKinds := [.data], laidTests := true, laidLooks := .later }
def LoadMostCardSaid : Prop := Claim7.holds Tryz.pinned (.plain (OpenSpec.ofChange loadMostSpec)) loadMostCard

/-- THE SECOND FORM's CARD OF 'azalailaw05.LoadTraded'. -/
def loadTradedUptoCard : Claim7 := { stood := { row := loadTradedUptoRow, standIns := [], harness := (true, "c43401af9d6783908cfc6a8fdc070360aa5b4e1ab4b200a0b4f18ce956b2f1e5"), looks := true }, kinds := [], alts := [], laidByText := true, laidKinds := [.data], laidTests := true, laidLooks := .later }
def LoadTradedUptoCardSaid : Prop := Claim7.holds Tryz.pinned (.plain (OpenSpec.upto loadTradedSpec)) loadTradedUptoCard

/-- THE SECOND FORM's CARD OF 'azalailaw05.LoadMost'. -/
def loadMostUptoCard : Claim7 := { stood := { row := loadMostUptoRow, standIns := [], harness := (true, "c43401af9d6783908cfc6a8fdc070360aa5b4e1ab4b200a0b4f18ce956b2f1e5"), looks := true }, kinds := [], alts := [], laidByText := true, laidKinds := [.data], laidTests := true, laidLooks := .later }
def LoadMostUptoCardSaid : Prop := Claim7.holds Tryz.pinned (.plain (OpenSpec.upto loadMostSpec)) loadMostUptoCard
end Rows
end Go.Proofs.YtljhdcclajikiaaGreatDoor
