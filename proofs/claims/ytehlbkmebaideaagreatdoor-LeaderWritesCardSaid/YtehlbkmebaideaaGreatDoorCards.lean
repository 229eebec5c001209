/-
  DERIVED. GIVEN WITH THE SEED: THE CARDS: each row of YtehlbkmebaideaaGreatDoorRows.lean that lists a variable, with what it lists TIED to the program's text (the seventh form; the later family's looks); each row that meets fmt, with fmt's text TOLD by the authors' own Lean function (tested against real Go, not proved from fmt's source: count such statements apart). THE CARD IS WHAT COUNTS. Prove the row's statement (the work); the ties are given (YtehlbkmebaideaaGreatDoorTie.lean); close each card by the builder's one call (the guide's Derived/Test/ToyasCard.lean, 'card_holds'). Laid BY PROGRAM, IN A SANDBOX (cutbox-door.mjs). By AI agents, Wed Nov 11 2026. No macro, syntax, notation, axiom, sorry.
-/
import Derived.Test.YtehlbkmebaideaaGreatDoorRows
import GoSem.ClaimSeven
namespace Go.Proofs.YtehlbkmebaideaaGreatDoor
namespace Rows

/-- THE TIED CARD OF 'azalailaw10.LeaderWrites'. -/
def leaderWritesCard : Claim7 := { stood := { row := leaderWritesRow, standIns := [], harness := (true, "1e073339715361cdd181cefd7c090496ee920db09ca33c5fca93993e6b2da90e"), looks := true }, kinds := [], alts := [], laidByText := true, laidKinds := [.data, .data, .data, .data], laidTests := true, laidLooks := .later }
def LeaderWritesCardSaid : Prop := Claim7.holds Tryz.pinned (.plain (OpenSpec.ofChange leaderWritesSpec)) leaderWritesCard

/-- THE TIED CARD OF 'azalailaw10.LeaderReads'. -/
def leaderReadsCard : Claim7 := { stood := { row := leaderReadsRow, standIns := [], harness := (true, "1e073339715361cdd181cefd7c090496ee920db09ca33c5fca93993e6b2da90e"), looks := true }, kinds := [], alts := [], laidByText := true, laidKinds := [.data, .data, .data, .data, .sentinel, .sentinel, .data, .pinned], laidTests := true, laidLooks := .later }
def LeaderReadsCardSaid : Prop := Claim7.holds Tryz.pinned (.plain (OpenSpec.ofChange leaderReadsSpec)) leaderReadsCard

/-- THE SECOND FORM's CARD OF 'azalailaw10.LeaderWrites'. -/
def leaderWritesUptoCard : Claim7 := { stood := { row := leaderWritesUptoRow, standIns := [], harness := (true, "1e073339715361cdd181cefd7c090496ee920db09ca33c5fca93993e6b2da90e"), looks := true }, kinds := [], alts := [], laidByText := true, laidKinds := [.data, .data, .data, .data], laidTests := true, laidLooks := .later }
def LeaderWritesUptoCardSaid : Prop := Claim7.holds Tryz.pinned (.plain (OpenSpec.upto leaderWritesSpec)) leaderWritesUptoCard

/-- THE SECOND FORM's CARD OF 'azalailaw10.LeaderReads'. -/
def leaderReadsUptoCard : Claim7 := { stood := { row := leaderReadsUptoRow, standIns := [], harness := (true, "1e073339715361cdd181cefd7c090496ee920db09ca33c5fca93993e6b2da90e"), looks := true }, kinds := [], alts := [], laidByText := true, laidKinds := [.data, .data, .data, .data, .sentinel, .sentinel, .data, .pinned], laidTests := true, laidLooks := .later }
def LeaderReadsUptoCardSaid : Prop := Claim7.holds Tryz.pinned (.plain (OpenSpec.upto leaderReadsSpec)) leaderReadsUptoCard
end Rows
end Go.Proofs.YtehlbkmebaideaaGreatDoor
