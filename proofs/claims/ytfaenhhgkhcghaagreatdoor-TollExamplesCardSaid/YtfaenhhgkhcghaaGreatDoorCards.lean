/-
  DERIVED. GIVEN WITH THE SEED: THE CARDS: each row of YtfaenhhgkhcghaaGreatDoorRows.lean that lists a variable, with what it lists TIED to the program's text (the seventh form; the later family's looks); each row that meets fmt, with fmt's text TOLD by the authors' own Lean function (tested against real Go, not proved from fmt's source: count such statements apart). THE CARD IS WHAT COUNTS. Prove the row's statement (the work); the ties are given (YtfaenhhgkhcghaaGreatDoorTie.lean); close each card by the builder's one call (the guide's Derived/Test/ToyasCard.lean, 'card_holds'). Laid BY PROGRAM, IN A SANDBOX (cutbox-door.mjs). By AI agents, Wed Nov 11 2026. No macro, syntax, notation, axiom, sorry.
-/
import Derived.Test.YtfaenhhgkhcghaaGreatDoorRows
import GoSem.ClaimSeven
namespace Go.Proofs.YtfaenhhgkhcghaaGreatDoor
namespace Rows

/-- THE TIED CARD OF 'azalailaw07.TollHires'. -/
def tollHiresCard : Claim7 := { stood := { row := tollHiresRow, standIns := [], harness := (true, "ab87e330214f71a97f7644333b01b41969966b29647cf71334d43e59c714e048"), looks := false }, kinds := [], alts := [], laidByText := true, laidKinds := [.funcs], laidTests := true, laidLooks := .later }
def TollHiresCardSaid : Prop := Claim7.holds Tryz.pinned (.plain (OpenSpec.ofChange tollHiresSpec)) tollHiresCard

/-- THE TIED CARD OF 'azalailaw07.TollExamples'. -/
def tollExamplesCard : Claim7 := { stood := { row := tollExamplesRow, standIns := [], harness := (true, "ab87e330214f71a97f7644333b01b41969966b29647cf71334d43e59c714e048"), looks := false }, kinds := [], alts := [], laidByText := true, laidKinds := [.funcs], laidTests := true, laidLooks := .later }
def TollExamplesCardSaid : Prop := Claim7.holds Tryz.pinned (.plain (OpenSpec.ofChange tollExamplesSpec)) tollExamplesCard

/-- THE SECOND FORM's CARD OF 'azalailaw07.TollHires'. -/
def tollHiresUptoCard : Claim7 := { stood := { row := tollHiresUptoRow, standIns := [], harness := (true, "ab87e330214f71a97f7644333b01b41969966b29647cf71334d43e59c714e048"), looks := false }, kinds := [], alts := [], laidByText := true, laidKinds := [.funcs], laidTests := true, laidLooks := .later }
def TollHiresUptoCardSaid : Prop := Claim7.holds Tryz.pinned (.plain (OpenSpec.upto tollHiresSpec)) tollHiresUptoCard

/-- THE SECOND FORM's CARD OF 'azalailaw07.TollExamples'. -/
def tollExamplesUptoCard : Claim7 := { stood := { row := tollExamplesUptoRow, standIns := [], harness := (true, "ab87e330214f71a97f7644333b01b41969966b29647cf71334d43e59c714e048"), looks := false }, kinds := [], alts := [], laidByText := true, laidKinds := [.funcs], laidTests := true, laidLooks := .later }
def TollExamplesUptoCardSaid : Prop := Claim7.holds Tryz.pinned (.plain (OpenSpec.upto tollExamplesSpec)) tollExamplesUptoCard
end Rows
end Go.Proofs.YtfaenhhgkhcghaaGreatDoor
