/-
  DERIVED. GIVEN WITH THE SEED: THE CARDS: each row of YtmonkjnfjgidbaaGreatDoorRows.lean that lists a variable, with what it lists TIED to the program's text (the seventh form; the later family's looks); each row that meets fmt, with fmt's text TOLD by the authors' own Lean function (tested against real Go, not proved from fmt's source: count such statements apart). THE CARD IS WHAT COUNTS. Prove the row's statement (the work); the ties are given (YtmonkjnfjgidbaaGreatDoorTie.lean); close each card by the builder's one call (the guide's Derived/Test/ToyasCard.lean, 'card_holds'). Laid BY PROGRAM, IN A SANDBOX (cutbox-door.mjs). By AI agents, Wed Nov 11 2026. No macro, syntax, notation, axiom, sorry.
-/
import Derived.Test.YtmonkjnfjgidbaaGreatDoorRows
import GoSem.ClaimSeven
namespace Go.Proofs.YtmonkjnfjgidbaaGreatDoor
namespace Rows

/-- THE TIED CARD OF 'azalailaw07.TollWays'. -/
def tollWaysCard : Claim7 := { stood := { row := tollWaysRow, standIns := [], harness := (true, "86224bca0f3a4f638b6a1b50aa044745c59f6fa0f77c83915bceeb2fc7a1617b"), looks := false }, kinds := [], alts := [], laidByText := true, laidKinds := [.funcs], laidTests := true, laidLooks := .later }
def TollWaysCardSaid : Prop := Claim7.holds Tryz.pinned (.plain (OpenSpec.ofChange tollWaysSpec)) tollWaysCard

/-- THE TIED CARD OF 'azalailaw07.TollObeyed'. -/
def tollObeyedCard : Claim7 := { stood := { row := tollObeyedRow, standIns := [], harness := (true, "86224bca0f3a4f638b6a1b50aa044745c59f6fa0f77c83915bceeb2fc7a1617b"), looks := false }, kinds := [], alts := [], laidByText := true, laidKinds := [.funcs], laidTests := true, laidLooks := .later }
def TollObeyedCardSaid : Prop := Claim7.holds Tryz.pinned (.plain (OpenSpec.ofChange tollObeyedSpec)) tollObeyedCard

/-- THE TIED CARD OF 'azalailaw07.TollBarred'. -/
def tollBarredCard : Claim7 := { stood := { row := tollBarredRow, standIns := [], harness := (true, "86224bca0f3a4f638b6a1b50aa044745c59f6fa0f77c83915bceeb2fc7a1617b"), looks := false }, kinds := [], alts := [], laidByText := true, laidKinds := [.funcs], laidTests := true, laidLooks := .later }
def TollBarredCardSaid : Prop := Claim7.holds Tryz.pinned (.plain (OpenSpec.ofChange tollBarredSpec)) tollBarredCard

/-- THE TIED CARD OF 'azalailaw07.TollPaid'. -/
def tollPaidCard : Claim7 := { stood := { row := tollPaidRow, standIns := [], harness := (true, "86224bca0f3a4f638b6a1b50aa044745c59f6fa0f77c83915bceeb2fc7a1617b"), looks := false }, kinds := [], alts := [], laidByText := true, laidKinds := [.funcs], laidTests := true, laidLooks := .later }
def TollPaidCardSaid : Prop := Claim7.holds Tryz.pinned (.plain (OpenSpec.ofChange tollPaidSpec)) tollPaidCard

/-- THE TIED CARD OF 'azalailaw07.TollOrder'. -/
def tollOrderCard : Claim7 := { stood := { row := tollOrderRow, standIns := [], harness := (true, "86224bca0f3a4f638b6a1b50aa044745c59f6fa0f77c83915bceeb2fc7a1617b"), looks := false }, kinds := [], alts := [], laidByText := true, laidKinds := [.funcs], laidTests := true, laidLooks := .later }
def TollOrderCardSaid : Prop := Claim7.holds Tryz.pinned (.plain (OpenSpec.ofChange tollOrderSpec)) tollOrderCard

/-- THE TIED CARD OF 'azalailaw07.TollHeld'. -/
def tollHeldCard : Claim7 := { stood := { row := tollHeldRow, standIns := [], harness := (true, "86224bca0f3a4f638b6a1b50aa044745c59f6fa0f77c83915bceeb2fc7a1617b"), looks := false }, kinds := [], alts := [], laidByText := true, laidKinds := [.funcs], laidTests := true, laidLooks := .later }
def TollHeldCardSaid : Prop := Claim7.holds Tryz.pinned (.plain (OpenSpec.ofChange tollHeldSpec)) tollHeldCard

/-- THE TIED CARD OF 'azalailaw07.TollHired'. -/
def tollHiredCard : Claim7 := { stood := { row := tollHiredRow, standIns := [], harness := (true, "86224bca0f3a4f638b6a1b50aa044745c59f6fa0f77c83915bceeb2fc7a1617b"), looks := false }, kinds := [], alts := [], laidByText := true, laidKinds := [.funcs], laidTests := true, laidLooks := .later }
def TollHiredCardSaid : Prop := Claim7.holds Tryz.pinned (.plain (OpenSpec.ofChange tollHiredSpec)) tollHiredCard

/-- THE TIED CARD OF 'azalailaw07.TollFree'. -/
def tollFreeCard : Claim7 := { stood := { row := tollFreeRow, standIns := [], harness := (true, "86224bca0f3a4f638b6a1b50aa044745c59f6fa0f77c83915bceeb2fc7a1617b"), looks := false }, kinds := [], alts := [], laidByText := true, laidKinds := [.funcs], laidTests := true, laidLooks := .later }
def TollFreeCardSaid : Prop := Claim7.holds Tryz.pinned (.plain (OpenSpec.ofChange tollFreeSpec)) tollFreeCard

/-- THE TIED CARD OF 'azalailaw07.TollHires'. -/
def tollHiresCard : Claim7 := { stood := { row := tollHiresRow, standIns := [], harness := (true, "86224bca0f3a4f638b6a1b50aa044745c59f6fa0f77c83915bceeb2fc7a1617b"), looks := false }, kinds := [], alts := [], laidByText := true, laidKinds := [.funcs], laidTests := true, laidLooks := .later }
def TollHiresCardSaid : Prop := Claim7.holds Tryz.pinned (.plain (OpenSpec.ofChange tollHiresSpec)) tollHiresCard

/-- THE TIED CARD OF 'azalailaw07.TollExamples'. -/
def tollExamplesCard : Claim7 := { stood := { row := tollExamplesRow, standIns := [], harness := (true, "86224bca0f3a4f638b6a1b50aa044745c59f6fa0f77c83915bceeb2fc7a1617b"), looks := false }, kinds := [], alts := [], laidByText := true, laidKinds := [.funcs], laidTests := true, laidLooks := .later }
def TollExamplesCardSaid : Prop := Claim7.holds Tryz.pinned (.plain (OpenSpec.ofChange tollExamplesSpec)) tollExamplesCard

/-- THE TIED CARD OF 'azalailaw07.TollCheapest'. -/
def tollCheapestCard : Claim7 := { stood := { row := tollCheapestRow, standIns := [], harness := (true, "86224bca0f3a4f638b6a1b50aa044745c59f6fa0f77c83915bceeb2fc7a1617b"), looks := false }, kinds := [], alts := [], laidByText := true, laidKinds := [.funcs], laidTests := true, laidLooks := .later }
def TollCheapestCardSaid : Prop := Claim7.holds Tryz.pinned (.plain (OpenSpec.ofChange tollCheapestSpec)) tollCheapestCard

/-- THE SECOND FORM's CARD OF 'azalailaw07.TollWays'. -/
def tollWaysUptoCard : Claim7 := { stood := { row := tollWaysUptoRow, standIns := [], harness := (true, "86224bca0f3a4f638b6a1b50aa044745c59f6fa0f77c83915bceeb2fc7a1617b"), looks := false }, kinds := [], alts := [], laidByText := true, laidKinds := [.funcs], laidTests := true, laidLooks := .later }
def TollWaysUptoCardSaid : Prop := Claim7.holds Tryz.pinned (.plain (OpenSpec.upto tollWaysSpec)) tollWaysUptoCard

/-- THE SECOND FORM's CARD OF 'azalailaw07.TollObeyed'. -/
def tollObeyedUptoCard : Claim7 := { stood := { row := tollObeyedUptoRow, standIns := [], harness := (true, "86224bca0f3a4f638b6a1b50aa044745c59f6fa0f77c83915bceeb2fc7a1617b"), looks := false }, kinds := [], alts := [], laidByText := true, laidKinds := [.funcs], laidTests := true, laidLooks := .later }
def TollObeyedUptoCardSaid : Prop := Claim7.holds Tryz.pinned (.plain (OpenSpec.upto tollObeyedSpec)) tollObeyedUptoCard

/-- THE SECOND FORM's CARD OF 'azalailaw07.TollBarred'. -/
def tollBarredUptoCard : Claim7 := { stood := { row := tollBarredUptoRow, standIns := [], harness := (true, "86224bca0f3a4f638b6a1b50aa044745c59f6fa0f77c83915bceeb2fc7a1617b"), looks := false }, kinds := [], alts := [], laidByText := true, laidKinds := [.funcs], laidTests := true, laidLooks := .later }
def TollBarredUptoCardSaid : Prop := Claim7.holds Tryz.pinned (.plain (OpenSpec.upto tollBarredSpec)) tollBarredUptoCard

/-- THE SECOND FORM's CARD OF 'azalailaw07.TollPaid'. -/
def tollPaidUptoCard : Claim7 := { stood := { row := tollPaidUptoRow, standIns := [], harness := (true, "86224bca0f3a4f638b6a1b50aa044745c59f6fa0f77c83915bceeb2fc7a1617b"), looks := false }, kinds := [], alts := [], laidByText := true, laidKinds := [.funcs], laidTests := true, laidLooks := .later }
def TollPaidUptoCardSaid : Prop := Claim7.holds Tryz.pinned (.plain (OpenSpec.upto tollPaidSpec)) tollPaidUptoCard

/-- THE SECOND FORM's CARD OF 'azalailaw07.TollOrder'. -/
def tollOrderUptoCard : Claim7 := { stood := { row := tollOrderUptoRow, standIns := [], harness := (true, "86224bca0f3a4f638b6a1b50aa044745c59f6fa0f77c83915bceeb2fc7a1617b"), looks := false }, kinds := [], alts := [], laidByText := true, laidKinds := [.funcs], laidTests := true, laidLooks := .later }
def TollOrderUptoCardSaid : Prop := Claim7.holds Tryz.pinned (.plain (OpenSpec.upto tollOrderSpec)) tollOrderUptoCard

/-- THE SECOND FORM's CARD OF 'azalailaw07.TollHeld'. -/
def tollHeldUptoCard : Claim7 := { stood := { row := tollHeldUptoRow, standIns := [], harness := (true, "86224bca0f3a4f638b6a1b50aa044745c59f6fa0f77c83915bceeb2fc7a1617b"), looks := false }, kinds := [], alts := [], laidByText := true, laidKinds := [.funcs], laidTests := true, laidLooks := .later }
def TollHeldUptoCardSaid : Prop := Claim7.holds Tryz.pinned (.plain (OpenSpec.upto tollHeldSpec)) tollHeldUptoCard

/-- THE SECOND FORM's CARD OF 'azalailaw07.TollHired'. -/
def tollHiredUptoCard : Claim7 := { stood := { row := tollHiredUptoRow, standIns := [], harness := (true, "86224bca0f3a4f638b6a1b50aa044745c59f6fa0f77c83915bceeb2fc7a1617b"), looks := false }, kinds := [], alts := [], laidByText := true, laidKinds := [.funcs], laidTests := true, laidLooks := .later }
def TollHiredUptoCardSaid : Prop := Claim7.holds Tryz.pinned (.plain (OpenSpec.upto tollHiredSpec)) tollHiredUptoCard

/-- THE SECOND FORM's CARD OF 'azalailaw07.TollFree'. -/
def tollFreeUptoCard : Claim7 := { stood := { row := tollFreeUptoRow, standIns := [], harness := (true, "86224bca0f3a4f638b6a1b50aa044745c59f6fa0f77c83915bceeb2fc7a1617b"), looks := false }, kinds := [], alts := [], laidByText := true, laidKinds := [.funcs], laidTests := true, laidLooks := .later }
def TollFreeUptoCardSaid : Prop := Claim7.holds Tryz.pinned (.plain (OpenSpec.upto tollFreeSpec)) tollFreeUptoCard

/-- THE SECOND FORM's CARD OF 'azalailaw07.TollHires'. -/
def tollHiresUptoCard : Claim7 := { stood := { row := tollHiresUptoRow, standIns := [], harness := (true, "86224bca0f3a4f638b6a1b50aa044745c59f6fa0f77c83915bceeb2fc7a1617b"), looks := false }, kinds := [], alts := [], laidByText := true, laidKinds := [.funcs], laidTests := true, laidLooks := .later }
def TollHiresUptoCardSaid : Prop := Claim7.holds Tryz.pinned (.plain (OpenSpec.upto tollHiresSpec)) tollHiresUptoCard

/-- THE SECOND FORM's CARD OF 'azalailaw07.TollExamples'. -/
def tollExamplesUptoCard : Claim7 := { stood := { row := tollExamplesUptoRow, standIns := [], harness := (true, "86224bca0f3a4f638b6a1b50aa044745c59f6fa0f77c83915bceeb2fc7a1617b"), looks := false }, kinds := [], alts := [], laidByText := true, laidKinds := [.funcs], laidTests := true, laidLooks := .later }
def TollExamplesUptoCardSaid : Prop := Claim7.holds Tryz.pinned (.plain (OpenSpec.upto tollExamplesSpec)) tollExamplesUptoCard

/-- THE SECOND FORM's CARD OF 'azalailaw07.TollCheapest'. -/
def tollCheapestUptoCard : Claim7 := { stood := { row := tollCheapestUptoRow, standIns := [], harness := (true, "86224bca0f3a4f638b6a1b50aa044745c59f6fa0f77c83915bceeb2fc7a1617b"), looks := false }, kinds := [], alts := [], laidByText := true, laidKinds := [.funcs], laidTests := true, laidLooks := .later }
def TollCheapestUptoCardSaid : Prop := Claim7.holds Tryz.pinned (.plain (OpenSpec.upto tollCheapestSpec)) tollCheapestUptoCard
end Rows
end Go.Proofs.YtmonkjnfjgidbaaGreatDoor
