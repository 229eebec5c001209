/-
  NARROWER THAN 'FOR EVERY INPUT', by the rows' own cells (each row's printed sentence says how): TollHires: laid · TollExamples: laid.
  DERIVED. THE GIVEN ROWS OF THIS SEAT. 2 by the template 'for every input the law returns true; each argument reads behind the call as it read before'; 0 by the template 'total and deterministic' (their statements: YtfaenhhgkhcghaaGreatDoorTotals.lean).
  GIVEN WITH THE SEED: the statements are not yours to turn. If you find one false, say at which input.
  Laid BY PROGRAM, IN A SANDBOX (cutbox-rows.mjs): the forced cells as the released guide's own fill.sh prints them over the translation 7faa10bc044302af… (all of the seat's roots in one cut). By AI agents, Wed Nov 11 2026. No macro, syntax, notation, axiom, sorry.
-/
import Derived.Test.YtfaenhhgkhcghaaGreatDoorChecked
import GoSem.Claim
import GoSem.ClaimJoined
import GoSem.ClaimMapViews
import Derived.JoinedTies
import Derived.KernelRfl
namespace Go.Proofs.YtfaenhhgkhcghaaGreatDoor
/- THE CELL 'sum', in the pinned program and in every row, IS THE sha256 OF THE DUMP (.gsa) THAT YtfaenhhgkhcghaaGreatDoorProg.lean LOADS. Nothing in Lean hashes anything: it is a label: what it is worth is what the hold of that sum in a sandbox is worth. -/
noncomputable def Tryz.pinned : Pinned := { name := "ytfaenhhgkhcghaagreatdoor", sum := "7faa10bc044302af9c8be90115c4647bcb57ac190172f1b1454ace7bf96780ab", checked := Tryz.checked }
namespace Rows
def none {H : Type} : Left H := { results := [], args := [] }

/- WHAT THE LISTED PACKAGE-LEVEL VARIABLES READ AS WHEN THE CALL BEGINS. Each datum BY PROGRAM (the guide's laid-datum.mjs) off the statement by which the dump's own 'gosem.cut.vars' lays the variable. In a bare row this is a premise. The card (YtfaenhhgkhcghaaGreatDoorCards.lean) ties it to the program's text. -/
def laid_azalai_toll_bars {H : Type} : DataW H := .iface "func table" (.agg [.nil, .iface "func" (.lit (.string [40, 42, 97, 122, 97, 108, 97, 105, 47, 116, 111, 108, 108, 46, 116, 114, 101, 107, 41, 46, 99, 108, 111, 115, 101, 100])), .iface "func" (.lit (.string [40, 42, 97, 122, 97, 108, 97, 105, 47, 116, 111, 108, 108, 46, 116, 114, 101, 107, 41, 46, 104, 97, 116, 101, 100])), .iface "func" (.lit (.string [40, 42, 97, 122, 97, 108, 97, 105, 47, 116, 111, 108, 108, 46, 116, 114, 101, 107, 41, 46, 108, 111, 115, 116]))])

/-- 'azalailaw07.TollHires': WHATEVER THE INPUT: true; the input reads as it did. -/
def tollHiresSpec : ChangeSpec := { name := "tollHires", fn := fun _ => fun
  | [d1, d2, d3, d4, d5, d6, d7, d8, d9, d10] => { results := [.lit (.bool true)], args := [d1, d2, d3, d4, d5, d6, d7, d8, d9, d10] }
  | _ => none }
def tollHiresRow : OpenClaim := { program := "ytfaenhhgkhcghaagreatdoor", sum := "7faa10bc044302af9c8be90115c4647bcb57ac190172f1b1454ace7bf96780ab", func := "azalai/azalailaw07.TollHires", spec := "tollHires", unfollowed := true, recurses := true, named := ["azalai/toll.bars"], apart := false, laid := [("azalai/toll.bars", laid_azalai_toll_bars)] }
def TollHiresSaid : Prop := tollHiresRow.holds Tryz.pinned (OpenSpec.ofChange tollHiresSpec)

/-- ITS FALSE NEIGHBOUR: 'it returns false'. Refute it at one input. -/
def tollHiresWrong : ChangeSpec := { name := "tollHires", fn := fun _ => fun
  | [d1, d2, d3, d4, d5, d6, d7, d8, d9, d10] => { results := [.lit (.bool false)], args := [d1, d2, d3, d4, d5, d6, d7, d8, d9, d10] }
  | _ => none }
def TollHiresWrongFalsely : Prop := tollHiresRow.holds Tryz.pinned (OpenSpec.ofChange tollHiresWrong)

/-- 'azalailaw07.TollExamples': WHATEVER THE INPUT: true; the input reads as it did. -/
def tollExamplesSpec : ChangeSpec := { name := "tollExamples", fn := fun _ => fun
  | [] => { results := [.lit (.bool true)], args := [] }
  | _ => none }
def tollExamplesRow : OpenClaim := { program := "ytfaenhhgkhcghaagreatdoor", sum := "7faa10bc044302af9c8be90115c4647bcb57ac190172f1b1454ace7bf96780ab", func := "azalai/azalailaw07.TollExamples", spec := "tollExamples", unfollowed := true, recurses := true, named := ["azalai/toll.bars"], apart := false, laid := [("azalai/toll.bars", laid_azalai_toll_bars)] }
def TollExamplesSaid : Prop := tollExamplesRow.holds Tryz.pinned (OpenSpec.ofChange tollExamplesSpec)

/-- ITS FALSE NEIGHBOUR: 'it returns false'. Refute it at one input. -/
def tollExamplesWrong : ChangeSpec := { name := "tollExamples", fn := fun _ => fun
  | [] => { results := [.lit (.bool false)], args := [] }
  | _ => none }
def TollExamplesWrongFalsely : Prop := tollExamplesRow.holds Tryz.pinned (OpenSpec.ofChange tollExamplesWrong)

/- THE SECOND FORM. 'bulk': how many values and letters a reading holds, each counted each time it is reached (what is shared counts as often as it is met; a slice's spare places count too). A statement '..UptoSaid' is the law's where the arguments, and the package variables that the reading takes, are together of bulk at most 1048576: NARROWER than '..Said'. Prove '..Said' where nothing that the law and all that it calls make is longer than what came in: it says more and counts as full. Else prove '..UptoSaid'. A law counts once. -/
mutual
def uptoBulk {H : Type} : DataW H → Nat
  | .lit (.string bytes) => bytes.length + 1
  | .lit _ => 1
  | .nil => 1
  | .ptr d => uptoBulk d + 1
  | .slice elems spare => uptoBulkAll elems + uptoBulkAll spare + 1
  | .agg parts => uptoBulkAll parts + 1
  | .iface _ d => uptoBulk d + 1
  | .map entries => uptoBulkEntries entries + 1
  | .held _ => 1
def uptoBulkAll {H : Type} : List (DataW H) → Nat
  | [] => 0
  | d :: r => uptoBulk d + uptoBulkAll r
def uptoBulkEntries {H : Type} : List (Lit × DataW H) → Nat
  | [] => 0
  | x :: r => uptoBulkEntry x + uptoBulkEntries r
def uptoBulkEntry {H : Type} : Lit × DataW H → Nat
  | (.string bytes, d) => bytes.length + uptoBulk d + 1
  | (_, d) => uptoBulk d + 1
 end
def uptoSmall : (H : Type) → List (DataW H) → Bool := fun _ ds => decide (uptoBulkAll ds ≤ 1048576)
def OpenSpec.upto (s : _root_.Go.ChangeSpec) : _root_.Go.OpenSpec := { _root_.Go.OpenSpec.ofChange s with cond := some uptoSmall }

/-- 'azalailaw07.TollHires', WHERE WHAT IT READS IS OF BULK AT MOST 1048576: true; the input reads as it did. -/
def tollHiresUptoRow : OpenClaim := { program := "ytfaenhhgkhcghaagreatdoor", sum := "7faa10bc044302af9c8be90115c4647bcb57ac190172f1b1454ace7bf96780ab", func := "azalai/azalailaw07.TollHires", spec := "tollHires", unfollowed := true, recurses := true, named := ["azalai/toll.bars"], apart := false, laid := [("azalai/toll.bars", laid_azalai_toll_bars)], narrowed := true }
def TollHiresUptoSaid : Prop := tollHiresUptoRow.holds Tryz.pinned (OpenSpec.upto tollHiresSpec)

/-- 'azalailaw07.TollExamples', WHERE WHAT IT READS IS OF BULK AT MOST 1048576: true; the input reads as it did. -/
def tollExamplesUptoRow : OpenClaim := { program := "ytfaenhhgkhcghaagreatdoor", sum := "7faa10bc044302af9c8be90115c4647bcb57ac190172f1b1454ace7bf96780ab", func := "azalai/azalailaw07.TollExamples", spec := "tollExamples", unfollowed := true, recurses := true, named := ["azalai/toll.bars"], apart := false, laid := [("azalai/toll.bars", laid_azalai_toll_bars)], narrowed := true }
def TollExamplesUptoSaid : Prop := tollExamplesUptoRow.holds Tryz.pinned (OpenSpec.upto tollExamplesSpec)

end Rows
end Go.Proofs.YtfaenhhgkhcghaaGreatDoor
