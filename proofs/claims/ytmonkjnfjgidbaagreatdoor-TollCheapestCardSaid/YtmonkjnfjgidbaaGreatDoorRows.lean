/-
  NARROWER THAN 'FOR EVERY INPUT', by the rows' own cells (each row's printed sentence says how): TollWays: laid · TollObeyed: laid · TollBarred: laid · TollPaid: laid · TollOrder: laid · TollHeld: laid · TollHired: laid · TollFree: laid · TollHires: laid · TollExamples: laid · TollCheapest: laid.
  DERIVED. THE GIVEN ROWS OF THIS SEAT. 11 by the template 'for every input the law returns true; each argument reads behind the call as it read before'; 0 by the template 'total and deterministic' (their statements: YtmonkjnfjgidbaaGreatDoorTotals.lean).
  GIVEN WITH THE SEED: the statements are not yours to turn. If you find one false, say at which input.
  Laid BY PROGRAM, IN A SANDBOX (cutbox-rows.mjs): the forced cells as the released guide's own fill.sh prints them over the translation 6d46ce404b89f389… (all of the seat's roots in one cut). By AI agents, Wed Nov 11 2026. No macro, syntax, notation, axiom, sorry.
-/
import Derived.Test.YtmonkjnfjgidbaaGreatDoorChecked
import GoSem.Claim
import GoSem.ClaimJoined
import GoSem.ClaimMapViews
import Derived.JoinedTies
import Derived.KernelRfl
namespace Go.Proofs.YtmonkjnfjgidbaaGreatDoor
/- THE CELL 'sum', in the pinned program and in every row, IS THE sha256 OF THE DUMP (.gsa) THAT YtmonkjnfjgidbaaGreatDoorProg.lean LOADS. Nothing in Lean hashes anything: it is a label: what it is worth is what the hold of that sum in a sandbox is worth. -/
noncomputable def Tryz.pinned : Pinned := { name := "ytmonkjnfjgidbaagreatdoor", sum := "6d46ce404b89f38904bc390e060ada680b6fe859a898cde5a0a6bd19ef00968a", checked := Tryz.checked }
namespace Rows
def none {H : Type} : Left H := { results := [], args := [] }

/- WHAT THE LISTED PACKAGE-LEVEL VARIABLES READ AS WHEN THE CALL BEGINS. Each datum BY PROGRAM (the guide's laid-datum.mjs) off the statement by which the dump's own 'gosem.cut.vars' lays the variable. In a bare row this is a premise. The card (YtmonkjnfjgidbaaGreatDoorCards.lean) ties it to the program's text. -/
def laid_azalai_toll_bars {H : Type} : DataW H := .iface "func table" (.agg [.nil, .iface "func" (.lit (.string [40, 42, 97, 122, 97, 108, 97, 105, 47, 116, 111, 108, 108, 46, 116, 114, 101, 107, 41, 46, 99, 108, 111, 115, 101, 100])), .iface "func" (.lit (.string [40, 42, 97, 122, 97, 108, 97, 105, 47, 116, 111, 108, 108, 46, 116, 114, 101, 107, 41, 46, 104, 97, 116, 101, 100])), .iface "func" (.lit (.string [40, 42, 97, 122, 97, 108, 97, 105, 47, 116, 111, 108, 108, 46, 116, 114, 101, 107, 41, 46, 108, 111, 115, 116]))])

/-- 'azalailaw07.TollWays': WHATEVER THE INPUT: true; the input reads as it did. -/
def tollWaysSpec : ChangeSpec := { name := "tollWays", fn := fun _ => fun
  | [d1, d2, d3, d4, d5, d6, d7] => { results := [.lit (.bool true)], args := [d1, d2, d3, d4, d5, d6, d7] }
  | _ => none }
def tollWaysRow : OpenClaim := { program := "ytmonkjnfjgidbaagreatdoor", sum := "6d46ce404b89f38904bc390e060ada680b6fe859a898cde5a0a6bd19ef00968a", func := "azalai/azalailaw07.TollWays", spec := "tollWays", unfollowed := true, recurses := true, named := ["azalai/toll.bars"], plainKeys := false, apart := false, laid := [("azalai/toll.bars", laid_azalai_toll_bars)] }
def TollWaysSaid : Prop := tollWaysRow.holds Tryz.pinned (OpenSpec.ofChange tollWaysSpec)

/-- ITS FALSE NEIGHBOUR: 'it returns false'. Refute it at one input. -/
def tollWaysWrong : ChangeSpec := { name := "tollWays", fn := fun _ => fun
  | [d1, d2, d3, d4, d5, d6, d7] => { results := [.lit (.bool false)], args := [d1, d2, d3, d4, d5, d6, d7] }
  | _ => none }
def TollWaysWrongFalsely : Prop := tollWaysRow.holds Tryz.pinned (OpenSpec.ofChange tollWaysWrong)

/-- 'azalailaw07.TollObeyed': WHATEVER THE INPUT: true; the input reads as it did. -/
def tollObeyedSpec : ChangeSpec := { name := "tollObeyed", fn := fun _ => fun
  | [d1, d2, d3, d4, d5, d6, d7, d8] => { results := [.lit (.bool true)], args := [d1, d2, d3, d4, d5, d6, d7, d8] }
  | _ => none }
def tollObeyedRow : OpenClaim := { program := "ytmonkjnfjgidbaagreatdoor", sum := "6d46ce404b89f38904bc390e060ada680b6fe859a898cde5a0a6bd19ef00968a", func := "azalai/azalailaw07.TollObeyed", spec := "tollObeyed", unfollowed := true, recurses := true, named := ["azalai/toll.bars"], plainKeys := false, apart := false, laid := [("azalai/toll.bars", laid_azalai_toll_bars)] }
def TollObeyedSaid : Prop := tollObeyedRow.holds Tryz.pinned (OpenSpec.ofChange tollObeyedSpec)

/-- ITS FALSE NEIGHBOUR: 'it returns false'. Refute it at one input. -/
def tollObeyedWrong : ChangeSpec := { name := "tollObeyed", fn := fun _ => fun
  | [d1, d2, d3, d4, d5, d6, d7, d8] => { results := [.lit (.bool false)], args := [d1, d2, d3, d4, d5, d6, d7, d8] }
  | _ => none }
def TollObeyedWrongFalsely : Prop := tollObeyedRow.holds Tryz.pinned (OpenSpec.ofChange tollObeyedWrong)

/-- 'azalailaw07.TollBarred': WHATEVER THE INPUT: true; the input reads as it did. -/
def tollBarredSpec : ChangeSpec := { name := "tollBarred", fn := fun _ => fun
  | [d1, d2, d3, d4, d5, d6, d7] => { results := [.lit (.bool true)], args := [d1, d2, d3, d4, d5, d6, d7] }
  | _ => none }
def tollBarredRow : OpenClaim := { program := "ytmonkjnfjgidbaagreatdoor", sum := "6d46ce404b89f38904bc390e060ada680b6fe859a898cde5a0a6bd19ef00968a", func := "azalai/azalailaw07.TollBarred", spec := "tollBarred", unfollowed := true, recurses := true, named := ["azalai/toll.bars"], plainKeys := false, apart := false, laid := [("azalai/toll.bars", laid_azalai_toll_bars)] }
def TollBarredSaid : Prop := tollBarredRow.holds Tryz.pinned (OpenSpec.ofChange tollBarredSpec)

/-- ITS FALSE NEIGHBOUR: 'it returns false'. Refute it at one input. -/
def tollBarredWrong : ChangeSpec := { name := "tollBarred", fn := fun _ => fun
  | [d1, d2, d3, d4, d5, d6, d7] => { results := [.lit (.bool false)], args := [d1, d2, d3, d4, d5, d6, d7] }
  | _ => none }
def TollBarredWrongFalsely : Prop := tollBarredRow.holds Tryz.pinned (OpenSpec.ofChange tollBarredWrong)

/-- 'azalailaw07.TollPaid': WHATEVER THE INPUT: true; the input reads as it did. -/
def tollPaidSpec : ChangeSpec := { name := "tollPaid", fn := fun _ => fun
  | [d1, d2, d3, d4, d5, d6, d7, d8] => { results := [.lit (.bool true)], args := [d1, d2, d3, d4, d5, d6, d7, d8] }
  | _ => none }
def tollPaidRow : OpenClaim := { program := "ytmonkjnfjgidbaagreatdoor", sum := "6d46ce404b89f38904bc390e060ada680b6fe859a898cde5a0a6bd19ef00968a", func := "azalai/azalailaw07.TollPaid", spec := "tollPaid", unfollowed := true, recurses := true, named := ["azalai/toll.bars"], plainKeys := false, apart := false, laid := [("azalai/toll.bars", laid_azalai_toll_bars)] }
def TollPaidSaid : Prop := tollPaidRow.holds Tryz.pinned (OpenSpec.ofChange tollPaidSpec)

/-- ITS FALSE NEIGHBOUR: 'it returns false'. Refute it at one input. -/
def tollPaidWrong : ChangeSpec := { name := "tollPaid", fn := fun _ => fun
  | [d1, d2, d3, d4, d5, d6, d7, d8] => { results := [.lit (.bool false)], args := [d1, d2, d3, d4, d5, d6, d7, d8] }
  | _ => none }
def TollPaidWrongFalsely : Prop := tollPaidRow.holds Tryz.pinned (OpenSpec.ofChange tollPaidWrong)

/-- 'azalailaw07.TollOrder': WHATEVER THE INPUT: true; the input reads as it did. -/
def tollOrderSpec : ChangeSpec := { name := "tollOrder", fn := fun _ => fun
  | [d1, d2, d3, d4, d5, d6, d7, d8] => { results := [.lit (.bool true)], args := [d1, d2, d3, d4, d5, d6, d7, d8] }
  | _ => none }
def tollOrderRow : OpenClaim := { program := "ytmonkjnfjgidbaagreatdoor", sum := "6d46ce404b89f38904bc390e060ada680b6fe859a898cde5a0a6bd19ef00968a", func := "azalai/azalailaw07.TollOrder", spec := "tollOrder", unfollowed := true, recurses := true, named := ["azalai/toll.bars"], plainKeys := false, apart := false, laid := [("azalai/toll.bars", laid_azalai_toll_bars)] }
def TollOrderSaid : Prop := tollOrderRow.holds Tryz.pinned (OpenSpec.ofChange tollOrderSpec)

/-- ITS FALSE NEIGHBOUR: 'it returns false'. Refute it at one input. -/
def tollOrderWrong : ChangeSpec := { name := "tollOrder", fn := fun _ => fun
  | [d1, d2, d3, d4, d5, d6, d7, d8] => { results := [.lit (.bool false)], args := [d1, d2, d3, d4, d5, d6, d7, d8] }
  | _ => none }
def TollOrderWrongFalsely : Prop := tollOrderRow.holds Tryz.pinned (OpenSpec.ofChange tollOrderWrong)

/-- 'azalailaw07.TollHeld': WHATEVER THE INPUT: true; the input reads as it did. -/
def tollHeldSpec : ChangeSpec := { name := "tollHeld", fn := fun _ => fun
  | [d1, d2, d3, d4, d5, d6] => { results := [.lit (.bool true)], args := [d1, d2, d3, d4, d5, d6] }
  | _ => none }
def tollHeldRow : OpenClaim := { program := "ytmonkjnfjgidbaagreatdoor", sum := "6d46ce404b89f38904bc390e060ada680b6fe859a898cde5a0a6bd19ef00968a", func := "azalai/azalailaw07.TollHeld", spec := "tollHeld", unfollowed := true, recurses := true, named := ["azalai/toll.bars"], plainKeys := false, apart := false, laid := [("azalai/toll.bars", laid_azalai_toll_bars)] }
def TollHeldSaid : Prop := tollHeldRow.holds Tryz.pinned (OpenSpec.ofChange tollHeldSpec)

/-- ITS FALSE NEIGHBOUR: 'it returns false'. Refute it at one input. -/
def tollHeldWrong : ChangeSpec := { name := "tollHeld", fn := fun _ => fun
  | [d1, d2, d3, d4, d5, d6] => { results := [.lit (.bool false)], args := [d1, d2, d3, d4, d5, d6] }
  | _ => none }
def TollHeldWrongFalsely : Prop := tollHeldRow.holds Tryz.pinned (OpenSpec.ofChange tollHeldWrong)

/-- 'azalailaw07.TollHired': WHATEVER THE INPUT: true; the input reads as it did. -/
def tollHiredSpec : ChangeSpec := { name := "tollHired", fn := fun _ => fun
  | [d1, d2, d3, d4, d5, d6, d7, d8, d9] => { results := [.lit (.bool true)], args := [d1, d2, d3, d4, d5, d6, d7, d8, d9] }
  | _ => none }
def tollHiredRow : OpenClaim := { program := "ytmonkjnfjgidbaagreatdoor", sum := "6d46ce404b89f38904bc390e060ada680b6fe859a898cde5a0a6bd19ef00968a", func := "azalai/azalailaw07.TollHired", spec := "tollHired", unfollowed := true, recurses := true, named := ["azalai/toll.bars"], plainKeys := false, apart := false, laid := [("azalai/toll.bars", laid_azalai_toll_bars)] }
def TollHiredSaid : Prop := tollHiredRow.holds Tryz.pinned (OpenSpec.ofChange tollHiredSpec)

/-- ITS FALSE NEIGHBOUR: 'it returns false'. Refute it at one input. -/
def tollHiredWrong : ChangeSpec := { name := "tollHired", fn := fun _ => fun
  | [d1, d2, d3, d4, d5, d6, d7, d8, d9] => { results := [.lit (.bool false)], args := [d1, d2, d3, d4, d5, d6, d7, d8, d9] }
  | _ => none }
def TollHiredWrongFalsely : Prop := tollHiredRow.holds Tryz.pinned (OpenSpec.ofChange tollHiredWrong)

/-- 'azalailaw07.TollFree': WHATEVER THE INPUT: true; the input reads as it did. -/
def tollFreeSpec : ChangeSpec := { name := "tollFree", fn := fun _ => fun
  | [d1, d2, d3, d4, d5, d6, d7, d8, d9] => { results := [.lit (.bool true)], args := [d1, d2, d3, d4, d5, d6, d7, d8, d9] }
  | _ => none }
def tollFreeRow : OpenClaim := { program := "ytmonkjnfjgidbaagreatdoor", sum := "6d46ce404b89f38904bc390e060ada680b6fe859a898cde5a0a6bd19ef00968a", func := "azalai/azalailaw07.TollFree", spec := "tollFree", unfollowed := true, recurses := true, named := ["azalai/toll.bars"], plainKeys := false, apart := false, laid := [("azalai/toll.bars", laid_azalai_toll_bars)] }
def TollFreeSaid : Prop := tollFreeRow.holds Tryz.pinned (OpenSpec.ofChange tollFreeSpec)

/-- ITS FALSE NEIGHBOUR: 'it returns false'. Refute it at one input. -/
def tollFreeWrong : ChangeSpec := { name := "tollFree", fn := fun _ => fun
  | [d1, d2, d3, d4, d5, d6, d7, d8, d9] => { results := [.lit (.bool false)], args := [d1, d2, d3, d4, d5, d6, d7, d8, d9] }
  | _ => none }
def TollFreeWrongFalsely : Prop := tollFreeRow.holds Tryz.pinned (OpenSpec.ofChange tollFreeWrong)

/-- 'azalailaw07.TollHires': WHATEVER THE INPUT: true; the input reads as it did. -/
def tollHiresSpec : ChangeSpec := { name := "tollHires", fn := fun _ => fun
  | [d1, d2, d3, d4, d5, d6, d7, d8, d9, d10] => { results := [.lit (.bool true)], args := [d1, d2, d3, d4, d5, d6, d7, d8, d9, d10] }
  | _ => none }
def tollHiresRow : OpenClaim := { program := "ytmonkjnfjgidbaagreatdoor", sum := "6d46ce404b89f38904bc390e060ada680b6fe859a898cde5a0a6bd19ef00968a", func := "azalai/azalailaw07.TollHires", spec := "tollHires", unfollowed := true, recurses := true, named := ["azalai/toll.bars"], plainKeys := false, apart := false, laid := [("azalai/toll.bars", laid_azalai_toll_bars)] }
def TollHiresSaid : Prop := tollHiresRow.holds Tryz.pinned (OpenSpec.ofChange tollHiresSpec)

/-- ITS FALSE NEIGHBOUR: 'it returns false'. Refute it at one input. -/
def tollHiresWrong : ChangeSpec := { name := "tollHires", fn := fun _ => fun
  | [d1, d2, d3, d4, d5, d6, d7, d8, d9, d10] => { results := [.lit (.bool false)], args := [d1, d2, d3, d4, d5, d6, d7, d8, d9, d10] }
  | _ => none }
def TollHiresWrongFalsely : Prop := tollHiresRow.holds Tryz.pinned (OpenSpec.ofChange tollHiresWrong)

/-- 'azalailaw07.TollExamples': WHATEVER THE INPUT: true; the input reads as it did. -/
def tollExamplesSpec : ChangeSpec := { name := "tollExamples", fn := fun _ => fun
  | [] => { results := [.lit (.bool true)], args := [] }
  | _ => none }
def tollExamplesRow : OpenClaim := { program := "ytmonkjnfjgidbaagreatdoor", sum := "6d46ce404b89f38904bc390e060ada680b6fe859a898cde5a0a6bd19ef00968a", func := "azalai/azalailaw07.TollExamples", spec := "tollExamples", unfollowed := true, recurses := true, named := ["azalai/toll.bars"], plainKeys := false, apart := false, laid := [("azalai/toll.bars", laid_azalai_toll_bars)] }
def TollExamplesSaid : Prop := tollExamplesRow.holds Tryz.pinned (OpenSpec.ofChange tollExamplesSpec)

/-- ITS FALSE NEIGHBOUR: 'it returns false'. Refute it at one input. -/
def tollExamplesWrong : ChangeSpec := { name := "tollExamples", fn := fun _ => fun
  | [] => { results := [.lit (.bool false)], args := [] }
  | _ => none }
def TollExamplesWrongFalsely : Prop := tollExamplesRow.holds Tryz.pinned (OpenSpec.ofChange tollExamplesWrong)

/-- 'azalailaw07.TollCheapest': WHATEVER THE INPUT: true; the input reads as it did. -/
def tollCheapestSpec : ChangeSpec := { name := "tollCheapest", fn := fun _ => fun
  | [d1, d2, d3, d4, d5, d6, d7, d8, d9, d10] => { results := [.lit (.bool true)], args := [d1, d2, d3, d4, d5, d6, d7, d8, d9, d10] }
  | _ => none }
def tollCheapestRow : OpenClaim := { program := "ytmonkjnfjgidbaagreatdoor", sum := "6d46ce404b89f38904bc390e060ada680b6fe859a898cde5a0a6bd19ef00968a", func := "azalai/azalailaw07.TollCheapest", spec := "tollCheapest", unfollowed := true, recurses := true, named := ["azalai/toll.bars"], plainKeys := false, apart := false, laid := [("azalai/toll.bars", laid_azalai_toll_bars)] }
def TollCheapestSaid : Prop := tollCheapestRow.holds Tryz.pinned (OpenSpec.ofChange tollCheapestSpec)

/-- ITS FALSE NEIGHBOUR: 'it returns false'. Refute it at one input. -/
def tollCheapestWrong : ChangeSpec := { name := "tollCheapest", fn := fun _ => fun
  | [d1, d2, d3, d4, d5, d6, d7, d8, d9, d10] => { results := [.lit (.bool false)], args := [d1, d2, d3, d4, d5, d6, d7, d8, d9, d10] }
  | _ => none }
def TollCheapestWrongFalsely : Prop := tollCheapestRow.holds Tryz.pinned (OpenSpec.ofChange tollCheapestWrong)

/- THE SECOND FORM. 'bulk': how many values and letters a reading holds, each counted each time it is reached (what is shared counts as often as it is met; a slice's spare places count too). A statement '..UptoSaid' is the law's where the arguments, and the package variables that the reading takes, are together of bulk at most 1048576: NARROWER than '..Said'. Prove '..Said' where nothing that the law and all that it calls make is longer than what came in: it says more and counts as full. Else prove '..UptoSaid'. A law counts once. -/
mutual
def uptoBulk {H : Type} : DataW H → Nat
  | .lit (.string bytes) => bytes.length + 1
  | .lit _ => 1
  | .nil => 1
  | .ptr d => uptoBulk d + 1
  | .slice elems spare => uptoBulkAll elems + uptoBulkAll spare + 1
  | .agg parts => uptoBulkAll parts + 1
  | .iface _ d => uptoBulk d + 1
  | .map entries => uptoBulkEntries entries + 1
  | .held _ => 1
def uptoBulkAll {H : Type} : List (DataW H) → Nat
  | [] => 0
  | d :: r => uptoBulk d + uptoBulkAll r
def uptoBulkEntries {H : Type} : List (Lit × DataW H) → Nat
  | [] => 0
  | x :: r => uptoBulkEntry x + uptoBulkEntries r
def uptoBulkEntry {H : Type} : Lit × DataW H → Nat
  | (.string bytes, d) => bytes.length + uptoBulk d + 1
  | (_, d) => uptoBulk d + 1
 end
def uptoSmall : (H : Type) → List (DataW H) → Bool := fun _ ds => decide (uptoBulkAll ds ≤ 1048576)
def OpenSpec.upto (s : _root_.Go.ChangeSpec) : _root_.Go.OpenSpec := { _root_.Go.OpenSpec.ofChange s with cond := some uptoSmall }

/-- 'azalailaw07.TollWays', WHERE WHAT IT READS IS OF BULK AT MOST 1048576: true; the input reads as it did. -/
def tollWaysUptoRow : OpenClaim := { program := "ytmonkjnfjgidbaagreatdoor", sum := "6d46ce404b89f38904bc390e060ada680b6fe859a898cde5a0a6bd19ef00968a", func := "azalai/azalailaw07.TollWays", spec := "tollWays", unfollowed := true, recurses := true, named := ["azalai/toll.bars"], plainKeys := false, apart := false, laid := [("azalai/toll.bars", laid_azalai_toll_bars)], narrowed := true }
def TollWaysUptoSaid : Prop := tollWaysUptoRow.holds Tryz.pinned (OpenSpec.upto tollWaysSpec)

/-- 'azalailaw07.TollObeyed', WHERE WHAT IT READS IS OF BULK AT MOST 1048576: true; the input reads as it did. -/
def tollObeyedUptoRow : OpenClaim := { program := "ytmonkjnfjgidbaagreatdoor", sum := "6d46ce404b89f38904bc390e060ada680b6fe859a898cde5a0a6bd19ef00968a", func := "azalai/azalailaw07.TollObeyed", spec := "tollObeyed", unfollowed := true, recurses := true, named := ["azalai/toll.bars"], plainKeys := false, apart := false, laid := [("azalai/toll.bars", laid_azalai_toll_bars)], narrowed := true }
def TollObeyedUptoSaid : Prop := tollObeyedUptoRow.holds Tryz.pinned (OpenSpec.upto tollObeyedSpec)

/-- 'azalailaw07.TollBarred', WHERE WHAT IT READS IS OF BULK AT MOST 1048576: true; the input reads as it did. -/
def tollBarredUptoRow : OpenClaim := { program := "ytmonkjnfjgidbaagreatdoor", sum := "6d46ce404b89f38904bc390e060ada680b6fe859a898cde5a0a6bd19ef00968a", func := "azalai/azalailaw07.TollBarred", spec := "tollBarred", unfollowed := true, recurses := true, named := ["azalai/toll.bars"], plainKeys := false, apart := false, laid := [("azalai/toll.bars", laid_azalai_toll_bars)], narrowed := true }
def TollBarredUptoSaid : Prop := tollBarredUptoRow.holds Tryz.pinned (OpenSpec.upto tollBarredSpec)

/-- 'azalailaw07.TollPaid', WHERE WHAT IT READS IS OF BULK AT MOST 1048576: true; the input reads as it did. -/
def tollPaidUptoRow : OpenClaim := { program := "ytmonkjnfjgidbaagreatdoor", sum := "6d46ce404b89f38904bc390e060ada680b6fe859a898cde5a0a6bd19ef00968a", func := "azalai/azalailaw07.TollPaid", spec := "tollPaid", unfollowed := true, recurses := true, named := ["azalai/toll.bars"], plainKeys := false, apart := false, laid := [("azalai/toll.bars", laid_azalai_toll_bars)], narrowed := true }
def TollPaidUptoSaid : Prop := tollPaidUptoRow.holds Tryz.pinned (OpenSpec.upto tollPaidSpec)

/-- 'azalailaw07.TollOrder', WHERE WHAT IT READS IS OF BULK AT MOST 1048576: true; the input reads as it did. -/
def tollOrderUptoRow : OpenClaim := { program := "ytmonkjnfjgidbaagreatdoor", sum := "6d46ce404b89f38904bc390e060ada680b6fe859a898cde5a0a6bd19ef00968a", func := "azalai/azalailaw07.TollOrder", spec := "tollOrder", unfollowed := true, recurses := true, named := ["azalai/toll.bars"], plainKeys := false, apart := false, laid := [("azalai/toll.bars", laid_azalai_toll_bars)], narrowed := true }
def TollOrderUptoSaid : Prop := tollOrderUptoRow.holds Tryz.pinned (OpenSpec.upto tollOrderSpec)

/-- 'azalailaw07.TollHeld', WHERE WHAT IT READS IS OF BULK AT MOST 1048576: true; the input reads as it did. -/
def tollHeldUptoRow : OpenClaim := { program := "ytmonkjnfjgidbaagreatdoor", sum := "6d46ce404b89f38904bc390e060ada680b6fe859a898cde5a0a6bd19ef00968a", func := "azalai/azalailaw07.TollHeld", spec := "tollHeld", unfollowed := true, recurses := true, named := ["azalai/toll.bars"], plainKeys := false, apart := false, laid := [("azalai/toll.bars", laid_azalai_toll_bars)], narrowed := true }
def TollHeldUptoSaid : Prop := tollHeldUptoRow.holds Tryz.pinned (OpenSpec.upto tollHeldSpec)

/-- 'azalailaw07.TollHired', WHERE WHAT IT READS IS OF BULK AT MOST 1048576: true; the input reads as it did. -/
def tollHiredUptoRow : OpenClaim := { program := "ytmonkjnfjgidbaagreatdoor", sum := "6d46ce404b89f38904bc390e060ada680b6fe859a898cde5a0a6bd19ef00968a", func := "azalai/azalailaw07.TollHired", spec := "tollHired", unfollowed := true, recurses := true, named := ["azalai/toll.bars"], plainKeys := false, apart := false, laid := [("azalai/toll.bars", laid_azalai_toll_bars)], narrowed := true }
def TollHiredUptoSaid : Prop := tollHiredUptoRow.holds Tryz.pinned (OpenSpec.upto tollHiredSpec)

/-- 'azalailaw07.TollFree', WHERE WHAT IT READS IS OF BULK AT MOST 1048576: true; the input reads as it did. -/
def tollFreeUptoRow : OpenClaim := { program := "ytmonkjnfjgidbaagreatdoor", sum := "6d46ce404b89f38904bc390e060ada680b6fe859a898cde5a0a6bd19ef00968a", func := "azalai/azalailaw07.TollFree", spec := "tollFree", unfollowed := true, recurses := true, named := ["azalai/toll.bars"], plainKeys := false, apart := false, laid := [("azalai/toll.bars", laid_azalai_toll_bars)], narrowed := true }
def TollFreeUptoSaid : Prop := tollFreeUptoRow.holds Tryz.pinned (OpenSpec.upto tollFreeSpec)

/-- 'azalailaw07.TollHires', WHERE WHAT IT READS IS OF BULK AT MOST 1048576: true; the input reads as it did. -/
def tollHiresUptoRow : OpenClaim := { program := "ytmonkjnfjgidbaagreatdoor", sum := "6d46ce404b89f38904bc390e060ada680b6fe859a898cde5a0a6bd19ef00968a", func := "azalai/azalailaw07.TollHires", spec := "tollHires", unfollowed := true, recurses := true, named := ["azalai/toll.bars"], plainKeys := false, apart := false, laid := [("azalai/toll.bars", laid_azalai_toll_bars)], narrowed := true }
def TollHiresUptoSaid : Prop := tollHiresUptoRow.holds Tryz.pinned (OpenSpec.upto tollHiresSpec)

/-- 'azalailaw07.TollExamples', WHERE WHAT IT READS IS OF BULK AT MOST 1048576: true; the input reads as it did. -/
def tollExamplesUptoRow : OpenClaim := { program := "ytmonkjnfjgidbaagreatdoor", sum := "6d46ce404b89f38904bc390e060ada680b6fe859a898cde5a0a6bd19ef00968a", func := "azalai/azalailaw07.TollExamples", spec := "tollExamples", unfollowed := true, recurses := true, named := ["azalai/toll.bars"], plainKeys := false, apart := false, laid := [("azalai/toll.bars", laid_azalai_toll_bars)], narrowed := true }
def TollExamplesUptoSaid : Prop := tollExamplesUptoRow.holds Tryz.pinned (OpenSpec.upto tollExamplesSpec)

/-- 'azalailaw07.TollCheapest', WHERE WHAT IT READS IS OF BULK AT MOST 1048576: true; the input reads as it did. -/
def tollCheapestUptoRow : OpenClaim := { program := "ytmonkjnfjgidbaagreatdoor", sum := "6d46ce404b89f38904bc390e060ada680b6fe859a898cde5a0a6bd19ef00968a", func := "azalai/azalailaw07.TollCheapest", spec := "tollCheapest", unfollowed := true, recurses := true, named := ["azalai/toll.bars"], plainKeys := false, apart := false, laid := [("azalai/toll.bars", laid_azalai_toll_bars)], narrowed := true }
def TollCheapestUptoSaid : Prop := tollCheapestUptoRow.holds Tryz.pinned (OpenSpec.upto tollCheapestSpec)

end Rows
end Go.Proofs.YtmonkjnfjgidbaaGreatDoor
