/-
  NARROWER THAN 'FOR EVERY INPUT', by the rows' own cells (each row's printed sentence says how): LoadTrades: laid · LoadTrue: laid · LoadSettled: laid · LoadTraded: laid · LoadNarrow: laid · LoadLevel: laid · LoadBears: laid · LoadMost: laid · LoadLess: laid · LoadExamples: laid.
  DERIVED. THE GIVEN ROWS OF THIS SEAT. 10 by the template 'for every input the law returns true; each argument reads behind the call as it read before'; 0 by the template 'total and deterministic' (their statements: YtjephihlkjpohaaGreatDoorTotals.lean).
  GIVEN WITH THE SEED: the statements are not yours to turn. If you find one false, say at which input.
  Laid BY PROGRAM, IN A SANDBOX (cutbox-rows.mjs): the forced cells as the released guide's own fill.sh prints them over the translation 4221df9ccf677e00… (all of the seat's roots in one cut). By AI agents, Wed Nov 11 2026. No macro, syntax, notation, axiom, sorry.
-/
import Derived.Test.YtjephihlkjpohaaGreatDoorChecked
import GoSem.Claim
import GoSem.ClaimJoined
import GoSem.ClaimMapViews
import Derived.JoinedTies
import Derived.KernelRfl
namespace Go.Proofs.YtjephihlkjpohaaGreatDoor
/- THE CELL 'sum', in the pinned program and in every row, IS THE sha256 OF THE DUMP (.gsa) THAT YtjephihlkjpohaaGreatDoorProg.lean LOADS. Nothing in Lean hashes anything: it is a label: what it is worth is what the hold of that sum in a sandbox is worth. -/
noncomputable def Tryz.pinned : Pinned := { name := "ytjephihlkjpohaagreatdoor", sum := "4221df9ccf677e0021fbe03955b8c71d5788e9a7178373206bfcc397b664d704", checked := Tryz.checked }
namespace Rows
def none {H : Type} : Left H := { results := [], args := [] }

/- WHAT THE LISTED PACKAGE-LEVEL VARIABLES READ AS WHEN THE CALL BEGINS. Each datum BY PROGRAM (the guide's laid-datum.mjs) off the statement by which the dump's own 'gosem.cut.vars' lays the variable. In a bare row this is a premise. The card (YtjephihlkjpohaaGreatDoorCards.lean) ties it to the program's text. -/
def laid_azalai_load_none {H : Type} : DataW H := .agg [.lit (.int .i64 0), .lit (.int .i64 0)]

/-- 'azalailaw05.LoadTrades': WHATEVER THE INPUT: true; the input reads as it did. -/
def loadTradesSpec : ChangeSpec := { name := "loadTrades", fn := fun _ => fun
  | [d1, d2, d3, d4, d5, d6] => { results := [.lit (.bool true)], args := [d1, d2, d3, d4, d5, d6] }
  | _ => none }
def loadTradesRow : OpenClaim := { program := "ytjephihlkjpohaagreatdoor", sum := "4221df9ccf677e0021fbe03955b8c71d5788e9a7178373206bfcc397b664d704", func := "azalai/azalailaw05.LoadTrades", spec := "loadTrades", unfollowed := true, recurses := true, named := ["azalai/load.none"], apart := false, laid := [("azalai/load.none", laid_azalai_load_none)] }
def LoadTradesSaid : Prop := loadTradesRow.holds Tryz.pinned (OpenSpec.ofChange loadTradesSpec)

/-- ITS FALSE NEIGHBOUR: 'it returns false'. Refute it at one input. -/
def loadTradesWrong : ChangeSpec := { name := "loadTrades", fn := fun _ => fun
  | [d1, d2, d3, d4, d5, d6] => { results := [.lit (.bool false)], args := [d1, d2, d3, d4, d5, d6] }
  | _ => none }
def LoadTradesWrongFalsely : Prop := loadTradesRow.holds Tryz.pinned (OpenSpec.ofChange loadTradesWrong)

/-- 'azalailaw05.LoadTrue': WHATEVER THE INPUT: true; the input reads as it did. -/
def loadTrueSpec : ChangeSpec := { name := "loadTrue", fn := fun _ => fun
  | [d1, d2] => { results := [.lit (.bool true)], args := [d1, d2] }
  | _ => none }
def loadTrueRow : OpenClaim := { program := "ytjephihlkjpohaagreatdoor", sum := "4221df9ccf677e0021fbe03955b8c71d5788e9a7178373206bfcc397b664d704", func := "azalai/azalailaw05.LoadTrue", spec := "loadTrue", unfollowed := true, recurses := true, named := ["azalai/load.none"], apart := false, laid := [("azalai/load.none", laid_azalai_load_none)] }
def LoadTrueSaid : Prop := loadTrueRow.holds Tryz.pinned (OpenSpec.ofChange loadTrueSpec)

/-- ITS FALSE NEIGHBOUR: 'it returns false'. Refute it at one input. -/
def loadTrueWrong : ChangeSpec := { name := "loadTrue", fn := fun _ => fun
  | [d1, d2] => { results := [.lit (.bool false)], args := [d1, d2] }
  | _ => none }
def LoadTrueWrongFalsely : Prop := loadTrueRow.holds Tryz.pinned (OpenSpec.ofChange loadTrueWrong)

/-- 'azalailaw05.LoadSettled': WHATEVER THE INPUT: true; the input reads as it did. -/
def loadSettledSpec : ChangeSpec := { name := "loadSettled", fn := fun _ => fun
  | [d1, d2, d3, d4] => { results := [.lit (.bool true)], args := [d1, d2, d3, d4] }
  | _ => none }
def loadSettledRow : OpenClaim := { program := "ytjephihlkjpohaagreatdoor", sum := "4221df9ccf677e0021fbe03955b8c71d5788e9a7178373206bfcc397b664d704", func := "azalai/azalailaw05.LoadSettled", spec := "loadSettled", unfollowed := true, recurses := true, named := ["azalai/load.none"], apart := false, laid := [("azalai/load.none", laid_azalai_load_none)] }
def LoadSettledSaid : Prop := loadSettledRow.holds Tryz.pinned (OpenSpec.ofChange loadSettledSpec)

/-- ITS FALSE NEIGHBOUR: 'it returns false'. Refute it at one input. -/
def loadSettledWrong : ChangeSpec := { name := "loadSettled", fn := fun _ => fun
  | [d1, d2, d3, d4] => { results := [.lit (.bool false)], args := [d1, d2, d3, d4] }
  | _ => none }
def LoadSettledWrongFalsely : Prop := loadSettledRow.holds Tryz.pinned (OpenSpec.ofChange loadSettledWrong)

/-- 'azalailaw05.LoadTraded': WHATEVER THE INPUT: true; the input reads as it did. -/
def loadTradedSpec : ChangeSpec := { name := "loadTraded", fn := fun _ => fun
  | [d1, d2, d3, d4, d5] => { results := [.lit (.bool true)], args := [d1, d2, d3, d4, d5] }
  | _ => none }
def loadTradedRow : OpenClaim := { program := "ytjephihlkjpohaagreatdoor", sum := "4221df9ccf677e0021fbe03955b8c71d5788e9a7178373206bfcc397b664d704", func := "azalai/azalailaw05.LoadTraded", spec := "loadTraded", unfollowed := true, recurses := true, named := ["azalai/load.none"], apart := false, laid := [("azalai/load.none", laid_azalai_load_none)] }
def LoadTradedSaid : Prop := loadTradedRow.holds Tryz.pinned (OpenSpec.ofChange loadTradedSpec)

/-- ITS FALSE NEIGHBOUR: 'it returns false'. Refute it at one input. -/
def loadTradedWrong : ChangeSpec := { name := "loadTraded", fn := fun _ => fun
  | [d1, d2, d3, d4, d5] => { results := [.lit (.bool false)], args := [d1, d2, d3, d4, d5] }
  | _ => none }
def LoadTradedWrongFalsely : Prop := loadTradedRow.holds Tryz.pinned (OpenSpec.ofChange loadTradedWrong)

/-- 'azalailaw05.LoadNarrow': WHATEVER THE INPUT: true; the input reads as it did. -/
def loadNarrowSpec : ChangeSpec := { name := "loadNarrow", fn := fun _ => fun
  | [d1, d2, d3, d4, d5] => { results := [.lit (.bool true)], args := [d1, d2, d3, d4, d5] }
  | _ => none }
def loadNarrowRow : OpenClaim := { program := "ytjephihlkjpohaagreatdoor", sum := "4221df9ccf677e0021fbe03955b8c71d5788e9a7178373206bfcc397b664d704", func := "azalai/azalailaw05.LoadNarrow", spec := "loadNarrow", unfollowed := true, recurses := true, named := ["azalai/load.none"], apart := false, laid := [("azalai/load.none", laid_azalai_load_none)] }
def LoadNarrowSaid : Prop := loadNarrowRow.holds Tryz.pinned (OpenSpec.ofChange loadNarrowSpec)

/-- ITS FALSE NEIGHBOUR: 'it returns false'. Refute it at one input. -/
def loadNarrowWrong : ChangeSpec := { name := "loadNarrow", fn := fun _ => fun
  | [d1, d2, d3, d4, d5] => { results := [.lit (.bool false)], args := [d1, d2, d3, d4, d5] }
  | _ => none }
def LoadNarrowWrongFalsely : Prop := loadNarrowRow.holds Tryz.pinned (OpenSpec.ofChange loadNarrowWrong)

/-- 'azalailaw05.LoadLevel': WHATEVER THE INPUT: true; the input reads as it did. -/
def loadLevelSpec : ChangeSpec := { name := "loadLevel", fn := fun _ => fun
  | [d1, d2, d3, d4] => { results := [.lit (.bool true)], args := [d1, d2, d3, d4] }
  | _ => none }
def loadLevelRow : OpenClaim := { program := "ytjephihlkjpohaagreatdoor", sum := "4221df9ccf677e0021fbe03955b8c71d5788e9a7178373206bfcc397b664d704", func := "azalai/azalailaw05.LoadLevel", spec := "loadLevel", unfollowed := true, recurses := true, named := ["azalai/load.none"], apart := false, laid := [("azalai/load.none", laid_azalai_load_none)] }
def LoadLevelSaid : Prop := loadLevelRow.holds Tryz.pinned (OpenSpec.ofChange loadLevelSpec)

/-- ITS FALSE NEIGHBOUR: 'it returns false'. Refute it at one input. -/
def loadLevelWrong : ChangeSpec := { name := "loadLevel", fn := fun _ => fun
  | [d1, d2, d3, d4] => { results := [.lit (.bool false)], args := [d1, d2, d3, d4] }
  | _ => none }
def LoadLevelWrongFalsely : Prop := loadLevelRow.holds Tryz.pinned (OpenSpec.ofChange loadLevelWrong)

/-- 'azalailaw05.LoadBears': WHATEVER THE INPUT: true; the input reads as it did. -/
def loadBearsSpec : ChangeSpec := { name := "loadBears", fn := fun _ => fun
  | [d1, d2, d3, d4, d5, d6] => { results := [.lit (.bool true)], args := [d1, d2, d3, d4, d5, d6] }
  | _ => none }
def loadBearsRow : OpenClaim := { program := "ytjephihlkjpohaagreatdoor", sum := "4221df9ccf677e0021fbe03955b8c71d5788e9a7178373206bfcc397b664d704", func := "azalai/azalailaw05.LoadBears", spec := "loadBears", unfollowed := true, recurses := true, named := ["azalai/load.none"], apart := false, laid := [("azalai/load.none", laid_azalai_load_none)] }
def LoadBearsSaid : Prop := loadBearsRow.holds Tryz.pinned (OpenSpec.ofChange loadBearsSpec)

/-- ITS FALSE NEIGHBOUR: 'it returns false'. Refute it at one input. -/
def loadBearsWrong : ChangeSpec := { name := "loadBears", fn := fun _ => fun
  | [d1, d2, d3, d4, d5, d6] => { results := [.lit (.bool false)], args := [d1, d2, d3, d4, d5, d6] }
  | _ => none }
def LoadBearsWrongFalsely : Prop := loadBearsRow.holds Tryz.pinned (OpenSpec.ofChange loadBearsWrong)

/-- 'azalailaw05.LoadMost': WHATEVER THE INPUT: true; the input reads as it did. -/
def loadMostSpec : ChangeSpec := { name := "loadMost", fn := fun _ => fun
  | [d1, d2, d3, d4, d5, d6, d7] => { results := [.lit (.bool true)], args := [d1, d2, d3, d4, d5, d6, d7] }
  | _ => none }
def loadMostRow : OpenClaim := { program := "ytjephihlkjpohaagreatdoor", sum := "4221df9ccf677e0021fbe03955b8c71d5788e9a7178373206bfcc397b664d704", func := "azalai/azalailaw05.LoadMost", spec := "loadMost", unfollowed := true, recurses := true, named := ["azalai/load.none"], apart := false, laid := [("azalai/load.none", laid_azalai_load_none)] }
def LoadMostSaid : Prop := loadMostRow.holds Tryz.pinned (OpenSpec.ofChange loadMostSpec)

/-- ITS FALSE NEIGHBOUR: 'it returns false'. Refute it at one input. -/
def loadMostWrong : ChangeSpec := { name := "loadMost", fn := fun _ => fun
  | [d1, d2, d3, d4, d5, d6, d7] => { results := [.lit (.bool false)], args := [d1, d2, d3, d4, d5, d6, d7] }
  | _ => none }
def LoadMostWrongFalsely : Prop := loadMostRow.holds Tryz.pinned (OpenSpec.ofChange loadMostWrong)

/-- 'azalailaw05.LoadLess': WHATEVER THE INPUT: true; the input reads as it did. -/
def loadLessSpec : ChangeSpec := { name := "loadLess", fn := fun _ => fun
  | [d1, d2, d3, d4, d5, d6] => { results := [.lit (.bool true)], args := [d1, d2, d3, d4, d5, d6] }
  | _ => none }
def loadLessRow : OpenClaim := { program := "ytjephihlkjpohaagreatdoor", sum := "4221df9ccf677e0021fbe03955b8c71d5788e9a7178373206bfcc397b664d704", func := "azalai/azalailaw05.LoadLess", spec := "loadLess", unfollowed := true, recurses := true, named := ["azalai/load.none"], apart := false, laid := [("azalai/load.none", laid_azalai_load_none)] }
def LoadLessSaid : Prop := loadLessRow.holds Tryz.pinned (OpenSpec.ofChange loadLessSpec)

/-- ITS FALSE NEIGHBOUR: 'it returns false'. Refute it at one input. -/
def loadLessWrong : ChangeSpec := { name := "loadLess", fn := fun _ => fun
  | [d1, d2, d3, d4, d5, d6] => { results := [.lit (.bool false)], args := [d1, d2, d3, d4, d5, d6] }
  | _ => none }
def LoadLessWrongFalsely : Prop := loadLessRow.holds Tryz.pinned (OpenSpec.ofChange loadLessWrong)

/-- 'azalailaw05.LoadExamples': WHATEVER THE INPUT: true; the input reads as it did. -/
def loadExamplesSpec : ChangeSpec := { name := "loadExamples", fn := fun _ => fun
  | [] => { results := [.lit (.bool true)], args := [] }
  | _ => none }
def loadExamplesRow : OpenClaim := { program := "ytjephihlkjpohaagreatdoor", sum := "4221df9ccf677e0021fbe03955b8c71d5788e9a7178373206bfcc397b664d704", func := "azalai/azalailaw05.LoadExamples", spec := "loadExamples", unfollowed := true, recurses := true, named := ["azalai/load.none"], apart := false, laid := [("azalai/load.none", laid_azalai_load_none)] }
def LoadExamplesSaid : Prop := loadExamplesRow.holds Tryz.pinned (OpenSpec.ofChange loadExamplesSpec)

/-- ITS FALSE NEIGHBOUR: 'it returns false'. Refute it at one input. -/
def loadExamplesWrong : ChangeSpec := { name := "loadExamples", fn := fun _ => fun
  | [] => { results := [.lit (.bool false)], args := [] }
  | _ => none }
def LoadExamplesWrongFalsely : Prop := loadExamplesRow.holds Tryz.pinned (OpenSpec.ofChange loadExamplesWrong)

/- THE SECOND FORM. 'bulk': how many values and letters a reading holds, each counted each time it is reached (what is shared counts as often as it is met; a slice's spare places count too). A statement '..UptoSaid' is the law's where the arguments, and the package variables that the reading takes, are together of bulk at most 1048576: NARROWER than '..Said'. Prove '..Said' where nothing that the law and all that it calls make is longer than what came in: it says more and counts as full. Else prove '..UptoSaid'. A law counts once. -/
mutual
def uptoBulk {H : Type} : DataW H → Nat
  | .lit (.string bytes) => bytes.length + 1
  | .lit _ => 1
  | .nil => 1
  | .ptr d => uptoBulk d + 1
  | .slice elems spare => uptoBulkAll elems + uptoBulkAll spare + 1
  | .agg parts => uptoBulkAll parts + 1
  | .iface _ d => uptoBulk d + 1
  | .map entries => uptoBulkEntries entries + 1
  | .held _ => 1
def uptoBulkAll {H : Type} : List (DataW H) → Nat
  | [] => 0
  | d :: r => uptoBulk d + uptoBulkAll r
def uptoBulkEntries {H : Type} : List (Lit × DataW H) → Nat
  | [] => 0
  | x :: r => uptoBulkEntry x + uptoBulkEntries r
def uptoBulkEntry {H : Type} : Lit × DataW H → Nat
  | (.string bytes, d) => bytes.length + uptoBulk d + 1
  | (_, d) => uptoBulk d + 1
 end
def uptoSmall : (H : Type) → List (DataW H) → Bool := fun _ ds => decide (uptoBulkAll ds ≤ 1048576)
def OpenSpec.upto (s : _root_.Go.ChangeSpec) : _root_.Go.OpenSpec := { _root_.Go.OpenSpec.ofChange s with cond := some uptoSmall }

/-- 'azalailaw05.LoadTrades', WHERE WHAT IT READS IS OF BULK AT MOST 1048576: true; the input reads as it did. -/
def loadTradesUptoRow : OpenClaim := { program := "ytjephihlkjpohaagreatdoor", sum := "4221df9ccf677e0021fbe03955b8c71d5788e9a7178373206bfcc397b664d704", func := "azalai/azalailaw05.LoadTrades", spec := "loadTrades", unfollowed := true, recurses := true, named := ["azalai/load.none"], apart := false, laid := [("azalai/load.none", laid_azalai_load_none)], narrowed := true }
def LoadTradesUptoSaid : Prop := loadTradesUptoRow.holds Tryz.pinned (OpenSpec.upto loadTradesSpec)

/-- 'azalailaw05.LoadTrue', WHERE WHAT IT READS IS OF BULK AT MOST 1048576: true; the input reads as it did. -/
def loadTrueUptoRow : OpenClaim := { program := "ytjephihlkjpohaagreatdoor", sum := "4221df9ccf677e0021fbe03955b8c71d5788e9a7178373206bfcc397b664d704", func := "azalai/azalailaw05.LoadTrue", spec := "loadTrue", unfollowed := true, recurses := true, named := ["azalai/load.none"], apart := false, laid := [("azalai/load.none", laid_azalai_load_none)], narrowed := true }
def LoadTrueUptoSaid : Prop := loadTrueUptoRow.holds Tryz.pinned (OpenSpec.upto loadTrueSpec)

/-- 'azalailaw05.LoadSettled', WHERE WHAT IT READS IS OF BULK AT MOST 1048576: true; the input reads as it did. -/
def loadSettledUptoRow : OpenClaim := { program := "ytjephihlkjpohaagreatdoor", sum := "4221df9ccf677e0021fbe03955b8c71d5788e9a7178373206bfcc397b664d704", func := "azalai/azalailaw05.LoadSettled", spec := "loadSettled", unfollowed := true, recurses := true, named := ["azalai/load.none"], apart := false, laid := [("azalai/load.none", laid_azalai_load_none)], narrowed := true }
def LoadSettledUptoSaid : Prop := loadSettledUptoRow.holds Tryz.pinned (OpenSpec.upto loadSettledSpec)

/-- 'azalailaw05.LoadTraded', WHERE WHAT IT READS IS OF BULK AT MOST 1048576: true; the input reads as it did. -/
def loadTradedUptoRow : OpenClaim := { program := "ytjephihlkjpohaagreatdoor", sum := "4221df9ccf677e0021fbe03955b8c71d5788e9a7178373206bfcc397b664d704", func := "azalai/azalailaw05.LoadTraded", spec := "loadTraded", unfollowed := true, recurses := true, named := ["azalai/load.none"], apart := false, laid := [("azalai/load.none", laid_azalai_load_none)], narrowed := true }
def LoadTradedUptoSaid : Prop := loadTradedUptoRow.holds Tryz.pinned (OpenSpec.upto loadTradedSpec)

/-- 'azalailaw05.LoadNarrow', WHERE WHAT IT READS IS OF BULK AT MOST 1048576: true; the input reads as it did. -/
def loadNarrowUptoRow : OpenClaim := { program := "ytjephihlkjpohaagreatdoor", sum := "4221df9ccf677e0021fbe03955b8c71d5788e9a7178373206bfcc397b664d704", func := "azalai/azalailaw05.LoadNarrow", spec := "loadNarrow", unfollowed := true, recurses := true, named := ["azalai/load.none"], apart := false, laid := [("azalai/load.none", laid_azalai_load_none)], narrowed := true }
def LoadNarrowUptoSaid : Prop := loadNarrowUptoRow.holds Tryz.pinned (OpenSpec.upto loadNarrowSpec)

/-- 'azalailaw05.LoadLevel', WHERE WHAT IT READS IS OF BULK AT MOST 1048576: true; the input reads as it did. -/
def loadLevelUptoRow : OpenClaim := { program := "ytjephihlkjpohaagreatdoor", sum := "4221df9ccf677e0021fbe03955b8c71d5788e9a7178373206bfcc397b664d704", func := "azalai/azalailaw05.LoadLevel", spec := "loadLevel", unfollowed := true, recurses := true, named := ["azalai/load.none"], apart := false, laid := [("azalai/load.none", laid_azalai_load_none)], narrowed := true }
def LoadLevelUptoSaid : Prop := loadLevelUptoRow.holds Tryz.pinned (OpenSpec.upto loadLevelSpec)

/-- 'azalailaw05.LoadBears', WHERE WHAT IT READS IS OF BULK AT MOST 1048576: true; the input reads as it did. -/
def loadBearsUptoRow : OpenClaim := { program := "ytjephihlkjpohaagreatdoor", sum := "4221df9ccf677e0021fbe03955b8c71d5788e9a7178373206bfcc397b664d704", func := "azalai/azalailaw05.LoadBears", spec := "loadBears", unfollowed := true, recurses := true, named := ["azalai/load.none"], apart := false, laid := [("azalai/load.none", laid_azalai_load_none)], narrowed := true }
def LoadBearsUptoSaid : Prop := loadBearsUptoRow.holds Tryz.pinned (OpenSpec.upto loadBearsSpec)

/-- 'azalailaw05.LoadMost', WHERE WHAT IT READS IS OF BULK AT MOST 1048576: true; the input reads as it did. -/
def loadMostUptoRow : OpenClaim := { program := "ytjephihlkjpohaagreatdoor", sum := "4221df9ccf677e0021fbe03955b8c71d5788e9a7178373206bfcc397b664d704", func := "azalai/azalailaw05.LoadMost", spec := "loadMost", unfollowed := true, recurses := true, named := ["azalai/load.none"], apart := false, laid := [("azalai/load.none", laid_azalai_load_none)], narrowed := true }
def LoadMostUptoSaid : Prop := loadMostUptoRow.holds Tryz.pinned (OpenSpec.upto loadMostSpec)

/-- 'azalailaw05.LoadLess', WHERE WHAT IT READS IS OF BULK AT MOST 1048576: true; the input reads as it did. -/
def loadLessUptoRow : OpenClaim := { program := "ytjephihlkjpohaagreatdoor", sum := "4221df9ccf677e0021fbe03955b8c71d5788e9a7178373206bfcc397b664d704", func := "azalai/azalailaw05.LoadLess", spec := "loadLess", unfollowed := true, recurses := true, named := ["azalai/load.none"], apart := false, laid := [("azalai/load.none", laid_azalai_load_none)], narrowed := true }
def LoadLessUptoSaid : Prop := loadLessUptoRow.holds Tryz.pinned (OpenSpec.upto loadLessSpec)

/-- 'azalailaw05.LoadExamples', WHERE WHAT IT READS IS OF BULK AT MOST 1048576: true; the input reads as it did. -/
def loadExamplesUptoRow : OpenClaim := { program := "ytjephihlkjpohaagreatdoor", sum := "4221df9ccf677e0021fbe03955b8c71d5788e9a7178373206bfcc397b664d704", func := "azalai/azalailaw05.LoadExamples", spec := "loadExamples", unfollowed := true, recurses := true, named := ["azalai/load.none"], apart := false, laid := [("azalai/load.none", laid_azalai_load_none)], narrowed := true }
def LoadExamplesUptoSaid : Prop := loadExamplesUptoRow.holds Tryz.pinned (OpenSpec.upto loadExamplesSpec)

end Rows
end Go.Proofs.YtjephihlkjpohaaGreatDoor
