/-
  No cell of these rows narrows 'for every input' (looked for: loops, veiled, ifaces, maps, wideKeys, modest, calm, conditions, laid).
  DERIVED. THE GIVEN ROWS OF THIS SEAT. 9 by the template 'for every input the law returns true; each argument reads behind the call as it read before'; 0 by the template 'total and deterministic' (their statements: YtbenhafhklfhmaaGreatTotals.lean).
  GIVEN WITH THE SEED: the statements are not yours to turn. If you find one false, say at which input.
  Laid BY PROGRAM, IN A SANDBOX (cutbox-rows.mjs): the forced cells as the released guide's own fill.sh prints them over the translation f098d27cecb38551… (all of the seat's roots in one cut). By AI agents, Wed Nov 11 2026. No macro, syntax, notation, axiom, sorry.
-/
import Derived.Test.YtbenhafhklfhmaaGreatChecked
import GoSem.Claim
import GoSem.ClaimJoined
import GoSem.ClaimMapViews
import Derived.JoinedTies
import Derived.KernelRfl
namespace Go.Proofs.YtbenhafhklfhmaaGreat
/- THE CELL 'sum', in the pinned program and in every row, IS THE sha256 OF THE DUMP (.gsa) THAT YtbenhafhklfhmaaGreatProg.lean LOADS. Nothing in Lean hashes anything: it is a label: what it is worth is what the hold of that sum in a sandbox is worth. -/
noncomputable def Tryz.pinned : Pinned := { name := "ytbenhafhklfhmaagreat", sum := "f098d27cecb38551d56fd48f27a688fd5e46ea2d94bb73b729b7b5e8a701205c", checked := Tryz.checked }
namespace Rows
def none {H : Type} : Left H := { results := [], args := [] }

/-- 'azalailaw02.BrandTrue': WHATEVER THE INPUT: true; the input reads as it did. -/
def brandTrueSpec : ChangeSpec := { name := "brandTrue", fn := fun _ => fun
  | [d1, d2, d3, d4] => { results := [.lit (.bool true)], args := [d1, d2, d3, d4] }
  | _ => none }
def brandTrueRow : OpenClaim := { program := "ytbenhafhklfhmaagreat", sum := "f098d27cecb38551d56fd48f27a688fd5e46ea2d94bb73b729b7b5e8a701205c", func := "azalai/azalailaw02.BrandTrue", spec := "brandTrue", unfollowed := true, recurses := true, apart := false }
def BrandTrueSaid : Prop := brandTrueRow.holds Tryz.pinned (OpenSpec.ofChange brandTrueSpec)

/-- ITS FALSE NEIGHBOUR: 'it returns false'. Refute it at one input. -/
def brandTrueWrong : ChangeSpec := { name := "brandTrue", fn := fun _ => fun
  | [d1, d2, d3, d4] => { results := [.lit (.bool false)], args := [d1, d2, d3, d4] }
  | _ => none }
def BrandTrueWrongFalsely : Prop := brandTrueRow.holds Tryz.pinned (OpenSpec.ofChange brandTrueWrong)

/-- 'azalailaw02.BrandMay': WHATEVER THE INPUT: true; the input reads as it did. -/
def brandMaySpec : ChangeSpec := { name := "brandMay", fn := fun _ => fun
  | [d1, d2, d3, d4, d5] => { results := [.lit (.bool true)], args := [d1, d2, d3, d4, d5] }
  | _ => none }
def brandMayRow : OpenClaim := { program := "ytbenhafhklfhmaagreat", sum := "f098d27cecb38551d56fd48f27a688fd5e46ea2d94bb73b729b7b5e8a701205c", func := "azalai/azalailaw02.BrandMay", spec := "brandMay", unfollowed := true, recurses := true, apart := false }
def BrandMaySaid : Prop := brandMayRow.holds Tryz.pinned (OpenSpec.ofChange brandMaySpec)

/-- ITS FALSE NEIGHBOUR: 'it returns false'. Refute it at one input. -/
def brandMayWrong : ChangeSpec := { name := "brandMay", fn := fun _ => fun
  | [d1, d2, d3, d4, d5] => { results := [.lit (.bool false)], args := [d1, d2, d3, d4, d5] }
  | _ => none }
def BrandMayWrongFalsely : Prop := brandMayRow.holds Tryz.pinned (OpenSpec.ofChange brandMayWrong)

/-- 'azalailaw02.BrandSharper': WHATEVER THE INPUT: true; the input reads as it did. -/
def brandSharperSpec : ChangeSpec := { name := "brandSharper", fn := fun _ => fun
  | [d1, d2, d3, d4, d5, d6, d7] => { results := [.lit (.bool true)], args := [d1, d2, d3, d4, d5, d6, d7] }
  | _ => none }
def brandSharperRow : OpenClaim := { program := "ytbenhafhklfhmaagreat", sum := "f098d27cecb38551d56fd48f27a688fd5e46ea2d94bb73b729b7b5e8a701205c", func := "azalai/azalailaw02.BrandSharper", spec := "brandSharper", unfollowed := true, recurses := true, apart := false }
def BrandSharperSaid : Prop := brandSharperRow.holds Tryz.pinned (OpenSpec.ofChange brandSharperSpec)

/-- ITS FALSE NEIGHBOUR: 'it returns false'. Refute it at one input. -/
def brandSharperWrong : ChangeSpec := { name := "brandSharper", fn := fun _ => fun
  | [d1, d2, d3, d4, d5, d6, d7] => { results := [.lit (.bool false)], args := [d1, d2, d3, d4, d5, d6, d7] }
  | _ => none }
def BrandSharperWrongFalsely : Prop := brandSharperRow.holds Tryz.pinned (OpenSpec.ofChange brandSharperWrong)

/-- 'azalailaw02.BrandBorn': WHATEVER THE INPUT: true; the input reads as it did. -/
def brandBornSpec : ChangeSpec := { name := "brandBorn", fn := fun _ => fun
  | [d1, d2] => { results := [.lit (.bool true)], args := [d1, d2] }
  | _ => none }
def brandBornRow : OpenClaim := { program := "ytbenhafhklfhmaagreat", sum := "f098d27cecb38551d56fd48f27a688fd5e46ea2d94bb73b729b7b5e8a701205c", func := "azalai/azalailaw02.BrandBorn", spec := "brandBorn", unfollowed := true, recurses := true, apart := false }
def BrandBornSaid : Prop := brandBornRow.holds Tryz.pinned (OpenSpec.ofChange brandBornSpec)

/-- ITS FALSE NEIGHBOUR: 'it returns false'. Refute it at one input. -/
def brandBornWrong : ChangeSpec := { name := "brandBorn", fn := fun _ => fun
  | [d1, d2] => { results := [.lit (.bool false)], args := [d1, d2] }
  | _ => none }
def BrandBornWrongFalsely : Prop := brandBornRow.holds Tryz.pinned (OpenSpec.ofChange brandBornWrong)

/-- 'azalailaw02.BrandTold': WHATEVER THE INPUT: true; the input reads as it did. -/
def brandToldSpec : ChangeSpec := { name := "brandTold", fn := fun _ => fun
  | [d1, d2, d3] => { results := [.lit (.bool true)], args := [d1, d2, d3] }
  | _ => none }
def brandToldRow : OpenClaim := { program := "ytbenhafhklfhmaagreat", sum := "f098d27cecb38551d56fd48f27a688fd5e46ea2d94bb73b729b7b5e8a701205c", func := "azalai/azalailaw02.BrandTold", spec := "brandTold", unfollowed := true, recurses := true, apart := false }
def BrandToldSaid : Prop := brandToldRow.holds Tryz.pinned (OpenSpec.ofChange brandToldSpec)

/-- ITS FALSE NEIGHBOUR: 'it returns false'. Refute it at one input. -/
def brandToldWrong : ChangeSpec := { name := "brandTold", fn := fun _ => fun
  | [d1, d2, d3] => { results := [.lit (.bool false)], args := [d1, d2, d3] }
  | _ => none }
def BrandToldWrongFalsely : Prop := brandToldRow.holds Tryz.pinned (OpenSpec.ofChange brandToldWrong)

/-- 'azalailaw02.BrandCounted': WHATEVER THE INPUT: true; the input reads as it did. -/
def brandCountedSpec : ChangeSpec := { name := "brandCounted", fn := fun _ => fun
  | [d1, d2, d3] => { results := [.lit (.bool true)], args := [d1, d2, d3] }
  | _ => none }
def brandCountedRow : OpenClaim := { program := "ytbenhafhklfhmaagreat", sum := "f098d27cecb38551d56fd48f27a688fd5e46ea2d94bb73b729b7b5e8a701205c", func := "azalai/azalailaw02.BrandCounted", spec := "brandCounted", unfollowed := true, recurses := true, apart := false }
def BrandCountedSaid : Prop := brandCountedRow.holds Tryz.pinned (OpenSpec.ofChange brandCountedSpec)

/-- ITS FALSE NEIGHBOUR: 'it returns false'. Refute it at one input. -/
def brandCountedWrong : ChangeSpec := { name := "brandCounted", fn := fun _ => fun
  | [d1, d2, d3] => { results := [.lit (.bool false)], args := [d1, d2, d3] }
  | _ => none }
def BrandCountedWrongFalsely : Prop := brandCountedRow.holds Tryz.pinned (OpenSpec.ofChange brandCountedWrong)

/-- 'azalailaw02.BrandReached': WHATEVER THE INPUT: true; the input reads as it did. -/
def brandReachedSpec : ChangeSpec := { name := "brandReached", fn := fun _ => fun
  | [d1, d2, d3, d4] => { results := [.lit (.bool true)], args := [d1, d2, d3, d4] }
  | _ => none }
def brandReachedRow : OpenClaim := { program := "ytbenhafhklfhmaagreat", sum := "f098d27cecb38551d56fd48f27a688fd5e46ea2d94bb73b729b7b5e8a701205c", func := "azalai/azalailaw02.BrandReached", spec := "brandReached", unfollowed := true, recurses := true, apart := false }
def BrandReachedSaid : Prop := brandReachedRow.holds Tryz.pinned (OpenSpec.ofChange brandReachedSpec)

/-- ITS FALSE NEIGHBOUR: 'it returns false'. Refute it at one input. -/
def brandReachedWrong : ChangeSpec := { name := "brandReached", fn := fun _ => fun
  | [d1, d2, d3, d4] => { results := [.lit (.bool false)], args := [d1, d2, d3, d4] }
  | _ => none }
def BrandReachedWrongFalsely : Prop := brandReachedRow.holds Tryz.pinned (OpenSpec.ofChange brandReachedWrong)

/-- 'azalailaw02.BrandKin': WHATEVER THE INPUT: true; the input reads as it did. -/
def brandKinSpec : ChangeSpec := { name := "brandKin", fn := fun _ => fun
  | [d1, d2, d3] => { results := [.lit (.bool true)], args := [d1, d2, d3] }
  | _ => none }
def brandKinRow : OpenClaim := { program := "ytbenhafhklfhmaagreat", sum := "f098d27cecb38551d56fd48f27a688fd5e46ea2d94bb73b729b7b5e8a701205c", func := "azalai/azalailaw02.BrandKin", spec := "brandKin", unfollowed := true, recurses := true, apart := false }
def BrandKinSaid : Prop := brandKinRow.holds Tryz.pinned (OpenSpec.ofChange brandKinSpec)

/-- ITS FALSE NEIGHBOUR: 'it returns false'. Refute it at one input. -/
def brandKinWrong : ChangeSpec := { name := "brandKin", fn := fun _ => fun
  | [d1, d2, d3] => { results := [.lit (.bool false)], args := [d1, d2, d3] }
  | _ => none }
def BrandKinWrongFalsely : Prop := brandKinRow.holds Tryz.pinned (OpenSpec.ofChange brandKinWrong)

/-- 'azalailaw02.BrandExamples': WHATEVER THE INPUT: true; the input reads as it did. -/
def brandExamplesSpec : ChangeSpec := { name := "brandExamples", fn := fun _ => fun
  | [] => { results := [.lit (.bool true)], args := [] }
  | _ => none }
def brandExamplesRow : OpenClaim := { program := "ytbenhafhklfhmaagreat", sum := "f098d27cecb38551d56fd48f27a688fd5e46ea2d94bb73b729b7b5e8a701205c", func := "azalai/azalailaw02.BrandExamples", spec := "brandExamples", unfollowed := true, recurses := true, apart := false }
def BrandExamplesSaid : Prop := brandExamplesRow.holds Tryz.pinned (OpenSpec.ofChange brandExamplesSpec)

/-- ITS FALSE NEIGHBOUR: 'it returns false'. Refute it at one input. -/
def brandExamplesWrong : ChangeSpec := { name := "brandExamples", fn := fun _ => fun
  | [] => { results := [.lit (.bool false)], args := [] }
  | _ => none }
def BrandExamplesWrongFalsely : Prop := brandExamplesRow.holds Tryz.pinned (OpenSpec.ofChange brandExamplesWrong)

/- THE SECOND FORM. 'bulk': how many values and letters a reading holds, each counted each time it is reached (what is shared counts as often as it is met; a slice's spare places count too). A statement '..UptoSaid' is the law's where the arguments, and the package variables that the reading takes, are together of bulk at most 1048576: NARROWER than '..Said'. Prove '..Said' where nothing that the law and all that it calls make is longer than what came in: it says more and counts as full. Else prove '..UptoSaid'. A law counts once. -/
mutual
def uptoBulk {H : Type} : DataW H → Nat
  | .lit (.string bytes) => bytes.length + 1
  | .lit _ => 1
  | .nil => 1
  | .ptr d => uptoBulk d + 1
  | .slice elems spare => uptoBulkAll elems + uptoBulkAll spare + 1
  | .agg parts => uptoBulkAll parts + 1
  | .iface _ d => uptoBulk d + 1
  | .map entries => uptoBulkEntries entries + 1
  | .held _ => 1
def uptoBulkAll {H : Type} : List (DataW H) → Nat
  | [] => 0
  | d :: r => uptoBulk d + uptoBulkAll r
def uptoBulkEntries {H : Type} : List (Lit × DataW H) → Nat
  | [] => 0
  | x :: r => uptoBulkEntry x + uptoBulkEntries r
def uptoBulkEntry {H : Type} : Lit × DataW H → Nat
  | (.string bytes, d) => bytes.length + uptoBulk d + 1
  | (_, d) => uptoBulk d + 1
 end
def uptoSmall : (H : Type) → List (DataW H) → Bool := fun _ ds => decide (uptoBulkAll ds ≤ 1048576)
def OpenSpec.upto (s : _root_.Go.ChangeSpec) : _root_.Go.OpenSpec := { _root_.Go.OpenSpec.ofChange s with cond := some uptoSmall }

/-- 'azalailaw02.BrandTrue', WHERE WHAT IT READS IS OF BULK AT MOST 1048576: true; the input reads as it did. -/
def brandTrueUptoRow : OpenClaim := { program := "ytbenhafhklfhmaagreat", sum := "f098d27cecb38551d56fd48f27a688fd5e46ea2d94bb73b729b7b5e8a701205c", func := "azalai/azalailaw02.BrandTrue", spec := "brandTrue", unfollowed := true, recurses := true, apart := false, narrowed := true }
def BrandTrueUptoSaid : Prop := brandTrueUptoRow.holds Tryz.pinned (OpenSpec.upto brandTrueSpec)

/-- 'azalailaw02.BrandMay', WHERE WHAT IT READS IS OF BULK AT MOST 1048576: true; the input reads as it did. -/
def brandMayUptoRow : OpenClaim := { program := "ytbenhafhklfhmaagreat", sum := "f098d27cecb38551d56fd48f27a688fd5e46ea2d94bb73b729b7b5e8a701205c", func := "azalai/azalailaw02.BrandMay", spec := "brandMay", unfollowed := true, recurses := true, apart := false, narrowed := true }
def BrandMayUptoSaid : Prop := brandMayUptoRow.holds Tryz.pinned (OpenSpec.upto brandMaySpec)

/-- 'azalailaw02.BrandSharper', WHERE WHAT IT READS IS OF BULK AT MOST 1048576: true; the input reads as it did. -/
def brandSharperUptoRow : OpenClaim := { program := "ytbenhafhklfhmaagreat", sum := "f098d27cecb38551d56fd48f27a688fd5e46ea2d94bb73b729b7b5e8a701205c", func := "azalai/azalailaw02.BrandSharper", spec := "brandSharper", unfollowed := true, recurses := true, apart := false, narrowed := true }
def BrandSharperUptoSaid : Prop := brandSharperUptoRow.holds Tryz.pinned (OpenSpec.upto brandSharperSpec)

/-- 'azalailaw02.BrandBorn', WHERE WHAT IT READS IS OF BULK AT MOST 1048576: true; the input reads as it did. -/
def brandBornUptoRow : OpenClaim := { program := "ytbenhafhklfhmaagreat", sum := "f098d27cecb38551d56fd48f27a688fd5e46ea2d94bb73b729b7b5e8a701205c", func := "azalai/azalailaw02.BrandBorn", spec := "brandBorn", unfollowed := true, recurses := true, apart := false, narrowed := true }
def BrandBornUptoSaid : Prop := brandBornUptoRow.holds Tryz.pinned (OpenSpec.upto brandBornSpec)

/-- 'azalailaw02.BrandTold', WHERE WHAT IT READS IS OF BULK AT MOST 1048576: true; the input reads as it did. -/
def brandToldUptoRow : OpenClaim := { program := "ytbenhafhklfhmaagreat", sum := "f098d27cecb38551d56fd48f27a688fd5e46ea2d94bb73b729b7b5e8a701205c", func := "azalai/azalailaw02.BrandTold", spec := "brandTold", unfollowed := true, recurses := true, apart := false, narrowed := true }
def BrandToldUptoSaid : Prop := brandToldUptoRow.holds Tryz.pinned (OpenSpec.upto brandToldSpec)

/-- 'azalailaw02.BrandCounted', WHERE WHAT IT READS IS OF BULK AT MOST 1048576: true; the input reads as it did. -/
def brandCountedUptoRow : OpenClaim := { program := "ytbenhafhklfhmaagreat", sum := "f098d27cecb38551d56fd48f27a688fd5e46ea2d94bb73b729b7b5e8a701205c", func := "azalai/azalailaw02.BrandCounted", spec := "brandCounted", unfollowed := true, recurses := true, apart := false, narrowed := true }
def BrandCountedUptoSaid : Prop := brandCountedUptoRow.holds Tryz.pinned (OpenSpec.upto brandCountedSpec)

/-- 'azalailaw02.BrandReached', WHERE WHAT IT READS IS OF BULK AT MOST 1048576: true; the input reads as it did. -/
def brandReachedUptoRow : OpenClaim := { program := "ytbenhafhklfhmaagreat", sum := "f098d27cecb38551d56fd48f27a688fd5e46ea2d94bb73b729b7b5e8a701205c", func := "azalai/azalailaw02.BrandReached", spec := "brandReached", unfollowed := true, recurses := true, apart := false, narrowed := true }
def BrandReachedUptoSaid : Prop := brandReachedUptoRow.holds Tryz.pinned (OpenSpec.upto brandReachedSpec)

/-- 'azalailaw02.BrandKin', WHERE WHAT IT READS IS OF BULK AT MOST 1048576: true; the input reads as it did. -/
def brandKinUptoRow : OpenClaim := { program := "ytbenhafhklfhmaagreat", sum := "f098d27cecb38551d56fd48f27a688fd5e46ea2d94bb73b729b7b5e8a701205c", func := "azalai/azalailaw02.BrandKin", spec := "brandKin", unfollowed := true, recurses := true, apart := false, narrowed := true }
def BrandKinUptoSaid : Prop := brandKinUptoRow.holds Tryz.pinned (OpenSpec.upto brandKinSpec)

/-- 'azalailaw02.BrandExamples', WHERE WHAT IT READS IS OF BULK AT MOST 1048576: true; the input reads as it did. -/
def brandExamplesUptoRow : OpenClaim := { program := "ytbenhafhklfhmaagreat", sum := "f098d27cecb38551d56fd48f27a688fd5e46ea2d94bb73b729b7b5e8a701205c", func := "azalai/azalailaw02.BrandExamples", spec := "brandExamples", unfollowed := true, recurses := true, apart := false, narrowed := true }
def BrandExamplesUptoSaid : Prop := brandExamplesUptoRow.holds Tryz.pinned (OpenSpec.upto brandExamplesSpec)

end Rows
end Go.Proofs.YtbenhafhklfhmaaGreat
