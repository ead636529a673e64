/-
  No cell of these rows narrows 'for every input' (looked for: loops, veiled, ifaces, maps, wideKeys, modest, calm, conditions, laid).
  DERIVED. THE GIVEN ROWS OF THIS SEAT. 8 by the template 'for every input the law returns true; each argument reads behind the call as it read before'; 0 by the template 'total and deterministic' (their statements: YtlbcfjblpopcnaaTotals.lean).
  GIVEN WITH THE SEED: the statements are not yours to turn. If you find one false, say at which input.
  Laid BY PROGRAM, IN A SANDBOX (cutbox-rows.mjs): the forced cells as the released guide's own fill.sh prints them over the translation 427a6134f3ad4684… (all of the seat's roots in one cut). By AI agents, Wed Nov 11 2026. No macro, syntax, notation, axiom, sorry.
-/
import Derived.Test.YtlbcfjblpopcnaaChecked
import GoSem.Claim
import GoSem.ClaimJoined
import GoSem.ClaimMapViews
import Derived.JoinedTies
import Derived.KernelRfl
namespace Go.Proofs.Ytlbcfjblpopcnaa
/- THE CELL 'sum', in the pinned program and in every row, IS THE sha256 OF THE DUMP (.gsa) THAT YtlbcfjblpopcnaaProg.lean LOADS. Nothing in Lean hashes anything: it is a label: what it is worth is what the hold of that sum in a sandbox is worth. -/
noncomputable def Try.pinned : Pinned := { name := "ytlbcfjblpopcnaa", sum := "427a6134f3ad46840683c702056a501963cd56bf10d66ddb07e66329c1345913", checked := Try.checked }
namespace Rows
def none {H : Type} : Left H := { results := [], args := [] }

/-- 'elasticstorelaw30.FoldState': WHATEVER THE INPUT: true; the input reads as it did. -/
def foldStateSpec : ChangeSpec := { name := "foldState", fn := fun _ => fun
  | [d] => { results := [.lit (.bool true)], args := [d] }
  | _ => none }
def foldStateRow : OpenClaim := { program := "ytlbcfjblpopcnaa", sum := "427a6134f3ad46840683c702056a501963cd56bf10d66ddb07e66329c1345913", func := "elasticstore/elasticstorelaw30.FoldState", spec := "foldState", inPlace := ["slices.overlaps[string]"], unfollowed := true, recurses := true, apart := false }
def FoldStateSaid : Prop := foldStateRow.holds Try.pinned (OpenSpec.ofChange foldStateSpec)

/-- ITS FALSE NEIGHBOUR: 'it returns false'. Refute it at one input. -/
def foldStateWrong : ChangeSpec := { name := "foldState", fn := fun _ => fun
  | [d] => { results := [.lit (.bool false)], args := [d] }
  | _ => none }
def FoldStateWrongFalsely : Prop := foldStateRow.holds Try.pinned (OpenSpec.ofChange foldStateWrong)

/-- 'elasticstorelaw30.FoldSome': WHATEVER THE INPUT: true; the input reads as it did. -/
def foldSomeSpec : ChangeSpec := { name := "foldSome", fn := fun _ => fun
  | [d1, d2] => { results := [.lit (.bool true)], args := [d1, d2] }
  | _ => none }
def foldSomeRow : OpenClaim := { program := "ytlbcfjblpopcnaa", sum := "427a6134f3ad46840683c702056a501963cd56bf10d66ddb07e66329c1345913", func := "elasticstore/elasticstorelaw30.FoldSome", spec := "foldSome", inPlace := ["slices.overlaps[string]"], unfollowed := true, recurses := true, apart := false }
def FoldSomeSaid : Prop := foldSomeRow.holds Try.pinned (OpenSpec.ofChange foldSomeSpec)

/-- ITS FALSE NEIGHBOUR: 'it returns false'. Refute it at one input. -/
def foldSomeWrong : ChangeSpec := { name := "foldSome", fn := fun _ => fun
  | [d1, d2] => { results := [.lit (.bool false)], args := [d1, d2] }
  | _ => none }
def FoldSomeWrongFalsely : Prop := foldSomeRow.holds Try.pinned (OpenSpec.ofChange foldSomeWrong)

/-- 'elasticstorelaw30.FoldApply': WHATEVER THE INPUT: true; the input reads as it did. -/
def foldApplySpec : ChangeSpec := { name := "foldApply", fn := fun _ => fun
  | [d1, d2] => { results := [.lit (.bool true)], args := [d1, d2] }
  | _ => none }
def foldApplyRow : OpenClaim := { program := "ytlbcfjblpopcnaa", sum := "427a6134f3ad46840683c702056a501963cd56bf10d66ddb07e66329c1345913", func := "elasticstore/elasticstorelaw30.FoldApply", spec := "foldApply", inPlace := ["slices.overlaps[string]"], unfollowed := true, recurses := true, apart := false }
def FoldApplySaid : Prop := foldApplyRow.holds Try.pinned (OpenSpec.ofChange foldApplySpec)

/-- ITS FALSE NEIGHBOUR: 'it returns false'. Refute it at one input. -/
def foldApplyWrong : ChangeSpec := { name := "foldApply", fn := fun _ => fun
  | [d1, d2] => { results := [.lit (.bool false)], args := [d1, d2] }
  | _ => none }
def FoldApplyWrongFalsely : Prop := foldApplyRow.holds Try.pinned (OpenSpec.ofChange foldApplyWrong)

/-- 'elasticstorelaw30.FoldOrder': WHATEVER THE INPUT: true; the input reads as it did. -/
def foldOrderSpec : ChangeSpec := { name := "foldOrder", fn := fun _ => fun
  | [d1, d2] => { results := [.lit (.bool true)], args := [d1, d2] }
  | _ => none }
def foldOrderRow : OpenClaim := { program := "ytlbcfjblpopcnaa", sum := "427a6134f3ad46840683c702056a501963cd56bf10d66ddb07e66329c1345913", func := "elasticstore/elasticstorelaw30.FoldOrder", spec := "foldOrder", inPlace := ["slices.overlaps[string]"], unfollowed := true, recurses := true, apart := false }
def FoldOrderSaid : Prop := foldOrderRow.holds Try.pinned (OpenSpec.ofChange foldOrderSpec)

/-- ITS FALSE NEIGHBOUR: 'it returns false'. Refute it at one input. -/
def foldOrderWrong : ChangeSpec := { name := "foldOrder", fn := fun _ => fun
  | [d1, d2] => { results := [.lit (.bool false)], args := [d1, d2] }
  | _ => none }
def FoldOrderWrongFalsely : Prop := foldOrderRow.holds Try.pinned (OpenSpec.ofChange foldOrderWrong)

/-- 'elasticstorelaw30.FoldGrows': WHATEVER THE INPUT: true; the input reads as it did. -/
def foldGrowsSpec : ChangeSpec := { name := "foldGrows", fn := fun _ => fun
  | [d1, d2] => { results := [.lit (.bool true)], args := [d1, d2] }
  | _ => none }
def foldGrowsRow : OpenClaim := { program := "ytlbcfjblpopcnaa", sum := "427a6134f3ad46840683c702056a501963cd56bf10d66ddb07e66329c1345913", func := "elasticstore/elasticstorelaw30.FoldGrows", spec := "foldGrows", inPlace := ["slices.overlaps[string]"], unfollowed := true, recurses := true, apart := false }
def FoldGrowsSaid : Prop := foldGrowsRow.holds Try.pinned (OpenSpec.ofChange foldGrowsSpec)

/-- ITS FALSE NEIGHBOUR: 'it returns false'. Refute it at one input. -/
def foldGrowsWrong : ChangeSpec := { name := "foldGrows", fn := fun _ => fun
  | [d1, d2] => { results := [.lit (.bool false)], args := [d1, d2] }
  | _ => none }
def FoldGrowsWrongFalsely : Prop := foldGrowsRow.holds Try.pinned (OpenSpec.ofChange foldGrowsWrong)

/-- 'elasticstorelaw30.FoldFind': WHATEVER THE INPUT: true; the input reads as it did. -/
def foldFindSpec : ChangeSpec := { name := "foldFind", fn := fun _ => fun
  | [d1, d2, d3] => { results := [.lit (.bool true)], args := [d1, d2, d3] }
  | _ => none }
def foldFindRow : OpenClaim := { program := "ytlbcfjblpopcnaa", sum := "427a6134f3ad46840683c702056a501963cd56bf10d66ddb07e66329c1345913", func := "elasticstore/elasticstorelaw30.FoldFind", spec := "foldFind", inPlace := ["slices.overlaps[string]"], unfollowed := true, recurses := true, apart := false }
def FoldFindSaid : Prop := foldFindRow.holds Try.pinned (OpenSpec.ofChange foldFindSpec)

/-- ITS FALSE NEIGHBOUR: 'it returns false'. Refute it at one input. -/
def foldFindWrong : ChangeSpec := { name := "foldFind", fn := fun _ => fun
  | [d1, d2, d3] => { results := [.lit (.bool false)], args := [d1, d2, d3] }
  | _ => none }
def FoldFindWrongFalsely : Prop := foldFindRow.holds Try.pinned (OpenSpec.ofChange foldFindWrong)

/-- 'elasticstorelaw30.FoldSorted': WHATEVER THE INPUT: true; the input reads as it did. -/
def foldSortedSpec : ChangeSpec := { name := "foldSorted", fn := fun _ => fun
  | [d1, d2] => { results := [.lit (.bool true)], args := [d1, d2] }
  | _ => none }
def foldSortedRow : OpenClaim := { program := "ytlbcfjblpopcnaa", sum := "427a6134f3ad46840683c702056a501963cd56bf10d66ddb07e66329c1345913", func := "elasticstore/elasticstorelaw30.FoldSorted", spec := "foldSorted", inPlace := ["slices.overlaps[string]"], unfollowed := true, recurses := true, apart := false }
def FoldSortedSaid : Prop := foldSortedRow.holds Try.pinned (OpenSpec.ofChange foldSortedSpec)

/-- ITS FALSE NEIGHBOUR: 'it returns false'. Refute it at one input. -/
def foldSortedWrong : ChangeSpec := { name := "foldSorted", fn := fun _ => fun
  | [d1, d2] => { results := [.lit (.bool false)], args := [d1, d2] }
  | _ => none }
def FoldSortedWrongFalsely : Prop := foldSortedRow.holds Try.pinned (OpenSpec.ofChange foldSortedWrong)

/-- 'elasticstorelaw30.FoldSums': WHATEVER THE INPUT: true; the input reads as it did. -/
def foldSumsSpec : ChangeSpec := { name := "foldSums", fn := fun _ => fun
  | [d1, d2] => { results := [.lit (.bool true)], args := [d1, d2] }
  | _ => none }
def foldSumsRow : OpenClaim := { program := "ytlbcfjblpopcnaa", sum := "427a6134f3ad46840683c702056a501963cd56bf10d66ddb07e66329c1345913", func := "elasticstore/elasticstorelaw30.FoldSums", spec := "foldSums", inPlace := ["slices.overlaps[string]"], unfollowed := true, recurses := true, apart := false }
def FoldSumsSaid : Prop := foldSumsRow.holds Try.pinned (OpenSpec.ofChange foldSumsSpec)

/-- ITS FALSE NEIGHBOUR: 'it returns false'. Refute it at one input. -/
def foldSumsWrong : ChangeSpec := { name := "foldSums", fn := fun _ => fun
  | [d1, d2] => { results := [.lit (.bool false)], args := [d1, d2] }
  | _ => none }
def FoldSumsWrongFalsely : Prop := foldSumsRow.holds Try.pinned (OpenSpec.ofChange foldSumsWrong)

/- THE SECOND FORM. 'bulk': how many values and letters a reading holds, each counted each time it is reached (what is shared counts as often as it is met; a slice's spare places count too). A statement '..UptoSaid' is the law's where the arguments, and the package variables that the reading takes, are together of bulk at most 1048576: NARROWER than '..Said'. Prove '..Said' where nothing that the law and all that it calls make is longer than what came in: it says more and counts as full. Else prove '..UptoSaid'. A law counts once. -/
mutual
def uptoBulk {H : Type} : DataW H → Nat
  | .lit (.string bytes) => bytes.length + 1
  | .lit _ => 1
  | .nil => 1
  | .ptr d => uptoBulk d + 1
  | .slice elems spare => uptoBulkAll elems + uptoBulkAll spare + 1
  | .agg parts => uptoBulkAll parts + 1
  | .iface _ d => uptoBulk d + 1
  | .map entries => uptoBulkEntries entries + 1
  | .held _ => 1
def uptoBulkAll {H : Type} : List (DataW H) → Nat
  | [] => 0
  | d :: r => uptoBulk d + uptoBulkAll r
def uptoBulkEntries {H : Type} : List (Lit × DataW H) → Nat
  | [] => 0
  | x :: r => uptoBulkEntry x + uptoBulkEntries r
def uptoBulkEntry {H : Type} : Lit × DataW H → Nat
  | (.string bytes, d) => bytes.length + uptoBulk d + 1
  | (_, d) => uptoBulk d + 1
 end
def uptoSmall : (H : Type) → List (DataW H) → Bool := fun _ ds => decide (uptoBulkAll ds ≤ 1048576)
def OpenSpec.upto (s : _root_.Go.ChangeSpec) : _root_.Go.OpenSpec := { _root_.Go.OpenSpec.ofChange s with cond := some uptoSmall }

/-- 'elasticstorelaw30.FoldState', WHERE WHAT IT READS IS OF BULK AT MOST 1048576: true; the input reads as it did. -/
def foldStateUptoRow : OpenClaim := { program := "ytlbcfjblpopcnaa", sum := "427a6134f3ad46840683c702056a501963cd56bf10d66ddb07e66329c1345913", func := "elasticstore/elasticstorelaw30.FoldState", spec := "foldState", inPlace := ["slices.overlaps[string]"], unfollowed := true, recurses := true, apart := false, narrowed := true }
def FoldStateUptoSaid : Prop := foldStateUptoRow.holds Try.pinned (OpenSpec.upto foldStateSpec)

/-- 'elasticstorelaw30.FoldSome', WHERE WHAT IT READS IS OF BULK AT MOST 1048576: true; the input reads as it did. -/
def foldSomeUptoRow : OpenClaim := { program := "ytlbcfjblpopcnaa", sum := "427a6134f3ad46840683c702056a501963cd56bf10d66ddb07e66329c1345913", func := "elasticstore/elasticstorelaw30.FoldSome", spec := "foldSome", inPlace := ["slices.overlaps[string]"], unfollowed := true, recurses := true, apart := false, narrowed := true }
def FoldSomeUptoSaid : Prop := foldSomeUptoRow.holds Try.pinned (OpenSpec.upto foldSomeSpec)

/-- 'elasticstorelaw30.FoldApply', WHERE WHAT IT READS IS OF BULK AT MOST 1048576: true; the input reads as it did. -/
def foldApplyUptoRow : OpenClaim := { program := "ytlbcfjblpopcnaa", sum := "427a6134f3ad46840683c702056a501963cd56bf10d66ddb07e66329c1345913", func := "elasticstore/elasticstorelaw30.FoldApply", spec := "foldApply", inPlace := ["slices.overlaps[string]"], unfollowed := true, recurses := true, apart := false, narrowed := true }
def FoldApplyUptoSaid : Prop := foldApplyUptoRow.holds Try.pinned (OpenSpec.upto foldApplySpec)

/-- 'elasticstorelaw30.FoldOrder', WHERE WHAT IT READS IS OF BULK AT MOST 1048576: true; the input reads as it did. -/
def foldOrderUptoRow : OpenClaim := { program := "ytlbcfjblpopcnaa", sum := "427a6134f3ad46840683c702056a501963cd56bf10d66ddb07e66329c1345913", func := "elasticstore/elasticstorelaw30.FoldOrder", spec := "foldOrder", inPlace := ["slices.overlaps[string]"], unfollowed := true, recurses := true, apart := false, narrowed := true }
def FoldOrderUptoSaid : Prop := foldOrderUptoRow.holds Try.pinned (OpenSpec.upto foldOrderSpec)

/-- 'elasticstorelaw30.FoldGrows', WHERE WHAT IT READS IS OF BULK AT MOST 1048576: true; the input reads as it did. -/
def foldGrowsUptoRow : OpenClaim := { program := "ytlbcfjblpopcnaa", sum := "427a6134f3ad46840683c702056a501963cd56bf10d66ddb07e66329c1345913", func := "elasticstore/elasticstorelaw30.FoldGrows", spec := "foldGrows", inPlace := ["slices.overlaps[string]"], unfollowed := true, recurses := true, apart := false, narrowed := true }
def FoldGrowsUptoSaid : Prop := foldGrowsUptoRow.holds Try.pinned (OpenSpec.upto foldGrowsSpec)

/-- 'elasticstorelaw30.FoldFind', WHERE WHAT IT READS IS OF BULK AT MOST 1048576: true; the input reads as it did. -/
def foldFindUptoRow : OpenClaim := { program := "ytlbcfjblpopcnaa", sum := "427a6134f3ad46840683c702056a501963cd56bf10d66ddb07e66329c1345913", func := "elasticstore/elasticstorelaw30.FoldFind", spec := "foldFind", inPlace := ["slices.overlaps[string]"], unfollowed := true, recurses := true, apart := false, narrowed := true }
def FoldFindUptoSaid : Prop := foldFindUptoRow.holds Try.pinned (OpenSpec.upto foldFindSpec)

/-- 'elasticstorelaw30.FoldSorted', WHERE WHAT IT READS IS OF BULK AT MOST 1048576: true; the input reads as it did. -/
def foldSortedUptoRow : OpenClaim := { program := "ytlbcfjblpopcnaa", sum := "427a6134f3ad46840683c702056a501963cd56bf10d66ddb07e66329c1345913", func := "elasticstore/elasticstorelaw30.FoldSorted", spec := "foldSorted", inPlace := ["slices.overlaps[string]"], unfollowed := true, recurses := true, apart := false, narrowed := true }
def FoldSortedUptoSaid : Prop := foldSortedUptoRow.holds Try.pinned (OpenSpec.upto foldSortedSpec)

/-- 'elasticstorelaw30.FoldSums', WHERE WHAT IT READS IS OF BULK AT MOST 1048576: true; the input reads as it did. -/
def foldSumsUptoRow : OpenClaim := { program := "ytlbcfjblpopcnaa", sum := "427a6134f3ad46840683c702056a501963cd56bf10d66ddb07e66329c1345913", func := "elasticstore/elasticstorelaw30.FoldSums", spec := "foldSums", inPlace := ["slices.overlaps[string]"], unfollowed := true, recurses := true, apart := false, narrowed := true }
def FoldSumsUptoSaid : Prop := foldSumsUptoRow.holds Try.pinned (OpenSpec.upto foldSumsSpec)

end Rows
end Go.Proofs.Ytlbcfjblpopcnaa
