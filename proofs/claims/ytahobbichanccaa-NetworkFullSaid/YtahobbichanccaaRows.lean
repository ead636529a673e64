/-
  No cell of these rows narrows 'for every input' (looked for: loops, veiled, ifaces, maps, wideKeys, modest, calm, conditions, laid).
  DERIVED. THE GIVEN ROWS OF THIS SEAT. 5 by the template 'for every input the law returns true; each argument reads behind the call as it read before'; 0 by the template 'total and deterministic' (their statements: YtahobbichanccaaTotals.lean).
  GIVEN WITH THE SEED: the statements are not yours to turn. If you find one false, say at which input.
  Laid BY PROGRAM, IN A SANDBOX (cutbox-rows.mjs): the forced cells as the released guide's own fill.sh prints them over the translation aff540c60b1265e7… (all of the seat's roots in one cut). By AI agents, Wed Nov 11 2026. No macro, syntax, notation, axiom, sorry.
-/
import Derived.Test.YtahobbichanccaaChecked
import GoSem.Claim
import GoSem.ClaimJoined
import GoSem.ClaimMapViews
import Derived.JoinedTies
import Derived.KernelRfl
namespace Go.Proofs.Ytahobbichanccaa
/- THE CELL 'sum', in the pinned program and in every row, IS THE sha256 OF THE DUMP (.gsa) THAT YtahobbichanccaaProg.lean LOADS. Nothing in Lean hashes anything: it is a label: what it is worth is what the hold of that sum in a sandbox is worth. -/
noncomputable def Try.pinned : Pinned := { name := "ytahobbichanccaa", sum := "aff540c60b1265e7bd95cc9b9792d97624d9e9d08d1b8879ac053adcbdb4e7b9", checked := Try.checked }
namespace Rows
def none {H : Type} : Left H := { results := [], args := [] }

/-- 'elasticstorelaw34.NetworkSides': WHATEVER THE INPUT: true; the input reads as it did. -/
def networkSidesSpec : ChangeSpec := { name := "networkSides", fn := fun _ => fun
  | [d1, d2, d3, d4] => { results := [.lit (.bool true)], args := [d1, d2, d3, d4] }
  | _ => none }
def networkSidesRow : OpenClaim := { program := "ytahobbichanccaa", sum := "aff540c60b1265e7bd95cc9b9792d97624d9e9d08d1b8879ac053adcbdb4e7b9", func := "elasticstore/elasticstorelaw34.NetworkSides", spec := "networkSides", unfollowed := true, recurses := true, apart := false }
def NetworkSidesSaid : Prop := networkSidesRow.holds Try.pinned (OpenSpec.ofChange networkSidesSpec)

/-- ITS FALSE NEIGHBOUR: 'it returns false'. Refute it at one input. -/
def networkSidesWrong : ChangeSpec := { name := "networkSides", fn := fun _ => fun
  | [d1, d2, d3, d4] => { results := [.lit (.bool false)], args := [d1, d2, d3, d4] }
  | _ => none }
def NetworkSidesWrongFalsely : Prop := networkSidesRow.holds Try.pinned (OpenSpec.ofChange networkSidesWrong)

/-- 'elasticstorelaw34.NetworkFull': WHATEVER THE INPUT: true; the input reads as it did. -/
def networkFullSpec : ChangeSpec := { name := "networkFull", fn := fun _ => fun
  | [d1, d2] => { results := [.lit (.bool true)], args := [d1, d2] }
  | _ => none }
def networkFullRow : OpenClaim := { program := "ytahobbichanccaa", sum := "aff540c60b1265e7bd95cc9b9792d97624d9e9d08d1b8879ac053adcbdb4e7b9", func := "elasticstore/elasticstorelaw34.NetworkFull", spec := "networkFull", unfollowed := true, recurses := true, apart := false }
def NetworkFullSaid : Prop := networkFullRow.holds Try.pinned (OpenSpec.ofChange networkFullSpec)

/-- ITS FALSE NEIGHBOUR: 'it returns false'. Refute it at one input. -/
def networkFullWrong : ChangeSpec := { name := "networkFull", fn := fun _ => fun
  | [d1, d2] => { results := [.lit (.bool false)], args := [d1, d2] }
  | _ => none }
def NetworkFullWrongFalsely : Prop := networkFullRow.holds Try.pinned (OpenSpec.ofChange networkFullWrong)

/-- 'elasticstorelaw34.NetworkPlays': WHATEVER THE INPUT: true; the input reads as it did. -/
def networkPlaysSpec : ChangeSpec := { name := "networkPlays", fn := fun _ => fun
  | [d] => { results := [.lit (.bool true)], args := [d] }
  | _ => none }
def networkPlaysRow : OpenClaim := { program := "ytahobbichanccaa", sum := "aff540c60b1265e7bd95cc9b9792d97624d9e9d08d1b8879ac053adcbdb4e7b9", func := "elasticstore/elasticstorelaw34.NetworkPlays", spec := "networkPlays", unfollowed := true, recurses := true, apart := false }
def NetworkPlaysSaid : Prop := networkPlaysRow.holds Try.pinned (OpenSpec.ofChange networkPlaysSpec)

/-- ITS FALSE NEIGHBOUR: 'it returns false'. Refute it at one input. -/
def networkPlaysWrong : ChangeSpec := { name := "networkPlays", fn := fun _ => fun
  | [d] => { results := [.lit (.bool false)], args := [d] }
  | _ => none }
def NetworkPlaysWrongFalsely : Prop := networkPlaysRow.holds Try.pinned (OpenSpec.ofChange networkPlaysWrong)

/-- 'elasticstorelaw34.NetworkValues': WHATEVER THE INPUT: true; the input reads as it did. -/
def networkValuesSpec : ChangeSpec := { name := "networkValues", fn := fun _ => fun
  | [d1, d2] => { results := [.lit (.bool true)], args := [d1, d2] }
  | _ => none }
def networkValuesRow : OpenClaim := { program := "ytahobbichanccaa", sum := "aff540c60b1265e7bd95cc9b9792d97624d9e9d08d1b8879ac053adcbdb4e7b9", func := "elasticstore/elasticstorelaw34.NetworkValues", spec := "networkValues", unfollowed := true, recurses := true, apart := false }
def NetworkValuesSaid : Prop := networkValuesRow.holds Try.pinned (OpenSpec.ofChange networkValuesSpec)

/-- ITS FALSE NEIGHBOUR: 'it returns false'. Refute it at one input. -/
def networkValuesWrong : ChangeSpec := { name := "networkValues", fn := fun _ => fun
  | [d1, d2] => { results := [.lit (.bool false)], args := [d1, d2] }
  | _ => none }
def NetworkValuesWrongFalsely : Prop := networkValuesRow.holds Try.pinned (OpenSpec.ofChange networkValuesWrong)

/-- 'elasticstorelaw34.NetworkCounts': WHATEVER THE INPUT: true; the input reads as it did. -/
def networkCountsSpec : ChangeSpec := { name := "networkCounts", fn := fun _ => fun
  | [d] => { results := [.lit (.bool true)], args := [d] }
  | _ => none }
def networkCountsRow : OpenClaim := { program := "ytahobbichanccaa", sum := "aff540c60b1265e7bd95cc9b9792d97624d9e9d08d1b8879ac053adcbdb4e7b9", func := "elasticstore/elasticstorelaw34.NetworkCounts", spec := "networkCounts", unfollowed := true, recurses := true, apart := false }
def NetworkCountsSaid : Prop := networkCountsRow.holds Try.pinned (OpenSpec.ofChange networkCountsSpec)

/-- ITS FALSE NEIGHBOUR: 'it returns false'. Refute it at one input. -/
def networkCountsWrong : ChangeSpec := { name := "networkCounts", fn := fun _ => fun
  | [d] => { results := [.lit (.bool false)], args := [d] }
  | _ => none }
def NetworkCountsWrongFalsely : Prop := networkCountsRow.holds Try.pinned (OpenSpec.ofChange networkCountsWrong)

/- THE SECOND FORM. 'bulk': how many values and letters a reading holds, each counted each time it is reached (what is shared counts as often as it is met; a slice's spare places count too). A statement '..UptoSaid' is the law's where the arguments, and the package variables that the reading takes, are together of bulk at most 1048576: NARROWER than '..Said'. Prove '..Said' where nothing that the law and all that it calls make is longer than what came in: it says more and counts as full. Else prove '..UptoSaid'. A law counts once. -/
mutual
def uptoBulk {H : Type} : DataW H → Nat
  | .lit (.string bytes) => bytes.length + 1
  | .lit _ => 1
  | .nil => 1
  | .ptr d => uptoBulk d + 1
  | .slice elems spare => uptoBulkAll elems + uptoBulkAll spare + 1
  | .agg parts => uptoBulkAll parts + 1
  | .iface _ d => uptoBulk d + 1
  | .map entries => uptoBulkEntries entries + 1
  | .held _ => 1
def uptoBulkAll {H : Type} : List (DataW H) → Nat
  | [] => 0
  | d :: r => uptoBulk d + uptoBulkAll r
def uptoBulkEntries {H : Type} : List (Lit × DataW H) → Nat
  | [] => 0
  | x :: r => uptoBulkEntry x + uptoBulkEntries r
def uptoBulkEntry {H : Type} : Lit × DataW H → Nat
  | (.string bytes, d) => bytes.length + uptoBulk d + 1
  | (_, d) => uptoBulk d + 1
 end
def uptoSmall : (H : Type) → List (DataW H) → Bool := fun _ ds => decide (uptoBulkAll ds ≤ 1048576)
def OpenSpec.upto (s : _root_.Go.ChangeSpec) : _root_.Go.OpenSpec := { _root_.Go.OpenSpec.ofChange s with cond := some uptoSmall }

/-- 'elasticstorelaw34.NetworkSides', WHERE WHAT IT READS IS OF BULK AT MOST 1048576: true; the input reads as it did. -/
def networkSidesUptoRow : OpenClaim := { program := "ytahobbichanccaa", sum := "aff540c60b1265e7bd95cc9b9792d97624d9e9d08d1b8879ac053adcbdb4e7b9", func := "elasticstore/elasticstorelaw34.NetworkSides", spec := "networkSides", unfollowed := true, recurses := true, apart := false, narrowed := true }
def NetworkSidesUptoSaid : Prop := networkSidesUptoRow.holds Try.pinned (OpenSpec.upto networkSidesSpec)

/-- 'elasticstorelaw34.NetworkFull', WHERE WHAT IT READS IS OF BULK AT MOST 1048576: true; the input reads as it did. -/
def networkFullUptoRow : OpenClaim := { program := "ytahobbichanccaa", sum := "aff540c60b1265e7bd95cc9b9792d97624d9e9d08d1b8879ac053adcbdb4e7b9", func := "elasticstore/elasticstorelaw34.NetworkFull", spec := "networkFull", unfollowed := true, recurses := true, apart := false, narrowed := true }
def NetworkFullUptoSaid : Prop := networkFullUptoRow.holds Try.pinned (OpenSpec.upto networkFullSpec)

/-- 'elasticstorelaw34.NetworkPlays', WHERE WHAT IT READS IS OF BULK AT MOST 1048576: true; the input reads as it did. -/
def networkPlaysUptoRow : OpenClaim := { program := "ytahobbichanccaa", sum := "aff540c60b1265e7bd95cc9b9792d97624d9e9d08d1b8879ac053adcbdb4e7b9", func := "elasticstore/elasticstorelaw34.NetworkPlays", spec := "networkPlays", unfollowed := true, recurses := true, apart := false, narrowed := true }
def NetworkPlaysUptoSaid : Prop := networkPlaysUptoRow.holds Try.pinned (OpenSpec.upto networkPlaysSpec)

/-- 'elasticstorelaw34.NetworkValues', WHERE WHAT IT READS IS OF BULK AT MOST 1048576: true; the input reads as it did. -/
def networkValuesUptoRow : OpenClaim := { program := "ytahobbichanccaa", sum := "aff540c60b1265e7bd95cc9b9792d97624d9e9d08d1b8879ac053adcbdb4e7b9", func := "elasticstore/elasticstorelaw34.NetworkValues", spec := "networkValues", unfollowed := true, recurses := true, apart := false, narrowed := true }
def NetworkValuesUptoSaid : Prop := networkValuesUptoRow.holds Try.pinned (OpenSpec.upto networkValuesSpec)

/-- 'elasticstorelaw34.NetworkCounts', WHERE WHAT IT READS IS OF BULK AT MOST 1048576: true; the input reads as it did. -/
def networkCountsUptoRow : OpenClaim := { program := "ytahobbichanccaa", sum := "aff540c60b1265e7bd95cc9b9792d97624d9e9d08d1b8879ac053adcbdb4e7b9", func := "elasticstore/elasticstorelaw34.NetworkCounts", spec := "networkCounts", unfollowed := true, recurses := true, apart := false, narrowed := true }
def NetworkCountsUptoSaid : Prop := networkCountsUptoRow.holds Try.pinned (OpenSpec.upto networkCountsSpec)

end Rows
end Go.Proofs.Ytahobbichanccaa
