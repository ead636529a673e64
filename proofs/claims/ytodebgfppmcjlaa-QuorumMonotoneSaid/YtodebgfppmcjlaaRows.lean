/-
  No cell of these rows narrows 'for every input' (looked for: loops, veiled, ifaces, maps, wideKeys, modest, calm, conditions, laid).
  DERIVED. THE GIVEN ROWS OF THIS SEAT. 8 by the template 'for every input the law returns true; each argument reads behind the call as it read before'; 0 by the template 'total and deterministic' (their statements: YtodebgfppmcjlaaTotals.lean).
  GIVEN WITH THE SEED: the statements are not yours to turn. If you find one false, say at which input.
  Laid BY PROGRAM, IN A SANDBOX (cutbox-rows.mjs): the forced cells as the released guide's own fill.sh prints them over the translation d2a2562a2cbfa845… (all of the seat's roots in one cut). By AI agents, Wed Nov 11 2026. No macro, syntax, notation, axiom, sorry.
-/
import Derived.Test.YtodebgfppmcjlaaChecked
import GoSem.Claim
import GoSem.ClaimJoined
import GoSem.ClaimMapViews
import Derived.JoinedTies
import Derived.KernelRfl
namespace Go.Proofs.Ytodebgfppmcjlaa
/- THE CELL 'sum', in the pinned program and in every row, IS THE sha256 OF THE DUMP (.gsa) THAT YtodebgfppmcjlaaProg.lean LOADS. Nothing in Lean hashes anything: it is a label: what it is worth is what the hold of that sum in a sandbox is worth. -/
noncomputable def Try.pinned : Pinned := { name := "ytodebgfppmcjlaa", sum := "d2a2562a2cbfa845d22d6d0f9053cac6634431baae9beb2c3154727f2076391c", checked := Try.checked }
namespace Rows
def none {H : Type} : Left H := { results := [], args := [] }

/-- 'elasticstorelaw04.QuorumValidate': WHATEVER THE INPUT: true; the input reads as it did. -/
def quorumValidateSpec : ChangeSpec := { name := "quorumValidate", fn := fun _ => fun
  | [d1, d2] => { results := [.lit (.bool true)], args := [d1, d2] }
  | _ => none }
def quorumValidateRow : OpenClaim := { program := "ytodebgfppmcjlaa", sum := "d2a2562a2cbfa845d22d6d0f9053cac6634431baae9beb2c3154727f2076391c", func := "elasticstore/elasticstorelaw04.QuorumValidate", spec := "quorumValidate", unfollowed := true, recurses := true, apart := false }
def QuorumValidateSaid : Prop := quorumValidateRow.holds Try.pinned (OpenSpec.ofChange quorumValidateSpec)

/-- ITS FALSE NEIGHBOUR: 'it returns false'. Refute it at one input. -/
def quorumValidateWrong : ChangeSpec := { name := "quorumValidate", fn := fun _ => fun
  | [d1, d2] => { results := [.lit (.bool false)], args := [d1, d2] }
  | _ => none }
def QuorumValidateWrongFalsely : Prop := quorumValidateRow.holds Try.pinned (OpenSpec.ofChange quorumValidateWrong)

/-- 'elasticstorelaw04.QuorumIs': WHATEVER THE INPUT: true; the input reads as it did. -/
def quorumIsSpec : ChangeSpec := { name := "quorumIs", fn := fun _ => fun
  | [d1, d2] => { results := [.lit (.bool true)], args := [d1, d2] }
  | _ => none }
def quorumIsRow : OpenClaim := { program := "ytodebgfppmcjlaa", sum := "d2a2562a2cbfa845d22d6d0f9053cac6634431baae9beb2c3154727f2076391c", func := "elasticstore/elasticstorelaw04.QuorumIs", spec := "quorumIs", unfollowed := true, recurses := true, apart := false }
def QuorumIsSaid : Prop := quorumIsRow.holds Try.pinned (OpenSpec.ofChange quorumIsSpec)

/-- ITS FALSE NEIGHBOUR: 'it returns false'. Refute it at one input. -/
def quorumIsWrong : ChangeSpec := { name := "quorumIs", fn := fun _ => fun
  | [d1, d2] => { results := [.lit (.bool false)], args := [d1, d2] }
  | _ => none }
def QuorumIsWrongFalsely : Prop := quorumIsRow.holds Try.pinned (OpenSpec.ofChange quorumIsWrong)

/-- 'elasticstorelaw04.QuorumMinimal': WHATEVER THE INPUT: true; the input reads as it did. -/
def quorumMinimalSpec : ChangeSpec := { name := "quorumMinimal", fn := fun _ => fun
  | [d] => { results := [.lit (.bool true)], args := [d] }
  | _ => none }
def quorumMinimalRow : OpenClaim := { program := "ytodebgfppmcjlaa", sum := "d2a2562a2cbfa845d22d6d0f9053cac6634431baae9beb2c3154727f2076391c", func := "elasticstore/elasticstorelaw04.QuorumMinimal", spec := "quorumMinimal", unfollowed := true, recurses := true, apart := false }
def QuorumMinimalSaid : Prop := quorumMinimalRow.holds Try.pinned (OpenSpec.ofChange quorumMinimalSpec)

/-- ITS FALSE NEIGHBOUR: 'it returns false'. Refute it at one input. -/
def quorumMinimalWrong : ChangeSpec := { name := "quorumMinimal", fn := fun _ => fun
  | [d] => { results := [.lit (.bool false)], args := [d] }
  | _ => none }
def QuorumMinimalWrongFalsely : Prop := quorumMinimalRow.holds Try.pinned (OpenSpec.ofChange quorumMinimalWrong)

/-- 'elasticstorelaw04.QuorumMonotone': WHATEVER THE INPUT: true; the input reads as it did. -/
def quorumMonotoneSpec : ChangeSpec := { name := "quorumMonotone", fn := fun _ => fun
  | [d1, d2, d3, d4] => { results := [.lit (.bool true)], args := [d1, d2, d3, d4] }
  | _ => none }
def quorumMonotoneRow : OpenClaim := { program := "ytodebgfppmcjlaa", sum := "d2a2562a2cbfa845d22d6d0f9053cac6634431baae9beb2c3154727f2076391c", func := "elasticstore/elasticstorelaw04.QuorumMonotone", spec := "quorumMonotone", unfollowed := true, recurses := true, apart := false }
def QuorumMonotoneSaid : Prop := quorumMonotoneRow.holds Try.pinned (OpenSpec.ofChange quorumMonotoneSpec)

/-- ITS FALSE NEIGHBOUR: 'it returns false'. Refute it at one input. -/
def quorumMonotoneWrong : ChangeSpec := { name := "quorumMonotone", fn := fun _ => fun
  | [d1, d2, d3, d4] => { results := [.lit (.bool false)], args := [d1, d2, d3, d4] }
  | _ => none }
def QuorumMonotoneWrongFalsely : Prop := quorumMonotoneRow.holds Try.pinned (OpenSpec.ofChange quorumMonotoneWrong)

/-- 'elasticstorelaw04.QuorumIntersect': WHATEVER THE INPUT: true; the input reads as it did. -/
def quorumIntersectSpec : ChangeSpec := { name := "quorumIntersect", fn := fun _ => fun
  | [d1, d2, d3, d4] => { results := [.lit (.bool true)], args := [d1, d2, d3, d4] }
  | _ => none }
def quorumIntersectRow : OpenClaim := { program := "ytodebgfppmcjlaa", sum := "d2a2562a2cbfa845d22d6d0f9053cac6634431baae9beb2c3154727f2076391c", func := "elasticstore/elasticstorelaw04.QuorumIntersect", spec := "quorumIntersect", unfollowed := true, recurses := true, apart := false }
def QuorumIntersectSaid : Prop := quorumIntersectRow.holds Try.pinned (OpenSpec.ofChange quorumIntersectSpec)

/-- ITS FALSE NEIGHBOUR: 'it returns false'. Refute it at one input. -/
def quorumIntersectWrong : ChangeSpec := { name := "quorumIntersect", fn := fun _ => fun
  | [d1, d2, d3, d4] => { results := [.lit (.bool false)], args := [d1, d2, d3, d4] }
  | _ => none }
def QuorumIntersectWrongFalsely : Prop := quorumIntersectRow.holds Try.pinned (OpenSpec.ofChange quorumIntersectWrong)

/-- 'elasticstorelaw04.QuorumOverlap': WHATEVER THE INPUT: true; the input reads as it did. -/
def quorumOverlapSpec : ChangeSpec := { name := "quorumOverlap", fn := fun _ => fun
  | [d1, d2] => { results := [.lit (.bool true)], args := [d1, d2] }
  | _ => none }
def quorumOverlapRow : OpenClaim := { program := "ytodebgfppmcjlaa", sum := "d2a2562a2cbfa845d22d6d0f9053cac6634431baae9beb2c3154727f2076391c", func := "elasticstore/elasticstorelaw04.QuorumOverlap", spec := "quorumOverlap", unfollowed := true, recurses := true, apart := false }
def QuorumOverlapSaid : Prop := quorumOverlapRow.holds Try.pinned (OpenSpec.ofChange quorumOverlapSpec)

/-- ITS FALSE NEIGHBOUR: 'it returns false'. Refute it at one input. -/
def quorumOverlapWrong : ChangeSpec := { name := "quorumOverlap", fn := fun _ => fun
  | [d1, d2] => { results := [.lit (.bool false)], args := [d1, d2] }
  | _ => none }
def QuorumOverlapWrongFalsely : Prop := quorumOverlapRow.holds Try.pinned (OpenSpec.ofChange quorumOverlapWrong)

/-- 'elasticstorelaw04.QuorumTolerance': WHATEVER THE INPUT: true; the input reads as it did. -/
def quorumToleranceSpec : ChangeSpec := { name := "quorumTolerance", fn := fun _ => fun
  | [d1, d2, d3] => { results := [.lit (.bool true)], args := [d1, d2, d3] }
  | _ => none }
def quorumToleranceRow : OpenClaim := { program := "ytodebgfppmcjlaa", sum := "d2a2562a2cbfa845d22d6d0f9053cac6634431baae9beb2c3154727f2076391c", func := "elasticstore/elasticstorelaw04.QuorumTolerance", spec := "quorumTolerance", unfollowed := true, recurses := true, apart := false }
def QuorumToleranceSaid : Prop := quorumToleranceRow.holds Try.pinned (OpenSpec.ofChange quorumToleranceSpec)

/-- ITS FALSE NEIGHBOUR: 'it returns false'. Refute it at one input. -/
def quorumToleranceWrong : ChangeSpec := { name := "quorumTolerance", fn := fun _ => fun
  | [d1, d2, d3] => { results := [.lit (.bool false)], args := [d1, d2, d3] }
  | _ => none }
def QuorumToleranceWrongFalsely : Prop := quorumToleranceRow.holds Try.pinned (OpenSpec.ofChange quorumToleranceWrong)

/-- 'elasticstorelaw04.QuorumWeights': WHATEVER THE INPUT: true; the input reads as it did. -/
def quorumWeightsSpec : ChangeSpec := { name := "quorumWeights", fn := fun _ => fun
  | [d1, d2, d3] => { results := [.lit (.bool true)], args := [d1, d2, d3] }
  | _ => none }
def quorumWeightsRow : OpenClaim := { program := "ytodebgfppmcjlaa", sum := "d2a2562a2cbfa845d22d6d0f9053cac6634431baae9beb2c3154727f2076391c", func := "elasticstore/elasticstorelaw04.QuorumWeights", spec := "quorumWeights", unfollowed := true, recurses := true, apart := false }
def QuorumWeightsSaid : Prop := quorumWeightsRow.holds Try.pinned (OpenSpec.ofChange quorumWeightsSpec)

/-- ITS FALSE NEIGHBOUR: 'it returns false'. Refute it at one input. -/
def quorumWeightsWrong : ChangeSpec := { name := "quorumWeights", fn := fun _ => fun
  | [d1, d2, d3] => { results := [.lit (.bool false)], args := [d1, d2, d3] }
  | _ => none }
def QuorumWeightsWrongFalsely : Prop := quorumWeightsRow.holds Try.pinned (OpenSpec.ofChange quorumWeightsWrong)

/- THE SECOND FORM. 'bulk': how many values and letters a reading holds, each counted each time it is reached (what is shared counts as often as it is met; a slice's spare places count too). A statement '..UptoSaid' is the law's where the arguments, and the package variables that the reading takes, are together of bulk at most 1048576: NARROWER than '..Said'. Prove '..Said' where nothing that the law and all that it calls make is longer than what came in: it says more and counts as full. Else prove '..UptoSaid'. A law counts once. -/
mutual
def uptoBulk {H : Type} : DataW H → Nat
  | .lit (.string bytes) => bytes.length + 1
  | .lit _ => 1
  | .nil => 1
  | .ptr d => uptoBulk d + 1
  | .slice elems spare => uptoBulkAll elems + uptoBulkAll spare + 1
  | .agg parts => uptoBulkAll parts + 1
  | .iface _ d => uptoBulk d + 1
  | .map entries => uptoBulkEntries entries + 1
  | .held _ => 1
def uptoBulkAll {H : Type} : List (DataW H) → Nat
  | [] => 0
  | d :: r => uptoBulk d + uptoBulkAll r
def uptoBulkEntries {H : Type} : List (Lit × DataW H) → Nat
  | [] => 0
  | x :: r => uptoBulkEntry x + uptoBulkEntries r
def uptoBulkEntry {H : Type} : Lit × DataW H → Nat
  | (.string bytes, d) => bytes.length + uptoBulk d + 1
  | (_, d) => uptoBulk d + 1
 end
def uptoSmall : (H : Type) → List (DataW H) → Bool := fun _ ds => decide (uptoBulkAll ds ≤ 1048576)
def OpenSpec.upto (s : _root_.Go.ChangeSpec) : _root_.Go.OpenSpec := { _root_.Go.OpenSpec.ofChange s with cond := some uptoSmall }

/-- 'elasticstorelaw04.QuorumValidate', WHERE WHAT IT READS IS OF BULK AT MOST 1048576: true; the input reads as it did. -/
def quorumValidateUptoRow : OpenClaim := { program := "ytodebgfppmcjlaa", sum := "d2a2562a2cbfa845d22d6d0f9053cac6634431baae9beb2c3154727f2076391c", func := "elasticstore/elasticstorelaw04.QuorumValidate", spec := "quorumValidate", unfollowed := true, recurses := true, apart := false, narrowed := true }
def QuorumValidateUptoSaid : Prop := quorumValidateUptoRow.holds Try.pinned (OpenSpec.upto quorumValidateSpec)

/-- 'elasticstorelaw04.QuorumIs', WHERE WHAT IT READS IS OF BULK AT MOST 1048576: true; the input reads as it did. -/
def quorumIsUptoRow : OpenClaim := { program := "ytodebgfppmcjlaa", sum := "d2a2562a2cbfa845d22d6d0f9053cac6634431baae9beb2c3154727f2076391c", func := "elasticstore/elasticstorelaw04.QuorumIs", spec := "quorumIs", unfollowed := true, recurses := true, apart := false, narrowed := true }
def QuorumIsUptoSaid : Prop := quorumIsUptoRow.holds Try.pinned (OpenSpec.upto quorumIsSpec)

/-- 'elasticstorelaw04.QuorumMinimal', WHERE WHAT IT READS IS OF BULK AT MOST 1048576: true; the input reads as it did. -/
def quorumMinimalUptoRow : OpenClaim := { program := "ytodebgfppmcjlaa", sum := "d2a2562a2cbfa845d22d6d0f9053cac6634431baae9beb2c3154727f2076391c", func := "elasticstore/elasticstorelaw04.QuorumMinimal", spec := "quorumMinimal", unfollowed := true, recurses := true, apart := false, narrowed := true }
def QuorumMinimalUptoSaid : Prop := quorumMinimalUptoRow.holds Try.pinned (OpenSpec.upto quorumMinimalSpec)

/-- 'elasticstorelaw04.QuorumMonotone', WHERE WHAT IT READS IS OF BULK AT MOST 1048576: true; the input reads as it did. -/
def quorumMonotoneUptoRow : OpenClaim := { program := "ytodebgfppmcjlaa", sum := "d2a2562a2cbfa845d22d6d0f9053cac6634431baae9beb2c3154727f2076391c", func := "elasticstore/elasticstorelaw04.QuorumMonotone", spec := "quorumMonotone", unfollowed := true, recurses := true, apart := false, narrowed := true }
def QuorumMonotoneUptoSaid : Prop := quorumMonotoneUptoRow.holds Try.pinned (OpenSpec.upto quorumMonotoneSpec)

/-- 'elasticstorelaw04.QuorumIntersect', WHERE WHAT IT READS IS OF BULK AT MOST 1048576: true; the input reads as it did. -/
def quorumIntersectUptoRow : OpenClaim := { program := "ytodebgfppmcjlaa", sum := "d2a2562a2cbfa845d22d6d0f9053cac6634431baae9beb2c3154727f2076391c", func := "elasticstore/elasticstorelaw04.QuorumIntersect", spec := "quorumIntersect", unfollowed := true, recurses := true, apart := false, narrowed := true }
def QuorumIntersectUptoSaid : Prop := quorumIntersectUptoRow.holds Try.pinned (OpenSpec.upto quorumIntersectSpec)

/-- 'elasticstorelaw04.QuorumOverlap', WHERE WHAT IT READS IS OF BULK AT MOST 1048576: true; the input reads as it did. -/
def quorumOverlapUptoRow : OpenClaim := { program := "ytodebgfppmcjlaa", sum := "d2a2562a2cbfa845d22d6d0f9053cac6634431baae9beb2c3154727f2076391c", func := "elasticstore/elasticstorelaw04.QuorumOverlap", spec := "quorumOverlap", unfollowed := true, recurses := true, apart := false, narrowed := true }
def QuorumOverlapUptoSaid : Prop := quorumOverlapUptoRow.holds Try.pinned (OpenSpec.upto quorumOverlapSpec)

/-- 'elasticstorelaw04.QuorumTolerance', WHERE WHAT IT READS IS OF BULK AT MOST 1048576: true; the input reads as it did. -/
def quorumToleranceUptoRow : OpenClaim := { program := "ytodebgfppmcjlaa", sum := "d2a2562a2cbfa845d22d6d0f9053cac6634431baae9beb2c3154727f2076391c", func := "elasticstore/elasticstorelaw04.QuorumTolerance", spec := "quorumTolerance", unfollowed := true, recurses := true, apart := false, narrowed := true }
def QuorumToleranceUptoSaid : Prop := quorumToleranceUptoRow.holds Try.pinned (OpenSpec.upto quorumToleranceSpec)

/-- 'elasticstorelaw04.QuorumWeights', WHERE WHAT IT READS IS OF BULK AT MOST 1048576: true; the input reads as it did. -/
def quorumWeightsUptoRow : OpenClaim := { program := "ytodebgfppmcjlaa", sum := "d2a2562a2cbfa845d22d6d0f9053cac6634431baae9beb2c3154727f2076391c", func := "elasticstore/elasticstorelaw04.QuorumWeights", spec := "quorumWeights", unfollowed := true, recurses := true, apart := false, narrowed := true }
def QuorumWeightsUptoSaid : Prop := quorumWeightsUptoRow.holds Try.pinned (OpenSpec.upto quorumWeightsSpec)

end Rows
end Go.Proofs.Ytodebgfppmcjlaa
