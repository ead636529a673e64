/-
  No cell of these rows narrows 'for every input' (looked for: loops, veiled, ifaces, maps, wideKeys, modest, calm, conditions, laid).
  DERIVED. THE GIVEN ROWS OF THIS SEAT. 6 by the template 'for every input the law returns true; each argument reads behind the call as it read before'; 0 by the template 'total and deterministic' (their statements: YtpfgdjfiimknlaaGreatTotals.lean).
  GIVEN WITH THE SEED: the statements are not yours to turn. If you find one false, say at which input.
  Laid BY PROGRAM, IN A SANDBOX (cutbox-rows.mjs): the forced cells as the released guide's own fill.sh prints them over the translation 18002bb460223cf1… (all of the seat's roots in one cut). By AI agents, Wed Nov 11 2026. No macro, syntax, notation, axiom, sorry.
-/
import Derived.Test.YtpfgdjfiimknlaaGreatChecked
import GoSem.Claim
import GoSem.ClaimJoined
import GoSem.ClaimMapViews
import Derived.JoinedTies
import Derived.KernelRfl
namespace Go.Proofs.YtpfgdjfiimknlaaGreat
/- THE CELL 'sum', in the pinned program and in every row, IS THE sha256 OF THE DUMP (.gsa) THAT YtpfgdjfiimknlaaGreatProg.lean LOADS. Nothing in Lean hashes anything: it is a label: what it is worth is what the hold of that sum in a sandbox is worth. -/
noncomputable def Tryz.pinned : Pinned := { name := "ytpfgdjfiimknlaagreat", sum := "18002bb460223cf1ea69bac783138a03a93a487aedc0b7be5e182820df9a4123", checked := Tryz.checked }
namespace Rows
def none {H : Type} : Left H := { results := [], args := [] }

/-- 'elasticstorelaw32.IndexBuild': WHATEVER THE INPUT: true; the input reads as it did. -/
def indexBuildSpec : ChangeSpec := { name := "indexBuild", fn := fun _ => fun
  | [d1, d2] => { results := [.lit (.bool true)], args := [d1, d2] }
  | _ => none }
def indexBuildRow : OpenClaim := { program := "ytpfgdjfiimknlaagreat", sum := "18002bb460223cf1ea69bac783138a03a93a487aedc0b7be5e182820df9a4123", func := "elasticstore/elasticstorelaw32.IndexBuild", spec := "indexBuild", inPlace := ["slices.overlaps[string]"], unfollowed := true, recurses := true, plainKeys := false, apart := false }
def IndexBuildSaid : Prop := indexBuildRow.holds Tryz.pinned (OpenSpec.ofChange indexBuildSpec)

/-- ITS FALSE NEIGHBOUR: 'it returns false'. Refute it at one input. -/
def indexBuildWrong : ChangeSpec := { name := "indexBuild", fn := fun _ => fun
  | [d1, d2] => { results := [.lit (.bool false)], args := [d1, d2] }
  | _ => none }
def IndexBuildWrongFalsely : Prop := indexBuildRow.holds Tryz.pinned (OpenSpec.ofChange indexBuildWrong)

/-- 'elasticstorelaw32.IndexQueries': WHATEVER THE INPUT: true; the input reads as it did. -/
def indexQueriesSpec : ChangeSpec := { name := "indexQueries", fn := fun _ => fun
  | [d1, d2, d3, d4, d5] => { results := [.lit (.bool true)], args := [d1, d2, d3, d4, d5] }
  | _ => none }
def indexQueriesRow : OpenClaim := { program := "ytpfgdjfiimknlaagreat", sum := "18002bb460223cf1ea69bac783138a03a93a487aedc0b7be5e182820df9a4123", func := "elasticstore/elasticstorelaw32.IndexQueries", spec := "indexQueries", inPlace := ["slices.overlaps[string]"], unfollowed := true, recurses := true, plainKeys := false, apart := false }
def IndexQueriesSaid : Prop := indexQueriesRow.holds Tryz.pinned (OpenSpec.ofChange indexQueriesSpec)

/-- ITS FALSE NEIGHBOUR: 'it returns false'. Refute it at one input. -/
def indexQueriesWrong : ChangeSpec := { name := "indexQueries", fn := fun _ => fun
  | [d1, d2, d3, d4, d5] => { results := [.lit (.bool false)], args := [d1, d2, d3, d4, d5] }
  | _ => none }
def IndexQueriesWrongFalsely : Prop := indexQueriesRow.holds Tryz.pinned (OpenSpec.ofChange indexQueriesWrong)

/-- 'elasticstorelaw32.IndexExact': WHATEVER THE INPUT: true; the input reads as it did. -/
def indexExactSpec : ChangeSpec := { name := "indexExact", fn := fun _ => fun
  | [d1, d2, d3] => { results := [.lit (.bool true)], args := [d1, d2, d3] }
  | _ => none }
def indexExactRow : OpenClaim := { program := "ytpfgdjfiimknlaagreat", sum := "18002bb460223cf1ea69bac783138a03a93a487aedc0b7be5e182820df9a4123", func := "elasticstore/elasticstorelaw32.IndexExact", spec := "indexExact", inPlace := ["slices.overlaps[string]"], unfollowed := true, recurses := true, plainKeys := false, apart := false }
def IndexExactSaid : Prop := indexExactRow.holds Tryz.pinned (OpenSpec.ofChange indexExactSpec)

/-- ITS FALSE NEIGHBOUR: 'it returns false'. Refute it at one input. -/
def indexExactWrong : ChangeSpec := { name := "indexExact", fn := fun _ => fun
  | [d1, d2, d3] => { results := [.lit (.bool false)], args := [d1, d2, d3] }
  | _ => none }
def IndexExactWrongFalsely : Prop := indexExactRow.holds Tryz.pinned (OpenSpec.ofChange indexExactWrong)

/-- 'elasticstorelaw32.IndexGrows': WHATEVER THE INPUT: true; the input reads as it did. -/
def indexGrowsSpec : ChangeSpec := { name := "indexGrows", fn := fun _ => fun
  | [d1, d2, d3] => { results := [.lit (.bool true)], args := [d1, d2, d3] }
  | _ => none }
def indexGrowsRow : OpenClaim := { program := "ytpfgdjfiimknlaagreat", sum := "18002bb460223cf1ea69bac783138a03a93a487aedc0b7be5e182820df9a4123", func := "elasticstore/elasticstorelaw32.IndexGrows", spec := "indexGrows", inPlace := ["slices.overlaps[string]"], unfollowed := true, recurses := true, plainKeys := false, apart := false }
def IndexGrowsSaid : Prop := indexGrowsRow.holds Tryz.pinned (OpenSpec.ofChange indexGrowsSpec)

/-- ITS FALSE NEIGHBOUR: 'it returns false'. Refute it at one input. -/
def indexGrowsWrong : ChangeSpec := { name := "indexGrows", fn := fun _ => fun
  | [d1, d2, d3] => { results := [.lit (.bool false)], args := [d1, d2, d3] }
  | _ => none }
def IndexGrowsWrongFalsely : Prop := indexGrowsRow.holds Tryz.pinned (OpenSpec.ofChange indexGrowsWrong)

/-- 'elasticstorelaw32.IndexEqual': WHATEVER THE INPUT: true; the input reads as it did. -/
def indexEqualSpec : ChangeSpec := { name := "indexEqual", fn := fun _ => fun
  | [d1, d2, d3, d4] => { results := [.lit (.bool true)], args := [d1, d2, d3, d4] }
  | _ => none }
def indexEqualRow : OpenClaim := { program := "ytpfgdjfiimknlaagreat", sum := "18002bb460223cf1ea69bac783138a03a93a487aedc0b7be5e182820df9a4123", func := "elasticstore/elasticstorelaw32.IndexEqual", spec := "indexEqual", inPlace := ["slices.overlaps[string]"], unfollowed := true, recurses := true, plainKeys := false, apart := false }
def IndexEqualSaid : Prop := indexEqualRow.holds Tryz.pinned (OpenSpec.ofChange indexEqualSpec)

/-- ITS FALSE NEIGHBOUR: 'it returns false'. Refute it at one input. -/
def indexEqualWrong : ChangeSpec := { name := "indexEqual", fn := fun _ => fun
  | [d1, d2, d3, d4] => { results := [.lit (.bool false)], args := [d1, d2, d3, d4] }
  | _ => none }
def IndexEqualWrongFalsely : Prop := indexEqualRow.holds Tryz.pinned (OpenSpec.ofChange indexEqualWrong)

/-- 'elasticstorelaw32.IndexRefresh': WHATEVER THE INPUT: true; the input reads as it did. -/
def indexRefreshSpec : ChangeSpec := { name := "indexRefresh", fn := fun _ => fun
  | [d1, d2, d3, d4, d5] => { results := [.lit (.bool true)], args := [d1, d2, d3, d4, d5] }
  | _ => none }
def indexRefreshRow : OpenClaim := { program := "ytpfgdjfiimknlaagreat", sum := "18002bb460223cf1ea69bac783138a03a93a487aedc0b7be5e182820df9a4123", func := "elasticstore/elasticstorelaw32.IndexRefresh", spec := "indexRefresh", inPlace := ["slices.overlaps[string]"], unfollowed := true, recurses := true, plainKeys := false, apart := false }
def IndexRefreshSaid : Prop := indexRefreshRow.holds Tryz.pinned (OpenSpec.ofChange indexRefreshSpec)

/-- ITS FALSE NEIGHBOUR: 'it returns false'. Refute it at one input. -/
def indexRefreshWrong : ChangeSpec := { name := "indexRefresh", fn := fun _ => fun
  | [d1, d2, d3, d4, d5] => { results := [.lit (.bool false)], args := [d1, d2, d3, d4, d5] }
  | _ => none }
def IndexRefreshWrongFalsely : Prop := indexRefreshRow.holds Tryz.pinned (OpenSpec.ofChange indexRefreshWrong)

/- THE SECOND FORM. 'bulk': how many values and letters a reading holds, each counted each time it is reached (what is shared counts as often as it is met; a slice's spare places count too). A statement '..UptoSaid' is the law's where the arguments, and the package variables that the reading takes, are together of bulk at most 1048576: NARROWER than '..Said'. Prove '..Said' where nothing that the law and all that it calls make is longer than what came in: it says more and counts as full. Else prove '..UptoSaid'. A law counts once. -/
mutual
def uptoBulk {H : Type} : DataW H → Nat
  | .lit (.string bytes) => bytes.length + 1
  | .lit _ => 1
  | .nil => 1
  | .ptr d => uptoBulk d + 1
  | .slice elems spare => uptoBulkAll elems + uptoBulkAll spare + 1
  | .agg parts => uptoBulkAll parts + 1
  | .iface _ d => uptoBulk d + 1
  | .map entries => uptoBulkEntries entries + 1
  | .held _ => 1
def uptoBulkAll {H : Type} : List (DataW H) → Nat
  | [] => 0
  | d :: r => uptoBulk d + uptoBulkAll r
def uptoBulkEntries {H : Type} : List (Lit × DataW H) → Nat
  | [] => 0
  | x :: r => uptoBulkEntry x + uptoBulkEntries r
def uptoBulkEntry {H : Type} : Lit × DataW H → Nat
  | (.string bytes, d) => bytes.length + uptoBulk d + 1
  | (_, d) => uptoBulk d + 1
 end
def uptoSmall : (H : Type) → List (DataW H) → Bool := fun _ ds => decide (uptoBulkAll ds ≤ 1048576)
def OpenSpec.upto (s : _root_.Go.ChangeSpec) : _root_.Go.OpenSpec := { _root_.Go.OpenSpec.ofChange s with cond := some uptoSmall }

/-- 'elasticstorelaw32.IndexBuild', WHERE WHAT IT READS IS OF BULK AT MOST 1048576: true; the input reads as it did. -/
def indexBuildUptoRow : OpenClaim := { program := "ytpfgdjfiimknlaagreat", sum := "18002bb460223cf1ea69bac783138a03a93a487aedc0b7be5e182820df9a4123", func := "elasticstore/elasticstorelaw32.IndexBuild", spec := "indexBuild", inPlace := ["slices.overlaps[string]"], unfollowed := true, recurses := true, plainKeys := false, apart := false, narrowed := true }
def IndexBuildUptoSaid : Prop := indexBuildUptoRow.holds Tryz.pinned (OpenSpec.upto indexBuildSpec)

/-- 'elasticstorelaw32.IndexQueries', WHERE WHAT IT READS IS OF BULK AT MOST 1048576: true; the input reads as it did. -/
def indexQueriesUptoRow : OpenClaim := { program := "ytpfgdjfiimknlaagreat", sum := "18002bb460223cf1ea69bac783138a03a93a487aedc0b7be5e182820df9a4123", func := "elasticstore/elasticstorelaw32.IndexQueries", spec := "indexQueries", inPlace := ["slices.overlaps[string]"], unfollowed := true, recurses := true, plainKeys := false, apart := false, narrowed := true }
def IndexQueriesUptoSaid : Prop := indexQueriesUptoRow.holds Tryz.pinned (OpenSpec.upto indexQueriesSpec)

/-- 'elasticstorelaw32.IndexExact', WHERE WHAT IT READS IS OF BULK AT MOST 1048576: true; the input reads as it did. -/
def indexExactUptoRow : OpenClaim := { program := "ytpfgdjfiimknlaagreat", sum := "18002bb460223cf1ea69bac783138a03a93a487aedc0b7be5e182820df9a4123", func := "elasticstore/elasticstorelaw32.IndexExact", spec := "indexExact", inPlace := ["slices.overlaps[string]"], unfollowed := true, recurses := true, plainKeys := false, apart := false, narrowed := true }
def IndexExactUptoSaid : Prop := indexExactUptoRow.holds Tryz.pinned (OpenSpec.upto indexExactSpec)

/-- 'elasticstorelaw32.IndexGrows', WHERE WHAT IT READS IS OF BULK AT MOST 1048576: true; the input reads as it did. -/
def indexGrowsUptoRow : OpenClaim := { program := "ytpfgdjfiimknlaagreat", sum := "18002bb460223cf1ea69bac783138a03a93a487aedc0b7be5e182820df9a4123", func := "elasticstore/elasticstorelaw32.IndexGrows", spec := "indexGrows", inPlace := ["slices.overlaps[string]"], unfollowed := true, recurses := true, plainKeys := false, apart := false, narrowed := true }
def IndexGrowsUptoSaid : Prop := indexGrowsUptoRow.holds Tryz.pinned (OpenSpec.upto indexGrowsSpec)

/-- 'elasticstorelaw32.IndexEqual', WHERE WHAT IT READS IS OF BULK AT MOST 1048576: true; the input reads as it did. -/
def indexEqualUptoRow : OpenClaim := { program := "ytpfgdjfiimknlaagreat", sum := "18002bb460223cf1ea69bac783138a03a93a487aedc0b7be5e182820df9a4123", func := "elasticstore/elasticstorelaw32.IndexEqual", spec := "indexEqual", inPlace := ["slices.overlaps[string]"], unfollowed := true, recurses := true, plainKeys := false, apart := false, narrowed := true }
def IndexEqualUptoSaid : Prop := indexEqualUptoRow.holds Tryz.pinned (OpenSpec.upto indexEqualSpec)

/-- 'elasticstorelaw32.IndexRefresh', WHERE WHAT IT READS IS OF BULK AT MOST 1048576: true; the input reads as it did. -/
def indexRefreshUptoRow : OpenClaim := { program := "ytpfgdjfiimknlaagreat", sum := "18002bb460223cf1ea69bac783138a03a93a487aedc0b7be5e182820df9a4123", func := "elasticstore/elasticstorelaw32.IndexRefresh", spec := "indexRefresh", inPlace := ["slices.overlaps[string]"], unfollowed := true, recurses := true, plainKeys := false, apart := false, narrowed := true }
def IndexRefreshUptoSaid : Prop := indexRefreshUptoRow.holds Tryz.pinned (OpenSpec.upto indexRefreshSpec)

end Rows
end Go.Proofs.YtpfgdjfiimknlaaGreat
