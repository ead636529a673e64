/-
  No cell of these rows narrows 'for every input' (looked for: loops, veiled, ifaces, maps, wideKeys, modest, calm, conditions, laid).
  DERIVED. THE GIVEN ROWS OF THIS SEAT. 7 by the template 'for every input the law returns true; each argument reads behind the call as it read before'; 0 by the template 'total and deterministic' (their statements: YtbbeobiampbddaaTotals.lean).
  GIVEN WITH THE SEED: the statements are not yours to turn. If you find one false, say at which input.
  Laid BY PROGRAM, IN A SANDBOX (cutbox-rows.mjs): the forced cells as the released guide's own fill.sh prints them over the translation 5cad3632b082ef47… (all of the seat's roots in one cut). By AI agents, Wed Nov 11 2026. No macro, syntax, notation, axiom, sorry.
-/
import Derived.Test.YtbbeobiampbddaaChecked
import GoSem.Claim
import GoSem.ClaimJoined
import GoSem.ClaimMapViews
import Derived.JoinedTies
import Derived.KernelRfl
namespace Go.Proofs.Ytbbeobiampbddaa
/- THE CELL 'sum', in the pinned program and in every row, IS THE sha256 OF THE DUMP (.gsa) THAT YtbbeobiampbddaaProg.lean LOADS. Nothing in Lean hashes anything: it is a label: what it is worth is what the hold of that sum in a sandbox is worth. -/
noncomputable def Try.pinned : Pinned := { name := "ytbbeobiampbddaa", sum := "5cad3632b082ef474c7215f310f47bcb6d97d3b78f2165cee8daa2f04c616d0e", checked := Try.checked }
namespace Rows
def none {H : Type} : Left H := { results := [], args := [] }

/-- 'elasticstorelaw38.HistoryValidate': WHATEVER THE INPUT: true; the input reads as it did. -/
def historyValidateSpec : ChangeSpec := { name := "historyValidate", fn := fun _ => fun
  | [d] => { results := [.lit (.bool true)], args := [d] }
  | _ => none }
def historyValidateRow : OpenClaim := { program := "ytbbeobiampbddaa", sum := "5cad3632b082ef474c7215f310f47bcb6d97d3b78f2165cee8daa2f04c616d0e", func := "elasticstore/elasticstorelaw38.HistoryValidate", spec := "historyValidate", inPlace := ["slices.overlaps[string]"], unfollowed := true, recurses := true, apart := false }
def HistoryValidateSaid : Prop := historyValidateRow.holds Try.pinned (OpenSpec.ofChange historyValidateSpec)

/-- ITS FALSE NEIGHBOUR: 'it returns false'. Refute it at one input. -/
def historyValidateWrong : ChangeSpec := { name := "historyValidate", fn := fun _ => fun
  | [d] => { results := [.lit (.bool false)], args := [d] }
  | _ => none }
def HistoryValidateWrongFalsely : Prop := historyValidateRow.holds Try.pinned (OpenSpec.ofChange historyValidateWrong)

/-- 'elasticstorelaw38.HistoryChanged': WHATEVER THE INPUT: true; the input reads as it did. -/
def historyChangedSpec : ChangeSpec := { name := "historyChanged", fn := fun _ => fun
  | [d1, d2, d3, d4, d5, d6] => { results := [.lit (.bool true)], args := [d1, d2, d3, d4, d5, d6] }
  | _ => none }
def historyChangedRow : OpenClaim := { program := "ytbbeobiampbddaa", sum := "5cad3632b082ef474c7215f310f47bcb6d97d3b78f2165cee8daa2f04c616d0e", func := "elasticstore/elasticstorelaw38.HistoryChanged", spec := "historyChanged", inPlace := ["slices.overlaps[string]"], unfollowed := true, recurses := true, apart := false }
def HistoryChangedSaid : Prop := historyChangedRow.holds Try.pinned (OpenSpec.ofChange historyChangedSpec)

/-- ITS FALSE NEIGHBOUR: 'it returns false'. Refute it at one input. -/
def historyChangedWrong : ChangeSpec := { name := "historyChanged", fn := fun _ => fun
  | [d1, d2, d3, d4, d5, d6] => { results := [.lit (.bool false)], args := [d1, d2, d3, d4, d5, d6] }
  | _ => none }
def HistoryChangedWrongFalsely : Prop := historyChangedRow.holds Try.pinned (OpenSpec.ofChange historyChangedWrong)

/-- 'elasticstorelaw38.HistoryOrder': WHATEVER THE INPUT: true; the input reads as it did. -/
def historyOrderSpec : ChangeSpec := { name := "historyOrder", fn := fun _ => fun
  | [d1, d2, d3, d4, d5] => { results := [.lit (.bool true)], args := [d1, d2, d3, d4, d5] }
  | _ => none }
def historyOrderRow : OpenClaim := { program := "ytbbeobiampbddaa", sum := "5cad3632b082ef474c7215f310f47bcb6d97d3b78f2165cee8daa2f04c616d0e", func := "elasticstore/elasticstorelaw38.HistoryOrder", spec := "historyOrder", inPlace := ["slices.overlaps[string]"], unfollowed := true, recurses := true, apart := false }
def HistoryOrderSaid : Prop := historyOrderRow.holds Try.pinned (OpenSpec.ofChange historyOrderSpec)

/-- ITS FALSE NEIGHBOUR: 'it returns false'. Refute it at one input. -/
def historyOrderWrong : ChangeSpec := { name := "historyOrder", fn := fun _ => fun
  | [d1, d2, d3, d4, d5] => { results := [.lit (.bool false)], args := [d1, d2, d3, d4, d5] }
  | _ => none }
def HistoryOrderWrongFalsely : Prop := historyOrderRow.holds Try.pinned (OpenSpec.ofChange historyOrderWrong)

/-- 'elasticstorelaw38.HistoryBefore': WHATEVER THE INPUT: true; the input reads as it did. -/
def historyBeforeSpec : ChangeSpec := { name := "historyBefore", fn := fun _ => fun
  | [d1, d2, d3] => { results := [.lit (.bool true)], args := [d1, d2, d3] }
  | _ => none }
def historyBeforeRow : OpenClaim := { program := "ytbbeobiampbddaa", sum := "5cad3632b082ef474c7215f310f47bcb6d97d3b78f2165cee8daa2f04c616d0e", func := "elasticstore/elasticstorelaw38.HistoryBefore", spec := "historyBefore", inPlace := ["slices.overlaps[string]"], unfollowed := true, recurses := true, apart := false }
def HistoryBeforeSaid : Prop := historyBeforeRow.holds Try.pinned (OpenSpec.ofChange historyBeforeSpec)

/-- ITS FALSE NEIGHBOUR: 'it returns false'. Refute it at one input. -/
def historyBeforeWrong : ChangeSpec := { name := "historyBefore", fn := fun _ => fun
  | [d1, d2, d3] => { results := [.lit (.bool false)], args := [d1, d2, d3] }
  | _ => none }
def HistoryBeforeWrongFalsely : Prop := historyBeforeRow.holds Try.pinned (OpenSpec.ofChange historyBeforeWrong)

/-- 'elasticstorelaw38.HistoryWidth': WHATEVER THE INPUT: true; the input reads as it did. -/
def historyWidthSpec : ChangeSpec := { name := "historyWidth", fn := fun _ => fun
  | [d1, d2] => { results := [.lit (.bool true)], args := [d1, d2] }
  | _ => none }
def historyWidthRow : OpenClaim := { program := "ytbbeobiampbddaa", sum := "5cad3632b082ef474c7215f310f47bcb6d97d3b78f2165cee8daa2f04c616d0e", func := "elasticstore/elasticstorelaw38.HistoryWidth", spec := "historyWidth", inPlace := ["slices.overlaps[string]"], unfollowed := true, recurses := true, apart := false }
def HistoryWidthSaid : Prop := historyWidthRow.holds Try.pinned (OpenSpec.ofChange historyWidthSpec)

/-- ITS FALSE NEIGHBOUR: 'it returns false'. Refute it at one input. -/
def historyWidthWrong : ChangeSpec := { name := "historyWidth", fn := fun _ => fun
  | [d1, d2] => { results := [.lit (.bool false)], args := [d1, d2] }
  | _ => none }
def HistoryWidthWrongFalsely : Prop := historyWidthRow.holds Try.pinned (OpenSpec.ofChange historyWidthWrong)

/-- 'elasticstorelaw38.HistorySame': WHATEVER THE INPUT: true; the input reads as it did. -/
def historySameSpec : ChangeSpec := { name := "historySame", fn := fun _ => fun
  | [d1, d2] => { results := [.lit (.bool true)], args := [d1, d2] }
  | _ => none }
def historySameRow : OpenClaim := { program := "ytbbeobiampbddaa", sum := "5cad3632b082ef474c7215f310f47bcb6d97d3b78f2165cee8daa2f04c616d0e", func := "elasticstore/elasticstorelaw38.HistorySame", spec := "historySame", inPlace := ["slices.overlaps[string]"], unfollowed := true, recurses := true, apart := false }
def HistorySameSaid : Prop := historySameRow.holds Try.pinned (OpenSpec.ofChange historySameSpec)

/-- ITS FALSE NEIGHBOUR: 'it returns false'. Refute it at one input. -/
def historySameWrong : ChangeSpec := { name := "historySame", fn := fun _ => fun
  | [d1, d2] => { results := [.lit (.bool false)], args := [d1, d2] }
  | _ => none }
def HistorySameWrongFalsely : Prop := historySameRow.holds Try.pinned (OpenSpec.ofChange historySameWrong)

/-- 'elasticstorelaw38.HistoryVisible': WHATEVER THE INPUT: true; the input reads as it did. -/
def historyVisibleSpec : ChangeSpec := { name := "historyVisible", fn := fun _ => fun
  | [d1, d2, d3] => { results := [.lit (.bool true)], args := [d1, d2, d3] }
  | _ => none }
def historyVisibleRow : OpenClaim := { program := "ytbbeobiampbddaa", sum := "5cad3632b082ef474c7215f310f47bcb6d97d3b78f2165cee8daa2f04c616d0e", func := "elasticstore/elasticstorelaw38.HistoryVisible", spec := "historyVisible", inPlace := ["slices.overlaps[string]"], unfollowed := true, recurses := true, apart := false }
def HistoryVisibleSaid : Prop := historyVisibleRow.holds Try.pinned (OpenSpec.ofChange historyVisibleSpec)

/-- ITS FALSE NEIGHBOUR: 'it returns false'. Refute it at one input. -/
def historyVisibleWrong : ChangeSpec := { name := "historyVisible", fn := fun _ => fun
  | [d1, d2, d3] => { results := [.lit (.bool false)], args := [d1, d2, d3] }
  | _ => none }
def HistoryVisibleWrongFalsely : Prop := historyVisibleRow.holds Try.pinned (OpenSpec.ofChange historyVisibleWrong)

/- THE SECOND FORM. 'bulk': how many values and letters a reading holds, each counted each time it is reached (what is shared counts as often as it is met; a slice's spare places count too). A statement '..UptoSaid' is the law's where the arguments, and the package variables that the reading takes, are together of bulk at most 1048576: NARROWER than '..Said'. Prove '..Said' where nothing that the law and all that it calls make is longer than what came in: it says more and counts as full. Else prove '..UptoSaid'. A law counts once. -/
mutual
def uptoBulk {H : Type} : DataW H → Nat
  | .lit (.string bytes) => bytes.length + 1
  | .lit _ => 1
  | .nil => 1
  | .ptr d => uptoBulk d + 1
  | .slice elems spare => uptoBulkAll elems + uptoBulkAll spare + 1
  | .agg parts => uptoBulkAll parts + 1
  | .iface _ d => uptoBulk d + 1
  | .map entries => uptoBulkEntries entries + 1
  | .held _ => 1
def uptoBulkAll {H : Type} : List (DataW H) → Nat
  | [] => 0
  | d :: r => uptoBulk d + uptoBulkAll r
def uptoBulkEntries {H : Type} : List (Lit × DataW H) → Nat
  | [] => 0
  | x :: r => uptoBulkEntry x + uptoBulkEntries r
def uptoBulkEntry {H : Type} : Lit × DataW H → Nat
  | (.string bytes, d) => bytes.length + uptoBulk d + 1
  | (_, d) => uptoBulk d + 1
 end
def uptoSmall : (H : Type) → List (DataW H) → Bool := fun _ ds => decide (uptoBulkAll ds ≤ 1048576)
def OpenSpec.upto (s : _root_.Go.ChangeSpec) : _root_.Go.OpenSpec := { _root_.Go.OpenSpec.ofChange s with cond := some uptoSmall }

/-- 'elasticstorelaw38.HistoryValidate', WHERE WHAT IT READS IS OF BULK AT MOST 1048576: true; the input reads as it did. -/
def historyValidateUptoRow : OpenClaim := { program := "ytbbeobiampbddaa", sum := "5cad3632b082ef474c7215f310f47bcb6d97d3b78f2165cee8daa2f04c616d0e", func := "elasticstore/elasticstorelaw38.HistoryValidate", spec := "historyValidate", inPlace := ["slices.overlaps[string]"], unfollowed := true, recurses := true, apart := false, narrowed := true }
def HistoryValidateUptoSaid : Prop := historyValidateUptoRow.holds Try.pinned (OpenSpec.upto historyValidateSpec)

/-- 'elasticstorelaw38.HistoryChanged', WHERE WHAT IT READS IS OF BULK AT MOST 1048576: true; the input reads as it did. -/
def historyChangedUptoRow : OpenClaim := { program := "ytbbeobiampbddaa", sum := "5cad3632b082ef474c7215f310f47bcb6d97d3b78f2165cee8daa2f04c616d0e", func := "elasticstore/elasticstorelaw38.HistoryChanged", spec := "historyChanged", inPlace := ["slices.overlaps[string]"], unfollowed := true, recurses := true, apart := false, narrowed := true }
def HistoryChangedUptoSaid : Prop := historyChangedUptoRow.holds Try.pinned (OpenSpec.upto historyChangedSpec)

/-- 'elasticstorelaw38.HistoryOrder', WHERE WHAT IT READS IS OF BULK AT MOST 1048576: true; the input reads as it did. -/
def historyOrderUptoRow : OpenClaim := { program := "ytbbeobiampbddaa", sum := "5cad3632b082ef474c7215f310f47bcb6d97d3b78f2165cee8daa2f04c616d0e", func := "elasticstore/elasticstorelaw38.HistoryOrder", spec := "historyOrder", inPlace := ["slices.overlaps[string]"], unfollowed := true, recurses := true, apart := false, narrowed := true }
def HistoryOrderUptoSaid : Prop := historyOrderUptoRow.holds Try.pinned (OpenSpec.upto historyOrderSpec)

/-- 'elasticstorelaw38.HistoryBefore', WHERE WHAT IT READS IS OF BULK AT MOST 1048576: true; the input reads as it did. -/
def historyBeforeUptoRow : OpenClaim := { program := "ytbbeobiampbddaa", sum := "5cad3632b082ef474c7215f310f47bcb6d97d3b78f2165cee8daa2f04c616d0e", func := "elasticstore/elasticstorelaw38.HistoryBefore", spec := "historyBefore", inPlace := ["slices.overlaps[string]"], unfollowed := true, recurses := true, apart := false, narrowed := true }
def HistoryBeforeUptoSaid : Prop := historyBeforeUptoRow.holds Try.pinned (OpenSpec.upto historyBeforeSpec)

/-- 'elasticstorelaw38.HistoryWidth', WHERE WHAT IT READS IS OF BULK AT MOST 1048576: true; the input reads as it did. -/
def historyWidthUptoRow : OpenClaim := { program := "ytbbeobiampbddaa", sum := "5cad3632b082ef474c7215f310f47bcb6d97d3b78f2165cee8daa2f04c616d0e", func := "elasticstore/elasticstorelaw38.HistoryWidth", spec := "historyWidth", inPlace := ["slices.overlaps[string]"], unfollowed := true, recurses := true, apart := false, narrowed := true }
def HistoryWidthUptoSaid : Prop := historyWidthUptoRow.holds Try.pinned (OpenSpec.upto historyWidthSpec)

/-- 'elasticstorelaw38.HistorySame', WHERE WHAT IT READS IS OF BULK AT MOST 1048576: true; the input reads as it did. -/
def historySameUptoRow : OpenClaim := { program := "ytbbeobiampbddaa", sum := "5cad3632b082ef474c7215f310f47bcb6d97d3b78f2165cee8daa2f04c616d0e", func := "elasticstore/elasticstorelaw38.HistorySame", spec := "historySame", inPlace := ["slices.overlaps[string]"], unfollowed := true, recurses := true, apart := false, narrowed := true }
def HistorySameUptoSaid : Prop := historySameUptoRow.holds Try.pinned (OpenSpec.upto historySameSpec)

/-- 'elasticstorelaw38.HistoryVisible', WHERE WHAT IT READS IS OF BULK AT MOST 1048576: true; the input reads as it did. -/
def historyVisibleUptoRow : OpenClaim := { program := "ytbbeobiampbddaa", sum := "5cad3632b082ef474c7215f310f47bcb6d97d3b78f2165cee8daa2f04c616d0e", func := "elasticstore/elasticstorelaw38.HistoryVisible", spec := "historyVisible", inPlace := ["slices.overlaps[string]"], unfollowed := true, recurses := true, apart := false, narrowed := true }
def HistoryVisibleUptoSaid : Prop := historyVisibleUptoRow.holds Try.pinned (OpenSpec.upto historyVisibleSpec)

end Rows
end Go.Proofs.Ytbbeobiampbddaa
