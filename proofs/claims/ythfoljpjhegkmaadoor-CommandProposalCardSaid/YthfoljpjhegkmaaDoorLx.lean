/- Regions whose order is open: an address within a slice of the call's own. -/
import Derived.Test.YthfoljpjhegkmaaDoorLv
import Derived.Test.YthfoljpjhegkmaaDoorLw
set_option linter.unusedVariables false
set_option linter.unusedSimpArgs false
namespace Go.Proofs.YthfoljpjhegkmaaDoorL
open Go
/-- An address that is told of by its place. -/
def po (R : Addr → Prop) : PO := ⟨fun _ v => ∃ ad, v = .pointer (some ad) ∧ R ad, fun _ => [], fun _ => [], [], []⟩
end Go.Proofs.YthfoljpjhegkmaaDoorL
