/- Regions whose order is open: an address within a slice of the call's own. -/
import Derived.Test.YtbbeobiampbddaaLv
import Derived.Test.YtbbeobiampbddaaLw
set_option linter.unusedVariables false
set_option linter.unusedSimpArgs false
namespace Go.Proofs.YtbbeobiampbddaaL
open Go
/-- An address that is told of by its place. -/
def po (R : Addr → Prop) : PO := ⟨fun _ v => ∃ ad, v = .pointer (some ad) ∧ R ad, fun _ => [], fun _ => [], [], []⟩
end Go.Proofs.YtbbeobiampbddaaL
