/- Plain law: HistoryValidate. -/
import Derived.Test.YtbbeobiampbddaaP38g
set_option linter.unusedVariables false
namespace Go.Proofs.Ytbbeobiampbddaa
open Go Go.Proofs.YtbbeobiampbddaaL
theorem historyValidate_true (h : history_History) : eslaw38_HistoryValidate h = some true := by
  unfold eslaw38_HistoryValidate
  by_cases hm : 30 < (h.Operations.length : Int)
  · rw [if_pos (by simpa using hm), awake_true]; rfl
  · rw [if_neg (by simpa using hm), Validate_eq h (by omega), refValidate_eq h (by omega), awake_true]
    simp [eslaw38_HistoryValidate.j1]
end Go.Proofs.Ytbbeobiampbddaa
