/- The quorum functions, as plain data: validation. -/
import Derived.Test.YtodebgfppmcjlaaFd
import Derived.Test.YtodebgfppmcjlaaPl
set_option linter.unusedVariables false
set_option linter.unusedSimpArgs false
namespace Go.Proofs.Ytodebgfppmcjlaa
open Go Go.Proofs.YtodebgfppmcjlaaL

/-- What a rule's validation answers. -/
def vRule (r : api_Rule) : Int :=
  if r.Kind < 1 ∨ 4 < r.Kind then 10
  else if r.Kind = 3 ∧ (r.Columns < 1 ∨ 12 < r.Columns) ∨ r.Kind ≠ 3 ∧ r.Columns ≠ 0 then 9
  else if r.Kind = 4 ∧ (r.Faulty < 0 ∨ 12 < r.Faulty) ∨ r.Kind ≠ 4 ∧ r.Faulty ≠ 0 then 9 else 0
theorem refVR_eq (r : api_Rule) : esref06_ValidateRule r = some (vRule r) := by
  unfold esref06_ValidateRule esref06_ValidateRule.j3 esref06_ValidateRule.j2 esref06_ValidateRule.j1 esref06_Server esref06_Server.j1 vRule
  have e : (if (decide (1 ≤ r.Columns)) then some (decide (r.Columns ≤ 12)) else some false) = some (decide (1 ≤ r.Columns ∧ r.Columns ≤ 12)) := by
    by_cases h : 1 ≤ r.Columns <;> simp [h]
  rw [e]
  simp only [Option.bind_some]
  clear e
  by_cases h1 : r.Kind < 1 <;> by_cases h2 : 4 < r.Kind <;> by_cases h3 : r.Kind = 3 <;> by_cases h4 : r.Kind = 4 <;> by_cases h5 : r.Columns = 0 <;> by_cases h6 : r.Faulty = 0 <;> by_cases h7 : r.Faulty < 0 <;> by_cases h8 : 12 < r.Faulty <;> by_cases h9 : 1 ≤ r.Columns <;> by_cases h10 : r.Columns ≤ 12 <;> (first | omega | (simp [*]; try omega))
theorem VR_eq (r : api_Rule) : quorum_ValidateRule r = some (vRule r) := by
  unfold quorum_ValidateRule quorum_ValidateRule.j4 quorum_ValidateRule.j3 quorum_ValidateRule.j2 quorum_ValidateRule.j1 vRule
  repeat' split
  all_goals (simp_all; try omega)
end Go.Proofs.Ytodebgfppmcjlaa
