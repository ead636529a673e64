/- The command language, as plain data: the program's check of itself; CommandParse. -/
import Derived.Test.YthfoljpjhegkmaaDoorP08g
set_option linter.unusedVariables false
set_option linter.unusedSimpArgs false
set_option maxRecDepth 10000
namespace Go.Proofs.YthfoljpjhegkmaaDoor
open Go Go.Proofs.YthfoljpjhegkmaaDoorL

theorem wrap1 : IntKind.i64.wrap (0 + 1) = 1 := by decide
theorem par_a : parS [106, 111, 105, 110, 32, 52, 32, 119, 101, 105, 103, 104, 116, 32, 50] = (⟨1, 4, 2, 0, ⟨0, 0, 0⟩⟩, 0) := by decide +kernel
theorem par_b : parS [106, 111, 105, 110, 32, 52, 32, 32, 119, 101, 105, 103, 104, 116, 32, 50] = (zChange, 11) := by decide +kernel
theorem com_a : comS ⟨[1], [], [⟨1, 1, 0, 0, 0⟩], ⟨1, 0, 0⟩, 0, 0, 0⟩ [] 0 (spl 10 [35, 32, 114, 101, 112, 108, 97, 99, 101, 10, 106, 111, 105, 110, 32, 52, 10, 114, 101, 109, 111, 118, 101, 32, 49, 10]) = ([⟨1, 4, 1, 0, ⟨0, 0, 0⟩⟩, ⟨2, 1, 0, 0, ⟨0, 0, 0⟩⟩], 0, 0) := by decide +kernel
theorem com_b : comS ⟨[], [], [], ⟨0, 0, 0⟩, 0, 0, 0⟩ [] 0 (spl 10 [10, 114, 101, 109, 111, 118, 101, 32, 57]) = ([], 2, 6) := by decide +kernel
theorem val_a : valS (verS ⟨1, 4, 2, 0, ⟨0, 0, 0⟩⟩) = 0 := by decide +kernel
theorem cat_of {x y : List UInt8} (h : x.length + y.length ≤ 10000) : cat x y = some (x ++ y) := by
  unfold cat
  first | rw [if_pos (by omega)] | rw [if_pos (by unfold maxLen; omega)]
theorem format_a : command_Format ⟨1, 4, 2, 0, ⟨0, 0, 0⟩⟩ = some [106, 111, 105, 110, 32, 52, 32, 119, 101, 105, 103, 104, 116, 32, 50] := by
  unfold command_Format
  simp only [ver1, Option.bind_some, val1, val_a]
  rw [show strconv_Itoa 4 = some [52] from by decide +kernel, show strconv_Itoa 2 = some [50] from by decide +kernel]
  simp only [Option.bind_some]
  rw [if_neg (by decide), if_pos (by decide), cat_of (by decide)]
  simp only [Option.bind_some]
  rw [cat_of (by decide)]
  simp only [Option.bind_some]
  rw [cat_of (by decide)]
  rfl
theorem awake08 : eslaw08_awake = some true := by
  unfold eslaw08_awake
  rw [parse1 _ (by decide), parse1 _ (by decide), par_a, par_b]
  simp only [Option.bind_some, init_eq]
  rw [compile_eq _ _ (by decide) ⟨by decide, by decide, by decide⟩, compile_eq _ _ (by decide) ⟨by decide, by decide, by decide⟩, com_a, com_b]
  simp only [Option.bind_some, format_a]
  rfl
theorem commandParse_true (s : List UInt8) : eslaw08_CommandParse s = some true := by
  unfold eslaw08_CommandParse
  by_cases h : 300 < s.length
  · rw [if_pos (by rw [decide_eq_true_iff]; omega), awake08]; rfl
  rw [if_neg (by rw [decide_eq_true_iff]; omega), parse1 s (by omega), parse2 s (by omega)]
  simp only [Option.bind_some, decide_true, if_true, beq_self_eq_true, awake08, eslaw08_CommandParse.j1]
end Go.Proofs.YthfoljpjhegkmaaDoor
