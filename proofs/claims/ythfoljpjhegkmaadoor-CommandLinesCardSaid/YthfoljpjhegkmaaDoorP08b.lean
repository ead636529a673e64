/- The command language, as plain data: the forms of commands, their validation. -/
import Derived.Test.YthfoljpjhegkmaaDoorP08a
set_option linter.unusedVariables false
set_option linter.unusedSimpArgs false
namespace Go.Proofs.YthfoljpjhegkmaaDoor
open Go Go.Proofs.YthfoljpjhegkmaaDoorL

abbrev zRule : api_Rule := ⟨0, 0, 0⟩
abbrev zChange : api_Change := ⟨0, 0, 0, 0, ⟨0, 0, 0⟩⟩
abbrev wJoin : List UInt8 := [106, 111, 105, 110]
abbrev wRemove : List UInt8 := [114, 101, 109, 111, 118, 101]
abbrev wWeight : List UInt8 := [119, 101, 105, 103, 104, 116]
abbrev wRule : List UInt8 := [114, 117, 108, 101]
abbrev wMajority : List UInt8 := [109, 97, 106, 111, 114, 105, 116, 121]
abbrev wWeighted : List UInt8 := [119, 101, 105, 103, 104, 116, 101, 100]
abbrev wGrid : List UInt8 := [103, 114, 105, 100]
abbrev wMasking : List UInt8 := [109, 97, 115, 107, 105, 110, 103]

/-- The rule of some words. -/
def ruleS : List (List UInt8) → Option api_Rule
  | [a] => if a = wMajority then some ⟨1, 0, 0⟩ else if a = wWeighted then some ⟨2, 0, 0⟩ else none
  | [a, b] => match numS b with
    | none => none
    | some n => if a = wGrid then some ⟨3, n, 0⟩ else if a = wMasking then some ⟨4, 0, n⟩ else none
  | _ => none
def rOk : Option api_Rule → api_Rule × Bool
  | some r => (r, true)
  | none => (⟨0, 0, 0⟩, false)
theorem num_neg (n : Nat) : (decide ((0 : Int) ≤ (n : Int))) = true := by simp
theorem rule_eq (w : List (List UInt8)) : command_rule w = some (rOk (ruleS w)) ∧ esref10_parseRule w = some (rOk (ruleS w)) := by
  match w with
  | [] => exact ⟨rfl, rfl⟩
  | [a] =>
    unfold command_rule esref10_parseRule ruleS
    simp only [List.length_singleton, idx_zero, Option.bind_some]
    constructor
    · rw [if_neg (by decide), if_pos (by decide)]
      by_cases h1 : a = wMajority
      · subst h1; rfl
      · have e1 : (a == wMajority) = false := by simpa using h1
        simp only [command_rule.j4, e1, h1, Bool.false_eq_true, if_false, List.length_singleton]
        rw [if_pos (by decide)]
        by_cases h2 : a = wWeighted
        · subst h2; rfl
        · have e2 : (a == wWeighted) = false := by simpa using h2
          simp only [command_rule.j3, e2, h2, Bool.false_eq_true, if_false, List.length_singleton]
          rfl
    · rw [if_pos (by decide)]
      by_cases h1 : a = wMajority
      · subst h1; rfl
      · have e1 : (a == wMajority) = false := by simpa using h1
        simp only [esref10_parseRule.j4, e1, h1, Bool.false_eq_true, if_false, List.length_singleton, idx_zero, Option.bind_some]
        rw [if_pos (by decide)]
        by_cases h2 : a = wWeighted
        · subst h2; rfl
        · have e2 : (a == wWeighted) = false := by simpa using h2
          simp only [esref10_parseRule.j3, e2, h2, Bool.false_eq_true, if_false, List.length_singleton]
          rfl
  | [a, b] =>
    have hn := number_eq b
    have i1 : ∀ a, idx [a, b] 1 = some b := fun _ => rfl
    unfold command_rule esref10_parseRule ruleS
    simp only [idx_zero, Option.bind_some]
    constructor
    · rw [if_neg (by simp : ¬ ((([a, b].length : Int) == 0) = true)), if_neg (by simp : ¬ ((([a, b].length : Int) == 1) = true))]
      simp only [command_rule.j4, Bool.false_eq_true, if_false]
      rw [if_neg (by simp : ¬ ((([a, b].length : Int) == 1) = true))]
      simp only [command_rule.j3, Bool.false_eq_true, if_false]
      rw [if_neg (by simp : ¬ ((([a, b].length : Int) != 2) = true)), i1]
      simp only [Option.bind_some, hn.1]
      cases numS b with
      | none => rfl
      | some n =>
        simp only [if_true]
        by_cases h1 : a = wGrid
        · subst h1; rfl
        · have e1 : (a == wGrid) = false := by simpa using h1
          simp only [command_rule.j2, e1, h1, Bool.false_eq_true, if_false, if_true]
          by_cases h2 : a = wMasking
          · subst h2; rfl
          · have e2 : (a == wMasking) = false := by simpa using h2
            simp only [command_rule.j1, e2, h2, Bool.false_eq_true, if_false]
            rfl
    · rw [if_neg (by simp : ¬ ((([a, b].length : Int) == 1) = true))]
      simp only [esref10_parseRule.j4, Bool.false_eq_true, if_false]
      rw [if_neg (by simp : ¬ ((([a, b].length : Int) == 1) = true))]
      simp only [esref10_parseRule.j3, Bool.false_eq_true, if_false, idx_zero, Option.bind_some]
      rw [if_pos (by simp : ((([a, b].length : Int) == 2) = true)), i1]
      simp only [Option.bind_some, hn.2]
      by_cases h1 : a = wGrid
      · have e1 : (a == wGrid) = true := by simpa using h1
        rw [if_pos e1]
        cases hnb : numS b with
        | none =>
          have e2 : (a == wMasking) = false := by rw [h1]; rfl
          simp only [esref10_parseRule.j2]
          rw [if_neg (by decide), if_pos (by simp : ((([a, b].length : Int) == 2) = true))]
          simp only [idx_zero, Option.bind_some, e2, Bool.false_eq_true, if_false]
          rfl
        | some n => subst h1; simp only [esref10_parseRule.j2, num_neg, if_true, i1, Option.bind_some, hn.2]; rw [hnb]; rfl
      · have e1 : (a == wGrid) = false := by simpa using h1
        rw [e1]
        simp only [Bool.false_eq_true, if_false, esref10_parseRule.j2]
        rw [if_pos (by simp : ((([a, b].length : Int) == 2) = true))]
        simp only [idx_zero, Option.bind_some, i1, hn.2]
        by_cases h2 : a = wMasking
        · have e2 : (a == wMasking) = true := by simpa using h2
          rw [if_pos e2]
          cases hnb : numS b with
          | none => rfl
          | some n => subst h2; simp only [esref10_parseRule.j1, num_neg, if_true, i1, Option.bind_some, hn.2]; rw [hnb]; rfl
        · have e2 : (a == wMasking) = false := by simpa using h2
          rw [e2]
          simp only [Bool.false_eq_true, if_false, esref10_parseRule.j1, h1, h2]
          cases numS b <;> rfl
  | a :: b :: c :: l =>
    have h0 : ((((a :: b :: c :: l).length : Nat) : Int) == 0) = false := by rw [beq_eq_false_iff_ne]; simp only [List.length_cons]; omega
    have h1 : ((((a :: b :: c :: l).length : Nat) : Int) == 1) = false := by rw [beq_eq_false_iff_ne]; simp only [List.length_cons]; omega
    have h2 : ((((a :: b :: c :: l).length : Nat) : Int) == 2) = false := by rw [beq_eq_false_iff_ne]; simp only [List.length_cons]; omega
    have h3 : ((((a :: b :: c :: l).length : Nat) : Int) != 2) = true := by simp only [bne, h2, Bool.not_false]
    unfold command_rule esref10_parseRule ruleS
    simp only [h0, h1, Bool.false_eq_true, if_false, idx_zero, Option.bind_some, command_rule.j4, command_rule.j3, h3, if_true, esref10_parseRule.j4, esref10_parseRule.j3, esref10_parseRule.j2, esref10_parseRule.j1, h2]
    exact ⟨rfl, rfl⟩

/-- The change of some words that is no rule. -/
def synT (a : List UInt8) : List (List UInt8) → Option api_Change
  | [] => none
  | b :: m => match numS b with
    | none => none
    | some s => match m with
      | [] => if a = wJoin then some ⟨1, s, 1, 0, zRule⟩ else if a = wRemove then some ⟨2, s, 0, 0, zRule⟩ else none
      | [c] => if a = wWeight then (numS c).map fun n => ⟨3, s, n, 0, zRule⟩ else none
      | [c, d] => if a = wJoin ∧ c = wWeight then (numS d).map fun n => ⟨1, s, n, 0, zRule⟩ else none
      | _ => none
/-- The change of some words. -/
def synS : List (List UInt8) → Option api_Change
  | [] => none
  | a :: l => if a = wRule then (ruleS l).map fun r => ⟨4, 0, 0, 0, r⟩ else synT a l
def cOk : Option api_Change → api_Change × Bool
  | some c => (c, true)
  | none => (zChange, false)
/-- One word parsed. -/
theorem numbers1 (w : List (List UInt8)) (b : List UInt8) (hb : idx w 1 = some b) : command_numbers w [1] = some (match numS b with | some n => ([(n : Int)], true) | none => ([], false)) := by
  unfold command_numbers
  have hn := (number_eq b).1
  have i0 : idx ([1] : List Int) 0 = some 1 := rfl
  have st : command_numbers.l1 w [1] ([], 0) = match numS b with | some n => some (.inl ([(n : Int)], 1)) | none => some (.inr (.inr ([], false))) := by
    simp only [command_numbers.l1]
    rw [if_pos (by decide), i0]
    simp only [Option.bind_some, hb, hn]
    cases numS b with
    | none => rfl
    | some n =>
      simp only [Bool.not_true, Bool.false_eq_true, if_false]
      rw [app_of (by simp)]
      rfl
  cases hd : numS b with
  | none => rw [hd] at st; rw [loopO_done st]; rfl
  | some n =>
    rw [hd] at st
    rw [loopO_next st, loopO_done (b := .inl [(n : Int)]) (by simp only [command_numbers.l1]; rw [if_neg (by decide)])]
    rfl
theorem numbers2 (w : List (List UInt8)) (b c : List UInt8) (k : Int) (hb : idx w 1 = some b) (hc : idx w k = some c) : command_numbers w [1, k] = some (match numS b, numS c with | some n, some m => ([(n : Int), (m : Int)], true) | _, _ => ([], false)) := by
  unfold command_numbers
  have hn := (number_eq b).1
  have hm := (number_eq c).1
  have i0 : idx ([1, k] : List Int) 0 = some 1 := rfl
  have i1 : idx ([1, k] : List Int) 1 = some k := rfl
  have st : command_numbers.l1 w [1, k] ([], 0) = match numS b with | some n => some (.inl ([(n : Int)], 1)) | none => some (.inr (.inr ([], false))) := by
    simp only [command_numbers.l1]
    rw [if_pos (by simp), i0]
    simp only [Option.bind_some, hb, hn]
    cases numS b with
    | none => rfl
    | some n =>
      simp only [Bool.not_true, Bool.false_eq_true, if_false]
      rw [app_of (by simp)]
      rfl
  have st2 : ∀ n : Nat, command_numbers.l1 w [1, k] ([(n : Int)], 1) = match numS c with | some m => some (.inl ([(n : Int), (m : Int)], 2)) | none => some (.inr (.inr ([], false))) := by
    intro n
    simp only [command_numbers.l1]
    rw [if_pos (by simp), i1]
    simp only [Option.bind_some, hc, hm]
    cases numS c with
    | none => rfl
    | some m =>
      simp only [Bool.not_true, Bool.false_eq_true, if_false]
      rw [app_of (by simp)]
      rfl
  cases hd : numS b with
  | none => rw [hd] at st; rw [loopO_done st]; rfl
  | some n =>
    rw [hd] at st
    rw [loopO_next st]
    cases he : numS c with
    | none => have := st2 n; rw [he] at this; rw [loopO_done this]; rfl
    | some m =>
      have := st2 n
      rw [he] at this
      rw [loopO_next this, loopO_done (b := .inl [(n : Int), (m : Int)]) (by simp only [command_numbers.l1]; rw [if_neg (by simp)])]
      rfl
theorem server1 (x : api_Change) (w : List (List UInt8)) (b : List UInt8) (hb : idx w 1 = some b) : command_server x w 0 = some (cOk ((numS b).map fun n : Nat => (⟨x.Kind, (n : Int), x.Weight, x.Version, x.Rule⟩ : api_Change))) := by
  unfold command_server
  rw [if_neg (by decide)]
  simp only [command_server.j2, numbers1 w b hb, Option.bind_some]
  cases numS b with
  | none => rfl
  | some n => rfl
def two (f : Nat → Nat → api_Change) : Option Nat → Option Nat → Option api_Change
  | none, _ => none
  | some _, none => none
  | some n, some m => some (f n m)
theorem server2 (x : api_Change) (w : List (List UInt8)) (b c : List UInt8) (k : Int) (hk : 0 < k) (hb : idx w 1 = some b) (hc : idx w k = some c) :
    command_server x w k = some (cOk (two (fun n m => ⟨x.Kind, n, m, x.Version, x.Rule⟩) (numS b) (numS c))) := by
  unfold command_server
  rw [if_pos (by simpa using hk), app_of (by simp)]
  have e : ([1] : List Int) ++ [k] = [1, k] := rfl
  simp only [Option.bind_some, command_server.j2, e, numbers2 w b c k hb hc]
  cases numS b with
  | none => rfl
  | some n =>
    cases numS c with
    | none => rfl
    | some m =>
      simp only [Bool.not_true, Bool.false_eq_true, if_false]
      rw [show idx [(n : Int), (m : Int)] 0 = some (n : Int) from rfl, show idx [(n : Int), (m : Int)] 1 = some (m : Int) from rfl]
      simp only [Option.bind_some]
      rw [if_pos (by simpa using hk)]
      rfl
end Go.Proofs.YthfoljpjhegkmaaDoor
