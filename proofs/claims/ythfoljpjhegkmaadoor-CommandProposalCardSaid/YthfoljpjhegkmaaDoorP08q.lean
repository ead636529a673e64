/- Several texts as one: P08a P08b P08c P08e P08f P08g P08h P08j P08l P08m P08n P08o P08p. -/
import Derived.Test.YthfoljpjhegkmaaDoorFd
import Derived.Test.YthfoljpjhegkmaaDoorPm
import Derived.Test.YthfoljpjhegkmaaDoorPm
import Derived.Test.YthfoljpjhegkmaaDoorLy
/- The command language, as plain data: numbers, words. -/
set_option linter.unusedVariables false
set_option linter.unusedSimpArgs false
namespace Go.Proofs.YthfoljpjhegkmaaDoor
open Go Go.Proofs.YthfoljpjhegkmaaDoorL

/-! Numbers. -/
def digs : Nat → List UInt8 → Option Nat
  | acc, [] => some acc
  | acc, b :: l => if b.toNat < 48 ∨ 57 < b.toNat then none else digs (10 * acc + (b.toNat - 48)) l
def numS (s : List UInt8) : Option Nat := if s = [] ∨ 4 < s.length ∨ (1 < s.length ∧ s.head? = some 48) then none else digs 0 s
theorem digs_lt : ∀ (l : List UInt8) (acc n : Nat), l.length ≤ 4 → acc < 10 ^ (10 - l.length) → digs acc l = some n → n < 10 ^ 10
  | [], acc, n, _, h, hd => by simp [digs] at hd; subst hd; simpa using h
  | b :: l, acc, n, hl, h, hd => by
    rw [digs] at hd
    split at hd
    · cases hd
    · rename_i hb
      refine digs_lt l _ n (by simp at hl; omega) ?_ hd
      simp only [List.length_cons] at h hl
      have e : 10 ^ (10 - l.length) = 10 * 10 ^ (10 - (l.length + 1)) := by
        rw [show 10 - l.length = (10 - (l.length + 1)) + 1 by omega, Nat.pow_succ]; omega
      rw [e]; omega
theorem w8 (b : UInt8) (h : 48 ≤ b.toNat) : IntKind.u8.wrap ((b.toNat : Int) - 48) = ((b.toNat - 48 : Nat) : Int) := by
  have := b.toNat_lt
  simp only [IntKind.wrap, IntKind.bits, IntKind.signed]; simp; omega
theorem num_loop (s : List UInt8) (hs : s.length ≤ 4) : (digs 0 s = none → loopO (command_number.l1 s) (0, 0) = some (.inr (0, false)) ∧ loopO (esref10_number.l1 s) (0, 0) = some (.inr (-1))) ∧
    (∀ n, digs 0 s = some n → loopO (command_number.l1 s) (0, 0) = some (.inl (n : Int)) ∧ loopO (esref10_number.l1 s) (0, 0) = some (.inl (n : Int))) := by
  have main : ∀ m k acc, k + m = s.length → acc < 10 ^ (10 - m) →
      (digs acc (s.drop k) = none → loopO (command_number.l1 s) ((acc : Int), (k : Int)) = some (.inr (0, false)) ∧ loopO (esref10_number.l1 s) ((acc : Int), (k : Int)) = some (.inr (-1))) ∧
      (∀ n, digs acc (s.drop k) = some n → loopO (command_number.l1 s) ((acc : Int), (k : Int)) = some (.inl (n : Int)) ∧ loopO (esref10_number.l1 s) ((acc : Int), (k : Int)) = some (.inl (n : Int))) := by
    intro m
    induction m with
    | zero =>
      intro k acc hk ha
      have hk : k = s.length := by omega
      subst hk
      rw [List.drop_length]
      refine ⟨fun h => by simp [digs] at h, fun n h => ?_⟩
      simp [digs] at h
      subst h
      exact ⟨loopO_done (by simp only [command_number.l1, not_lt_len]; rfl), loopO_done (by simp only [esref10_number.l1, not_lt_len]; rfl)⟩
    | succ m ih =>
      intro k acc hk ha
      have hlt : k < s.length := by omega
      have hp : 10 ^ (10 - m) = 10 * 10 ^ (10 - (m + 1)) := by
        rw [show 10 - m = (10 - (m + 1)) + 1 by omega, Nat.pow_succ]; omega
      have hp2 : 10 ^ (10 - (m + 1)) ≤ 10 ^ 10 := Nat.pow_le_pow_right (by decide) (by omega)
      rw [List.drop_eq_getElem_cons hlt, digs]
      by_cases hb : s[k].toNat < 48 ∨ 57 < s[k].toNat
      · rw [if_pos hb]
        refine ⟨fun _ => ⟨loopO_done ?_, loopO_done ?_⟩, fun n h => by cases h⟩
        · simp only [command_number.l1, lt_of_len hlt, if_true, idx_nat hlt, Option.bind_some, command_number.j2]
          by_cases h1 : s[k].toNat < 48
          · rw [if_pos (by rw [decide_eq_true_iff]; omega)]
          · have h2 : 57 < s[k].toNat := by omega
            rw [if_neg (by rw [decide_eq_true_iff]; omega), if_pos (by rw [decide_eq_true_iff]; omega)]
        · simp only [esref10_number.l1, lt_of_len hlt, if_true, idx_nat hlt, Option.bind_some, esref10_number.j2]
          by_cases h1 : s[k].toNat < 48
          · rw [if_pos (by rw [decide_eq_true_iff]; omega)]
          · have h2 : 57 < s[k].toNat := by omega
            rw [if_neg (by rw [decide_eq_true_iff]; omega), if_pos (by rw [decide_eq_true_iff]; omega)]
      · rw [if_neg hb]
        have h1 : ¬ s[k].toNat < 48 := by omega
        have h2 : ¬ 57 < s[k].toNat := by omega
        have e0 : IntKind.i64.wrap (10 * (acc : Int)) = ((10 * acc : Nat) : Int) := by rw [w64 (by omega) (by omega)]; omega
        have e1 : IntKind.i64.wrap (((s[k].toNat - 48 : Nat)) : Int) = ((s[k].toNat - 48 : Nat) : Int) := w64 (by omega) (by omega)
        have e2 : IntKind.i64.wrap (((10 * acc : Nat) : Int) + ((s[k].toNat - 48 : Nat) : Int)) = ((10 * acc + (s[k].toNat - 48) : Nat) : Int) := by rw [w64 (by omega) (by omega)]; omega
        have s1 : command_number.l1 s ((acc : Int), (k : Int)) = some (.inl (((10 * acc + (s[k].toNat - 48) : Nat) : Int), ((k + 1 : Nat) : Int))) := by
          simp only [command_number.l1, lt_of_len hlt, if_true, idx_nat hlt, Option.bind_some, command_number.j2]
          rw [if_neg (by rw [decide_eq_true_iff]; omega), if_neg (by rw [decide_eq_true_iff]; omega)]
          simp only [letV_of]
          rw [w8 _ (by omega), e0, e1, e2, wcast hlt (by omega)]
        have s2 : esref10_number.l1 s ((acc : Int), (k : Int)) = some (.inl (((10 * acc + (s[k].toNat - 48) : Nat) : Int), ((k + 1 : Nat) : Int))) := by
          simp only [esref10_number.l1, lt_of_len hlt, if_true, idx_nat hlt, Option.bind_some, esref10_number.j2]
          rw [if_neg (by rw [decide_eq_true_iff]; omega), if_neg (by rw [decide_eq_true_iff]; omega)]
          simp only [letV_of]
          rw [w8 _ (by omega), e0, e1, e2, wcast hlt (by omega)]
        rw [loopO_next s1, loopO_next s2]
        exact ih (k + 1) _ (by omega) (by rw [hp]; omega)
  have h := main s.length 0 0 (by omega) (Nat.pow_pos (by decide))
  rwa [List.drop_zero] at h
theorem head48 {s : List UInt8} (h : 1 < s.length) : ∃ b : UInt8, idx s 0 = some b ∧ s.head? = some b := by
  cases s with
  | nil => simp at h
  | cons b l => exact ⟨b, rfl, rfl⟩
theorem number_eq (s : List UInt8) : command_number s = some (match numS s with | some n => ((n : Int), true) | none => (0, false)) ∧ esref10_number s = some (match numS s with | some n => (n : Int) | none => -1) := by
  unfold command_number esref10_number numS
  by_cases h0 : s = []
  · subst h0; exact ⟨rfl, rfl⟩
  have h0' : s.length ≠ 0 := fun h => h0 (List.length_eq_zero_iff.1 h)
  rw [if_neg (by simpa using h0), if_neg (show ¬ (((s.length : Int) == 0) = true) by rw [beq_iff_eq]; omega)]
  by_cases h4 : 4 < s.length
  · rw [if_pos (show (decide (4 < (s.length : Int))) = true by rw [decide_eq_true_iff]; omega), if_pos (show (decide (4 < (s.length : Int))) = true by rw [decide_eq_true_iff]; omega), if_pos (.inr (.inl h4))]
    exact ⟨rfl, rfl⟩
  rw [if_neg (show ¬ ((decide (4 < (s.length : Int))) = true) by rw [decide_eq_true_iff]; omega), if_neg (show ¬ ((decide (4 < (s.length : Int))) = true) by rw [decide_eq_true_iff]; omega)]
  have hl := num_loop s (by omega)
  have hfin : command_number.j3 s false = some (match digs 0 s with | some n => ((n : Int), true) | none => (0, false)) ∧ esref10_number.j3 s false = some (match digs 0 s with | some n => (n : Int) | none => -1) := by
    unfold command_number.j3 esref10_number.j3
    rw [if_neg (by simp), if_neg (by simp)]
    cases hd : digs 0 s with
    | none => rw [(hl.1 hd).1, (hl.1 hd).2]; exact ⟨rfl, rfl⟩
    | some n => rw [(hl.2 n hd).1, (hl.2 n hd).2]; exact ⟨rfl, rfl⟩
  by_cases h1 : 1 < s.length
  · rw [if_pos (show (decide (1 < (s.length : Int))) = true by rw [decide_eq_true_iff]; omega), if_pos (show (decide (1 < (s.length : Int))) = true by rw [decide_eq_true_iff]; omega)]
    obtain ⟨b, hb, hh⟩ := head48 h1
    rw [hb, hh]
    simp only [Option.bind_some]
    by_cases hb8 : b = 48
    · subst hb8
      rw [if_pos (.inr (.inr ⟨h1, rfl⟩))]
      exact ⟨rfl, rfl⟩
    · have : ((b.toNat : Int) == 48) = false := by
        rw [beq_eq_false_iff_ne]
        intro h
        apply hb8
        apply UInt8.toNat_inj.1
        show b.toNat = 48
        omega
      rw [this, if_neg]
      · exact hfin
      · rintro (h | h | ⟨_, h⟩)
        · exact h0 h
        · exact h4 h
        · exact hb8 (by injection h)
  · rw [if_neg (show ¬ ((decide (1 < (s.length : Int))) = true) by rw [decide_eq_true_iff]; omega), if_neg (show ¬ ((decide (1 < (s.length : Int))) = true) by rw [decide_eq_true_iff]; omega), if_neg]
    · exact hfin
    · rintro (h | h | ⟨h, _⟩)
      · exact h0 h
      · exact h4 h
      · exact h1 h

/-! Words. -/
theorem spl_ne (c : UInt8) (s : List UInt8) : spl c s ≠ [] := by
  cases s with
  | nil => simp [spl]
  | cons b l =>
    rw [spl]
    split
    · simp
    · split <;> simp
theorem spl_len (c : UInt8) : ∀ s : List UInt8, (spl c s).length ≤ s.length + 1
  | [] => by simp [spl]
  | b :: l => by
    have := spl_len c l
    rw [spl]
    split
    · simp; omega
    · split
      · simp
      · rename_i h t e; rw [e] at this; simp at this ⊢; omega
theorem spl_mem (c : UInt8) : ∀ (s : List UInt8) (p : List UInt8), p ∈ spl c s → p.length ≤ s.length
  | [], p, h => by simp [spl] at h; subst h; simp
  | b :: l, p, h => by
    rw [spl] at h
    split at h
    · rcases List.mem_cons.1 h with rfl | h
      · simp
      · have := spl_mem c l p h; simp; omega
    · split at h
      · simp at h; subst h; simp
      · rename_i x t e
        have hx := spl_mem c l x (by rw [e]; simp)
        rcases List.mem_cons.1 h with rfl | h
        · simp; omega
        · have := spl_mem c l p (by rw [e]; simp [h]); simp; omega
end Go.Proofs.YthfoljpjhegkmaaDoor

/- The command language, as plain data: the forms of commands, their validation. -/
set_option linter.unusedVariables false
set_option linter.unusedSimpArgs false
namespace Go.Proofs.YthfoljpjhegkmaaDoor
open Go Go.Proofs.YthfoljpjhegkmaaDoorL

abbrev zRule : api_Rule := ⟨0, 0, 0⟩
abbrev zChange : api_Change := ⟨0, 0, 0, 0, ⟨0, 0, 0⟩⟩
abbrev wJoin : List UInt8 := [106, 111, 105, 110]
abbrev wRemove : List UInt8 := [114, 101, 109, 111, 118, 101]
abbrev wWeight : List UInt8 := [119, 101, 105, 103, 104, 116]
abbrev wRule : List UInt8 := [114, 117, 108, 101]
abbrev wMajority : List UInt8 := [109, 97, 106, 111, 114, 105, 116, 121]
abbrev wWeighted : List UInt8 := [119, 101, 105, 103, 104, 116, 101, 100]
abbrev wGrid : List UInt8 := [103, 114, 105, 100]
abbrev wMasking : List UInt8 := [109, 97, 115, 107, 105, 110, 103]

/-- The rule of some words. -/
def ruleS : List (List UInt8) → Option api_Rule
  | [a] => if a = wMajority then some ⟨1, 0, 0⟩ else if a = wWeighted then some ⟨2, 0, 0⟩ else none
  | [a, b] => match numS b with
    | none => none
    | some n => if a = wGrid then some ⟨3, n, 0⟩ else if a = wMasking then some ⟨4, 0, n⟩ else none
  | _ => none
def rOk : Option api_Rule → api_Rule × Bool
  | some r => (r, true)
  | none => (⟨0, 0, 0⟩, false)
theorem num_neg (n : Nat) : (decide ((0 : Int) ≤ (n : Int))) = true := by simp
theorem rule_eq (w : List (List UInt8)) : command_rule w = some (rOk (ruleS w)) ∧ esref10_parseRule w = some (rOk (ruleS w)) := by
  match w with
  | [] => exact ⟨rfl, rfl⟩
  | [a] =>
    unfold command_rule esref10_parseRule ruleS
    simp only [List.length_singleton, idx_zero, Option.bind_some]
    constructor
    · rw [if_neg (by decide), if_pos (by decide)]
      by_cases h1 : a = wMajority
      · subst h1; rfl
      · have e1 : (a == wMajority) = false := by simpa using h1
        simp only [command_rule.j4, e1, h1, Bool.false_eq_true, if_false, List.length_singleton]
        rw [if_pos (by decide)]
        by_cases h2 : a = wWeighted
        · subst h2; rfl
        · have e2 : (a == wWeighted) = false := by simpa using h2
          simp only [command_rule.j3, e2, h2, Bool.false_eq_true, if_false, List.length_singleton]
          rfl
    · rw [if_pos (by decide)]
      by_cases h1 : a = wMajority
      · subst h1; rfl
      · have e1 : (a == wMajority) = false := by simpa using h1
        simp only [esref10_parseRule.j4, e1, h1, Bool.false_eq_true, if_false, List.length_singleton, idx_zero, Option.bind_some]
        rw [if_pos (by decide)]
        by_cases h2 : a = wWeighted
        · subst h2; rfl
        · have e2 : (a == wWeighted) = false := by simpa using h2
          simp only [esref10_parseRule.j3, e2, h2, Bool.false_eq_true, if_false, List.length_singleton]
          rfl
  | [a, b] =>
    have hn := number_eq b
    have i1 : ∀ a, idx [a, b] 1 = some b := fun _ => rfl
    unfold command_rule esref10_parseRule ruleS
    simp only [idx_zero, Option.bind_some]
    constructor
    · rw [if_neg (by simp : ¬ ((([a, b].length : Int) == 0) = true)), if_neg (by simp : ¬ ((([a, b].length : Int) == 1) = true))]
      simp only [command_rule.j4, Bool.false_eq_true, if_false]
      rw [if_neg (by simp : ¬ ((([a, b].length : Int) == 1) = true))]
      simp only [command_rule.j3, Bool.false_eq_true, if_false]
      rw [if_neg (by simp : ¬ ((([a, b].length : Int) != 2) = true)), i1]
      simp only [Option.bind_some, hn.1]
      cases numS b with
      | none => rfl
      | some n =>
        simp only [if_true]
        by_cases h1 : a = wGrid
        · subst h1; rfl
        · have e1 : (a == wGrid) = false := by simpa using h1
          simp only [command_rule.j2, e1, h1, Bool.false_eq_true, if_false, if_true]
          by_cases h2 : a = wMasking
          · subst h2; rfl
          · have e2 : (a == wMasking) = false := by simpa using h2
            simp only [command_rule.j1, e2, h2, Bool.false_eq_true, if_false]
            rfl
    · rw [if_neg (by simp : ¬ ((([a, b].length : Int) == 1) = true))]
      simp only [esref10_parseRule.j4, Bool.false_eq_true, if_false]
      rw [if_neg (by simp : ¬ ((([a, b].length : Int) == 1) = true))]
      simp only [esref10_parseRule.j3, Bool.false_eq_true, if_false, idx_zero, Option.bind_some]
      rw [if_pos (by simp : ((([a, b].length : Int) == 2) = true)), i1]
      simp only [Option.bind_some, hn.2]
      by_cases h1 : a = wGrid
      · have e1 : (a == wGrid) = true := by simpa using h1
        rw [if_pos e1]
        cases hnb : numS b with
        | none =>
          have e2 : (a == wMasking) = false := by rw [h1]; rfl
          simp only [esref10_parseRule.j2]
          rw [if_neg (by decide), if_pos (by simp : ((([a, b].length : Int) == 2) = true))]
          simp only [idx_zero, Option.bind_some, e2, Bool.false_eq_true, if_false]
          rfl
        | some n => subst h1; simp only [esref10_parseRule.j2, num_neg, if_true, i1, Option.bind_some, hn.2]; rw [hnb]; rfl
      · have e1 : (a == wGrid) = false := by simpa using h1
        rw [e1]
        simp only [Bool.false_eq_true, if_false, esref10_parseRule.j2]
        rw [if_pos (by simp : ((([a, b].length : Int) == 2) = true))]
        simp only [idx_zero, Option.bind_some, i1, hn.2]
        by_cases h2 : a = wMasking
        · have e2 : (a == wMasking) = true := by simpa using h2
          rw [if_pos e2]
          cases hnb : numS b with
          | none => rfl
          | some n => subst h2; simp only [esref10_parseRule.j1, num_neg, if_true, i1, Option.bind_some, hn.2]; rw [hnb]; rfl
        · have e2 : (a == wMasking) = false := by simpa using h2
          rw [e2]
          simp only [Bool.false_eq_true, if_false, esref10_parseRule.j1, h1, h2]
          cases numS b <;> rfl
  | a :: b :: c :: l =>
    have h0 : ((((a :: b :: c :: l).length : Nat) : Int) == 0) = false := by rw [beq_eq_false_iff_ne]; simp only [List.length_cons]; omega
    have h1 : ((((a :: b :: c :: l).length : Nat) : Int) == 1) = false := by rw [beq_eq_false_iff_ne]; simp only [List.length_cons]; omega
    have h2 : ((((a :: b :: c :: l).length : Nat) : Int) == 2) = false := by rw [beq_eq_false_iff_ne]; simp only [List.length_cons]; omega
    have h3 : ((((a :: b :: c :: l).length : Nat) : Int) != 2) = true := by simp only [bne, h2, Bool.not_false]
    unfold command_rule esref10_parseRule ruleS
    simp only [h0, h1, Bool.false_eq_true, if_false, idx_zero, Option.bind_some, command_rule.j4, command_rule.j3, h3, if_true, esref10_parseRule.j4, esref10_parseRule.j3, esref10_parseRule.j2, esref10_parseRule.j1, h2]
    exact ⟨rfl, rfl⟩

/-- The change of some words that is no rule. -/
def synT (a : List UInt8) : List (List UInt8) → Option api_Change
  | [] => none
  | b :: m => match numS b with
    | none => none
    | some s => match m with
      | [] => if a = wJoin then some ⟨1, s, 1, 0, zRule⟩ else if a = wRemove then some ⟨2, s, 0, 0, zRule⟩ else none
      | [c] => if a = wWeight then (numS c).map fun n => ⟨3, s, n, 0, zRule⟩ else none
      | [c, d] => if a = wJoin ∧ c = wWeight then (numS d).map fun n => ⟨1, s, n, 0, zRule⟩ else none
      | _ => none
/-- The change of some words. -/
def synS : List (List UInt8) → Option api_Change
  | [] => none
  | a :: l => if a = wRule then (ruleS l).map fun r => ⟨4, 0, 0, 0, r⟩ else synT a l
def cOk : Option api_Change → api_Change × Bool
  | some c => (c, true)
  | none => (zChange, false)
/-- One word parsed. -/
theorem numbers1 (w : List (List UInt8)) (b : List UInt8) (hb : idx w 1 = some b) : command_numbers w [1] = some (match numS b with | some n => ([(n : Int)], true) | none => ([], false)) := by
  unfold command_numbers
  have hn := (number_eq b).1
  have i0 : idx ([1] : List Int) 0 = some 1 := rfl
  have st : command_numbers.l1 w [1] ([], 0) = match numS b with | some n => some (.inl ([(n : Int)], 1)) | none => some (.inr (.inr ([], false))) := by
    simp only [command_numbers.l1]
    rw [if_pos (by decide), i0]
    simp only [Option.bind_some, hb, hn]
    cases numS b with
    | none => rfl
    | some n =>
      simp only [Bool.not_true, Bool.false_eq_true, if_false]
      rw [app_of (by simp)]
      rfl
  cases hd : numS b with
  | none => rw [hd] at st; rw [loopO_done st]; rfl
  | some n =>
    rw [hd] at st
    rw [loopO_next st, loopO_done (b := .inl [(n : Int)]) (by simp only [command_numbers.l1]; rw [if_neg (by decide)])]
    rfl
theorem numbers2 (w : List (List UInt8)) (b c : List UInt8) (k : Int) (hb : idx w 1 = some b) (hc : idx w k = some c) : command_numbers w [1, k] = some (match numS b, numS c with | some n, some m => ([(n : Int), (m : Int)], true) | _, _ => ([], false)) := by
  unfold command_numbers
  have hn := (number_eq b).1
  have hm := (number_eq c).1
  have i0 : idx ([1, k] : List Int) 0 = some 1 := rfl
  have i1 : idx ([1, k] : List Int) 1 = some k := rfl
  have st : command_numbers.l1 w [1, k] ([], 0) = match numS b with | some n => some (.inl ([(n : Int)], 1)) | none => some (.inr (.inr ([], false))) := by
    simp only [command_numbers.l1]
    rw [if_pos (by simp), i0]
    simp only [Option.bind_some, hb, hn]
    cases numS b with
    | none => rfl
    | some n =>
      simp only [Bool.not_true, Bool.false_eq_true, if_false]
      rw [app_of (by simp)]
      rfl
  have st2 : ∀ n : Nat, command_numbers.l1 w [1, k] ([(n : Int)], 1) = match numS c with | some m => some (.inl ([(n : Int), (m : Int)], 2)) | none => some (.inr (.inr ([], false))) := by
    intro n
    simp only [command_numbers.l1]
    rw [if_pos (by simp), i1]
    simp only [Option.bind_some, hc, hm]
    cases numS c with
    | none => rfl
    | some m =>
      simp only [Bool.not_true, Bool.false_eq_true, if_false]
      rw [app_of (by simp)]
      rfl
  cases hd : numS b with
  | none => rw [hd] at st; rw [loopO_done st]; rfl
  | some n =>
    rw [hd] at st
    rw [loopO_next st]
    cases he : numS c with
    | none => have := st2 n; rw [he] at this; rw [loopO_done this]; rfl
    | some m =>
      have := st2 n
      rw [he] at this
      rw [loopO_next this, loopO_done (b := .inl [(n : Int), (m : Int)]) (by simp only [command_numbers.l1]; rw [if_neg (by simp)])]
      rfl
theorem server1 (x : api_Change) (w : List (List UInt8)) (b : List UInt8) (hb : idx w 1 = some b) : command_server x w 0 = some (cOk ((numS b).map fun n : Nat => (⟨x.Kind, (n : Int), x.Weight, x.Version, x.Rule⟩ : api_Change))) := by
  unfold command_server
  rw [if_neg (by decide)]
  simp only [command_server.j2, numbers1 w b hb, Option.bind_some]
  cases numS b with
  | none => rfl
  | some n => rfl
def two (f : Nat → Nat → api_Change) : Option Nat → Option Nat → Option api_Change
  | none, _ => none
  | some _, none => none
  | some n, some m => some (f n m)
theorem server2 (x : api_Change) (w : List (List UInt8)) (b c : List UInt8) (k : Int) (hk : 0 < k) (hb : idx w 1 = some b) (hc : idx w k = some c) :
    command_server x w k = some (cOk (two (fun n m => ⟨x.Kind, n, m, x.Version, x.Rule⟩) (numS b) (numS c))) := by
  unfold command_server
  rw [if_pos (by simpa using hk), app_of (by simp)]
  have e : ([1] : List Int) ++ [k] = [1, k] := rfl
  simp only [Option.bind_some, command_server.j2, e, numbers2 w b c k hb hc]
  cases numS b with
  | none => rfl
  | some n =>
    cases numS c with
    | none => rfl
    | some m =>
      simp only [Bool.not_true, Bool.false_eq_true, if_false]
      rw [show idx [(n : Int), (m : Int)] 0 = some (n : Int) from rfl, show idx [(n : Int), (m : Int)] 1 = some (m : Int) from rfl]
      simp only [Option.bind_some]
      rw [if_pos (by simpa using hk)]
      rfl
end Go.Proofs.YthfoljpjhegkmaaDoor

/- The command language, as plain data: lines. -/
set_option linter.unusedVariables false
set_option linter.unusedSimpArgs false
namespace Go.Proofs.YthfoljpjhegkmaaDoor
open Go Go.Proofs.YthfoljpjhegkmaaDoorL

theorem tuple_eta (p : api_Change × Bool) : (match p with | (a, b) => some (a, b)) = some p := rfl
theorem len_eq (w : List (List UInt8)) (k : Nat) : ((w.length : Int) == (k : Int)) = decide (w.length = k) := by
  rw [Bool.eq_iff_iff, beq_iff_eq, decide_eq_true_iff]; omega
theorem cut_tail (a : List UInt8) (l : List (List UInt8)) : cut (a :: l) 1 ((a :: l).length : Int) = some l := by
  rw [cut_of (by omega) (by simp only [List.length_cons]; omega) (by omega)]
  simp
theorem syn_eq (a : List UInt8) (l : List (List UInt8)) (s : List UInt8) (h : strings_Split s [32] = some (a :: l)) : command_syntax s = some (cOk (synS (a :: l))) := by
  unfold command_syntax
  rw [h]
  simp only [Option.bind_some, idx_zero]
  have hlen : ∀ k : Nat, ((((a :: l).length : Nat) : Int) == (k : Int)) = decide ((a :: l).length = k) := len_eq _
  by_cases hj : a = wJoin
  · have e1 : (a == wJoin) = true := by simpa using hj
    have er : a ≠ wRule := by rw [hj]; decide
    have erm : (a == wRemove) = false := by rw [hj]; rfl
    have ew : (a == wWeight) = false := by rw [hj]; rfl
    have eru : (a == wRule) = false := by rw [hj]; rfl
    have aw : a ≠ wWeight := by rw [hj]; decide
    have arm : a ≠ wRemove := by rw [hj]; decide
    have hrest : command_syntax.j3 (a :: l) false = some (cOk none) := by
      simp only [command_syntax.j3, Bool.false_eq_true, if_false, idx_zero, Option.bind_some, erm, command_syntax.j2, ew, command_syntax.j1, eru]
      rfl
    rw [if_pos e1]
    match l with
    | [] =>
      rw [show ((([a] : List (List UInt8)).length : Int) == 2) = false from rfl]
      simp only [command_syntax.j4, Bool.false_eq_true, if_false, idx_zero, Option.bind_some, e1, if_true]
      rw [show ((([a] : List (List UInt8)).length : Int) == 4) = false from rfl]
      simp only [Bool.false_eq_true, if_false]
      rw [hrest, synS, if_neg er]
      rfl
    | [b] =>
      rw [show ((([a, b] : List (List UInt8)).length : Int) == 2) = true from rfl]
      simp only [command_syntax.j4, if_true]
      rw [server1 _ _ b rfl]
      simp only [Option.bind_some, synT]
      rw [synS, if_neg er]
      simp only [synT]
      cases numS b with
      | none => rfl
      | some n => simp only [hj, if_true]; rfl
    | [b, c] =>
      rw [show ((([a, b, c] : List (List UInt8)).length : Int) == 2) = false from rfl]
      simp only [command_syntax.j4, Bool.false_eq_true, if_false, idx_zero, Option.bind_some, e1, if_true]
      rw [show ((([a, b, c] : List (List UInt8)).length : Int) == 4) = false from rfl]
      simp only [Bool.false_eq_true, if_false]
      rw [hrest, synS, if_neg er]
      simp only [synT]
      cases numS b with
      | none => rfl
      | some n => simp only [aw, if_false]
    | [b, c, d] =>
      rw [show ((([a, b, c, d] : List (List UInt8)).length : Int) == 2) = false from rfl]
      simp only [command_syntax.j4, Bool.false_eq_true, if_false, idx_zero, Option.bind_some, e1, if_true]
      rw [show ((([a, b, c, d] : List (List UInt8)).length : Int) == 4) = true from rfl, show idx [a, b, c, d] 2 = some c from rfl]
      simp only [if_true, Option.bind_some]
      rw [synS, if_neg er]
      by_cases hc : c = wWeight
      · have ec : (c == wWeight) = true := by simpa using hc
        rw [ec]
        simp only [command_syntax.j3, if_true]
        rw [server2 _ _ b d 3 (by decide) rfl rfl]
        simp only [Option.bind_some, synT]
        cases numS b with
        | none => rfl
        | some n =>
          simp only [hj, hc, and_self, if_true]
          cases numS d <;> rfl
      · have ec : (c == wWeight) = false := by simpa using hc
        rw [ec, hrest]
        simp only [synT]
        cases numS b with
        | none => rfl
        | some n => simp only [hc, and_false, if_false]
    | b :: c :: d :: e :: m =>
      have l2 : ((((a :: b :: c :: d :: e :: m).length : Nat) : Int) == 2) = false := by rw [beq_eq_false_iff_ne]; simp only [List.length_cons]; omega
      have l4 : ((((a :: b :: c :: d :: e :: m).length : Nat) : Int) == 4) = false := by rw [beq_eq_false_iff_ne]; simp only [List.length_cons]; omega
      simp only [l2, command_syntax.j4, Bool.false_eq_true, if_false, idx_zero, Option.bind_some, e1, if_true, l4]
      rw [hrest, synS, if_neg er]
      simp only [synT]
      cases numS b <;> rfl
  · have e1 : (a == wJoin) = false := by simpa using hj
    simp only [e1, Bool.false_eq_true, if_false, command_syntax.j4, idx_zero, Option.bind_some, command_syntax.j3]
    by_cases hr : a = wRemove
    · have erm : (a == wRemove) = true := by simpa using hr
      have er : a ≠ wRule := by rw [hr]; decide
      have ew : (a == wWeight) = false := by rw [hr]; rfl
      have eru : (a == wRule) = false := by rw [hr]; rfl
      have aw : a ≠ wWeight := by rw [hr]; decide
      have hrest : command_syntax.j2 (a :: l) false = some (cOk none) := by
        simp only [command_syntax.j2, Bool.false_eq_true, if_false, idx_zero, Option.bind_some, ew, command_syntax.j1, eru]
        rfl
      rw [if_pos erm, synS, if_neg er]
      match l with
      | [] => rw [show ((([a] : List (List UInt8)).length : Int) == 2) = false from rfl, hrest]; rfl
      | [b] =>
        rw [show ((([a, b] : List (List UInt8)).length : Int) == 2) = true from rfl]
        simp only [command_syntax.j2, if_true]
        rw [server1 _ _ b rfl]
        simp only [Option.bind_some, synT]
        cases numS b with
        | none => rfl
        | some n => simp only [hj, hr, if_true, if_false]; rfl
      | [b, c] =>
        rw [show ((([a, b, c] : List (List UInt8)).length : Int) == 2) = false from rfl, hrest]
        simp only [synT]
        cases numS b with
        | none => rfl
        | some n => simp only [aw, if_false]
      | [b, c, d] =>
        rw [show ((([a, b, c, d] : List (List UInt8)).length : Int) == 2) = false from rfl, hrest]
        simp only [synT]
        cases numS b with
        | none => rfl
        | some n => simp only [hj, false_and, if_false]
      | b :: c :: d :: e :: m =>
        have l2 : ((((a :: b :: c :: d :: e :: m).length : Nat) : Int) == 2) = false := by rw [beq_eq_false_iff_ne]; simp only [List.length_cons]; omega
        rw [l2, hrest]
        simp only [synT]
        cases numS b <;> rfl
    · have erm : (a == wRemove) = false := by simpa using hr
      simp only [erm, Bool.false_eq_true, if_false, command_syntax.j2, idx_zero, Option.bind_some]
      by_cases hw : a = wWeight
      · have ew : (a == wWeight) = true := by simpa using hw
        have er : a ≠ wRule := by rw [hw]; decide
        have eru : (a == wRule) = false := by rw [hw]; rfl
        have hrest : command_syntax.j1 (a :: l) false = some (cOk none) := by
          simp only [command_syntax.j1, Bool.false_eq_true, if_false, idx_zero, Option.bind_some, eru]
          rfl
        rw [if_pos ew, synS, if_neg er]
        match l with
        | [] => rw [show ((([a] : List (List UInt8)).length : Int) == 3) = false from rfl, hrest]; rfl
        | [b] =>
          rw [show ((([a, b] : List (List UInt8)).length : Int) == 3) = false from rfl, hrest]
          simp only [synT]
          cases numS b with
          | none => rfl
          | some n => simp only [hj, hr, if_false]
        | [b, c] =>
          rw [show ((([a, b, c] : List (List UInt8)).length : Int) == 3) = true from rfl]
          simp only [command_syntax.j1, if_true]
          rw [server2 _ _ b c 2 (by decide) rfl rfl]
          simp only [Option.bind_some, synT]
          cases numS b with
          | none => rfl
          | some n =>
            simp only [hw, if_true]
            cases numS c <;> rfl
        | [b, c, d] =>
          rw [show ((([a, b, c, d] : List (List UInt8)).length : Int) == 3) = false from rfl, hrest]
          simp only [synT]
          cases numS b with
          | none => rfl
          | some n => simp only [hj, false_and, if_false]
        | b :: c :: d :: e :: m =>
          have l2 : ((((a :: b :: c :: d :: e :: m).length : Nat) : Int) == 3) = false := by rw [beq_eq_false_iff_ne]; simp only [List.length_cons]; omega
          rw [l2, hrest]
          simp only [synT]
          cases numS b <;> rfl
      · have ew : (a == wWeight) = false := by simpa using hw
        simp only [ew, Bool.false_eq_true, if_false, command_syntax.j1, idx_zero, Option.bind_some]
        by_cases hu : a = wRule
        · have eu : (a == wRule) = true := by simpa using hu
          rw [if_pos eu, cut_tail]
          simp only [Option.bind_some, (rule_eq l).1]
          rw [synS, if_pos hu]
          cases ruleS l <;> rfl
        · have eu : (a == wRule) = false := by simpa using hu
          rw [eu, synS, if_neg hu]
          simp only [Bool.false_eq_true, if_false]
          match l with
          | [] => rfl
          | [b] => simp only [synT]; cases numS b with
            | none => rfl
            | some n => simp only [hj, hr, if_false]; rfl
          | [b, c] => simp only [synT]; cases numS b with
            | none => rfl
            | some n => simp only [hw, if_false]; rfl
          | [b, c, d] => simp only [synT]; cases numS b with
            | none => rfl
            | some n => simp only [hj, false_and, if_false]; rfl
          | b :: c :: d :: e :: m => simp only [synT]; cases numS b <;> rfl
end Go.Proofs.YthfoljpjhegkmaaDoor

/- The command language, as plain data: validation. -/
set_option linter.unusedVariables false
set_option linter.unusedSimpArgs false
namespace Go.Proofs.YthfoljpjhegkmaaDoor
open Go Go.Proofs.YthfoljpjhegkmaaDoorL

abbrev inR (x lo hi : Int) : Prop := lo ≤ x ∧ x ≤ hi
/-- What a rule's check answers. -/
def valR (r : api_Rule) : Int :=
  if r.Kind < 1 ∨ 4 < r.Kind then 10
  else if (if r.Kind = 3 then inR r.Columns 1 12 else r.Columns = 0) ∧ (if r.Kind = 4 then inR r.Faulty 0 12 else r.Faulty = 0) then 0 else 9
/-- What a change's check answers. -/
def valS (c : api_Change) : Int :=
  if c.Kind < 1 ∨ 4 < c.Kind then 10
  else if ¬ ((if c.Kind = 4 then c.Server = 0 else inR c.Server 1 12) ∧ (if c.Kind = 1 ∨ c.Kind = 3 then inR c.Weight 1 9 else c.Weight = 0) ∧ (if c.Kind = 3 ∨ c.Kind = 4 then inR c.Version 1 1000 else c.Version = 0)) then 9
  else if c.Kind = 4 then valR c.Rule
  else if c.Rule = zRule then 0 else 2
theorem within_eq (x lo hi : Int) (b : Bool) : proposal_within x lo hi b = some (if b = true then decide (inR x lo hi) else decide (x = 0)) := by
  unfold proposal_within proposal_within.j1
  cases b with
  | false => simp; rw [Bool.eq_iff_iff, beq_iff_eq, decide_eq_true_iff]
  | true =>
    by_cases h : lo ≤ x
    · simp [h]
    · simp [h]
theorem rule_val1 (r : api_Rule) : quorum_ValidateRule r = some (valR r) := by
  obtain ⟨k, c, f⟩ := r
  unfold quorum_ValidateRule quorum_ValidateRule.j4 valR
  simp only
  by_cases h1 : k = 1
  · subst h1
    simp only [quorum_ValidateRule.j3, quorum_ValidateRule.j2, quorum_ValidateRule.j1]
    by_cases hc : c = 0 <;> by_cases hf : f = 0 <;> simp [hc, hf]
  by_cases h2 : k = 2
  · subst h2
    simp only [quorum_ValidateRule.j3, quorum_ValidateRule.j2, quorum_ValidateRule.j1]
    by_cases hc : c = 0 <;> by_cases hf : f = 0 <;> simp [hc, hf]
  by_cases h3 : k = 3
  · subst h3
    simp only [quorum_ValidateRule.j3, quorum_ValidateRule.j2, quorum_ValidateRule.j1]
    by_cases hc : 1 ≤ c <;> by_cases hd : c ≤ 12 <;> by_cases hf : f = 0 <;> simp [hc, hf, hd]
  by_cases h4 : k = 4
  · subst h4
    simp only [quorum_ValidateRule.j3, quorum_ValidateRule.j2, quorum_ValidateRule.j1]
    by_cases hc : 0 ≤ f <;> by_cases hd : f ≤ 12 <;> by_cases hf : c = 0 <;> simp [hc, hf, hd]
  · have b1 : (k == 1) = false := by simpa using h1
    have b2 : (k == 2) = false := by simpa using h2
    have b3 : (k == 3) = false := by simpa using h3
    have b4 : (k == 4) = false := by simpa using h4
    simp only [quorum_ValidateRule.j3, b1, b2, b3, b4, Bool.false_eq_true, if_false]
    rw [if_pos (show k < 1 ∨ 4 < k by omega)]
theorem server_val (x : Int) : esref06_Server x = some (decide (inR x 1 12)) := by
  unfold esref06_Server esref06_Server.j1
  by_cases h : 1 ≤ x
  · simp [h]
  · simp [h]
theorem rule_val2 (r : api_Rule) : esref06_ValidateRule r = some (valR r) := by
  obtain ⟨k, c, f⟩ := r
  unfold esref06_ValidateRule valR
  simp only
  by_cases h0 : k < 1
  · rw [if_pos (by simpa using h0), if_pos (.inl h0)]; rfl
  rw [if_neg (by simpa using h0)]
  by_cases h5 : 4 < k
  · rw [if_pos (show k < 1 ∨ 4 < k from .inr h5)]; simp [esref06_ValidateRule.j3, h5]
  rw [if_neg (show ¬ (k < 1 ∨ 4 < k) by omega)]
  have hn : (decide (4 < k)) = false := by simpa using h5
  rw [hn]
  have hk : k = 1 ∨ k = 2 ∨ k = 3 ∨ k = 4 := by omega
  simp only [esref06_ValidateRule.j3, esref06_ValidateRule.j2, esref06_ValidateRule.j1, server_val, Option.bind_some]
  rcases hk with rfl | rfl | rfl | rfl
  · by_cases hc : c = 0 <;> by_cases hf : f = 0 <;> simp [hc, hf]
  · by_cases hc : c = 0 <;> by_cases hf : f = 0 <;> simp [hc, hf]
  · by_cases hc : 1 ≤ c <;> by_cases hd : c ≤ 12 <;> by_cases hf : f = 0 <;> simp [hc, hf, hd]
  · by_cases hc : f < 0
    · have hc' : ¬ 0 ≤ f := by omega
      by_cases hf : c = 0 <;> simp [hc, hf, hc']
    · have hc' : 0 ≤ f := by omega
      by_cases hd : 12 < f
      · have hd' : ¬ f ≤ 12 := by omega
        by_cases hf : c = 0 <;> simp [hc, hf, hd, hc', hd']
      · have hd' : f ≤ 12 := by omega
        by_cases hf : c = 0 <;> simp [hc, hf, hd, hc', hd']
theorem val1 (c : api_Change) : proposal_ValidateChange c = some (valS c) := by
  obtain ⟨k, s, w, v, r⟩ := c
  unfold proposal_ValidateChange valS
  simp only
  by_cases h0 : k < 1
  · rw [if_pos (by simpa using h0), if_pos (.inl h0)]; rfl
  rw [if_neg (by simpa using h0)]
  by_cases h5 : 4 < k
  · rw [if_pos (show k < 1 ∨ 4 < k from .inr h5)]; simp [proposal_ValidateChange.j4, h5]
  rw [if_neg (show ¬ (k < 1 ∨ 4 < k) by omega)]
  have hn : (decide (4 < k)) = false := by simpa using h5
  rw [hn]
  have hk : k = 1 ∨ k = 2 ∨ k = 3 ∨ k = 4 := by omega
  simp only [proposal_ValidateChange.j4, proposal_ValidateChange.j3, proposal_ValidateChange.j2, proposal_ValidateChange.j1, within_eq, rule_val1, Option.bind_some]
  rcases hk with rfl | rfl | rfl | rfl
  · by_cases hs : inR s 1 12 <;> by_cases hw : inR w 1 9 <;> by_cases hv : v = 0 <;> by_cases hr : r = zRule <;> simp [hs, hw, hv, hr]
  · by_cases hs : inR s 1 12 <;> by_cases hw : w = 0 <;> by_cases hv : v = 0 <;> by_cases hr : r = zRule <;> simp [hs, hw, hv, hr]
  · by_cases hs : inR s 1 12 <;> by_cases hw : inR w 1 9 <;> by_cases hv : inR v 1 1000 <;> by_cases hr : r = zRule <;> simp [hs, hw, hv, hr]
  · by_cases hs : s = 0 <;> by_cases hw : w = 0 <;> by_cases hv : inR v 1 1000 <;> simp [hs, hw, hv]
/-- A value outside of bounds, as two tests. -/
theorem out {α : Type} {x lo hi : Int} {a b : α} : (if (decide (x < lo)) then a else (if (decide (hi < x)) then a else b)) = if inR x lo hi then b else a := by
  by_cases h1 : x < lo
  · rw [if_pos (by simpa using h1), if_neg (show ¬ inR x lo hi from fun h => by have := h.1; omega)]
  · rw [if_neg (by simpa using h1)]
    by_cases h2 : hi < x
    · rw [if_pos (by simpa using h2), if_neg (show ¬ inR x lo hi from fun h => by have := h.2; omega)]
    · rw [if_neg (by simpa using h2), if_pos (show inR x lo hi from ⟨by omega, by omega⟩)]
theorem val2 (c : api_Change) : esref06_ValidateChange c = some (valS c) := by
  obtain ⟨k, s, w, v, r⟩ := c
  unfold esref06_ValidateChange valS
  simp only
  by_cases hk : k = 1 ∨ k = 2 ∨ k = 3 ∨ k = 4
  · rw [if_neg (show ¬ (k < 1 ∨ 4 < k) by omega)]
    simp only [esref06_ValidateChange.j5, esref06_ValidateChange.j4, esref06_ValidateChange.j3, esref06_ValidateChange.j2, esref06_ValidateChange.j1, server_val, rule_val2, Option.bind_some, out]
    rcases hk with rfl | rfl | rfl | rfl
    · by_cases hs : inR s 1 12 <;> by_cases hw : inR w 1 9 <;> by_cases hv : v = 0 <;> by_cases hr : r = zRule <;> simp [hs, hw, hv, hr]
    · by_cases hs : inR s 1 12 <;> by_cases hw : w = 0 <;> by_cases hv : v = 0 <;> by_cases hr : r = zRule <;> simp [hs, hw, hv, hr]
    · by_cases hs : inR s 1 12 <;> by_cases hw : inR w 1 9 <;> by_cases hv : inR v 1 1000 <;> by_cases hr : r = zRule <;> simp [hs, hw, hv, hr] <;> rw [if_pos hw, if_pos hv]
    · by_cases hs : s = 0 <;> by_cases hw : w = 0 <;> by_cases hv : inR v 1 1000 <;> simp [hs, hw, hv]
  · rw [if_pos (show k < 1 ∨ 4 < k by omega)]
    have b1 : (k == 1) = false := by rw [beq_eq_false_iff_ne]; omega
    have b2 : (k == 2) = false := by rw [beq_eq_false_iff_ne]; omega
    have b3 : (k == 3) = false := by rw [beq_eq_false_iff_ne]; omega
    have b4 : (k == 4) = false := by rw [beq_eq_false_iff_ne]; omega
    rw [b1, b2, b3, b4]
    rfl
/-- A change with the version that checking gives it. -/
def verS (c : api_Change) : api_Change := if (c.Kind = 3 ∨ c.Kind = 4) ∧ c.Version = 0 then { c with Version := 1 } else c
theorem ver1 (c : api_Change) : command_versioned c = some (verS c) := by
  obtain ⟨k, s, w, v, r⟩ := c
  simp only [command_versioned, command_versioned.j3, command_versioned.j2, command_versioned.j1, verS]
  by_cases h3 : k = 3
  · by_cases hv : v = 0 <;> simp [h3, hv]
  · by_cases h4 : k = 4
    · by_cases hv : v = 0 <;> simp [h4, hv]
    · simp [h3, h4]
/-- The command that a text says, and what is wrong with it. -/
def parS (s : List UInt8) : api_Change × Int := match synS (spl 32 s) with
  | none => (zChange, 11)
  | some c => if valS (verS c) = 0 then (c, 0) else (zChange, valS (verS c))
theorem split32 (s : List UInt8) (hs : s.length < 4294967281) : strings_Split s [32] = some (spl 32 s) := by
  unfold strings_Split
  rw [if_pos ⟨rfl, hs⟩]
  rfl
theorem parse1 (s : List UInt8) (hs : s.length < 4294967281) : command_Parse s = some (parS s) := by
  obtain ⟨a, l, hw⟩ : ∃ a l, spl 32 s = a :: l := by
    cases h : spl 32 s with
    | nil => exact absurd h (spl_ne 32 s)
    | cons a l => exact ⟨a, l, rfl⟩
  unfold command_Parse parS
  rw [syn_eq a l s (by rw [split32 s hs, hw]), hw]
  cases synS (a :: l) with
  | none => rfl
  | some c =>
    simp only [Option.bind_some, cOk, Bool.not_true, Bool.false_eq_true, if_false, ver1, val1]
    by_cases h : valS (verS c) = 0 <;> simp [h]
end Go.Proofs.YthfoljpjhegkmaaDoor

/- The command language, as plain data: the proposal of a text. -/
set_option linter.unusedVariables false
set_option linter.unusedSimpArgs false
namespace Go.Proofs.YthfoljpjhegkmaaDoor
open Go Go.Proofs.YthfoljpjhegkmaaDoorL

/-- What a search for the first of a list answers. -/
def findS {α β : Type} (p : α → Bool) (f : Nat → α → β) : Nat → List α → Option β
  | _, [] => none
  | i, x :: xs => if p x then some (f i x) else findS p f (i + 1) xs
theorem loopO_find {α β τ : Type} {step : τ → Option (τ ⊕ β)} (pack : Nat → τ) (xs : List α) (p : α → Bool) (f : Nat → α → β) (e : β)
    (hs : ∀ k (hk : k < xs.length), step (pack k) = if p xs[k] then some (.inr (f k xs[k])) else some (.inl (pack (k + 1))))
    (he : step (pack xs.length) = some (.inr e)) : loopO step (pack 0) = some ((findS p f 0 xs).getD e) := by
  have : ∀ m k, k + m = xs.length → loopO step (pack k) = some ((findS p f k (xs.drop k)).getD e) := by
    intro m
    induction m with
    | zero =>
      intro k hk
      have hk : k = xs.length := by omega
      subst hk
      rw [List.drop_length, loopO_done he]
      rfl
    | succ m ih =>
      intro k hk
      have hk' : k < xs.length := by omega
      rw [List.drop_eq_getElem_cons hk', findS]
      by_cases hp : p xs[k] = true
      · rw [if_pos hp, loopO_done (b := f k xs[k]) (by rw [hs k hk', if_pos hp])]
        rfl
      · rw [if_neg hp, loopO_next (s' := pack (k + 1)) (by rw [hs k hk', if_neg hp])]
        exact ih (k + 1) (by omega)
  have h := this xs.length 0 (by omega)
  rwa [List.drop_zero] at h
theorem findS_none {α β : Type} (p : α → Bool) (f : Nat → α → β) : ∀ (xs : List α) (i : Nat), xs.any p = false → findS p f i xs = none
  | [], _, _ => rfl
  | x :: xs, i, h => by
    rw [List.any_cons, Bool.or_eq_false_iff] at h
    rw [findS, h.1, if_neg (by simp)]
    exact findS_none p f xs (i + 1) h.2
theorem findS_some {α β : Type} (p : α → Bool) (f : Nat → α → β) (P : β → Prop) (hf : ∀ i x, P (f i x)) : ∀ (xs : List α) (i : Nat), xs.any p = true → ∃ b, findS p f i xs = some b ∧ P b
  | [], _, h => by simp at h
  | x :: xs, i, h => by
    rw [findS]
    by_cases hp : p x = true
    · rw [if_pos hp]; exact ⟨_, rfl, hf _ _⟩
    · rw [if_neg hp]
      refine findS_some p f P hf xs (i + 1) ?_
      rw [List.any_cons] at h
      simpa [hp] using h
theorem findS_con {α β : Type} (p : α → Bool) (b : β) (xs : List α) (i : Nat) : findS p (fun _ _ => b) i xs = if xs.any p = true then some b else none := by
  by_cases h : xs.any p = true
  · obtain ⟨c, hc, e⟩ := findS_some p (fun _ _ => b) (fun c => c = b) (fun _ _ => rfl) xs i h
    rw [if_pos h, hc, e]
  · rw [if_neg h]; exact findS_none p _ xs i ((Bool.not_eq_true _).mp h)
theorem occurs1_eq (c : api_Change) (k n : Int) : command_occurs_1 c k n = some (c.Kind == k && c.Server == n) := by
  unfold command_occurs_1 command_occurs_1.j1
  by_cases h : c.Kind = k <;> simp [h]
theorem index_eq (xs : List api_Change) (f : api_Change → Option Bool) (p : api_Change → Bool) (hf : ∀ x, f x = some (p x)) (hx : xs.length ≤ 9223372036854775807) :
    ∃ i : Int, slices_IndexFunc_Change xs f = some i ∧ (0 ≤ i ↔ xs.any p = true) := by
  have h := loopO_find (step := slices_IndexFunc_Change.l1 xs f) (fun k : Nat => (k : Int)) xs p (fun k _ => .inr (k : Int)) (.inl ())
    (fun k hk => by
      simp only [slices_IndexFunc_Change.l1, lt_of_len hk, if_true, idx_nat hk, Option.bind_some, hf]
      by_cases hp : p xs[k] = true
      · simp [hp]
      · simp only [hp, if_false, letV_of]; rw [w64n (by omega)])
    (by simp only [slices_IndexFunc_Change.l1, not_lt_len]; rfl)
  unfold slices_IndexFunc_Change
  rw [show ((0 : Nat) : Int) = 0 from rfl] at h
  rw [h]
  simp only [Option.bind_some]
  by_cases hp : xs.any p = true
  · obtain ⟨b, hb, i, hi⟩ := findS_some p (fun k (_ : api_Change) => (Sum.inr (k : Int) : Unit ⊕ Int)) (fun b => ∃ i : Nat, b = .inr (i : Int)) (fun i _ => ⟨i, rfl⟩) xs 0 hp
    rw [hb, hi]
    exact ⟨i, rfl, by simp [hp]⟩
  · rw [findS_none p _ xs 0 ((Bool.not_eq_true _).mp hp)]
    exact ⟨-1, rfl, by simp [hp]⟩
theorem occurs_eq (xs : List api_Change) (k n : Int) (hx : xs.length ≤ 9223372036854775807) : command_occurs xs k n = some (xs.any fun c => c.Kind == k && c.Server == n) := by
  unfold command_occurs slices_ContainsFunc_Change
  obtain ⟨i, hi, h⟩ := index_eq xs (fun p : api_Change => command_occurs_1 p k n) (fun c => c.Kind == k && c.Server == n) (fun x => occurs1_eq x k n) hx
  rw [hi]
  simp only [Option.bind_some]
  congr 1
  rw [Bool.eq_iff_iff, decide_eq_true_iff]
  exact h
theorem contains_int (xs : List Int) (v : Int) (hx : xs.length ≤ 9223372036854775807) : slices_Contains_int xs v = some (xs.any (v == ·)) := by
  have h := loopO_find (step := slices_Index_int.l1 xs v) (fun k : Nat => (k : Int)) xs (v == ·) (fun k _ => .inr (k : Int)) (.inl ())
    (fun k hk => by
      simp only [slices_Index_int.l1, lt_of_len hk, if_true, idx_nat hk, Option.bind_some]
      by_cases hp : (v == xs[k]) = true
      · simp [hp]
      · simp only [hp, if_false, letV_of]; rw [w64n (by omega)])
    (by simp only [slices_Index_int.l1, not_lt_len]; rfl)
  unfold slices_Contains_int slices_Index_int
  rw [show ((0 : Nat) : Int) = 0 from rfl] at h
  rw [h]
  simp only [Option.bind_some]
  by_cases hp : xs.any (v == ·) = true
  · obtain ⟨b, hb, i, hi⟩ := findS_some (v == ·) (fun k (_ : Int) => (Sum.inr (k : Int) : Unit ⊕ Int)) (fun b => ∃ i : Nat, b = .inr (i : Int)) (fun i _ => ⟨i, rfl⟩) xs 0 hp
    rw [hb, hi, hp]
    simp
  · rw [findS_none (v == ·) _ xs 0 ((Bool.not_eq_true _).mp hp), show xs.any (v == ·) = false from (Bool.not_eq_true _).mp hp]
    rfl
/-- A server's weight's version. -/
def entV (ws : List api_WeightEntry) (v : Int) : Int := (findS (fun w : api_WeightEntry => w.Server == v) (fun _ w => w.Version) 0 ws).getD 0
theorem findS_map {α β γ : Type} (p : α → Bool) (f : Nat → α → β) (g : β → γ) : ∀ (xs : List α) (i : Nat), findS p (fun i x => g (f i x)) i xs = (findS p f i xs).map g
  | [], _ => rfl
  | x :: xs, i => by
    rw [findS, findS]
    split
    · rfl
    · exact findS_map p f g xs (i + 1)
theorem version_eq (c : api_Change) (s : api_Summary) (hx : s.Weights.length ≤ 9223372036854775807) : command_version c s = some (if c.Kind = 4 then s.Version else entV s.Weights c.Server) := by
  unfold command_version
  by_cases h4 : c.Kind = 4
  · rw [if_pos (by simpa using h4), if_pos h4]
  rw [if_neg (by simpa using h4), if_neg h4]
  have h := loopO_find (step := command_version.l1 c s) (fun k : Nat => (k : Int)) s.Weights (fun w => w.Server == c.Server) (fun _ w => (Sum.inr w.Version : Unit ⊕ Int)) (.inl ())
    (fun k hk => by
      simp only [command_version.l1, lt_of_len hk, if_true, idx_nat hk, Option.bind_some]
      rw [letV_of, w64n (by omega)])
    (by simp only [command_version.l1, not_lt_len]; rfl)
  rw [show ((0 : Nat) : Int) = 0 from rfl] at h
  have hm : findS (fun w : api_WeightEntry => w.Server == c.Server) (fun _ w => (Sum.inr w.Version : Unit ⊕ Int)) 0 s.Weights = _ := findS_map (fun w : api_WeightEntry => w.Server == c.Server) (fun _ w => w.Version) (fun v => (Sum.inr v : Unit ⊕ Int)) s.Weights 0
  rw [h, hm]
  unfold entV
  cases findS (fun w : api_WeightEntry => w.Server == c.Server) (fun _ w => w.Version) 0 s.Weights <;> rfl
/-- The change's place in a proposal, and what is wrong with it. -/
def known (c : api_Change) (s : api_Summary) (cs : List api_Change) : Bool := (s.Joined.any (c.Server == ·) && !(s.Removed.any (c.Server == ·))) || cs.any fun d => d.Kind == 1 && d.Server == c.Server
def verN (c : api_Change) (s : api_Summary) : api_Change × Int :=
  let v := if c.Kind = 4 then s.Version else entV s.Weights c.Server
  if 1000 ≤ v then ({ c with Version := v }, 9) else ({ c with Version := IntKind.i64.wrap (v + 1) }, 0)
def chkS (c : api_Change) (s : api_Summary) (cs : List api_Change) : api_Change × Int :=
  if 6 ≤ cs.length then (c, 3)
  else if cs.any fun d => d.Kind == c.Kind && d.Server == c.Server then (c, 5)
  else if c.Kind = 1 then (if s.Joined.any (c.Server == ·) || s.Removed.any (c.Server == ·) then (c, 5) else (c, 0))
  else if c.Kind = 2 then (if known c s cs then (c, 0) else (c, 6))
  else if c.Kind = 3 then (if known c s cs then verN c s else (c, 6))
  else verN c s
theorem check_eq (c : api_Change) (s : api_Summary) (cs : List api_Change) (h1 : cs.length ≤ 9223372036854775807) (h2 : s.Joined.length ≤ 9223372036854775807) (h3 : s.Removed.length ≤ 9223372036854775807) (h4 : s.Weights.length ≤ 9223372036854775807) :
    command_check c s cs = some (chkS c s cs) := by
  unfold command_check chkS
  by_cases hc : 6 ≤ cs.length
  · rw [if_pos (show (decide (6 ≤ (cs.length : Int))) = true by rw [decide_eq_true_iff]; omega), if_pos hc]
  rw [if_neg (show ¬ ((decide (6 ≤ (cs.length : Int))) = true) by rw [decide_eq_true_iff]; omega), if_neg hc]
  simp only [occurs_eq _ _ _ h1, contains_int _ _ h2, contains_int _ _ h3, Option.bind_some]
  by_cases ho : (cs.any fun d => d.Kind == c.Kind && d.Server == c.Server) = true
  · rw [if_pos ho, if_pos ho]
  rw [if_neg ho, if_neg ho]
  have kn : (if (s.Joined.any (c.Server == ·)) = true then (if (!(s.Removed.any (c.Server == ·))) = true then command_check.j3 c s (s.Joined.any (c.Server == ·)) (s.Removed.any (c.Server == ·)) true else command_check.j3 c s (s.Joined.any (c.Server == ·)) (s.Removed.any (c.Server == ·)) (cs.any fun d => d.Kind == 1 && d.Server == c.Server)) else command_check.j3 c s (s.Joined.any (c.Server == ·)) (s.Removed.any (c.Server == ·)) (cs.any fun d => d.Kind == 1 && d.Server == c.Server)) = command_check.j3 c s (s.Joined.any (c.Server == ·)) (s.Removed.any (c.Server == ·)) (known c s cs) := by
    unfold known
    cases s.Joined.any (c.Server == ·) <;> cases s.Removed.any (c.Server == ·) <;> simp
  rw [kn]
  simp only [command_check.j3, command_check.j2, command_check.j1, version_eq _ _ h4, Option.bind_some, letV_of]
  have ev : ∀ v : Int, (if (decide (1000 ≤ v)) = true then some ((⟨c.Kind, c.Server, c.Weight, v, ⟨c.Rule.Kind, c.Rule.Columns, c.Rule.Faulty⟩⟩ : api_Change), (9 : Int)) else some (⟨c.Kind, c.Server, c.Weight, IntKind.i64.wrap (v + 1), ⟨c.Rule.Kind, c.Rule.Columns, c.Rule.Faulty⟩⟩, 0)) = some (if 1000 ≤ v then ({ c with Version := v }, 9) else ({ c with Version := IntKind.i64.wrap (v + 1) }, 0)) := by
    intro v
    by_cases h : 1000 ≤ v
    · rw [if_pos (by simpa using h), if_pos h]
    · rw [if_neg (by simpa using h), if_neg h]
  by_cases k1 : c.Kind = 1
  · rw [if_pos (by simpa using k1), if_pos k1]
    cases s.Joined.any (c.Server == ·) <;> cases s.Removed.any (c.Server == ·) <;> simp
  rw [if_neg (by simpa using k1), if_neg k1]
  by_cases k2 : c.Kind = 2
  · rw [if_pos (by simpa using k2), if_pos k2]
    cases known c s cs <;> simp
  rw [if_neg (by simpa using k2), if_neg k2, ev]
  by_cases k3 : c.Kind = 3
  · rw [if_pos (by simpa using k3), if_pos k3]
    cases known c s cs <;> simp [verN]
  rw [if_neg (by simpa using k3), if_neg k3]
  rfl
end Go.Proofs.YthfoljpjhegkmaaDoor

/- The command language, as plain data: the lines of a text; the program's own check of itself. -/
set_option linter.unusedVariables false
set_option linter.unusedSimpArgs false
namespace Go.Proofs.YthfoljpjhegkmaaDoor
open Go Go.Proofs.YthfoljpjhegkmaaDoorL

/-- The proposal of some lines: i lines went before. -/
def comS (s : api_Summary) : List api_Change → Nat → List (List UInt8) → List api_Change × Int × Int
  | acc, _, [] => if acc.length = 0 then ([], 0, 2) else (acc, 0, 0)
  | acc, i, x :: xs =>
    if x = [] ∨ x.head? = some 35 then comS s acc (i + 1) xs
    else if (parS x).2 ≠ 0 then ([], ((i + 1 : Nat) : Int), (parS x).2)
    else if (chkS (parS x).1 s acc).2 ≠ 0 then ([], ((i + 1 : Nat) : Int), (chkS (parS x).1 s acc).2)
    else comS s (acc ++ [(chkS (parS x).1 s acc).1]) (i + 1) xs
theorem chk_len {c : api_Change} {s : api_Summary} {cs : List api_Change} (h : (chkS c s cs).2 = 0) : cs.length < 6 := by
  unfold chkS at h
  by_cases h6 : 6 ≤ cs.length
  · rw [if_pos h6] at h; simp at h
  · omega
theorem par_kind {x : List UInt8} (h : (parS x).2 = 0) : (parS x).1.Kind = 1 ∨ (parS x).1.Kind = 2 ∨ (parS x).1.Kind = 3 ∨ (parS x).1.Kind = 4 := by
  unfold parS at h ⊢
  cases hs : synS (spl 32 x) with
  | none => rw [hs] at h; simp at h
  | some c =>
    rw [hs] at h
    simp only at h ⊢
    by_cases hv : valS (verS c) = 0
    · rw [if_pos hv]
      have hk : (verS c).Kind = c.Kind := by unfold verS; split <;> rfl
      unfold valS at hv
      by_cases hb : (verS c).Kind < 1 ∨ 4 < (verS c).Kind
      · rw [if_pos hb] at hv; simp at hv
      · rw [hk] at hb; simp only; omega
    · rw [if_neg hv] at h; exact absurd h hv
/-- The lists of a summary are short enough. -/
def smallS (s : api_Summary) : Prop := s.Joined.length ≤ 9223372036854775807 ∧ s.Removed.length ≤ 9223372036854775807 ∧ s.Weights.length ≤ 9223372036854775807
theorem head_idx (b : UInt8) (x : List UInt8) : ((b.toNat : Int) == 35) = decide ((b :: x).head? = some 35) := by
  rw [Bool.eq_iff_iff, beq_iff_eq, decide_eq_true_iff]
  simp only [List.head?_cons, Option.some.injEq]
  constructor
  · intro h; apply UInt8.toNat_inj.1; show b.toNat = 35; omega
  · rintro rfl; rfl
theorem compile_eq (x : List UInt8) (s : api_Summary) (hx : x.length ≤ 10000) (hs : smallS s) : command_Compile x s = some (comS s [] 0 (spl 10 x)) := by
  have hsp : strings_Split x [10] = some (spl 10 x) := by unfold strings_Split; rw [if_pos ⟨rfl, by omega⟩]; rfl
  unfold command_Compile
  rw [hsp]
  simp only [Option.bind_some]
  have hln := spl_len 10 x
  have hme := spl_mem 10 x
  generalize spl 10 x = ls at hln hme ⊢
  have main : ∀ m i acc, i + m = ls.length → acc.length ≤ i →
      ((loopO (command_Compile.l1 s ls) (acc, (i : Int))).bind fun b => match b with | .inl x85 => command_Compile.j1 x85 | .inr (x86, x87, x88) => some (x86, x87, x88)) = some (comS s acc i (ls.drop i)) := by
    intro m
    induction m with
    | zero =>
      intro i acc hi ha
      have hi : i = ls.length := by omega
      subst hi
      rw [List.drop_length, loopO_done (b := .inl acc) (by simp only [command_Compile.l1, not_lt_len]; rfl)]
      simp only [Option.bind_some, command_Compile.j1, comS]
      by_cases h0 : acc.length = 0
      · rw [if_pos (by simpa using h0), if_pos h0]
      · rw [if_neg (by simpa using h0), if_neg h0]
    | succ m ih =>
      intro i acc hi ha
      have hlt : i < ls.length := by omega
      rw [List.drop_eq_getElem_cons hlt, comS]
      have hxl : ls[i].length ≤ 10000 := Nat.le_trans (hme _ (List.getElem_mem hlt)) hx
      have hst : command_Compile.l1 s ls (acc, (i : Int)) = command_Compile.j4 s acc i ls[i] (decide (ls[i] = [] ∨ ls[i].head? = some 35)) := by
        simp only [command_Compile.l1, lt_of_len hlt, if_true, idx_nat hlt, Option.bind_some]
        cases hl : ls[i] with
        | nil => rfl
        | cons b y =>
          rw [if_neg (by simp), idx_zero]
          simp only [Option.bind_some]
          rw [head_idx b y]
          simp
      by_cases hc : ls[i] = [] ∨ ls[i].head? = some 35
      · rw [if_pos hc, loopO_next (s' := (acc, ((i + 1 : Nat) : Int))) (by rw [hst]; simp only [hc, decide_true, command_Compile.j4, if_true, command_Compile.j2, letV_of]; rw [wcast hlt (by omega)])]
        exact ih (i + 1) acc (by omega) (by omega)
      rw [if_neg hc]
      have hd : decide (ls[i] = [] ∨ ls[i].head? = some 35) = false := by simpa using hc
      by_cases hp : (parS ls[i]).2 = 0
      · rw [if_neg (by simpa using hp)]
        have hck := check_eq (parS ls[i]).1 s acc (by omega) (by have := hs.1; omega) (by have := hs.2.1; omega) (by have := hs.2.2; omega)
        by_cases hk : (chkS (parS ls[i]).1 s acc).2 = 0
        · rw [if_neg (by simpa using hk), loopO_next (s' := (acc ++ [(chkS (parS ls[i]).1 s acc).1], ((i + 1 : Nat) : Int))) ?_]
          · exact ih (i + 1) _ (by omega) (by simp; omega)
          rw [hst, hd]
          simp only [command_Compile.j4, Bool.false_eq_true, if_false, parse1 _ (show ls[i].length < 4294967281 by omega), Option.bind_some, hp, beq_self_eq_true, if_true, hck, command_Compile.j3, hk]
          have := chk_len hk
          rw [app_of (by simp; omega)]
          simp only [bne_self_eq_false, Bool.false_eq_true, if_false, Option.bind_some, command_Compile.j2, letV_of]
          rw [wcast hlt (by omega)]
        · rw [if_pos (by simpa using hk), loopO_done (b := .inr ([], ((i + 1 : Nat) : Int), (chkS (parS ls[i]).1 s acc).2)) ?_]
          · rfl
          rw [hst, hd]
          simp only [command_Compile.j4, Bool.false_eq_true, if_false, parse1 _ (show ls[i].length < 4294967281 by omega), Option.bind_some, hp, beq_self_eq_true, if_true, hck, command_Compile.j3]
          rw [if_pos (by simpa using hk)]
          simp only [letV_of]
          rw [wcast hlt (by omega)]
      · rw [if_pos (by simpa using hp), loopO_done (b := .inr ([], ((i + 1 : Nat) : Int), (parS ls[i]).2)) ?_]
        · rfl
        rw [hst, hd]
        simp only [command_Compile.j4, Bool.false_eq_true, if_false, parse1 _ (show ls[i].length < 4294967281 by omega), Option.bind_some, command_Compile.j3]
        rw [if_neg (by simpa using hp), if_pos (by simpa using hp)]
        simp only [letV_of]
        rw [wcast hlt (by omega)]
  have h := main ls.length 0 [] (by omega) (by simp)
  rwa [List.drop_zero] at h
theorem init_eq : esref10_Initial ⟨[⟨1, 1⟩], ⟨1, 0, 0⟩⟩ = some ⟨[1], [], [⟨1, 1, 0, 0, 0⟩], ⟨1, 0, 0⟩, 0, 0, 0⟩ := by
  unfold esref10_Initial
  have s1 : esref10_Initial.l1 ⟨[⟨1, 1⟩], ⟨1, 0, 0⟩⟩ (0, [], []) = some (.inl (1, [1], [⟨1, 1, 0, 0, 0⟩])) := by
    simp only [esref10_Initial.l1]
    rw [if_pos (by decide), idx_zero]
    simp only [Option.bind_some]
    rw [app_of (by simp)]
    simp only [Option.bind_some]
    rw [app_of (by simp)]
    rfl
  have s2 : esref10_Initial.l1 ⟨[⟨1, 1⟩], ⟨1, 0, 0⟩⟩ (1, [1], [⟨1, 1, 0, 0, 0⟩]) = some (.inr ([1], [⟨1, 1, 0, 0, 0⟩])) := by
    simp only [esref10_Initial.l1]
    rw [if_neg (by decide)]
  rw [loopO_next s1, loopO_done s2]
  rfl
end Go.Proofs.YthfoljpjhegkmaaDoor

/- The command language, as plain data: the program's check of itself; CommandParse. -/
set_option linter.unusedVariables false
set_option linter.unusedSimpArgs false
set_option maxRecDepth 10000
namespace Go.Proofs.YthfoljpjhegkmaaDoor
open Go Go.Proofs.YthfoljpjhegkmaaDoorL

theorem wrap1 : IntKind.i64.wrap (0 + 1) = 1 := by decide
theorem par_a : parS [106, 111, 105, 110, 32, 52, 32, 119, 101, 105, 103, 104, 116, 32, 50] = (⟨1, 4, 2, 0, ⟨0, 0, 0⟩⟩, 0) := by decide +kernel
theorem par_b : parS [106, 111, 105, 110, 32, 52, 32, 32, 119, 101, 105, 103, 104, 116, 32, 50] = (zChange, 11) := by decide +kernel
theorem com_a : comS ⟨[1], [], [⟨1, 1, 0, 0, 0⟩], ⟨1, 0, 0⟩, 0, 0, 0⟩ [] 0 (spl 10 [35, 32, 114, 101, 112, 108, 97, 99, 101, 10, 106, 111, 105, 110, 32, 52, 10, 114, 101, 109, 111, 118, 101, 32, 49, 10]) = ([⟨1, 4, 1, 0, ⟨0, 0, 0⟩⟩, ⟨2, 1, 0, 0, ⟨0, 0, 0⟩⟩], 0, 0) := by decide +kernel
theorem com_b : comS ⟨[], [], [], ⟨0, 0, 0⟩, 0, 0, 0⟩ [] 0 (spl 10 [10, 114, 101, 109, 111, 118, 101, 32, 57]) = ([], 2, 6) := by decide +kernel
theorem val_a : valS (verS ⟨1, 4, 2, 0, ⟨0, 0, 0⟩⟩) = 0 := by decide +kernel
theorem cat_of {x y : List UInt8} (h : x.length + y.length ≤ 10000) : cat x y = some (x ++ y) := by
  unfold cat
  first | rw [if_pos (by omega)] | rw [if_pos (by unfold maxLen; omega)]
theorem format_a : command_Format ⟨1, 4, 2, 0, ⟨0, 0, 0⟩⟩ = some [106, 111, 105, 110, 32, 52, 32, 119, 101, 105, 103, 104, 116, 32, 50] := by
  unfold command_Format
  simp only [ver1, Option.bind_some, val1, val_a]
  rw [show strconv_Itoa 4 = some [52] from by decide +kernel, show strconv_Itoa 2 = some [50] from by decide +kernel]
  simp only [Option.bind_some]
  rw [if_neg (by decide), if_pos (by decide), cat_of (by decide)]
  simp only [Option.bind_some]
  rw [cat_of (by decide)]
  simp only [Option.bind_some]
  rw [cat_of (by decide)]
  rfl
theorem awake08 : eslaw08_awake = some true := by
  unfold eslaw08_awake
  rw [parse1 _ (by decide), parse1 _ (by decide), par_a, par_b]
  simp only [Option.bind_some, init_eq]
  rw [compile_eq _ _ (by decide) ⟨by decide, by decide, by decide⟩, compile_eq _ _ (by decide) ⟨by decide, by decide, by decide⟩, com_a, com_b]
  simp only [Option.bind_some, format_a]
  rfl
end Go.Proofs.YthfoljpjhegkmaaDoor

/- The command language, as plain data: CommandFormat. -/
set_option linter.unusedVariables false
set_option linter.unusedSimpArgs false
set_option maxRecDepth 10000
namespace Go.Proofs.YthfoljpjhegkmaaDoor
open Go Go.Proofs.YthfoljpjhegkmaaDoorL

/-- The changes that are right. -/
def Right (c : api_Change) : Prop :=
  (∃ n m : Nat, n ≤ 12 ∧ 1 ≤ n ∧ m ≤ 9 ∧ 1 ≤ m ∧ c = ⟨1, n, m, 0, zRule⟩) ∨
  (∃ n : Nat, n ≤ 12 ∧ 1 ≤ n ∧ c = ⟨2, n, 0, 0, zRule⟩) ∨
  (∃ n m : Nat, ∃ v : Int, n ≤ 12 ∧ 1 ≤ n ∧ m ≤ 9 ∧ 1 ≤ m ∧ c = ⟨3, n, m, v, zRule⟩) ∨
  (∃ v : Int, c = ⟨4, 0, 0, v, ⟨1, 0, 0⟩⟩) ∨ (∃ v : Int, c = ⟨4, 0, 0, v, ⟨2, 0, 0⟩⟩) ∨
  (∃ (n : Nat) (v : Int), n ≤ 12 ∧ 1 ≤ n ∧ c = ⟨4, 0, 0, v, ⟨3, n, 0⟩⟩) ∨
  (∃ (n : Nat) (v : Int), n ≤ 12 ∧ c = ⟨4, 0, 0, v, ⟨4, 0, n⟩⟩)
theorem nat_of {x lo hi : Int} (h : inR x lo hi) (h0 : 0 ≤ lo) : ∃ n : Nat, x = n := ⟨x.toNat, by have := h.1; omega⟩
theorem right_of {c : api_Change} (h : valS (verS c) = 0) : Right c := by
  obtain ⟨k, s, w, v, r⟩ := c
  have hk : (verS ⟨k, s, w, v, r⟩).Kind = k := by unfold verS; split <;> rfl
  have hsv : (verS ⟨k, s, w, v, r⟩).Server = s := by unfold verS; split <;> rfl
  have hw : (verS ⟨k, s, w, v, r⟩).Weight = w := by unfold verS; split <;> rfl
  have hr : (verS ⟨k, s, w, v, r⟩).Rule = r := by unfold verS; split <;> rfl
  unfold valS at h
  rw [hk, hsv, hw, hr] at h
  by_cases hkk : k < 1 ∨ 4 < k
  · rw [if_pos hkk] at h; simp at h
  rw [if_neg hkk] at h
  have hcs : k = 1 ∨ k = 2 ∨ k = 3 ∨ k = 4 := by omega
  by_cases hb : (if k = 4 then s = 0 else inR s 1 12) ∧ (if k = 1 ∨ k = 3 then inR w 1 9 else w = 0) ∧ (if k = 3 ∨ k = 4 then inR (verS ⟨k, s, w, v, r⟩).Version 1 1000 else (verS ⟨k, s, w, v, r⟩).Version = 0)
  case neg => rw [if_pos hb] at h; simp at h
  rw [if_neg (not_not_intro hb)] at h
  rcases hcs with rfl | rfl | rfl | rfl
  · simp only [show ¬ ((1 : Int) = 4) by decide, if_false] at h
    obtain ⟨b1, b2, b3⟩ := hb
    have b1 : inR s 1 12 := b1
    have b2 : inR w 1 9 := b2
    have b3 : v = 0 := b3
    have hz : r = zRule := by by_cases hz : r = zRule; · exact hz
                              · rw [if_neg hz] at h; simp at h
    obtain ⟨n, rfl⟩ := nat_of b1 (by decide)
    obtain ⟨m, rfl⟩ := nat_of b2 (by decide)
    subst hz; subst b3
    obtain ⟨x1, x2⟩ := b1
    obtain ⟨x3, x4⟩ := b2
    exact .inl ⟨n, m, by omega, by omega, by omega, by omega, rfl⟩
  · simp only [show ¬ ((2 : Int) = 4) by decide, if_false] at h
    obtain ⟨b1, b2, b3⟩ := hb
    have b1 : inR s 1 12 := b1
    have b2 : w = 0 := b2
    have b3 : v = 0 := b3
    have hz : r = zRule := by by_cases hz : r = zRule; · exact hz
                              · rw [if_neg hz] at h; simp at h
    obtain ⟨n, rfl⟩ := nat_of b1 (by decide)
    subst hz; subst b3; subst b2
    obtain ⟨x1, x2⟩ := b1
    exact .inr (.inl ⟨n, by omega, by omega, rfl⟩)
  · simp only [show ¬ ((3 : Int) = 4) by decide, if_false] at h
    obtain ⟨b1, b2, b3⟩ := hb
    have b1 : inR s 1 12 := b1
    have b2 : inR w 1 9 := b2
    have hz : r = zRule := by by_cases hz : r = zRule; · exact hz
                              · rw [if_neg hz] at h; simp at h
    obtain ⟨n, rfl⟩ := nat_of b1 (by decide)
    obtain ⟨m, rfl⟩ := nat_of b2 (by decide)
    subst hz
    obtain ⟨x1, x2⟩ := b1
    obtain ⟨x3, x4⟩ := b2
    exact .inr (.inr (.inl ⟨n, m, v, by omega, by omega, by omega, by omega, rfl⟩))
  · simp only [if_true] at h
    obtain ⟨b1, b2, b3⟩ := hb
    have b1 : s = 0 := b1
    have b2 : w = 0 := b2
    subst b1; subst b2
    obtain ⟨k, cl, f⟩ := r
    unfold valR at h
    simp only at h
    by_cases hkk : k < 1 ∨ 4 < k
    · rw [if_pos hkk] at h; simp at h
    rw [if_neg hkk] at h
    have hcs : k = 1 ∨ k = 2 ∨ k = 3 ∨ k = 4 := by omega
    by_cases hb : (if k = 3 then inR cl 1 12 else cl = 0) ∧ (if k = 4 then inR f 0 12 else f = 0)
    · clear h
      obtain ⟨c1, c2⟩ := hb
      rcases hcs with rfl | rfl | rfl | rfl
      · have c1 : cl = 0 := c1
        have c2 : f = 0 := c2
        subst c1; subst c2
        exact .inr (.inr (.inr (.inl ⟨v, rfl⟩)))
      · have c1 : cl = 0 := c1
        have c2 : f = 0 := c2
        subst c1; subst c2
        exact .inr (.inr (.inr (.inr (.inl ⟨v, rfl⟩))))
      · have c1 : inR cl 1 12 := c1
        have c2 : f = 0 := c2
        subst c2
        obtain ⟨n, rfl⟩ := nat_of c1 (by decide)
        obtain ⟨x1, x2⟩ := c1
        exact .inr (.inr (.inr (.inr (.inr (.inl ⟨n, v, by omega, by omega, rfl⟩)))))
      · have c1 : cl = 0 := c1
        have c2 : inR f 0 12 := c2
        subst c1
        obtain ⟨n, rfl⟩ := nat_of c2 (by decide)
        obtain ⟨x1, x2⟩ := c2
        exact .inr (.inr (.inr (.inr (.inr (.inr ⟨n, v, by omega, rfl⟩)))))
    · rw [if_neg hb] at h; simp at h
end Go.Proofs.YthfoljpjhegkmaaDoor

/- The command language, as plain data: the reference's summaries. -/
set_option linter.unusedVariables false
set_option linter.unusedSimpArgs false
namespace Go.Proofs.YthfoljpjhegkmaaDoor
open Go Go.Proofs.YthfoljpjhegkmaaDoorL

theorem loopO_fold {α σ β τ : Type} {step : τ → Option (τ ⊕ β)} (pack : Nat → σ → τ) (f : σ → α → σ) (fin : σ → β) (I : Nat → σ → Prop) (xs : List α) (s0 : σ) (h0 : I 0 s0)
    (hs : ∀ k (hk : k < xs.length) s, I k s → step (pack k s) = some (.inl (pack (k + 1) (f s xs[k]))) ∧ I (k + 1) (f s xs[k]))
    (he : ∀ s, I xs.length s → step (pack xs.length s) = some (.inr (fin s))) : loopO step (pack 0 s0) = some (fin (xs.foldl f s0)) ∧ I xs.length (xs.foldl f s0) := by
  have : ∀ m k s, k + m = xs.length → I k s → loopO step (pack k s) = some (fin ((xs.drop k).foldl f s)) ∧ I xs.length ((xs.drop k).foldl f s) := by
    intro m
    induction m with
    | zero =>
      intro k s hk hI
      have hk : k = xs.length := by omega
      subst hk
      rw [List.drop_length]
      exact ⟨loopO_done (he s hI), hI⟩
    | succ m ih =>
      intro k s hk hI
      have hk' : k < xs.length := by omega
      rw [List.drop_eq_getElem_cons hk', List.foldl_cons, loopO_next (hs k hk' s hI).1]
      exact ih (k + 1) _ (by omega) (hs k hk' s hI).2
  have h := this xs.length 0 s0 (by omega) h0
  rwa [List.drop_zero] at h
/-- A number put in. -/
def insS (n : Int) : Bool → List Int → List Int
  | put, [] => if put then [] else [n]
  | put, x :: xs => (if (!put && decide (n ≤ x)) = true then [n] else []) ++ ((if x = n then [] else [x]) ++ insS n (put || decide (n ≤ x)) xs)
theorem insS_len (n : Int) : ∀ (l : List Int) (put : Bool), (insS n put l).length ≤ l.length + (if put then 0 else 1)
  | [], put => by unfold insS; cases put <;> simp
  | x :: xs, put => by
    have h1 := insS_len n xs true
    have h2 := insS_len n xs false
    unfold insS
    by_cases hx : n ≤ x
    · cases put <;> simp [hx] <;> split <;> simp at h1 ⊢ <;> omega
    · have : ¬ x = n := by omega
      cases put <;> simp [hx, this] <;> simp at h1 h2 <;> omega
theorem insert_eq (l : List Int) (n : Int) (hl : l.length ≤ 1000) : esref10_Insert l n = some (insS n false l) := by
  unfold esref10_Insert
  have main : ∀ m k out put, k + m = l.length → out.length ≤ 2 * k →
      ((loopO (esref10_Insert.l1 l n) (out, put, (k : Int))).bind fun (x91, x92) => esref10_Insert.j2 n x91 x92) = some (out ++ insS n put (l.drop k)) := by
    intro m
    induction m with
    | zero =>
      intro k out put hk ho
      have hk : k = l.length := by omega
      subst hk
      rw [List.drop_length, loopO_done (b := (out, put)) (by simp only [esref10_Insert.l1, not_lt_len]; rfl)]
      simp only [Option.bind_some, esref10_Insert.j2, insS]
      cases put with
      | true => simp [esref10_Insert.j1]
      | false =>
        rw [app_of (by simp; omega)]
        rfl
    | succ m ih =>
      intro k out put hk ho
      have hk' : k < l.length := by omega
      rw [List.drop_eq_getElem_cons hk', insS]
      have hst : esref10_Insert.l1 l n (out, put, (k : Int)) = some (.inl (out ++ (if (!put && decide (n ≤ l[k])) = true then [n] else []) ++ (if l[k] = n then [] else [l[k]]), (put || decide (n ≤ l[k])), ((k + 1 : Nat) : Int))) := by
        have j4 : ∀ (o : List Int) (p : Bool), o.length ≤ 2 * k + 1 → esref10_Insert.j4 l n k o p = some (.inl (o ++ (if l[k] = n then [] else [l[k]]), p, ((k + 1 : Nat) : Int))) := by
          intro o p ho
          simp only [esref10_Insert.j4, idx_nat hk', Option.bind_some, esref10_Insert.j3, letV_of]
          rw [wcast hk' (by omega)]
          by_cases he : l[k] = n
          · rw [if_neg (by simpa using he), if_pos he]; simp
          · rw [if_pos (by simpa using he), if_neg he, app_of (by simp; omega)]
            rfl
        simp only [esref10_Insert.l1, lt_of_len hk', if_true, idx_nat hk', Option.bind_some, esref10_Insert.j5]
        cases put with
        | true =>
          rw [if_neg (by simp), if_neg (by simp), j4 _ _ (by omega)]
          simp
        | false =>
          by_cases hx : n ≤ l[k]
          · rw [if_pos (by simp), if_pos (by simpa using hx), app_of (by simp; omega)]
            simp only [Option.bind_some]
            rw [j4 _ _ (by simp; omega)]
            simp [hx]
          · rw [if_pos (by simp), if_neg (by simpa using hx), j4 _ _ (by omega)]
            simp [hx]
      rw [loopO_next hst, ih (k + 1) _ _ (by omega) (by
        rw [List.length_append, List.length_append]
        have a1 : (if (!put && decide (n ≤ l[k])) = true then [n] else []).length ≤ 1 := by split <;> simp
        have a2 : (if l[k] = n then [] else [l[k]]).length ≤ 1 := by split <;> simp
        omega)]
      simp only [List.append_assoc]
  have h := main l.length 0 [] false (by omega) (by simp)
  rw [List.drop_zero] at h
  exact h
/-- What is later. -/
def laterS (a b : api_WeightEntry) : Bool := if a.Version ≠ b.Version then decide (b.Version < a.Version) else if a.Admin ≠ b.Admin then decide (b.Admin < a.Admin) else decide (b.Number < a.Number)
theorem later_eq (a b : api_WeightEntry) : esref10_later a b = some (laterS a b) := by
  unfold esref10_later laterS
  by_cases h1 : a.Version = b.Version
  · by_cases h2 : a.Admin = b.Admin
    · rw [if_neg (by simpa using h1), if_neg (by simpa using h2), if_neg (by simpa using h1), if_neg (by simpa using h2)]
    · rw [if_neg (by simpa using h1), if_pos (by simpa using h2), if_neg (by simpa using h1), if_pos (by simpa using h2)]
  · rw [if_pos (by simpa using h1), if_pos (by simpa using h1)]
/-- An entry put in. -/
def wgS (w : api_WeightEntry) : Bool → List api_WeightEntry → List api_WeightEntry
  | put, [] => if put then [] else [w]
  | put, x :: xs =>
    if x.Server = w.Server then (if laterS w x = true then w else x) :: wgS w true xs
    else if put = false ∧ w.Server < x.Server then w :: x :: wgS w true xs
    else x :: wgS w put xs
theorem wgS_len (w : api_WeightEntry) : ∀ (l : List api_WeightEntry) (put : Bool), (wgS w put l).length ≤ l.length + (if put then 0 else 1)
  | [], put => by unfold wgS; cases put <;> simp
  | x :: xs, put => by
    have h1 := wgS_len w xs true
    have h2 := wgS_len w xs put
    unfold wgS
    split
    · simp at h1 ⊢; split <;> omega
    · split
      · rename_i h; rw [h.1]; simp at h1 ⊢; omega
      · simp; omega
theorem weigh_eq (l : List api_WeightEntry) (w : api_WeightEntry) (hl : l.length ≤ 1000) : esref10_Weigh l w = some (wgS w false l) := by
  unfold esref10_Weigh
  have main : ∀ m k out put, k + m = l.length → out.length ≤ 2 * k →
      ((loopO (esref10_Weigh.l1 l w) (out, put, (k : Int))).bind fun (x346, x347) => esref10_Weigh.j2 w x346 x347) = some (out ++ wgS w put (l.drop k)) := by
    intro m
    induction m with
    | zero =>
      intro k out put hk ho
      have hk : k = l.length := by omega
      subst hk
      rw [List.drop_length, loopO_done (b := (out, put)) (by simp only [esref10_Weigh.l1, not_lt_len]; rfl)]
      simp only [Option.bind_some, esref10_Weigh.j2, wgS]
      cases put with
      | true => simp [esref10_Weigh.j1]
      | false =>
        rw [app_of (by simp; omega)]
        rfl
    | succ m ih =>
      intro k out put hk ho
      have hk' : k < l.length := by omega
      rw [List.drop_eq_getElem_cons hk', wgS]
      have a1 : ∀ (y : api_WeightEntry), app 40 out [y] = some (out ++ [y]) := fun y => app_of (by simp; omega)
      have a2 : ∀ (y z : api_WeightEntry), app 40 out [y, z] = some (out ++ [y, z]) := fun y z => app_of (by simp; omega)
      by_cases h1 : l[k].Server = w.Server
      · have b1 : (l[k].Server == w.Server) = true := by simpa using h1
        rw [if_pos h1]
        by_cases h2 : laterS w l[k] = true
        · rw [if_pos h2, loopO_next (s' := (out ++ [w], true, ((k + 1 : Nat) : Int)))]
          · rw [ih (k + 1) _ _ (by omega) (by simp; omega)]; simp
          simp only [esref10_Weigh.l1, lt_of_len hk', if_true, idx_nat hk', Option.bind_some, b1, later_eq, h2, esref10_Weigh.j5, a1, esref10_Weigh.j3, letV_of]
          rw [wcast hk' (by omega)]
        · rw [if_neg h2, loopO_next (s' := (out ++ [l[k]], true, ((k + 1 : Nat) : Int)))]
          · rw [ih (k + 1) _ _ (by omega) (by simp; omega)]; simp
          have h2' : laterS w l[k] = false := (Bool.not_eq_true _).mp h2
          simp only [esref10_Weigh.l1, lt_of_len hk', if_true, idx_nat hk', Option.bind_some, b1, later_eq, h2', esref10_Weigh.j5, Bool.false_eq_true, if_false, a1, esref10_Weigh.j3, letV_of]
          rw [wcast hk' (by omega)]
      · have b1 : (l[k].Server == w.Server) = false := by simpa using h1
        rw [if_neg h1]
        by_cases h2 : put = false ∧ w.Server < l[k].Server
        · rw [if_pos h2, loopO_next (s' := (out ++ [w, l[k]], true, ((k + 1 : Nat) : Int)))]
          · rw [ih (k + 1) _ _ (by omega) (by simp; omega)]; simp
          have b2 : decide (w.Server < l[k].Server) = true := by simpa using h2.2
          simp only [esref10_Weigh.l1, lt_of_len hk', if_true, idx_nat hk', Option.bind_some, b1, esref10_Weigh.j5, Bool.false_eq_true, if_false, h2.1, Bool.not_false, b2, esref10_Weigh.j4, a2, esref10_Weigh.j3, letV_of]
          rw [wcast hk' (by omega)]
        · rw [if_neg h2, loopO_next (s' := (out ++ [l[k]], put, ((k + 1 : Nat) : Int)))]
          · rw [ih (k + 1) _ _ (by omega) (by simp; omega)]; simp
          cases put with
          | true =>
            simp only [esref10_Weigh.l1, lt_of_len hk', if_true, idx_nat hk', Option.bind_some, b1, esref10_Weigh.j5, Bool.false_eq_true, if_false, Bool.not_true, esref10_Weigh.j4, a1, esref10_Weigh.j3, letV_of]
            rw [wcast hk' (by omega)]
          | false =>
            have b2 : decide (w.Server < l[k].Server) = false := by simpa using h2
            simp only [esref10_Weigh.l1, lt_of_len hk', if_true, idx_nat hk', Option.bind_some, b1, esref10_Weigh.j5, Bool.false_eq_true, if_false, Bool.not_false, b2, esref10_Weigh.j4, a1, esref10_Weigh.j3, letV_of]
            rw [wcast hk' (by omega)]
  have h := main l.length 0 [] false (by omega) (by simp)
  rw [List.drop_zero] at h
  exact h
/-- No list longer than that. -/
def SZ (s : api_Summary) (m : Nat) : Prop := s.Joined.length ≤ m ∧ s.Removed.length ≤ m ∧ s.Weights.length ≤ m
theorem SZ.mono {s : api_Summary} {m k : Nat} (h : SZ s m) (hk : m ≤ k) : SZ s k := ⟨Nat.le_trans h.1 hk, Nat.le_trans h.2.1 hk, Nat.le_trans h.2.2 hk⟩
abbrev zSum : api_Summary := ⟨[], [], [], ⟨0, 0, 0⟩, 0, 0, 0⟩
/-- A change taken in. -/
def ofStep (a n : Int) (s : api_Summary) (c : api_Change) : api_Summary :=
  if c.Kind = 1 then { s with Joined := insS c.Server false s.Joined, Weights := wgS ⟨c.Server, c.Weight, 0, a, n⟩ false s.Weights }
  else if c.Kind = 2 then { s with Removed := insS c.Server false s.Removed }
  else if c.Kind = 3 then { s with Weights := wgS ⟨c.Server, c.Weight, c.Version, a, n⟩ false s.Weights }
  else if c.Kind = 4 then { s with Rule := c.Rule, Version := c.Version, Admin := a, Number := n }
  else s
def ofS (p : api_Proposal) : api_Summary := p.Changes.foldl (ofStep p.Admin p.Number) zSum
theorem ofStep_sz {a n : Int} {s : api_Summary} {c : api_Change} {m : Nat} (h : SZ s m) : SZ (ofStep a n s c) (m + 1) := by
  obtain ⟨h1, h2, h3⟩ := h
  have i1 := insS_len c.Server s.Joined false
  have i2 := insS_len c.Server s.Removed false
  have i3 := fun w => wgS_len w s.Weights false
  simp only [Bool.false_eq_true, if_false] at i1 i2 i3
  unfold ofStep
  split
  · exact ⟨by simp only; omega, by simp only; omega, by have := i3 ⟨c.Server, c.Weight, 0, a, n⟩; simp only; omega⟩
  · split
    · exact ⟨by simp only; omega, by simp only; omega, by simp only; omega⟩
    · split
      · exact ⟨by simp only; omega, by simp only; omega, by have := i3 ⟨c.Server, c.Weight, c.Version, a, n⟩; simp only; omega⟩
      · split
        · exact ⟨by simp only; omega, by simp only; omega, by simp only; omega⟩
        · exact ⟨by omega, by omega, by omega⟩
theorem of_eq (p : api_Proposal) (hp : p.Changes.length ≤ 10) : esref10_Of p = some (ofS p) ∧ SZ (ofS p) p.Changes.length := by
  have h := loopO_fold (step := esref10_Of.l1 p) (fun k s => ((k : Int), s)) (ofStep p.Admin p.Number) (fun s => s) (fun k s => SZ s k) p.Changes zSum ⟨Nat.le_refl _, Nat.le_refl _, Nat.le_refl _⟩
    (fun k hk s hs => by
      refine ⟨?_, ofStep_sz hs⟩
      obtain ⟨h1, h2, h3⟩ := hs
      simp only [esref10_Of.l1, lt_of_len hk, if_true, idx_nat hk, Option.bind_some, insert_eq _ _ (show s.Joined.length ≤ 1000 by omega), insert_eq _ _ (show s.Removed.length ≤ 1000 by omega), weigh_eq _ _ (show s.Weights.length ≤ 1000 by omega), esref10_Of.j2, letV_of]
      rw [wcast hk (by omega)]
      unfold ofStep
      by_cases k1 : p.Changes[k].Kind = 1
      · rw [if_pos (by simpa using k1), if_pos k1]
      rw [if_neg (by simpa using k1), if_neg k1]
      by_cases k2 : p.Changes[k].Kind = 2
      · rw [if_pos (by simpa using k2), if_pos k2]
      rw [if_neg (by simpa using k2), if_neg k2]
      by_cases k3 : p.Changes[k].Kind = 3
      · rw [if_pos (by simpa using k3), if_pos k3]
      rw [if_neg (by simpa using k3), if_neg k3]
      by_cases k4 : p.Changes[k].Kind = 4
      · rw [if_pos (by simpa using k4), if_pos k4]
      rw [if_neg (by simpa using k4), if_neg k4])
    (fun s _ => by simp only [esref10_Of.l1, not_lt_len]; rfl)
  unfold esref10_Of
  refine ⟨?_, h.2⟩
  obtain ⟨e, _⟩ := h
  rw [show ((0 : Nat) : Int) = 0 from rfl] at e
  rw [e]
  rfl
/-- Two summaries put together. -/
def joinS (a b : api_Summary) : api_Summary :=
  let s : api_Summary := { a with Joined := b.Joined.foldl (fun l x => insS x false l) a.Joined, Removed := b.Removed.foldl (fun l x => insS x false l) a.Removed, Weights := b.Weights.foldl (fun l x => wgS x false l) a.Weights }
  if b.Rule ≠ zRule ∧ (a.Rule = zRule ∨ laterS ⟨0, 0, b.Version, b.Admin, b.Number⟩ ⟨0, 0, a.Version, a.Admin, a.Number⟩ = true) then { s with Rule := b.Rule, Version := b.Version, Admin := b.Admin, Number := b.Number } else s
theorem joinS_lists (a b : api_Summary) : (joinS a b).Joined = b.Joined.foldl (fun l x => insS x false l) a.Joined ∧ (joinS a b).Removed = b.Removed.foldl (fun l x => insS x false l) a.Removed ∧ (joinS a b).Weights = b.Weights.foldl (fun l x => wgS x false l) a.Weights := by
  unfold joinS
  simp only
  split <;> exact ⟨rfl, rfl, rfl⟩
theorem join_eq (a b : api_Summary) (m : Nat) (ha : SZ a m) (hb : SZ b 10) (hm : m ≤ 900) : esref10_Join a b = some (joinS a b) ∧ SZ (joinS a b) (m + 10) := by
  have h1 := loopO_fold (step := esref10_Join.l3 b) (fun k s => ((k : Int), s)) (fun l x => insS x false l) (fun s => s) (fun k s => s.length ≤ m + k) b.Joined a.Joined ha.1
    (fun k hk s hs => by
      have hb1 := hb.1
      have hl := insS_len b.Joined[k] s false
      simp only [Bool.false_eq_true, if_false] at hl
      refine ⟨?_, by omega⟩
      simp only [esref10_Join.l3, lt_of_len hk, if_true, idx_nat hk, Option.bind_some, insert_eq _ _ (show s.length ≤ 1000 by omega), letV_of]
      rw [wcast hk (by omega)])
    (fun s _ => by simp only [esref10_Join.l3, not_lt_len]; rfl)
  have h2 := loopO_fold (step := esref10_Join.l2 b) (fun k s => ((k : Int), s)) (fun l x => insS x false l) (fun s => s) (fun k s => s.length ≤ m + k) b.Removed a.Removed ha.2.1
    (fun k hk s hs => by
      have hb1 := hb.2.1
      have hl := insS_len b.Removed[k] s false
      simp only [Bool.false_eq_true, if_false] at hl
      refine ⟨?_, by omega⟩
      simp only [esref10_Join.l2, lt_of_len hk, if_true, idx_nat hk, Option.bind_some, insert_eq _ _ (show s.length ≤ 1000 by omega), letV_of]
      rw [wcast hk (by omega)])
    (fun s _ => by simp only [esref10_Join.l2, not_lt_len]; rfl)
  have h3 := loopO_fold (step := esref10_Join.l1 b) (fun k s => ((k : Int), s)) (fun l x => wgS x false l) (fun s => s) (fun k s => s.length ≤ m + k) b.Weights a.Weights ha.2.2
    (fun k hk s hs => by
      have hb1 := hb.2.2
      have hl := wgS_len b.Weights[k] s false
      simp only [Bool.false_eq_true, if_false] at hl
      refine ⟨?_, by omega⟩
      simp only [esref10_Join.l1, lt_of_len hk, if_true, idx_nat hk, Option.bind_some, weigh_eq _ _ (show s.length ≤ 1000 by omega), letV_of]
      rw [wcast hk (by omega)])
    (fun s _ => by simp only [esref10_Join.l1, not_lt_len]; rfl)
  obtain ⟨e1, e2, e3⟩ := joinS_lists a b
  refine ⟨?_, ?_⟩
  · unfold esref10_Join
    obtain ⟨f1, _⟩ := h1
    rw [show ((0 : Nat) : Int) = 0 from rfl] at f1
    rw [f1]
    simp only [Option.bind_some]
    unfold esref10_Join.j5
    obtain ⟨f2, _⟩ := h2
    rw [show ((0 : Nat) : Int) = 0 from rfl] at f2
    rw [f2]
    simp only [Option.bind_some]
    unfold esref10_Join.j4
    obtain ⟨f3, _⟩ := h3
    rw [show ((0 : Nat) : Int) = 0 from rfl] at f3
    rw [f3]
    simp only [Option.bind_some]
    unfold esref10_Join.j3 esref10_Join.j2 esref10_Join.j1 joinS
    rw [show (⟨b.Rule.Kind, b.Rule.Columns, b.Rule.Faulty⟩ : api_Rule) = b.Rule from rfl, show (⟨a.Rule.Kind, a.Rule.Columns, a.Rule.Faulty⟩ : api_Rule) = a.Rule from rfl, later_eq]
    simp only [Option.bind_some]
    by_cases hz : b.Rule = zRule
    · rw [if_neg (by simpa using hz), if_neg (by simp [hz]), if_neg (show ¬ (b.Rule ≠ zRule ∧ _) from fun h => h.1 hz)]
    · rw [if_pos (by simpa using hz)]
      by_cases hy : a.Rule = zRule
      · rw [if_pos (by simpa using hy), if_pos trivial, if_pos ⟨hz, .inl hy⟩]
      · rw [if_neg (by simpa using hy)]
        by_cases hl : laterS ⟨0, 0, b.Version, b.Admin, b.Number⟩ ⟨0, 0, a.Version, a.Admin, a.Number⟩ = true
        · rw [if_pos hl, if_pos ⟨hz, .inr hl⟩]
        · rw [if_neg hl, if_neg (show ¬ (b.Rule ≠ zRule ∧ _) from fun h => h.2.elim hy hl)]
  · obtain ⟨b1, b2, b3⟩ := hb
    refine ⟨?_, ?_, ?_⟩
    · rw [e1]; have := h1.2; omega
    · rw [e2]; have := h2.2; omega
    · rw [e3]; have := h3.2; omega
end Go.Proofs.YthfoljpjhegkmaaDoor

/- The command language, as plain data: what summaries keep. -/
set_option linter.unusedVariables false
set_option linter.unusedSimpArgs false
namespace Go.Proofs.YthfoljpjhegkmaaDoor
open Go Go.Proofs.YthfoljpjhegkmaaDoorL

theorem wg_mem (w : api_WeightEntry) : ∀ (l : List api_WeightEntry) (put : Bool) (x : api_WeightEntry), x ∈ wgS w put l → x = w ∨ x ∈ l
  | [], put, x, h => by unfold wgS at h; cases put <;> simp at h; exact .inl h
  | y :: ys, put, x, h => by
    unfold wgS at h
    split at h
    · rcases List.mem_cons.1 h with h | h
      · split at h
        · exact .inl h
        · exact .inr (by simp [h])
      · rcases wg_mem w ys true x h with h | h
        · exact .inl h
        · exact .inr (by simp [h])
    · split at h
      · rcases List.mem_cons.1 h with h | h
        · exact .inl h
        · rcases List.mem_cons.1 h with h | h
          · exact .inr (by simp [h])
          · rcases wg_mem w ys true x h with h | h
            · exact .inl h
            · exact .inr (by simp [h])
      · rcases List.mem_cons.1 h with h | h
        · exact .inr (by simp [h])
        · rcases wg_mem w ys put x h with h | h
          · exact .inl h
          · exact .inr (by simp [h])
/-- Where the new entry is the latest of its server, no other of it stays. -/
theorem wg_only (w : api_WeightEntry) : ∀ (l : List api_WeightEntry) (put : Bool), (∀ y ∈ l, y.Server = w.Server → laterS w y = true) → ∀ x ∈ wgS w put l, x.Server = w.Server → x = w
  | [], put, _, x, h, _ => by unfold wgS at h; cases put <;> simp at h; exact h
  | y :: ys, put, hl, x, h, hx => by
    have hl' : ∀ z ∈ ys, z.Server = w.Server → laterS w z = true := fun z hz => hl z (by simp [hz])
    unfold wgS at h
    split at h
    · rename_i he
      rw [if_pos (hl y (by simp) he)] at h
      rcases List.mem_cons.1 h with h | h
      · exact h
      · exact wg_only w ys true hl' x h hx
    · rename_i he
      split at h
      · rcases List.mem_cons.1 h with h | h
        · exact h
        · rcases List.mem_cons.1 h with h | h
          · rw [h] at hx; exact absurd hx he
          · exact wg_only w ys true hl' x h hx
      · rcases List.mem_cons.1 h with h | h
        · rw [h] at hx; exact absurd hx he
        · exact wg_only w ys put hl' x h hx
/-- It is there. -/
theorem wg_has (w : api_WeightEntry) : ∀ (l : List api_WeightEntry), (∀ y ∈ l, y.Server = w.Server → laterS w y = true) → w ∈ wgS w false l
  | [], _ => by unfold wgS; simp
  | y :: ys, hl => by
    unfold wgS
    split
    · rename_i he
      rw [if_pos (hl y (by simp) he)]
      simp
    · split
      · simp
      · exact List.mem_cons_of_mem _ (wg_has w ys fun z hz => hl z (by simp [hz]))
/-- What is not later replaced stays. -/
theorem wg_stays (w : api_WeightEntry) (e : api_WeightEntry) (he : e.Server = w.Server → laterS w e = false) : ∀ (l : List api_WeightEntry) (put : Bool), e ∈ l → e ∈ wgS w put l
  | [], _, h => by simp at h
  | y :: ys, put, h => by
    unfold wgS
    rcases List.mem_cons.1 h with h | h
    · subst h
      split
      · rename_i hs
        rw [if_neg (by rw [he hs]; simp)]
        simp
      · split <;> simp
    · split
      · exact List.mem_cons_of_mem _ (wg_stays w e he ys true h)
      · split
        · exact List.mem_cons_of_mem _ (List.mem_cons_of_mem _ (wg_stays w e he ys true h))
        · exact List.mem_cons_of_mem _ (wg_stays w e he ys put h)
def Asc (l : List api_WeightEntry) : Prop := l.Pairwise fun a b => a.Server < b.Server
theorem wg_past (w : api_WeightEntry) : ∀ (l : List api_WeightEntry), (∀ y ∈ l, w.Server < y.Server) → wgS w true l = l
  | [], _ => by unfold wgS; simp
  | y :: ys, h => by
    have hy := h y (by simp)
    unfold wgS
    rw [if_neg (by omega), if_neg (by simp), wg_past w ys fun z hz => h z (by simp [hz])]
theorem wg_asc (w : api_WeightEntry) : ∀ (l : List api_WeightEntry), Asc l → Asc (wgS w false l)
  | [], _ => by unfold wgS; simp [Asc]
  | y :: ys, h => by
    have hp := List.pairwise_cons.1 h
    unfold wgS
    split
    · rename_i he
      rw [wg_past w ys (fun z hz => by rw [← he]; exact hp.1 z hz)]
      split
      · exact List.pairwise_cons.2 ⟨fun z hz => by rw [← he]; exact hp.1 z hz, hp.2⟩
      · exact h
    · rename_i he
      split
      · rename_i hl
        rw [wg_past w ys (fun z hz => by have := hp.1 z hz; have := hl.2; omega)]
        exact List.pairwise_cons.2 ⟨fun z hz => by
          rcases List.mem_cons.1 hz with hz | hz
          · rw [hz]; exact hl.2
          · have := hp.1 z hz; have := hl.2; omega, h⟩
      · rename_i hl
        refine List.pairwise_cons.2 ⟨fun z hz => ?_, wg_asc w ys hp.2⟩
        rcases wg_mem w ys false z hz with hz | hz
        · rw [hz]
          have : ¬ w.Server < y.Server := fun h => hl ⟨rfl, h⟩
          omega
        · exact hp.1 z hz
theorem asc_unique {l : List api_WeightEntry} (h : Asc l) {x y : api_WeightEntry} (hx : x ∈ l) (hy : y ∈ l) (he : x.Server = y.Server) : x = y := by
  induction l with
  | nil => simp at hx
  | cons a t ih =>
    have hp := List.pairwise_cons.1 h
    rcases List.mem_cons.1 hx with hx | hx <;> rcases List.mem_cons.1 hy with hy | hy
    · rw [hx, hy]
    · have := hp.1 y hy; rw [← hx] at this; omega
    · have := hp.1 x hx; rw [← hy] at this; omega
    · exact ih hp.2 hx hy
/-- The version that is looked up is that of every entry of the server. -/
theorem findS_mem {α β : Type} (p : α → Bool) (f : α → β) : ∀ (l : List α) (i : Nat), (∃ x ∈ l, p x = true ∧ findS p (fun _ x => f x) i l = some (f x)) ∨ ((∀ x ∈ l, p x = false) ∧ findS p (fun _ x => f x) i l = none)
  | [], _ => .inr ⟨by simp, rfl⟩
  | x :: xs, i => by
    rw [findS]
    by_cases h : p x = true
    · rw [if_pos h]; exact .inl ⟨x, by simp, h, rfl⟩
    · rw [if_neg h]
      rcases findS_mem p f xs (i + 1) with ⟨y, hy, hp, e⟩ | ⟨hn, e⟩
      · exact .inl ⟨y, by simp [hy], hp, e⟩
      · exact .inr ⟨fun y hy => by
          rcases List.mem_cons.1 hy with hy | hy
          · rw [hy]; exact (Bool.not_eq_true _).mp h
          · exact hn y hy, e⟩
theorem ent_all {l : List api_WeightEntry} (h : Asc l) (v : Int) : (∀ y ∈ l, y.Server = v → y.Version = entV l v) ∧ ((∀ y ∈ l, 0 ≤ y.Version) → 0 ≤ entV l v) := by
  unfold entV
  rcases findS_mem (fun w : api_WeightEntry => w.Server == v) (fun w => w.Version) l 0 with ⟨x, hx, hp, e⟩ | ⟨hn, e⟩
  · have hp' : x.Server = v := by simpa using hp
    rw [e]
    exact ⟨fun y hy hyv => by rw [asc_unique h hy hx (hyv.trans hp'.symm)]; rfl, fun h0 => h0 x hx⟩
  · rw [e]
    exact ⟨fun y hy hyv => absurd hyv (by have := hn y hy; simpa using this), fun _ => Int.le_refl _⟩
/-- What every summary keeps. -/
def Inv (s : api_Summary) : Prop := Asc s.Weights ∧ (∀ y ∈ s.Weights, 0 ≤ y.Version) ∧ 0 ≤ s.Version
theorem inv_fold {l b : List api_WeightEntry} (hl : Asc l ∧ ∀ y ∈ l, 0 ≤ y.Version) (hb : ∀ y ∈ b, 0 ≤ y.Version) : Asc (b.foldl (fun l x => wgS x false l) l) ∧ ∀ y ∈ b.foldl (fun l x => wgS x false l) l, 0 ≤ y.Version := by
  induction b generalizing l with
  | nil => exact hl
  | cons x xs ih =>
    rw [List.foldl_cons]
    refine ih ⟨wg_asc x l hl.1, fun y hy => ?_⟩ fun y hy => hb y (by simp [hy])
    rcases wg_mem x l false y hy with h | h
    · rw [h]; exact hb x (by simp)
    · exact hl.2 y h
theorem ofStep_inv {a n : Int} {s : api_Summary} {c : api_Change} (h : Inv s) (hc : 0 ≤ c.Version) : Inv (ofStep a n s c) := by
  obtain ⟨h1, h2, h3⟩ := h
  have hw : ∀ w : api_WeightEntry, 0 ≤ w.Version → ∀ y ∈ wgS w false s.Weights, 0 ≤ y.Version := fun w hw y hy => by
    rcases wg_mem w s.Weights false y hy with h | h
    · rw [h]; exact hw
    · exact h2 y h
  unfold ofStep
  split
  · exact ⟨wg_asc _ _ h1, hw _ (Int.le_refl _), h3⟩
  · split
    · exact ⟨h1, h2, h3⟩
    · split
      · exact ⟨wg_asc _ _ h1, hw _ hc, h3⟩
      · split
        · exact ⟨h1, h2, hc⟩
        · exact ⟨h1, h2, h3⟩
theorem ofFold_inv {a n : Int} : ∀ (cs : List api_Change) (s : api_Summary), Inv s → (∀ c ∈ cs, 0 ≤ c.Version) → Inv (cs.foldl (ofStep a n) s)
  | [], s, h, _ => h
  | c :: cs, s, h, hc => ofFold_inv cs _ (ofStep_inv h (hc c (by simp))) fun d hd => hc d (by simp [hd])
theorem zSum_inv : Inv zSum := ⟨List.Pairwise.nil, fun y hy => by simp at hy, Int.le_refl _⟩
theorem ofS_inv (p : api_Proposal) (h : ∀ c ∈ p.Changes, 0 ≤ c.Version) : Inv (ofS p) := ofFold_inv p.Changes zSum zSum_inv h
theorem joinS_inv {a b : api_Summary} (ha : Inv a) (hb : Inv b) : Inv (joinS a b) := by
  obtain ⟨_, _, e3⟩ := joinS_lists a b
  have hf := inv_fold ⟨ha.1, ha.2.1⟩ hb.2.1
  refine ⟨by rw [e3]; exact hf.1, by rw [e3]; exact hf.2, ?_⟩
  unfold joinS
  simp only
  split
  · exact hb.2.2
  · exact ha.2.2
/-- Pools that are right. -/
def PoolOk (p : List api_Proposal) : Prop := p.length ≤ 9 ∧ ∀ x ∈ p, x.Changes.length ≤ 2 ∧ ∀ c ∈ x.Changes, 0 ≤ c.Version
theorem summarize_eq (g : api_Genesis) (p : List api_Proposal) (s0 : api_Summary) (hi : esref10_Initial g = some s0) (hz : SZ s0 100) (h0 : Inv s0) (hp : PoolOk p) : ∃ s, esref10_Summarize g p = some s ∧ SZ s 500 ∧ Inv s := by
  have h := loopO_fold (step := esref10_Summarize.l1 p) (fun k s => ((k : Int), s)) (fun s x => joinS s (ofS x)) (fun s => s) (fun k s => SZ s (100 + 10 * k) ∧ Inv s) p s0 ⟨hz, h0⟩
    (fun k hk s hs => by
      obtain ⟨h1, h2⟩ := hs
      have hx := hp.2 p[k] (List.getElem_mem hk)
      have hl := hp.1
      obtain ⟨o1, o2⟩ := of_eq p[k] (by omega)
      obtain ⟨j1, j2⟩ := join_eq s (ofS p[k]) (100 + 10 * k) h1 (o2.mono (by omega)) (by omega)
      refine ⟨?_, j2.mono (by omega), joinS_inv h2 (ofS_inv p[k] hx.2)⟩
      simp only [esref10_Summarize.l1, lt_of_len hk, if_true, idx_nat hk, Option.bind_some, o1, j1, letV_of]
      rw [wcast hk (by omega)])
    (fun s _ => by simp only [esref10_Summarize.l1, not_lt_len]; rfl)
  obtain ⟨e, z, i⟩ := h
  unfold esref10_Summarize
  rw [hi]
  simp only [Option.bind_some]
  rw [show ((0 : Nat) : Int) = 0 from rfl] at e
  have hl := hp.1
  exact ⟨_, by rw [show (⟨s0.Joined, s0.Removed, s0.Weights, ⟨s0.Rule.Kind, s0.Rule.Columns, s0.Rule.Faulty⟩, s0.Version, s0.Admin, s0.Number⟩ : api_Summary) = s0 from rfl, e]; rfl, z.mono (by omega), i⟩
end Go.Proofs.YthfoljpjhegkmaaDoor

/- The command language, as plain data: the made inputs of CommandProposal. -/
set_option linter.unusedVariables false
set_option linter.unusedSimpArgs false
namespace Go.Proofs.YthfoljpjhegkmaaDoor
open Go Go.Proofs.YthfoljpjhegkmaaDoorL

theorem Index_ex (n k : Int) (h1 : 1 ≤ k) (h2 : k ≤ 4611686018427387904) : ∃ d, eslaw00_Index n k = some d ∧ 0 ≤ d ∧ d < k := by
  unfold eslaw00_Index
  rw [if_neg (by simp; omega), if_pos (by omega)]
  have e1 : Int.tmod n k < k := Int.tmod_lt_of_pos _ (by omega)
  have e2 : -k < Int.tmod n k := by
    have : Int.tmod (-n) k < k := Int.tmod_lt_of_pos _ (by omega)
    rw [Int.neg_tmod] at this
    omega
  simp only [letV_of]
  rw [w64 (by omega) (by omega), if_pos (by omega)]
  exact ⟨_, rfl, Int.tmod_nonneg _ (by omega), Int.tmod_lt_of_pos _ (by omega)⟩
theorem Digit_ex (n b : Int) (i : Nat) (h1 : 2 ≤ b) (h2 : b ≤ 16) (hi : i ≤ 100000) : ∃ d, eslaw00_Digit n b (i : Int) = some d ∧ 0 ≤ d ∧ d < b := by
  obtain ⟨x, hx, hx0, hx1⟩ := Index_ex n 1099511627776 (by decide) (by decide)
  unfold eslaw00_Digit
  rw [hx]
  simp only [Option.bind_some]
  have key : ∃ r, loopO (eslaw00_Digit.l1 b (i : Int)) (x, 0) = some r ∧ 0 ≤ r := by
    refine loopO_inv (fun k s => ∃ y : Int, s = (y, (k : Int)) ∧ 0 ≤ y ∧ y < 1099511627776) i ⟨x, rfl, hx0, hx1⟩ (fun k s hk hI => ?_) (fun s hI => ?_)
    · obtain ⟨y, rfl, h3, h4⟩ := hI
      simp only [eslaw00_Digit.l1]
      rw [if_pos (by simpa using hk), if_pos (by omega)]
      have h5 : 0 ≤ Int.tdiv y b := Int.tdiv_nonneg h3 (by omega)
      have h6 : Int.tdiv y b ≤ y := by
        rw [Int.tdiv_eq_ediv_of_nonneg h3]
        exact Int.ediv_le_self _ h3
      simp only [letV_of]
      rw [w64 (x := Int.tdiv y b) (by omega) (by omega), wcast hk (by omega)]
      exact ⟨_, rfl, _, rfl, h5, by omega⟩
    · obtain ⟨y, rfl, h3, h4⟩ := hI
      simp only [eslaw00_Digit.l1]
      rw [if_neg (by simp)]
      exact ⟨_, rfl, h3⟩
  obtain ⟨r, hr, hr0⟩ := key
  rw [hr]
  simp only [Option.bind_some, eslaw00_Digit.j1]
  rw [if_pos (by omega)]
  exact ⟨_, rfl, Int.tmod_nonneg _ hr0, Int.tmod_lt_of_pos _ (by omega)⟩
theorem At_ex (l : List Int) (i : Nat) (hl : l.length ≤ 4611686018427387904) : ∃ v, eslaw00_At l (i : Int) = some v := by
  unfold eslaw00_At
  by_cases h0 : l.length = 0
  · rw [if_pos (by simpa using h0)]; exact ⟨_, rfl⟩
  rw [if_neg (by simpa using h0)]
  obtain ⟨d, hd, d0, d1⟩ := Index_ex (i : Int) (l.length : Int) (by omega) (by omega)
  rw [hd]
  simp only [Option.bind_some]
  obtain ⟨k, rfl⟩ : ∃ k : Nat, d = k := ⟨d.toNat, by omega⟩
  rw [idx_nat (show k < l.length by omega)]
  exact ⟨_, rfl⟩
theorem Rule_ex (n : Int) : ∃ r, eslaw00_Rule n = some r := by
  obtain ⟨d, hd, h1, h2⟩ := Digit_ex n 8 0 (by decide) (by decide) (by decide)
  obtain ⟨c, hc, h3, h4⟩ := Digit_ex n 4 2 (by decide) (by decide) (by decide)
  obtain ⟨f, hf, h5, h6⟩ := Digit_ex n 2 3 (by decide) (by decide) (by decide)
  rw [show ((0 : Nat) : Int) = 0 from rfl] at hd
  rw [show ((2 : Nat) : Int) = 2 from rfl] at hc
  rw [show ((3 : Nat) : Int) = 3 from rfl] at hf
  unfold eslaw00_Rule eslaw00_Rule.j1
  rw [hd, hc, hf]
  simp only [Option.bind_some, letV_of]
  repeat' split
  all_goals exact ⟨_, rfl⟩
theorem Change_ex (n : Int) : ∃ c, eslaw00_Change n = some c ∧ 0 ≤ c.Version := by
  obtain ⟨d1, e1, _, _⟩ := Digit_ex n 8 1 (by decide) (by decide) (by decide)
  obtain ⟨d2, e2, _, _⟩ := Digit_ex n 8 0 (by decide) (by decide) (by decide)
  obtain ⟨d3, e3, _, _⟩ := Digit_ex n 4 3 (by decide) (by decide) (by decide)
  obtain ⟨d4, e4, p1, p2⟩ := Digit_ex n 2 9 (by decide) (by decide) (by decide)
  obtain ⟨d5, e5, _, _⟩ := Digit_ex n 12 1 (by decide) (by decide) (by decide)
  obtain ⟨d6, e6, _, _⟩ := Index_ex n 1099511627776 (by decide) (by decide)
  obtain ⟨r, hr⟩ := Rule_ex (IntKind.i64.wrap (Int.tdiv d6 64))
  rw [show ((1 : Nat) : Int) = 1 from rfl] at e1 e5
  rw [show ((0 : Nat) : Int) = 0 from rfl] at e2
  rw [show ((3 : Nat) : Int) = 3 from rfl] at e3
  rw [show ((9 : Nat) : Int) = 9 from rfl] at e4
  have w : IntKind.i64.wrap (1 + d4) = 1 + d4 := w64 (by omega) (by omega)
  have h0 : (0 : Int) ≤ 1 + d4 := by omega
  unfold eslaw00_Change eslaw00_Change.j2 eslaw00_Change.j1
  rw [e1, e2, e3, e4, e5, e6]
  simp only [Option.bind_some, letV_of, hr, w]
  repeat' split
  all_goals first | exact ⟨_, rfl, Int.le_refl _⟩ | exact ⟨_, rfl, h0⟩
theorem Pool_ex (l : List Int) (hl : l.length ≤ 4611686018427387904) : ∃ p, eslaw00_Pool l = some p ∧ PoolOk p := by
  have inner : ∀ (a : Nat) (out : List api_Proposal) (at_ : Nat), a < 3 → out.length ≤ 3 * a → at_ ≤ 3 + 6 * a → (∀ x ∈ out, x.Changes.length ≤ 2 ∧ ∀ c ∈ x.Changes, 0 ≤ c.Version) →
      ∃ r : List api_Proposal × Int, loopO (eslaw00_Pool.l1 l (a : Int)) (out, (at_ : Int), 0) = some r ∧ ∃ b : Nat, r.2 = b ∧ r.1.length ≤ 3 * a + 3 ∧ b ≤ 3 + 6 * a + 6 ∧ (∀ x ∈ r.1, x.Changes.length ≤ 2 ∧ ∀ c ∈ x.Changes, 0 ≤ c.Version) := by
    intro a out at_ ha ho hat hok
    obtain ⟨v, hv⟩ := At_ex l a hl
    obtain ⟨d, hd, d0, d1⟩ := Digit_ex v 4 0 (by decide) (by decide) (by decide)
    rw [show ((0 : Nat) : Int) = 0 from rfl] at hd
    obtain ⟨d, rfl⟩ : ∃ k : Nat, d = k := ⟨d.toNat, by omega⟩
    refine loopO_inv (fun k s => ∃ (o : List api_Proposal) (b : Nat), s = (o, (b : Int), (k : Int)) ∧ o.length ≤ 3 * a + k ∧ b ≤ 3 + 6 * a + 2 * k ∧ (∀ x ∈ o, x.Changes.length ≤ 2 ∧ ∀ c ∈ x.Changes, 0 ≤ c.Version)) d ⟨out, at_, rfl, by omega, by omega, hok⟩ (fun k s hk hI => ?_) (fun s hI => ?_)
    · obtain ⟨o, b, rfl, h1, h2, h3⟩ := hI
      obtain ⟨v1, e1⟩ := At_ex l b hl
      obtain ⟨c1, f1, g1⟩ := Change_ex v1
      obtain ⟨v2, e2⟩ := At_ex l (b + 1) hl
      obtain ⟨c2, f2, g2⟩ := Change_ex v2
      obtain ⟨q, hq, _, _⟩ := Digit_ex v1 2 12 (by decide) (by decide) (by decide)
      rw [show ((12 : Nat) : Int) = 12 from rfl] at hq
      have j3 : ∀ (x52 x53 : Int) (cs : List api_Change), cs.length ≤ 2 → (∀ c ∈ cs, 0 ≤ c.Version) → ∃ s', eslaw00_Pool.j3 o (b : Int) (k : Int) x52 x53 cs = some (.inl s') ∧ ∃ (o' : List api_Proposal) (b' : Nat), s' = (o', (b' : Int), ((k + 1 : Nat) : Int)) ∧ o'.length ≤ 3 * a + (k + 1) ∧ b' ≤ 3 + 6 * a + 2 * (k + 1) ∧ (∀ x ∈ o', x.Changes.length ≤ 2 ∧ ∀ c ∈ x.Changes, 0 ≤ c.Version) := by
        intro x52 x53 cs hc hv
        unfold eslaw00_Pool.j3
        rw [app_of (by simp; omega)]
        simp only [Option.bind_some, letV_of]
        rw [wcast hk (by omega), show IntKind.i64.wrap ((b : Int) + 2) = ((b + 2 : Nat) : Int) by rw [w64 (by omega) (by omega)]; omega]
        refine ⟨_, rfl, _, b + 2, rfl, by simp; omega, by omega, fun x hx => ?_⟩
        rcases List.mem_append.1 hx with hx | hx
        · exact h3 x hx
        · rw [List.mem_singleton.1 hx]; exact ⟨hc, hv⟩
      have j4 : ∀ (x52 x53 : Int) (t : Bool), ∃ s', eslaw00_Pool.j4 o (b : Int) (k : Int) x52 x53 c1 c2 t = some (.inl s') ∧ ∃ (o' : List api_Proposal) (b' : Nat), s' = (o', (b' : Int), ((k + 1 : Nat) : Int)) ∧ o'.length ≤ 3 * a + (k + 1) ∧ b' ≤ 3 + 6 * a + 2 * (k + 1) ∧ (∀ x ∈ o', x.Changes.length ≤ 2 ∧ ∀ c ∈ x.Changes, 0 ≤ c.Version) := by
        intro x52 x53 t
        unfold eslaw00_Pool.j4
        cases t with
        | true =>
          rw [if_pos rfl, app_of (by simp)]
          exact j3 _ _ [c1, c2] (by simp) (fun c hc => by
            rcases List.mem_cons.1 hc with hc | hc
            · rw [hc]; exact g1
            · rw [List.mem_singleton.1 hc]; exact g2)
        | false =>
          rw [if_neg (by simp)]
          exact j3 _ _ [c1] (by simp) (fun c hc => by rw [List.mem_singleton.1 hc]; exact g1)
      simp only [eslaw00_Pool.l1, hv, Option.bind_some, hd]
      rw [if_pos (by rw [decide_eq_true_iff]; omega)]
      simp only [letV_of, e1, Option.bind_some, f1]
      rw [show IntKind.i64.wrap ((b : Int) + 1) = ((b + 1 : Nat) : Int) from w64n (by omega), e2]
      simp only [Option.bind_some, f2, hq, idx_zero]
      repeat' split
      all_goals exact j4 _ _ _
    · obtain ⟨o, b, rfl, h1, h2, h3⟩ := hI
      simp only [eslaw00_Pool.l1, hv, Option.bind_some, hd]
      rw [if_neg (by rw [decide_eq_true_iff]; omega)]
      exact ⟨_, rfl, b, rfl, by simp only; omega, by omega, h3⟩
  have outer : ∃ p : List api_Proposal, loopO (eslaw00_Pool.l2 l) ([], 3, 0) = some p ∧ PoolOk p := by
    refine loopO_inv (fun k s => ∃ (o : List api_Proposal) (b : Nat), s = (o, (b : Int), (k : Int)) ∧ o.length ≤ 3 * k ∧ b ≤ 3 + 6 * k ∧ (∀ x ∈ o, x.Changes.length ≤ 2 ∧ ∀ c ∈ x.Changes, 0 ≤ c.Version)) 3 ⟨[], 3, rfl, by simp, by omega, by simp⟩ (fun k s hk hI => ?_) (fun s hI => ?_)
    · obtain ⟨o, b, rfl, h1, h2, h3⟩ := hI
      obtain ⟨r, hr, b', hb', q1, q2, q3⟩ := inner k o b hk h1 h2 h3
      simp only [eslaw00_Pool.l2]
      rw [if_pos (by rw [decide_eq_true_iff]; omega), hr]
      obtain ⟨r1, r2⟩ := r
      simp only at hb' q1 q3
      subst hb'
      simp only [Option.bind_some, eslaw00_Pool.j2, letV_of]
      rw [wcast hk (by omega)]
      exact ⟨_, rfl, r1, b', rfl, by omega, by omega, q3⟩
    · obtain ⟨o, b, rfl, h1, h2, h3⟩ := hI
      simp only [eslaw00_Pool.l2]
      rw [if_neg (by decide)]
      exact ⟨_, rfl, by omega, h3⟩
  obtain ⟨p, hp, hok⟩ := outer
  unfold eslaw00_Pool
  rw [hp]
  exact ⟨p, rfl, hok⟩
theorem Genesis_ex (n : Int) : ∃ g, eslaw00_Genesis n = some g ∧ g.Members.length ≤ 5 ∧ g.Members.Pairwise (fun a b => a.Server < b.Server) := by
  obtain ⟨r, hr⟩ := Rule_ex n
  obtain ⟨d, hd, d0, d1⟩ := Digit_ex n 5 4 (by decide) (by decide) (by decide)
  rw [show ((4 : Nat) : Int) = 4 from rfl] at hd
  obtain ⟨d, rfl⟩ : ∃ k : Nat, d = k := ⟨d.toNat, by omega⟩
  have key : ∃ l, loopO (eslaw00_Genesis.l1 n) (0, []) = some l ∧ l.length ≤ 5 ∧ l.Pairwise fun a b => a.Server < b.Server := by
    refine loopO_inv (fun k s => ∃ l : List api_Member, s = ((k : Int), l) ∧ l.length ≤ k ∧ (∀ x ∈ l, x.Server ≤ k) ∧ l.Pairwise fun a b => a.Server < b.Server) (d + 1) ⟨[], rfl, by simp, by simp, by simp⟩ (fun k s hk hI => ?_) (fun s hI => ?_)
    · obtain ⟨l, rfl, h1, h2, h3⟩ := hI
      obtain ⟨e, he, h4, h5⟩ := Digit_ex n 3 (6 + k) (by decide) (by decide) (by omega)
      simp only [eslaw00_Genesis.l1, hd, Option.bind_some]
      rw [if_pos (by rw [decide_eq_true_iff]; omega)]
      simp only [letV_of, wcast hk (by omega)]
      rw [show IntKind.i64.wrap (6 + (k : Int)) = ((6 + k : Nat) : Int) by rw [w64 (by omega) (by omega)]; omega, he]
      simp only [Option.bind_some]
      rw [app_of (by simp; omega)]
      refine ⟨_, rfl, _, rfl, by simp; omega, fun x hx => ?_, ?_⟩
      · rcases List.mem_append.1 hx with hx | hx
        · have := h2 x hx; omega
        · rw [List.mem_singleton.1 hx]; simp only; omega
      · refine List.pairwise_append.2 ⟨h3, List.pairwise_singleton .., fun x hx y hy => ?_⟩
        rw [List.mem_singleton.1 hy]
        have := h2 x hx
        simp only
        omega
    · obtain ⟨l, rfl, h1, h2, h3⟩ := hI
      simp only [eslaw00_Genesis.l1, hd, Option.bind_some]
      rw [if_neg (by rw [decide_eq_true_iff]; omega)]
      exact ⟨_, rfl, by omega, h3⟩
  obtain ⟨l, hl, h1, h2⟩ := key
  unfold eslaw00_Genesis
  rw [hr]
  simp only [Option.bind_some]
  rw [hl]
  exact ⟨_, rfl, h1, h2⟩
def entS (m : api_Member) : api_WeightEntry := ⟨m.Server, m.Weight, 0, 0, 0⟩
theorem initial_eq (g : api_Genesis) (h : g.Members.length ≤ 5) (hp : g.Members.Pairwise (fun a b => a.Server < b.Server)) : ∃ s, esref10_Initial g = some s ∧ SZ s 100 ∧ Inv s := by
  have hl := loopO_up (step := esref10_Initial.l1 g) (fun k : Nat => ((k : Int), (g.Members.take k).map (·.Server), (g.Members.take k).map entS)) g.Members.length (b := (g.Members.map (·.Server), g.Members.map entS))
    (fun k hk => by
      simp only [esref10_Initial.l1, lt_of_len hk, if_true, idx_nat hk, Option.bind_some]
      rw [app_of (by simp; omega)]
      simp only [Option.bind_some]
      rw [app_of (by simp; omega)]
      simp only [Option.bind_some, letV_of]
      rw [wcast hk (by omega), take_snoc hk, List.map_append, List.map_append]
      rfl)
    (by simp only [esref10_Initial.l1, not_lt_len, List.take_length]; rfl)
  unfold esref10_Initial
  rw [show ((0 : Nat) : Int) = 0 from rfl] at hl
  simp only [List.take_zero, List.map_nil] at hl
  rw [hl]
  refine ⟨_, rfl, ⟨by simp; omega, by simp, by simp; omega⟩, ?_, ?_, Int.le_refl _⟩
  · exact List.Pairwise.map entS (fun a b h => h) hp
  · intro y hy
    obtain ⟨m, _, rfl⟩ := List.mem_map.1 hy
    exact Int.le_refl _
end Go.Proofs.YthfoljpjhegkmaaDoor

/- The command language, as plain data: what a proposal of commands is. -/
set_option linter.unusedVariables false
set_option linter.unusedSimpArgs false
set_option maxRecDepth 10000
namespace Go.Proofs.YthfoljpjhegkmaaDoor
open Go Go.Proofs.YthfoljpjhegkmaaDoorL

def forms : List (List UInt8) := [[106, 111, 105, 110, 32, 57], [106, 111, 105, 110, 32, 49, 48, 32, 119, 101, 105, 103, 104, 116, 32, 51], [114, 101, 109, 111, 118, 101, 32, 49], [114, 101, 109, 111, 118, 101, 32, 50], [119, 101, 105, 103, 104, 116, 32, 49, 32, 52], [119, 101, 105, 103, 104, 116, 32, 50, 32, 50], [114, 117, 108, 101, 32, 119, 101, 105, 103, 104, 116, 101, 100], [114, 117, 108, 101, 32, 103, 114, 105, 100, 32, 50], [114, 117, 108, 101, 32, 109, 97, 115, 107, 105, 110, 103, 32, 49], [], [35, 32, 110, 111, 116, 101], [106, 111, 105, 110, 32, 52]]
theorem forms_ok : ∀ f ∈ forms, ((parS f).1.Kind = 1 → (parS f).1.Server ≠ 1 ∧ (parS f).1.Server ≠ 2) ∧ ((parS f).1.Kind = 3 → (parS f).1.Server = 1 ∨ (parS f).1.Server = 2) ∧ (∀ x ∈ f, x ≠ 10) ∧ f.length ≤ 20 := by decide +kernel
theorem par_valid {x : List UInt8} (h : (parS x).2 = 0) : valS (verS (parS x).1) = 0 := by
  unfold parS at h ⊢
  cases hs : synS (spl 32 x) with
  | none => rw [hs] at h; simp at h
  | some c =>
    rw [hs] at h
    simp only at h ⊢
    by_cases hv : valS (verS c) = 0
    · rw [if_pos hv]; exact hv
    · rw [if_neg hv] at h; exact absurd h hv
/-- A change that is right keeps it with any version that is allowed. -/
theorem val_kinds {c : api_Change} (h : valS (verS c) = 0) : ((c.Kind = 1 ∨ c.Kind = 2) → valS c = 0) ∧ ((c.Kind = 3 ∨ c.Kind = 4) → ∀ v, 1 ≤ v → v ≤ 1000 → valS { c with Version := v } = 0) ∧ (c.Kind = 4 → c.Server = 0 ∧ c.Rule ≠ zRule) := by
  rcases right_of h with ⟨n, m, h1, h2, h3, h4, rfl⟩ | ⟨n, h1, h2, rfl⟩ | ⟨n, m, v, h1, h2, h3, h4, rfl⟩ | ⟨v, rfl⟩ | ⟨v, rfl⟩ | ⟨n, v, h1, h2, rfl⟩ | ⟨n, v, h1, rfl⟩
  · refine ⟨fun _ => h, fun hk => ?_, fun hk => ?_⟩
    · exact absurd hk (by simp)
    · exact absurd hk (by simp)
  · refine ⟨fun _ => h, fun hk => ?_, fun hk => ?_⟩
    · exact absurd hk (by simp)
    · exact absurd hk (by simp)
  · refine ⟨fun hk => absurd hk (by simp), fun _ v v1 v2 => ?_, fun hk => absurd hk (by simp)⟩
    unfold valS
    have i1 : inR (n : Int) 1 12 := ⟨by omega, by omega⟩
    have i2 : inR (m : Int) 1 9 := ⟨by omega, by omega⟩
    have i3 : inR v 1 1000 := ⟨v1, v2⟩
    simp [i1.1, i1.2, i2.1, i2.2, i3.1, i3.2]
  all_goals refine ⟨fun hk => absurd hk (by simp), fun _ v' v1 v2 => ?_, fun _ => ⟨rfl, by simp⟩⟩
  all_goals
    have i3 : inR v' 1 1000 := ⟨v1, v2⟩
    unfold valS valR
    simp [i3.1, i3.2]
    try omega
/-- The changes of a proposal, so far. -/
structure Good (s : api_Summary) (cs : List api_Change) : Prop where
  len : cs.length ≤ 6
  each : ∀ d ∈ cs, valS d = 0 ∧ (d.Kind = 3 → d.Version = entV s.Weights d.Server + 1) ∧ (d.Kind = 4 → d.Version = s.Version + 1 ∧ d.Server = 0 ∧ d.Rule ≠ zRule) ∧ (d.Kind = 1 → d.Server ≠ 1 ∧ d.Server ≠ 2) ∧ (d.Kind = 3 → d.Server = 1 ∨ d.Server = 2)
  dup : cs.Pairwise fun a b => ¬ (a.Kind = b.Kind ∧ a.Server = b.Server)
theorem chk_good {s : api_Summary} {cs : List api_Change} {f : List UInt8} (hs : Inv s) (hg : Good s cs) (hf : f ∈ forms) (hp : (parS f).2 = 0) (hk : (chkS (parS f).1 s cs).2 = 0) : Good s (cs ++ [(chkS (parS f).1 s cs).1]) := by
  have hl := chk_len hk
  obtain ⟨q1, q3, _, _⟩ := forms_ok f hf
  have hkd := par_kind hp
  obtain ⟨v12, v34, v4⟩ := val_kinds (par_valid hp)
  generalize (parS f).1 = c at *
  have hv0 := (ent_all hs.1 c.Server).2 hs.2.1
  have hs0 := hs.2.2
  -- what the check answers
  have key : (chkS c s cs).1.Kind = c.Kind ∧ (chkS c s cs).1.Server = c.Server ∧ (chkS c s cs).1.Rule = c.Rule ∧ valS (chkS c s cs).1 = 0 ∧ (c.Kind = 3 → (chkS c s cs).1.Version = entV s.Weights c.Server + 1) ∧ (c.Kind = 4 → (chkS c s cs).1.Version = s.Version + 1) ∧ (cs.any fun d => d.Kind == c.Kind && d.Server == c.Server) = false := by
    unfold chkS at hk ⊢
    rw [if_neg (by omega)] at hk ⊢
    by_cases hd : (cs.any fun d => d.Kind == c.Kind && d.Server == c.Server) = true
    · rw [if_pos hd] at hk; simp at hk
    rw [if_neg hd] at hk ⊢
    have hd' := (Bool.not_eq_true _).mp hd
    have ver : ∀ v : Int, (c.Kind = 3 ∨ c.Kind = 4) → 0 ≤ v → (if 1000 ≤ v then (({ c with Version := v }, 9) : api_Change × Int) else ({ c with Version := IntKind.i64.wrap (v + 1) }, 0)).2 = 0 → (if 1000 ≤ v then (({ c with Version := v }, 9) : api_Change × Int) else ({ c with Version := IntKind.i64.wrap (v + 1) }, 0)).1 = { c with Version := v + 1 } ∧ valS { c with Version := v + 1 } = 0 := by
      intro v hc h0 h
      by_cases hv : 1000 ≤ v
      · rw [if_pos hv] at h; simp at h
      · rw [if_neg hv, w64 (by omega) (by omega)]
        exact ⟨rfl, v34 hc _ (by omega) (by omega)⟩
    rcases hkd with k | k | k | k
    · rw [if_pos k] at hk ⊢
      by_cases hj : (s.Joined.any (c.Server == ·) || s.Removed.any (c.Server == ·)) = true
      · rw [if_pos hj] at hk; simp at hk
      · rw [if_neg hj]
        exact ⟨rfl, rfl, rfl, v12 (.inl k), fun h => by omega, fun h => by omega, hd'⟩
    · rw [if_neg (by omega), if_pos k] at hk ⊢
      by_cases hj : known c s cs = true
      · rw [if_pos hj]
        exact ⟨rfl, rfl, rfl, v12 (.inr k), fun h => by omega, fun h => by omega, hd'⟩
      · rw [if_neg hj] at hk; simp at hk
    · rw [if_neg (by omega), if_neg (by omega), if_pos k] at hk ⊢
      by_cases hj : known c s cs = true
      · rw [if_pos hj] at hk ⊢
        unfold verN at hk ⊢
        rw [if_neg (show ¬ c.Kind = 4 by omega)] at hk ⊢
        obtain ⟨e1, e2⟩ := ver (entV s.Weights c.Server) (.inl k) hv0 hk
        simp only
        rw [e1]
        exact ⟨rfl, rfl, rfl, e2, fun _ => rfl, fun h => by omega, hd'⟩
      · rw [if_neg hj] at hk; simp at hk
    · rw [if_neg (by omega), if_neg (by omega), if_neg (by omega)] at hk ⊢
      unfold verN at hk ⊢
      rw [if_pos k] at hk ⊢
      obtain ⟨e1, e2⟩ := ver s.Version (.inr k) hs0 hk
      simp only
      rw [e1]
      exact ⟨rfl, rfl, rfl, e2, fun h => by omega, fun _ => rfl, hd'⟩
  generalize (chkS c s cs).1 = d at key ⊢
  obtain ⟨k1, k2, k3, k4, k5, k6, k7⟩ := key
  refine ⟨by simp; omega, fun x hx => ?_, ?_⟩
  · rcases List.mem_append.1 hx with hx | hx
    · exact hg.each x hx
    · rw [List.mem_singleton.1 hx, k1, k2, k3]
      exact ⟨k4, k5, fun h => ⟨k6 h, v4 h⟩, q1, q3⟩
  · refine List.pairwise_append.2 ⟨hg.dup, List.pairwise_singleton .., fun x hx y hy => ?_⟩
    rw [List.mem_singleton.1 hy, k1, k2]
    rintro ⟨e1, e2⟩
    have := (List.any_eq_false.1 k7) x hx
    simp [e1, e2] at this
theorem com_good {s : api_Summary} (hs : Inv s) : ∀ (ls : List (List UInt8)) (acc : List api_Change) (i : Nat), (∀ f ∈ ls, f ∈ forms) → Good s acc →
    ((comS s acc i ls).2.2 = 0 ∧ Good s (comS s acc i ls).1 ∧ (comS s acc i ls).1 ≠ []) ∨ ((comS s acc i ls).2.2 ≠ 0 ∧ (comS s acc i ls).1 = [])
  | [], acc, i, _, hg => by
    unfold comS
    by_cases h : acc.length = 0
    · rw [if_pos h]; exact .inr ⟨by simp, rfl⟩
    · rw [if_neg h]; exact .inl ⟨rfl, hg, fun e => h (by simp only at e; rw [e]; rfl)⟩
  | x :: xs, acc, i, hf, hg => by
    have hf' : ∀ f ∈ xs, f ∈ forms := fun f h => hf f (by simp [h])
    rw [comS]
    by_cases h1 : x = [] ∨ x.head? = some 35
    · rw [if_pos h1]; exact com_good hs xs acc (i + 1) hf' hg
    rw [if_neg h1]
    by_cases h2 : (parS x).2 ≠ 0
    · rw [if_pos h2]; exact .inr ⟨h2, rfl⟩
    rw [if_neg h2]
    by_cases h3 : (chkS (parS x).1 s acc).2 ≠ 0
    · rw [if_pos h3]; exact .inr ⟨h3, rfl⟩
    rw [if_neg h3]
    exact com_good hs xs _ (i + 1) hf' (chk_good hs hg (hf x (by simp)) (Classical.not_not.1 h2) (Classical.not_not.1 h3))
theorem valid_eq (cs : List api_Change) (h0 : cs ≠ []) (h1 : cs.length ≤ 6) (h2 : ∀ d ∈ cs, valS d = 0) (h3 : cs.Pairwise fun a b => ¬ (a.Kind = b.Kind ∧ a.Server = b.Server)) : esref06_ValidateProposal ⟨201, 1, cs⟩ = some 0 := by
  have hlen : cs.length ≠ 0 := fun e => h0 (List.length_eq_zero_iff.1 e)
  have inner : ∀ i : Nat, i < cs.length → loopO (esref06_ValidateProposal.l1 ⟨201, 1, cs⟩ (i : Int)) 0 = some (.inl ()) := by
    intro i hi
    have h := loopO_up (step := esref06_ValidateProposal.l1 ⟨201, 1, cs⟩ (i : Int)) (fun k : Nat => (k : Int)) i (b := .inl ())
      (fun k hk => by
        have hk' : k < cs.length := by omega
        have hne := List.pairwise_iff_getElem.1 h3 k i hk' hi hk
        simp only [esref06_ValidateProposal.l1]
        rw [if_pos (by rw [decide_eq_true_iff]; omega), idx_nat hk', idx_nat hi]
        simp only [Option.bind_some, esref06_ValidateProposal.j3, letV_of]
        rw [w64n (by omega)]
        by_cases e1 : cs[k].Kind = cs[i].Kind
        · have e2 : (cs[k].Server == cs[i].Server) = false := by rw [beq_eq_false_iff_ne]; exact fun e2 => hne ⟨e1, e2⟩
          rw [if_pos (by simpa using e1), e2]
          rfl
        · rw [if_neg (by simpa using e1)]
          rfl)
      (by simp only [esref06_ValidateProposal.l1, not_lt_len]; rfl)
    rwa [show ((0 : Nat) : Int) = 0 from rfl] at h
  have outer := loopO_up (step := esref06_ValidateProposal.l2 ⟨201, 1, cs⟩) (fun k : Nat => (k : Int)) cs.length (b := .inl ())
    (fun k hk => by
      simp only [esref06_ValidateProposal.l2, lt_of_len hk, if_true, idx_nat hk, Option.bind_some, val2, h2 _ (List.getElem_mem hk), inner k hk, esref06_ValidateProposal.j2, letV_of]
      rw [if_neg (by simp), w64n (by omega)])
    (by simp only [esref06_ValidateProposal.l2, not_lt_len]; rfl)
  rw [show ((0 : Nat) : Int) = 0 from rfl] at outer
  unfold esref06_ValidateProposal
  rw [show esref06_Admin 201 = some true from by unfold esref06_Admin esref06_Admin.j1; decide]
  simp only [Option.bind_some, Bool.not_true, Bool.false_eq_true, if_false]
  rw [if_neg (by simp), show (decide ((3 : Int) < 1)) = false from rfl]
  unfold esref06_ValidateProposal.j4
  rw [if_neg (by simp), if_neg (by rw [beq_iff_eq]; simp only; omega), if_neg (by rw [decide_eq_true_iff]; simp only; omega), outer]
  rfl
/-- The rule of a proposal. -/
theorem of_rule (a n : Int) (R : api_Rule) (V : Int) : ∀ (cs : List api_Change) (s : api_Summary), (∀ d ∈ cs, d.Kind = 4 → d.Rule = R ∧ d.Version = V) → ((∃ d ∈ cs, d.Kind = 4) ∨ (s.Rule = R ∧ s.Version = V)) →
    (cs.foldl (ofStep a n) s).Rule = R ∧ (cs.foldl (ofStep a n) s).Version = V
  | [], s, _, h => by rcases h with ⟨d, hd, _⟩ | h; · simp at hd
                      · exact h
  | c :: cs, s, hall, h => by
    rw [List.foldl_cons]
    refine of_rule a n R V cs _ (fun d hd => hall d (by simp [hd])) ?_
    by_cases k : c.Kind = 4
    · right
      unfold ofStep
      rw [if_neg (by omega), if_neg (by omega), if_neg (by omega), if_pos k]
      exact hall c (by simp) k
    · rcases h with ⟨d, hd, hk⟩ | h
      · rcases List.mem_cons.1 hd with e | hd
        · rw [e] at hk; exact absurd hk k
        · exact .inl ⟨d, hd, hk⟩
      · right
        unfold ofStep
        repeat' split
        all_goals first | exact h | contradiction
/-- The weight of a server in a proposal. -/
theorem of_weights (a n : Int) (sv : Int) (c : api_Change) (hc3 : c.Kind = 3) (hcs : c.Server = sv) : ∀ (cs : List api_Change) (s : api_Summary), (∀ d ∈ cs, (d.Kind = 1 → d.Server ≠ sv) ∧ (d.Kind = 3 → d.Server = sv → d = c)) →
    ((c ∈ cs ∧ ∀ y ∈ s.Weights, y.Server ≠ sv) ∨ ((⟨sv, c.Weight, c.Version, a, n⟩ : api_WeightEntry) ∈ s.Weights ∧ ∀ y ∈ s.Weights, y.Server = sv → y = ⟨sv, c.Weight, c.Version, a, n⟩)) →
    (⟨sv, c.Weight, c.Version, a, n⟩ : api_WeightEntry) ∈ (cs.foldl (ofStep a n) s).Weights ∧ ∀ y ∈ (cs.foldl (ofStep a n) s).Weights, y.Server = sv → y = ⟨sv, c.Weight, c.Version, a, n⟩
  | [], s, _, h => by rcases h with ⟨h, _⟩ | h; · simp at h
                      · exact h
  | d :: cs, s, hall, h => by
    rw [List.foldl_cons]
    refine of_weights a n sv c hc3 hcs cs _ (fun e he => hall e (by simp [he])) ?_
    obtain ⟨p1, p3⟩ := hall d (by simp)
    -- an entry of another server
    have other : ∀ w : api_WeightEntry, w.Server ≠ sv → (∀ y ∈ s.Weights, y.Server ≠ sv) → ∀ y ∈ wgS w false s.Weights, y.Server ≠ sv := by
      intro w hw hn y hy
      rcases wg_mem w s.Weights false y hy with e | e
      · rw [e]; exact hw
      · exact hn y e
    have other2 : ∀ w : api_WeightEntry, w.Server ≠ sv → ((⟨sv, c.Weight, c.Version, a, n⟩ : api_WeightEntry) ∈ s.Weights ∧ ∀ y ∈ s.Weights, y.Server = sv → y = ⟨sv, c.Weight, c.Version, a, n⟩) → ((⟨sv, c.Weight, c.Version, a, n⟩ : api_WeightEntry) ∈ wgS w false s.Weights ∧ ∀ y ∈ wgS w false s.Weights, y.Server = sv → y = ⟨sv, c.Weight, c.Version, a, n⟩) := by
      intro w hw hn
      refine ⟨wg_stays w _ (fun e => absurd e.symm hw) _ _ hn.1, fun y hy hs => ?_⟩
      rcases wg_mem w s.Weights false y hy with e | e
      · rw [e] at hs; exact absurd hs hw
      · exact hn.2 y e hs
    unfold ofStep
    by_cases k1 : d.Kind = 1
    · rw [if_pos k1]
      have hd := p1 k1
      rcases h with ⟨hm, hn⟩ | h
      · refine .inl ⟨?_, other _ hd hn⟩
        rcases List.mem_cons.1 hm with e | e
        · rw [e] at hc3; omega
        · exact e
      · exact .inr (other2 _ hd h)
    rw [if_neg k1]
    by_cases k2 : d.Kind = 2
    · rw [if_pos k2]
      rcases h with ⟨hm, hn⟩ | h
      · refine .inl ⟨?_, hn⟩
        rcases List.mem_cons.1 hm with e | e
        · rw [e] at hc3; omega
        · exact e
      · exact .inr h
    rw [if_neg k2]
    by_cases k3 : d.Kind = 3
    · rw [if_pos k3]
      by_cases ks : d.Server = sv
      · have e := p3 k3 ks
        subst e
        right
        rw [hcs]
        have hlast : ∀ y ∈ s.Weights, y.Server = sv → laterS (⟨sv, d.Weight, d.Version, a, n⟩ : api_WeightEntry) y = true ∨ y = ⟨sv, d.Weight, d.Version, a, n⟩ := by
          intro y hy hys
          rcases h with ⟨_, hn⟩ | h
          · exact absurd hys (hn y hy)
          · exact .inr (h.2 y hy hys)
        rcases h with ⟨_, hn⟩ | h
        · exact ⟨wg_has _ _ fun y hy hys => absurd hys (hn y hy), fun y hy hys => wg_only _ _ _ (fun z hz hzs => absurd hzs (hn z hz)) y hy hys⟩
        · refine ⟨wg_stays _ _ (fun _ => ?_) _ _ h.1, fun y hy hys => ?_⟩
          · unfold laterS; simp
          · rcases wg_mem _ s.Weights false y hy with e | e
            · exact e
            · exact h.2 y e hys
      · rcases h with ⟨hm, hn⟩ | h
        · refine .inl ⟨?_, other _ ks hn⟩
          rcases List.mem_cons.1 hm with e | e
          · rw [e] at hcs; exact absurd hcs ks
          · exact e
        · exact .inr (other2 _ ks h)
    rw [if_neg k3]
    have rest : ∀ s' : api_Summary, s'.Weights = s.Weights → ((c ∈ cs ∧ ∀ y ∈ s'.Weights, y.Server ≠ sv) ∨ ((⟨sv, c.Weight, c.Version, a, n⟩ : api_WeightEntry) ∈ s'.Weights ∧ ∀ y ∈ s'.Weights, y.Server = sv → y = ⟨sv, c.Weight, c.Version, a, n⟩)) := by
      intro s' e
      rw [e]
      rcases h with ⟨hm, hn⟩ | h
      · refine .inl ⟨?_, hn⟩
        rcases List.mem_cons.1 hm with e | e
        · rw [e] at hc3; omega
        · exact e
      · exact .inr h
    by_cases k4 : d.Kind = 4
    · rw [if_pos k4]; exact rest _ rfl
    · rw [if_neg k4]; exact rest _ rfl
/-- The weight of a server where summaries are put together. -/
theorem join_weights (E : api_WeightEntry) : ∀ (ws l : List api_WeightEntry), (∀ w ∈ ws, w.Server = E.Server → w = E) → ((E ∈ ws ∧ ∀ y ∈ l, y.Server = E.Server → laterS E y = true) ∨ ∀ y ∈ l, y.Server = E.Server → y = E) →
    ∀ y ∈ ws.foldl (fun l x => wgS x false l) l, y.Server = E.Server → y = E
  | [], l, _, h, y, hy, hs => by
    rcases h with ⟨h, _⟩ | h
    · simp at h
    · exact h y hy hs
  | w :: ws, l, hall, h, y, hy, hs => by
    rw [List.foldl_cons] at hy
    refine join_weights E ws _ (fun z hz => hall z (by simp [hz])) ?_ y hy hs
    by_cases hw : w.Server = E.Server
    · have e := hall w (by simp) hw
      subst e
      right
      intro z hz hzs
      rcases h with ⟨_, h⟩ | h
      · exact wg_only w l false h z hz hzs
      · rcases wg_mem w l false z hz with e | e
        · exact e
        · exact h z e hzs
    · rcases h with ⟨hm, h⟩ | h
      · refine .inl ⟨?_, fun z hz hzs => ?_⟩
        · rcases List.mem_cons.1 hm with e | e
          · rw [e] at hw; exact absurd rfl hw
          · exact e
        · rcases wg_mem w l false z hz with e | e
          · rw [e] at hzs; exact absurd hzs hw
          · exact h z e hzs
      · right
        intro z hz hzs
        rcases wg_mem w l false z hz with e | e
        · rw [e] at hzs; exact absurd hzs hw
        · exact h z e hzs
end Go.Proofs.YthfoljpjhegkmaaDoor

/- The command language, as plain data: CommandProposal. -/
set_option linter.unusedVariables false
set_option linter.unusedSimpArgs false
set_option maxRecDepth 10000
namespace Go.Proofs.YthfoljpjhegkmaaDoor
open Go Go.Proofs.YthfoljpjhegkmaaDoorL

theorem spl_app2 (c : UInt8) (r : List UInt8) : ∀ a : List UInt8, (∀ x ∈ a, x ≠ c) → spl c (a ++ c :: r) = a :: spl c r
  | [], _ => by rw [List.nil_append, spl, if_pos rfl]
  | b :: l, h => by
    have ih := spl_app2 c r l (fun x hx => h x (by simp [hx]))
    rw [List.cons_append, spl, if_neg (h b (by simp)), ih]
/-- The text of some forms. -/
def flatF (fs : List (List UInt8)) : List UInt8 := fs.flatMap (· ++ [10])
theorem flatF_snoc (fs : List (List UInt8)) (f : List UInt8) : flatF (fs ++ [f]) = (flatF fs ++ f) ++ [10] := by
  unfold flatF
  rw [List.flatMap_append]
  simp
theorem spl_flat : ∀ fs : List (List UInt8), (∀ f ∈ fs, f ∈ forms) → spl 10 (flatF fs) = fs ++ [[]]
  | [], _ => rfl
  | f :: fs, h => by
    have e : flatF (f :: fs) = f ++ 10 :: flatF fs := by unfold flatF; simp
    rw [e, spl_app2 10 _ f (forms_ok f (h f (by simp))).2.2.1, spl_flat fs fun g hg => h g (by simp [hg])]
    rfl
theorem flat_len : ∀ fs : List (List UInt8), (∀ f ∈ fs, f ∈ forms) → (flatF fs).length ≤ 21 * fs.length
  | [], _ => by simp [flatF]
  | f :: fs, h => by
    have e : flatF (f :: fs) = f ++ 10 :: flatF fs := by unfold flatF; simp
    have h1 := (forms_ok f (h f (by simp))).2.2.2
    have h2 := flat_len fs fun g hg => h g (by simp [hg])
    rw [e]
    simp only [List.length_append, List.length_cons]
    omega
theorem l3_eq (ws : List Int) (t : List UInt8) (k : Int) : eslaw08_CommandProposal.l3 ws (t, k) = (if (decide (k < (ws.length : Int))) then ((idx ws k).bind fun w => (if (forms.length : Int) ≠ 0 then (letV (Int.tmod (IntKind.i64.wrap w) (forms.length : Int)) fun i => ((idx forms i).bind fun f => ((cat t f).bind fun u => ((cat u [10]).bind fun v => (letV (IntKind.i64.wrap (k + 1)) fun j => some (.inl (v, j))))))) else none)) else some (.inr t)) := rfl
theorem text_ex (ws : List Int) (h : ws.length ≤ 12) (hw : ∀ w ∈ ws, 0 ≤ w ∧ w ≤ 255) : ∃ fs : List (List UInt8), (∀ f ∈ fs, f ∈ forms) ∧ fs.length ≤ 12 ∧ loopO (eslaw08_CommandProposal.l3 ws) ([], 0) = some (flatF fs) := by
  have key : ∃ t, loopO (eslaw08_CommandProposal.l3 ws) ([], 0) = some t ∧ ∃ fs : List (List UInt8), (∀ f ∈ fs, f ∈ forms) ∧ fs.length ≤ 12 ∧ t = flatF fs := by
    refine loopO_inv (fun k s => ∃ fs : List (List UInt8), s = (flatF fs, (k : Int)) ∧ (∀ f ∈ fs, f ∈ forms) ∧ fs.length ≤ k) ws.length ⟨[], rfl, by simp, by simp⟩ (fun k s hk hI => ?_) (fun s hI => ?_)
    · obtain ⟨fs, rfl, h1, h2⟩ := hI
      have hwk := hw ws[k] (List.getElem_mem hk)
      obtain ⟨w, hwe⟩ : ∃ w : Nat, ws[k] = w := ⟨ws[k].toNat, by omega⟩
      have hl := flat_len fs h1
      have hm : w % 12 < forms.length := Nat.mod_lt _ (by decide)
      have hf : forms[w % 12] ∈ forms := List.getElem_mem hm
      have hfl := (forms_ok _ hf).2.2.2
      rw [l3_eq, lt_of_len hk, idx_nat hk, hwe]
      simp only [Option.bind_some, if_true, letV_of]
      rw [if_pos (by decide), w64 (by omega) (by omega), show (forms.length : Int) = 12 from rfl, Int.tmod_eq_emod_of_nonneg (by omega), show ((w : Int) % 12) = ((w % 12 : Nat) : Int) by omega, idx_nat hm]
      simp only [Option.bind_some]
      rw [cat_of (by omega)]
      simp only [Option.bind_some]
      rw [cat_of (by simp; omega)]
      simp only [Option.bind_some]
      rw [wcast hk (by omega), ← flatF_snoc]
      refine ⟨_, rfl, _, rfl, fun f hfm => ?_, by simp; omega⟩
      rcases List.mem_append.1 hfm with e | e
      · exact h1 f e
      · rw [List.mem_singleton.1 e]; exact hf
    · obtain ⟨fs, rfl, h1, h2⟩ := hI
      rw [l3_eq, not_lt_len]
      exact ⟨_, rfl, fs, h1, by omega, rfl⟩
  obtain ⟨t, ht, fs, h1, h2, rfl⟩ := key
  exact ⟨fs, h1, h2, ht⟩
theorem sz_small {s : api_Summary} {m : Nat} (h : SZ s m) (hm : m ≤ 9223372036854775807) : smallS s := ⟨Nat.le_trans h.1 hm, Nat.le_trans h.2.1 hm, Nat.le_trans h.2.2 hm⟩
theorem commandProposal_true (n : Int) (l ws : List Int) (hl : l.length ≤ 4611686018427387904) (hw : ∀ w ∈ ws, 0 ≤ w ∧ w ≤ 255) : eslaw08_CommandProposal n l ws = some true := by
  unfold eslaw08_CommandProposal
  by_cases h12 : 12 < ws.length
  · rw [if_pos (by rw [decide_eq_true_iff]; omega), awake08]; rfl
  rw [if_neg (by rw [decide_eq_true_iff]; omega)]
  obtain ⟨fs, hf, hfl, ht⟩ := text_ex ws (by omega) hw
  rw [ht]
  simp only [Option.bind_some]
  unfold eslaw08_CommandProposal.j6
  obtain ⟨g, hg, g1, g2⟩ := Genesis_ex n
  obtain ⟨p, hp, hpo⟩ := Pool_ex l hl
  obtain ⟨s0, hs0, z0, i0⟩ := initial_eq g g1 g2
  obtain ⟨s, hs, zs, is⟩ := summarize_eq g p s0 hs0 z0 i0 hpo
  have hln := flat_len fs hf
  rw [hg, hp]
  simp only [Option.bind_some]
  rw [show (⟨g.Members, ⟨g.Rule.Kind, g.Rule.Columns, g.Rule.Faulty⟩⟩ : api_Genesis) = g from rfl, hs]
  simp only [Option.bind_some]
  rw [compile_eq (flatF fs) s (by omega) (sz_small zs (by decide)), spl_flat fs hf]
  have hcom := com_good is (fs ++ [[]]) [] 0 (fun f h => by
    rcases List.mem_append.1 h with h | h
    · exact hf f h
    · rw [List.mem_singleton.1 h]; decide) ⟨by simp, by simp, List.Pairwise.nil⟩
  generalize comS s [] 0 (fs ++ [[]]) = r at hcom ⊢
  obtain ⟨cs, ln, e⟩ := r
  simp only at hcom
  simp only [Option.bind_some]
  rcases hcom with ⟨he, hgd, hne⟩ | ⟨he, hcs⟩
  · subst he
    rw [if_neg (by decide), valid_eq cs hne hgd.len (fun d hd => (hgd.each d hd).1) hgd.dup]
    simp only [Option.bind_some]
    rw [if_neg (by decide)]
    obtain ⟨o1, o2⟩ := of_eq ⟨201, 1, cs⟩ (by have := hgd.len; simp only; omega)
    rw [o1]
    simp only [Option.bind_some]
    have o2' : SZ (ofS ⟨201, 1, cs⟩) 10 := o2.mono (by have := hgd.len; simp only; omega)
    obtain ⟨j1, j2⟩ := join_eq s (ofS ⟨201, 1, cs⟩) 500 zs o2' (by decide)
    rw [j1]
    simp only [Option.bind_some]
    obtain ⟨_, _, jw⟩ := joinS_lists s (ofS ⟨201, 1, cs⟩)
    -- the rule
    have hrule : ∀ (k : Nat) (hk : k < cs.length), cs[k].Kind = 4 → (joinS s (ofS ⟨201, 1, cs⟩)).Rule = cs[k].Rule := by
      intro k hk k4
      have hin : cs[k] ∈ cs := List.getElem_mem hk
      obtain ⟨_, _, f4, _, _⟩ := hgd.each _ hin
      obtain ⟨fv, fs0, fr⟩ := f4 k4
      have hall : ∀ d ∈ cs, d.Kind = 4 → d.Rule = cs[k].Rule ∧ d.Version = cs[k].Version := by
        intro d hd d4
        obtain ⟨i, hi, rfl⟩ := List.getElem_of_mem hd
        obtain ⟨_, _, f4', _, _⟩ := hgd.each _ hd
        obtain ⟨_, fs0', _⟩ := f4' d4
        rcases Nat.lt_trichotomy i k with h | h | h
        · exact absurd ⟨d4.trans k4.symm, fs0'.trans fs0.symm⟩ (List.pairwise_iff_getElem.1 hgd.dup i k hi hk h)
        · subst h; exact ⟨rfl, rfl⟩
        · exact absurd ⟨k4.trans d4.symm, fs0.trans fs0'.symm⟩ (List.pairwise_iff_getElem.1 hgd.dup k i hk hi h)
      obtain ⟨r1, r2⟩ := of_rule 201 1 cs[k].Rule cs[k].Version cs zSum hall (.inl ⟨_, hin, k4⟩)
      have r1' : (ofS ⟨201, 1, cs⟩).Rule = cs[k].Rule := r1
      have r2' : (ofS ⟨201, 1, cs⟩).Version = s.Version + 1 := r2.trans fv
      unfold joinS
      simp only
      rw [if_pos ⟨by rw [r1']; exact fr, .inr (by
        unfold laterS
        simp only
        rw [r2', if_pos (by omega)]
        rw [decide_eq_true_iff]
        omega)⟩]
      exact r1'
    -- the weights
    have hweight : ∀ (k : Nat) (hk : k < cs.length), cs[k].Kind = 3 → ∀ y ∈ (joinS s (ofS ⟨201, 1, cs⟩)).Weights, y.Server = cs[k].Server → y.Weight = cs[k].Weight := by
      intro k hk k3 y hy hys
      have hin : cs[k] ∈ cs := List.getElem_mem hk
      obtain ⟨_, f3, _, _, f12⟩ := hgd.each _ hin
      have fv := f3 k3
      have fsv := f12 k3
      have hall : ∀ d ∈ cs, (d.Kind = 1 → d.Server ≠ cs[k].Server) ∧ (d.Kind = 3 → d.Server = cs[k].Server → d = cs[k]) := by
        intro d hd
        obtain ⟨_, _, _, f1, _⟩ := hgd.each d hd
        refine ⟨fun d1 => ?_, fun d3 ds => ?_⟩
        · have := f1 d1
          rcases fsv with e | e <;> omega
        · obtain ⟨i, hi, rfl⟩ := List.getElem_of_mem hd
          rcases Nat.lt_trichotomy i k with h | h | h
          · exact absurd ⟨d3.trans k3.symm, ds⟩ (List.pairwise_iff_getElem.1 hgd.dup i k hi hk h)
          · subst h; rfl
          · exact absurd ⟨k3.trans d3.symm, ds.symm⟩ (List.pairwise_iff_getElem.1 hgd.dup k i hk hi h)
      obtain ⟨w1, w2⟩ := of_weights 201 1 cs[k].Server cs[k] k3 rfl cs zSum hall (.inl ⟨hin, by simp⟩)
      rw [jw] at hy
      have := join_weights ⟨cs[k].Server, cs[k].Weight, cs[k].Version, 201, 1⟩ (ofS ⟨201, 1, cs⟩).Weights s.Weights (fun w hw hws => w2 w hw hws) (.inl ⟨w1, fun z hz hzs => by
        have hv := (ent_all is.1 cs[k].Server).1 z hz hzs
        unfold laterS
        simp only
        rw [if_pos (by omega), decide_eq_true_iff]
        omega⟩) y hy hys
      rw [this]
    generalize joinS s (ofS ⟨201, 1, cs⟩) = t at hrule hweight j2
    have inner : ∀ k : Nat, k < cs.length → loopO (eslaw08_CommandProposal.l1 cs t (k : Int)) 0 = some (.inl ()) := by
      intro k hk
      have h := loopO_up (step := eslaw08_CommandProposal.l1 cs t (k : Int)) (fun i : Nat => (i : Int)) t.Weights.length (b := .inl ())
        (fun i hi => by
          have hz := j2.2.2
          have hwt := hweight k hk
          simp only [eslaw08_CommandProposal.l1, lt_of_len hi, if_true, idx_nat hi, idx_nat hk, Option.bind_some, eslaw08_CommandProposal.j4, letV_of]
          rw [w64n (by omega)]
          by_cases k3 : cs[k].Kind = 3
          · rw [if_pos (by simpa using k3)]
            by_cases ks : t.Weights[i].Server = cs[k].Server
            · rw [if_pos (by simpa using ks), hwt k3 _ (List.getElem_mem hi) ks]
              simp
            · rw [if_neg (by simpa using ks)]
              simp
          · rw [if_neg (by simpa using k3)]
            simp)
        (by simp only [eslaw08_CommandProposal.l1, not_lt_len]; rfl)
      rwa [show ((0 : Nat) : Int) = 0 from rfl] at h
    have outer := loopO_up (step := eslaw08_CommandProposal.l2 cs t) (fun k : Nat => (k : Int)) cs.length (b := .inl ())
      (fun k hk => by
        have hlen := hgd.len
        have hr := hrule k hk
        simp only [eslaw08_CommandProposal.l2, lt_of_len hk, if_true, idx_nat hk, Option.bind_some]
        have j5 : eslaw08_CommandProposal.j5 cs t (k : Int) false = some (.inl ((k + 1 : Nat) : Int)) := by
          unfold eslaw08_CommandProposal.j5
          rw [if_neg (by simp), inner k hk]
          simp only [Option.bind_some, eslaw08_CommandProposal.j3, letV_of]
          rw [w64n (by omega)]
        by_cases k4 : cs[k].Kind = 4
        · rw [if_pos (by simpa using k4)]
          rw [show (⟨t.Rule.Kind, t.Rule.Columns, t.Rule.Faulty⟩ : api_Rule) = t.Rule from rfl, show (⟨cs[k].Rule.Kind, cs[k].Rule.Columns, cs[k].Rule.Faulty⟩ : api_Rule) = cs[k].Rule from rfl, hr k4]
          simpa using j5
        · rw [if_neg (by simpa using k4)]
          exact j5)
      (by simp only [eslaw08_CommandProposal.l2, not_lt_len]; rfl)
    rw [show ((0 : Nat) : Int) = 0 from rfl] at outer
    rw [outer]
    simp only [Option.bind_some, eslaw08_CommandProposal.j2, awake08]
  · subst hcs
    rw [if_pos (by simpa using he)]
    simp only [awake08, Option.bind_some, eslaw08_CommandProposal.j1]
    rfl
theorem commandProposal_wf (n : Int) (l ws : List Int) (h0 : wInt .i64 n) (h1 : wSlice (wInt .i64) l) (h2 : wSlice (wInt .u8) ws) (z1 : l.length * 8 ≤ 140737488351232) (z2 : ws.length * 1 ≤ 140737488351232) : eslaw08_CommandProposal n l ws = some true :=
  commandProposal_true n l ws (by omega) fun w hw => by
    have := h2.2 w hw
    unfold wInt Lit.wf at this
    rw [Bool.and_eq_true, decide_eq_true_iff, decide_eq_true_iff] at this
    exact ⟨this.1, this.2⟩
end Go.Proofs.YthfoljpjhegkmaaDoor
