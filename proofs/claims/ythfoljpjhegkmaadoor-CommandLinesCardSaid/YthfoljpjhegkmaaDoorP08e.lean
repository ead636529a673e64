/- The command language, as plain data: validation. -/
import Derived.Test.YthfoljpjhegkmaaDoorP08d
set_option linter.unusedVariables false
set_option linter.unusedSimpArgs false
namespace Go.Proofs.YthfoljpjhegkmaaDoor
open Go Go.Proofs.YthfoljpjhegkmaaDoorL

abbrev inR (x lo hi : Int) : Prop := lo ≤ x ∧ x ≤ hi
/-- What a rule's check answers. -/
def valR (r : api_Rule) : Int :=
  if r.Kind < 1 ∨ 4 < r.Kind then 10
  else if (if r.Kind = 3 then inR r.Columns 1 12 else r.Columns = 0) ∧ (if r.Kind = 4 then inR r.Faulty 0 12 else r.Faulty = 0) then 0 else 9
/-- What a change's check answers. -/
def valS (c : api_Change) : Int :=
  if c.Kind < 1 ∨ 4 < c.Kind then 10
  else if ¬ ((if c.Kind = 4 then c.Server = 0 else inR c.Server 1 12) ∧ (if c.Kind = 1 ∨ c.Kind = 3 then inR c.Weight 1 9 else c.Weight = 0) ∧ (if c.Kind = 3 ∨ c.Kind = 4 then inR c.Version 1 1000 else c.Version = 0)) then 9
  else if c.Kind = 4 then valR c.Rule
  else if c.Rule = zRule then 0 else 2
theorem within_eq (x lo hi : Int) (b : Bool) : proposal_within x lo hi b = some (if b = true then decide (inR x lo hi) else decide (x = 0)) := by
  unfold proposal_within proposal_within.j1
  cases b with
  | false => simp; rw [Bool.eq_iff_iff, beq_iff_eq, decide_eq_true_iff]
  | true =>
    by_cases h : lo ≤ x
    · simp [h]
    · simp [h]
theorem rule_val1 (r : api_Rule) : quorum_ValidateRule r = some (valR r) := by
  obtain ⟨k, c, f⟩ := r
  unfold quorum_ValidateRule quorum_ValidateRule.j4 valR
  simp only
  by_cases h1 : k = 1
  · subst h1
    simp only [quorum_ValidateRule.j3, quorum_ValidateRule.j2, quorum_ValidateRule.j1]
    by_cases hc : c = 0 <;> by_cases hf : f = 0 <;> simp [hc, hf]
  by_cases h2 : k = 2
  · subst h2
    simp only [quorum_ValidateRule.j3, quorum_ValidateRule.j2, quorum_ValidateRule.j1]
    by_cases hc : c = 0 <;> by_cases hf : f = 0 <;> simp [hc, hf]
  by_cases h3 : k = 3
  · subst h3
    simp only [quorum_ValidateRule.j3, quorum_ValidateRule.j2, quorum_ValidateRule.j1]
    by_cases hc : 1 ≤ c <;> by_cases hd : c ≤ 12 <;> by_cases hf : f = 0 <;> simp [hc, hf, hd]
  by_cases h4 : k = 4
  · subst h4
    simp only [quorum_ValidateRule.j3, quorum_ValidateRule.j2, quorum_ValidateRule.j1]
    by_cases hc : 0 ≤ f <;> by_cases hd : f ≤ 12 <;> by_cases hf : c = 0 <;> simp [hc, hf, hd]
  · have b1 : (k == 1) = false := by simpa using h1
    have b2 : (k == 2) = false := by simpa using h2
    have b3 : (k == 3) = false := by simpa using h3
    have b4 : (k == 4) = false := by simpa using h4
    simp only [quorum_ValidateRule.j3, b1, b2, b3, b4, Bool.false_eq_true, if_false]
    rw [if_pos (show k < 1 ∨ 4 < k by omega)]
theorem server_val (x : Int) : esref06_Server x = some (decide (inR x 1 12)) := by
  unfold esref06_Server esref06_Server.j1
  by_cases h : 1 ≤ x
  · simp [h]
  · simp [h]
theorem rule_val2 (r : api_Rule) : esref06_ValidateRule r = some (valR r) := by
  obtain ⟨k, c, f⟩ := r
  unfold esref06_ValidateRule valR
  simp only
  by_cases h0 : k < 1
  · rw [if_pos (by simpa using h0), if_pos (.inl h0)]; rfl
  rw [if_neg (by simpa using h0)]
  by_cases h5 : 4 < k
  · rw [if_pos (show k < 1 ∨ 4 < k from .inr h5)]; simp [esref06_ValidateRule.j3, h5]
  rw [if_neg (show ¬ (k < 1 ∨ 4 < k) by omega)]
  have hn : (decide (4 < k)) = false := by simpa using h5
  rw [hn]
  have hk : k = 1 ∨ k = 2 ∨ k = 3 ∨ k = 4 := by omega
  simp only [esref06_ValidateRule.j3, esref06_ValidateRule.j2, esref06_ValidateRule.j1, server_val, Option.bind_some]
  rcases hk with rfl | rfl | rfl | rfl
  · by_cases hc : c = 0 <;> by_cases hf : f = 0 <;> simp [hc, hf]
  · by_cases hc : c = 0 <;> by_cases hf : f = 0 <;> simp [hc, hf]
  · by_cases hc : 1 ≤ c <;> by_cases hd : c ≤ 12 <;> by_cases hf : f = 0 <;> simp [hc, hf, hd]
  · by_cases hc : f < 0
    · have hc' : ¬ 0 ≤ f := by omega
      by_cases hf : c = 0 <;> simp [hc, hf, hc']
    · have hc' : 0 ≤ f := by omega
      by_cases hd : 12 < f
      · have hd' : ¬ f ≤ 12 := by omega
        by_cases hf : c = 0 <;> simp [hc, hf, hd, hc', hd']
      · have hd' : f ≤ 12 := by omega
        by_cases hf : c = 0 <;> simp [hc, hf, hd, hc', hd']
theorem val1 (c : api_Change) : proposal_ValidateChange c = some (valS c) := by
  obtain ⟨k, s, w, v, r⟩ := c
  unfold proposal_ValidateChange valS
  simp only
  by_cases h0 : k < 1
  · rw [if_pos (by simpa using h0), if_pos (.inl h0)]; rfl
  rw [if_neg (by simpa using h0)]
  by_cases h5 : 4 < k
  · rw [if_pos (show k < 1 ∨ 4 < k from .inr h5)]; simp [proposal_ValidateChange.j4, h5]
  rw [if_neg (show ¬ (k < 1 ∨ 4 < k) by omega)]
  have hn : (decide (4 < k)) = false := by simpa using h5
  rw [hn]
  have hk : k = 1 ∨ k = 2 ∨ k = 3 ∨ k = 4 := by omega
  simp only [proposal_ValidateChange.j4, proposal_ValidateChange.j3, proposal_ValidateChange.j2, proposal_ValidateChange.j1, within_eq, rule_val1, Option.bind_some]
  rcases hk with rfl | rfl | rfl | rfl
  · by_cases hs : inR s 1 12 <;> by_cases hw : inR w 1 9 <;> by_cases hv : v = 0 <;> by_cases hr : r = zRule <;> simp [hs, hw, hv, hr]
  · by_cases hs : inR s 1 12 <;> by_cases hw : w = 0 <;> by_cases hv : v = 0 <;> by_cases hr : r = zRule <;> simp [hs, hw, hv, hr]
  · by_cases hs : inR s 1 12 <;> by_cases hw : inR w 1 9 <;> by_cases hv : inR v 1 1000 <;> by_cases hr : r = zRule <;> simp [hs, hw, hv, hr]
  · by_cases hs : s = 0 <;> by_cases hw : w = 0 <;> by_cases hv : inR v 1 1000 <;> simp [hs, hw, hv]
/-- A value outside of bounds, as two tests. -/
theorem out {α : Type} {x lo hi : Int} {a b : α} : (if (decide (x < lo)) then a else (if (decide (hi < x)) then a else b)) = if inR x lo hi then b else a := by
  by_cases h1 : x < lo
  · rw [if_pos (by simpa using h1), if_neg (show ¬ inR x lo hi from fun h => by have := h.1; omega)]
  · rw [if_neg (by simpa using h1)]
    by_cases h2 : hi < x
    · rw [if_pos (by simpa using h2), if_neg (show ¬ inR x lo hi from fun h => by have := h.2; omega)]
    · rw [if_neg (by simpa using h2), if_pos (show inR x lo hi from ⟨by omega, by omega⟩)]
theorem val2 (c : api_Change) : esref06_ValidateChange c = some (valS c) := by
  obtain ⟨k, s, w, v, r⟩ := c
  unfold esref06_ValidateChange valS
  simp only
  by_cases hk : k = 1 ∨ k = 2 ∨ k = 3 ∨ k = 4
  · rw [if_neg (show ¬ (k < 1 ∨ 4 < k) by omega)]
    simp only [esref06_ValidateChange.j5, esref06_ValidateChange.j4, esref06_ValidateChange.j3, esref06_ValidateChange.j2, esref06_ValidateChange.j1, server_val, rule_val2, Option.bind_some, out]
    rcases hk with rfl | rfl | rfl | rfl
    · by_cases hs : inR s 1 12 <;> by_cases hw : inR w 1 9 <;> by_cases hv : v = 0 <;> by_cases hr : r = zRule <;> simp [hs, hw, hv, hr]
    · by_cases hs : inR s 1 12 <;> by_cases hw : w = 0 <;> by_cases hv : v = 0 <;> by_cases hr : r = zRule <;> simp [hs, hw, hv, hr]
    · by_cases hs : inR s 1 12 <;> by_cases hw : inR w 1 9 <;> by_cases hv : inR v 1 1000 <;> by_cases hr : r = zRule <;> simp [hs, hw, hv, hr] <;> rw [if_pos hw, if_pos hv]
    · by_cases hs : s = 0 <;> by_cases hw : w = 0 <;> by_cases hv : inR v 1 1000 <;> simp [hs, hw, hv]
  · rw [if_pos (show k < 1 ∨ 4 < k by omega)]
    have b1 : (k == 1) = false := by rw [beq_eq_false_iff_ne]; omega
    have b2 : (k == 2) = false := by rw [beq_eq_false_iff_ne]; omega
    have b3 : (k == 3) = false := by rw [beq_eq_false_iff_ne]; omega
    have b4 : (k == 4) = false := by rw [beq_eq_false_iff_ne]; omega
    rw [b1, b2, b3, b4]
    rfl
/-- A change with the version that checking gives it. -/
def verS (c : api_Change) : api_Change := if (c.Kind = 3 ∨ c.Kind = 4) ∧ c.Version = 0 then { c with Version := 1 } else c
theorem ver1 (c : api_Change) : command_versioned c = some (verS c) := by
  obtain ⟨k, s, w, v, r⟩ := c
  simp only [command_versioned, command_versioned.j3, command_versioned.j2, command_versioned.j1, verS]
  by_cases h3 : k = 3
  · by_cases hv : v = 0 <;> simp [h3, hv]
  · by_cases h4 : k = 4
    · by_cases hv : v = 0 <;> simp [h4, hv]
    · simp [h3, h4]
theorem ver2 (c : api_Change) : esref10_versioned c = some (verS c) := by
  obtain ⟨k, s, w, v, r⟩ := c
  simp only [esref10_versioned, esref10_versioned.j2, esref10_versioned.j1, verS]
  by_cases h3 : k = 3
  · by_cases hv : v = 0 <;> simp [h3, hv]
  · by_cases h4 : k = 4
    · by_cases hv : v = 0 <;> simp [h4, hv]
    · simp [h3, h4]
/-- The command that a text says, and what is wrong with it. -/
def parS (s : List UInt8) : api_Change × Int := match synS (spl 32 s) with
  | none => (zChange, 11)
  | some c => if valS (verS c) = 0 then (c, 0) else (zChange, valS (verS c))
theorem split32 (s : List UInt8) (hs : s.length < 4294967281) : strings_Split s [32] = some (spl 32 s) := by
  unfold strings_Split
  rw [if_pos ⟨rfl, hs⟩]
  rfl
theorem parse1 (s : List UInt8) (hs : s.length < 4294967281) : command_Parse s = some (parS s) := by
  obtain ⟨a, l, hw⟩ : ∃ a l, spl 32 s = a :: l := by
    cases h : spl 32 s with
    | nil => exact absurd h (spl_ne 32 s)
    | cons a l => exact ⟨a, l, rfl⟩
  unfold command_Parse parS
  rw [syn_eq a l s (by rw [split32 s hs, hw]), hw]
  cases synS (a :: l) with
  | none => rfl
  | some c =>
    simp only [Option.bind_some, cOk, Bool.not_true, Bool.false_eq_true, if_false, ver1, val1]
    by_cases h : valS (verS c) = 0 <;> simp [h]
theorem parse2 (s : List UInt8) (hs : s.length ≤ 10000) : esref10_ParseCommand s = some (parS s) := by
  obtain ⟨a, l, hw⟩ : ∃ a l, spl 32 s = a :: l := by
    cases h : spl 32 s with
    | nil => exact absurd h (spl_ne 32 s)
    | cons a l => exact ⟨a, l, rfl⟩
  unfold esref10_ParseCommand parS
  obtain ⟨c, b, hf, hb⟩ := form_eq a l s (by rw [words_eq s hs, hw])
  rw [hf, hw, hb]
  cases b with
  | false => rfl
  | true =>
    simp only [Option.bind_some, Bool.not_true, Bool.false_eq_true, if_false, if_true, ver2, val2]
    by_cases h : valS (verS c) = 0 <;> simp [h]
end Go.Proofs.YthfoljpjhegkmaaDoor
