/- Plain laws: what an operation of a history has besides its events. -/
import Derived.Test.YtbbeobiampbddaaFd
import Derived.Test.YtbbeobiampbddaaPm
set_option linter.unusedVariables false
namespace Go.Proofs.Ytbbeobiampbddaa
open Go Go.Proofs.YtbbeobiampbddaaL
theorem effect_eq (e : api_Effect) : update_ValidateEffect e = esref14_ValidateEffect e := by
  obtain ⟨k, o, f, n, s⟩ := e
  simp only [update_ValidateEffect, update_ValidateEffect.j7, update_ValidateEffect.j6, update_ValidateEffect.j5, update_ValidateEffect.j4, update_ValidateEffect.j3, update_ValidateEffect.j2, update_ValidateEffect.j1, update_empty,
    esref14_ValidateEffect, esref14_ValidateEffect.j6, esref14_ValidateEffect.j5, esref14_ValidateEffect.j4, esref14_ValidateEffect.j3, esref14_ValidateEffect.j2, esref14_ValidateEffect.j1, Option.bind_some]
  by_cases h1 : k < 1
  · simp [h1]
  by_cases h2 : 5 < k
  · simp [h1, h2]
  simp only [decide_eq_false h1, decide_eq_false h2, Bool.false_eq_true, if_false]
  have e1 : (o == ([] : List UInt8)) = decide (o = []) := by cases o <;> rfl
  have e2 : (f == ([] : List UInt8)) = decide (f = []) := by cases f <;> rfl
  rw [e1, e2]
  generalize decide (o = []) = b1
  generalize decide (f = []) = b2
  generalize decide ((16 : Int) < (o.length : Int)) = c1
  generalize decide ((16 : Int) < (f.length : Int)) = c2
  generalize decide ((32 : Int) < (s.length : Int)) = c3
  generalize decide (n < -1000000) = n1
  generalize decide (1000000 < n) = n2
  generalize (n != 0) = n0
  generalize (s != ([] : List UInt8)) = s0
  have : k = 1 ∨ k = 2 ∨ k = 3 ∨ k = 4 ∨ k = 5 := by omega
  rcases this with rfl | rfl | rfl | rfl | rfl <;> cases b1 <;> cases b2 <;> cases c1 <;> cases c2 <;> cases c3 <;> first | rfl | (cases n1 <;> cases n2 <;> cases n0 <;> cases s0 <;> rfl)
theorem isSome_ite {α : Type} {c : Prop} [Decidable c] {a b : Option α} (h1 : a.isSome = true) (h2 : b.isSome = true) : (if c then a else b).isSome = true := by
  split
  · exact h1
  · exact h2
theorem effect_some (e : api_Effect) : ∃ r, esref14_ValidateEffect e = some r := by
  refine Option.isSome_iff_exists.1 ?_
  simp only [esref14_ValidateEffect, esref14_ValidateEffect.j6, esref14_ValidateEffect.j5, esref14_ValidateEffect.j4, esref14_ValidateEffect.j3, esref14_ValidateEffect.j2, esref14_ValidateEffect.j1]
  repeat' (first | exact rfl | refine isSome_ite ?_ ?_)
def comm (l : List api_Effect) : Bool := l.all fun e => e.Kind != 1
theorem Commutes_eq (u : api_Update) (h : u.Effects.length ≤ 4) : update_Commutes u = some (comm u.Effects) := by
  unfold update_Commutes slices_ContainsFunc_Effect slices_IndexFunc_Effect
  obtain ⟨b, hb, hq⟩ : ∃ b, loopO (slices_IndexFunc_Effect.l1 u.Effects fun p => update_Commutes_1 p) (0 : Int) = some b ∧ (fun b => match b with | .inl _ => comm u.Effects = true | .inr j => 0 ≤ j ∧ comm u.Effects = false) b := by
    refine loopO_ex (fun k s => s = (k : Int) ∧ ∀ e ∈ u.Effects.take k, (e.Kind != 1) = true) u.Effects.length ⟨rfl, by simp⟩ (fun k s hk hI => ?_) (fun s hI => ?_)
    · obtain ⟨rfl, hI⟩ := hI
      unfold slices_IndexFunc_Effect.l1
      simp only [lt_of_len hk, if_true, idx_nat hk, Option.bind_some, update_Commutes_1]
      cases hc : (u.Effects[k].Kind == 1) with
      | true =>
        refine .inr ⟨_, rfl, by show (0 : Int) ≤ (k : Int); omega, ?_⟩
        unfold comm
        rw [List.all_eq_false]
        exact ⟨_, List.getElem_mem hk, by simp [bne, hc]⟩
      | false =>
        refine .inl ⟨((k + 1 : Nat) : Int), by simp only [Bool.false_eq_true, if_false, letV_of, wcast hk (by omega)], rfl, fun e he => ?_⟩
        rw [take_snoc hk] at he
        rcases List.mem_append.1 he with he | he
        · exact hI e he
        · simp at he; subst he; simp [bne, hc]
    · obtain ⟨rfl, hI⟩ := hI
      unfold slices_IndexFunc_Effect.l1
      refine ⟨.inl (), by simp only [not_lt_len, Bool.false_eq_true, if_false], ?_⟩
      show comm u.Effects = true
      rw [List.take_length] at hI
      unfold comm
      rw [List.all_eq_true]
      exact hI
  rw [hb]
  clear hb
  cases b with
  | inl x => rw [show comm u.Effects = true from hq]; rfl
  | inr j => obtain ⟨h0, h1⟩ := hq; rw [h1]; simp [h0]
theorem refCommutes_eq (u : api_Update) (h : u.Effects.length ≤ 4) : esref14_Commutes u = some (comm u.Effects) := by
  unfold esref14_Commutes
  obtain ⟨b, hb, hq⟩ : ∃ b, loopO (esref14_Commutes.l1 u) (0 : Int) = some b ∧ (fun b => match b with | .inl _ => comm u.Effects = true | .inr j => j = false ∧ comm u.Effects = false) b := by
    refine loopO_ex (fun k s => s = (k : Int) ∧ ∀ e ∈ u.Effects.take k, (e.Kind != 1) = true) u.Effects.length ⟨rfl, by simp⟩ (fun k s hk hI => ?_) (fun s hI => ?_)
    · obtain ⟨rfl, hI⟩ := hI
      unfold esref14_Commutes.l1
      simp only [lt_of_len hk, if_true, idx_nat hk, Option.bind_some]
      cases hc : (u.Effects[k].Kind == 1) with
      | true =>
        refine .inr ⟨_, rfl, rfl, ?_⟩
        unfold comm
        rw [List.all_eq_false]
        exact ⟨_, List.getElem_mem hk, by simp [bne, hc]⟩
      | false =>
        refine .inl ⟨((k + 1 : Nat) : Int), by simp only [Bool.false_eq_true, if_false, letV_of, wcast hk (by omega)], rfl, fun e he => ?_⟩
        rw [take_snoc hk] at he
        rcases List.mem_append.1 he with he | he
        · exact hI e he
        · simp at he; subst he; simp [bne, hc]
    · obtain ⟨rfl, hI⟩ := hI
      unfold esref14_Commutes.l1
      refine ⟨.inl (), by simp only [not_lt_len, Bool.false_eq_true, if_false], ?_⟩
      show comm u.Effects = true
      rw [List.take_length] at hI
      unfold comm
      rw [List.all_eq_true]
      exact hI
  rw [hb]
  clear hb
  cases b with
  | inl x => rw [show comm u.Effects = true from hq]; rfl
  | inr j => obtain ⟨h0, h1⟩ := hq; rw [h1]; simp [h0]
/-- The loops over the effects are the same. -/
theorem effloop_eq (u : api_Update) : loopO (update_Validate.l1 u) 0 = loopO (esref14_ValidateUpdate.l1 u) 0 := by
  refine loopO_congr (fun s => ?_) 0
  unfold update_Validate.l1 esref14_ValidateUpdate.l1
  simp only [effect_eq]
theorem effloop_some (u : api_Update) (h : u.Effects.length ≤ 4) : ∃ b, loopO (esref14_ValidateUpdate.l1 u) 0 = some b := by
  obtain ⟨b, hb, _⟩ : ∃ b, loopO (esref14_ValidateUpdate.l1 u) (0 : Int) = some b ∧ (fun _ => True) b := by
    refine loopO_ex (fun k s => s = (k : Int)) u.Effects.length rfl (fun k s hk hI => ?_) (fun s hI => ?_)
    · subst hI
      unfold esref14_ValidateUpdate.l1
      obtain ⟨r, hr⟩ := effect_some u.Effects[k]
      simp only [lt_of_len hk, if_true, idx_nat hk, Option.bind_some, hr]
      cases hc : (r != 0) with
      | true => exact .inr ⟨_, rfl, trivial⟩
      | false => exact .inl ⟨((k + 1 : Nat) : Int), by simp only [Bool.false_eq_true, if_false, letV_of, wcast hk (by omega)], rfl⟩
    · subst hI
      unfold esref14_ValidateUpdate.l1
      exact ⟨.inl (), by simp only [not_lt_len, Bool.false_eq_true, if_false], trivial⟩
  exact ⟨b, hb⟩
theorem upd_eq (es : List api_Effect) : update_Validate ⟨101, 1, 0, es⟩ = esref14_ValidateUpdate ⟨101, 1, 0, es⟩ ∧ ∃ r, esref14_ValidateUpdate ⟨101, 1, 0, es⟩ = some r := by
  have h1 : update_Validate ⟨101, 1, 0, es⟩ = update_Validate.j3 ⟨101, 1, 0, es⟩ false := by
    simp [update_Validate, update_Validate.j4]
  have h2 : esref14_ValidateUpdate ⟨101, 1, 0, es⟩ = esref14_ValidateUpdate.j3 ⟨101, 1, 0, es⟩ false := by
    simp [esref14_ValidateUpdate, esref06_Client, esref06_Client.j1]
  rw [h1, h2]
  unfold update_Validate.j3 esref14_ValidateUpdate.j3
  simp only [Bool.false_eq_true, if_false]
  cases hz : (((es.length : Nat) : Int) == 0) with
  | true => exact ⟨rfl, _, rfl⟩
  | false =>
    simp only [Bool.false_eq_true, if_false]
    by_cases h4 : 4 < ((es.length : Nat) : Int)
    · rw [decide_eq_true h4]; exact ⟨rfl, _, rfl⟩
    · rw [decide_eq_false h4]
      simp only [Bool.false_eq_true, if_false]
      have hl : (⟨101, 1, 0, es⟩ : api_Update).Effects.length ≤ 4 := by show es.length ≤ 4; omega
      rw [effloop_eq]
      obtain ⟨b, hb⟩ := effloop_some ⟨101, 1, 0, es⟩ hl
      rw [hb]
      cases b with
      | inr x => exact ⟨rfl, _, rfl⟩
      | inl x =>
        simp only [Option.bind_some, update_Validate.j2, esref14_ValidateUpdate.j2, Commutes_eq _ hl, refCommutes_eq _ hl, update_Validate.j1, esref14_ValidateUpdate.j1]
        cases comm es <;> cases decide (1 < ((es.length : Nat) : Int)) <;> exact ⟨rfl, _, rfl⟩
theorem contents_eq (o : history_Operation) : history_contents o = esref39_content o ∧ ∃ r, esref39_content o = some r := by
  unfold history_contents esref39_content
  obtain ⟨h1, r, h2⟩ := upd_eq o.Effects
  rw [h1, h2]
  simp only [Option.bind_some, history_contents.j1, history_contents.j2, esref39_content.j1, esref39_content.j2]
  refine ⟨trivial, Option.isSome_iff_exists.1 ?_⟩
  repeat' (first | exact rfl | refine isSome_ite ?_ ?_)
theorem valid_some (o : history_Operation) : ∃ r, esref39_validOperation o = some r := by
  refine Option.isSome_iff_exists.1 ?_
  simp only [esref39_validOperation, esref39_validOperation.j2, esref39_validOperation.j1, esref06_Client, esref06_Client.j1]
  split <;> simp only [Option.bind_some] <;> repeat' (first | exact rfl | refine isSome_ite ?_ ?_)
end Go.Proofs.Ytbbeobiampbddaa
