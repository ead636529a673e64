/- Plain laws: Precedes, Concurrent, Of, Visible. -/
import Derived.Test.YtbbeobiampbddaaP38c
import Derived.Test.YtbbeobiampbddaaP30d
set_option linter.unusedVariables false
namespace Go.Proofs.Ytbbeobiampbddaa
open Go Go.Proofs.YtbbeobiampbddaaL
def prB (l : List history_Operation) (a b : Int) : Bool := match idx l a, idx l b with
  | some x, some y => x.Return != 0 && decide (x.Return < y.Call)
  | _, _ => false
def coB (l : List history_Operation) (a b : Int) : Bool := (idx l a).isSome && ((idx l b).isSome && (a != b && (!prB l a b && !prB l b a)))
theorem idx_in {α : Type} {l : List α} {a : Int} : (idx l a).isSome = (decide (0 ≤ a) && decide (a < (l.length : Int))) := by
  unfold idx
  split
  · rename_i h
    rw [decide_eq_true h, Bool.true_and, Bool.eq_iff_iff, decide_eq_true_iff]
    simp only [Option.isSome_iff_exists, List.getElem?_eq_some_iff]
    constructor
    · rintro ⟨_, h1, _⟩; omega
    · intro h1; exact ⟨_, by omega, rfl⟩
  · rename_i h; rw [decide_eq_false h]; rfl
theorem inRange_eq (h : history_History) (a : Int) : history_inRange h a = some (idx h.Operations a).isSome := by
  rw [idx_in]
  unfold history_inRange history_inRange.j1
  cases decide (0 ≤ a) <;> rfl
theorem precedes_eq (x y : history_Operation) : history_precedes x y = some (x.Return != 0 && decide (x.Return < y.Call)) := by
  unfold history_precedes history_precedes.j1
  cases x.Return != 0 <;> rfl
theorem Precedes_eq (h : history_History) (a b : Int) : history_Precedes h a b = some (prB h.Operations a b) := by
  unfold history_Precedes prB
  simp only [inRange_eq, Option.bind_some, history_Precedes.j1]
  cases idx h.Operations a with
  | none => rfl
  | some x =>
    cases idx h.Operations b with
    | none => rfl
    | some y => simp [precedes_eq]
theorem refPrecedes_eq (h : history_History) (a b : Int) : esref39_Precedes h a b = some (prB h.Operations a b) := by
  unfold esref39_Precedes prB
  have e1 := idx_in (l := h.Operations) (a := a)
  have e2 := idx_in (l := h.Operations) (a := b)
  simp only [esref39_Precedes.j1]
  generalize decide (0 ≤ a) = a1 at *
  generalize decide (a < (h.Operations.length : Int)) = a2 at *
  generalize decide (0 ≤ b) = b1 at *
  generalize decide (b < (h.Operations.length : Int)) = b2 at *
  generalize idx h.Operations a = ia at *
  generalize idx h.Operations b = ib at *
  cases ia with
  | none =>
    cases a1 <;> cases a2 <;> first | (cases e1; done) | rfl
  | some x =>
    have h1 : a1 = true ∧ a2 = true := by
      have := e1.symm
      rwa [Option.isSome_some, Bool.and_eq_true] at this
    obtain ⟨rfl, rfl⟩ := h1
    cases ib with
    | none => cases b1 <;> cases b2 <;> first | (cases e2; done) | rfl
    | some y =>
      have h2 : b1 = true ∧ b2 = true := by
        have := e2.symm
        rwa [Option.isSome_some, Bool.and_eq_true] at this
      obtain ⟨rfl, rfl⟩ := h2
      simp only [if_true, Option.bind_some]
      cases x.Return != 0 <;> rfl
theorem Concurrent_eq (h : history_History) (a b : Int) : history_Concurrent h a b = some (coB h.Operations a b) := by
  unfold history_Concurrent coB
  simp only [inRange_eq, Precedes_eq, Option.bind_some, history_Concurrent.j1]
  cases (idx h.Operations a).isSome <;> cases (idx h.Operations b).isSome <;> cases a != b <;> cases prB h.Operations a b <;> rfl
theorem refConcurrent_eq (h : history_History) (a b : Int) : esref39_Concurrent h a b = some (coB h.Operations a b) := by
  unfold esref39_Concurrent coB
  simp only [refPrecedes_eq, idx_in, Option.bind_some, esref39_Concurrent.j1]
  cases decide (0 ≤ a) <;> cases decide (a < (h.Operations.length : Int)) <;> cases decide (0 ≤ b) <;> cases decide (b < (h.Operations.length : Int)) <;> cases a != b <;> cases prB h.Operations a b <;> rfl
/-! The operations of a process. -/
def ofL (p : Int) : Nat → List history_Operation → List Int
  | _, [] => []
  | i, o :: l => if o.Process == p then (i : Int) :: ofL p (i + 1) l else ofL p (i + 1) l
theorem ofL_length (p : Int) : ∀ (i : Nat) (l : List history_Operation), (ofL p i l).length ≤ l.length
  | _, [] => Nat.le_refl _
  | i, o :: l => by
    unfold ofL
    have := ofL_length p (i + 1) l
    split <;> simp <;> omega
theorem ofL_snoc (p : Int) (o : history_Operation) : ∀ (i : Nat) (l : List history_Operation), ofL p i (l ++ [o]) = ofL p i l ++ if o.Process == p then [((i + l.length : Nat) : Int)] else []
  | i, [] => by simp only [List.nil_append, ofL]; split <;> simp
  | i, a :: l => by
    simp only [List.cons_append, ofL, ofL_snoc p o (i + 1) l, List.length_cons]
    rw [show i + 1 + l.length = i + (l.length + 1) by omega]
    split <;> simp
theorem Of_eq (h : history_History) (p : Int) (hm : h.Operations.length ≤ 1000) : history_Of h p = some (ofL p 0 h.Operations) := by
  unfold history_Of
  obtain ⟨b, hb, hq⟩ : ∃ b, loopO (history_Of.l1 h p) ([], 0) = some b ∧ b = ofL p 0 h.Operations := by
    refine loopO_inv (fun k s => s = (ofL p 0 (h.Operations.take k), (k : Int))) h.Operations.length rfl (fun k s hk hI => ?_) (fun s hI => ?_)
    · subst hI
      have hl : (ofL p 0 (h.Operations.take k)).length ≤ k := Nat.le_trans (ofL_length _ _ _) (by rw [List.length_take]; omega)
      unfold history_Of.l1
      simp only [lt_of_len hk, if_true, idx_nat hk, Option.bind_some, history_Of.j2, letV_of, wcast hk (by omega)]
      refine ⟨_, ?_, rfl⟩
      rw [take_snoc hk, ofL_snoc, List.length_take, Nat.min_eq_left (by omega), Nat.zero_add]
      cases h.Operations[k].Process == p with
      | true =>
        rw [if_pos rfl, if_pos rfl, app_of (by simp; omega), Option.bind_some]
      | false => rw [if_neg (by simp), if_neg (by simp), List.append_nil]
    · subst hI
      unfold history_Of.l1
      dsimp only
      exact ⟨_, if_neg (by rw [not_lt_len]; simp), by rw [List.take_length]⟩
  rw [hb, hq]; rfl
/-! The visible values. -/
def visF (n : List UInt8) (f : fold_Field) : history_Value := ⟨n, f.Name, f.Register.Set, f.Register.N, f.Register.S, f.HasMax, f.Max, f.Sum, f.Elems, f.Flag⟩
def visL (l : List fold_Object) : List history_Value := l.flatMap fun o => o.Fields.map (visF o.Name)
theorem visL_length {n : Nat} : ∀ {l : List fold_Object}, (∀ o ∈ l, o.Fields.length ≤ n) → (visL l).length ≤ l.length * n
  | [], _ => by simp [visL]
  | o :: l, h => by
    have h1 := visL_length (l := l) fun o ho => h o (by simp [ho])
    have h2 := h o (by simp)
    unfold visL at h1 ⊢
    rw [List.flatMap_cons, List.length_append, List.length_map, List.length_cons, Nat.succ_mul]
    omega
theorem Visible_eq {n : Nat} {t : fold_Store} (h : GD n t.Objects) (hn : n ≤ 100000) : history_Visible t = some (visL t.Objects) := by
  unfold history_Visible
  obtain ⟨b, hb, hq⟩ : ∃ b, loopO (history_Visible.l2 t) ([], 0) = some b ∧ b = visL t.Objects := by
    refine loopO_inv (fun k s => s = (visL (t.Objects.take k), (k : Int))) t.Objects.length rfl (fun k s hk hI => ?_) (fun s hI => ?_)
    · subst hI
      have hm := List.getElem_mem hk
      have hlen := h.len
      have hv : (visL (t.Objects.take k)).length ≤ k * n := by
        have := visL_length (n := n) (l := t.Objects.take k) fun o ho => h.flen o (List.mem_of_mem_take ho)
        rw [List.length_take, Nat.min_eq_left (by omega)] at this
        exact this
      have hkn : k * n + n ≤ n * n := by
        have := Nat.mul_le_mul_right n (show k + 1 ≤ n by omega)
        rw [Nat.succ_mul] at this
        exact this
      have hnn : n * n ≤ 100000 * 100000 := Nat.mul_le_mul hn hn
      have hf := h.flen _ hm
      unfold history_Visible.l2
      simp only [lt_of_len hk, if_true, idx_nat hk, Option.bind_some]
      obtain ⟨b, hb, hq⟩ : ∃ b, loopO (history_Visible.l1 t.Objects[k]) (visL (t.Objects.take k), 0) = some b ∧ b = visL (t.Objects.take k) ++ t.Objects[k].Fields.map (visF t.Objects[k].Name) := by
        refine loopO_inv (fun j s => s = (visL (t.Objects.take k) ++ (t.Objects[k].Fields.take j).map (visF t.Objects[k].Name), (j : Int))) t.Objects[k].Fields.length (by simp) (fun j s hj hI => ?_) (fun s hI => ?_)
        · subst hI
          have hy := h.good _ hm _ (List.getElem_mem hj)
          unfold history_Visible.l1
          have hc : slices_Clone_string t.Objects[k].Fields[j].Elems = some t.Objects[k].Fields[j].Elems := clone_eq (by have := hy.len; omega)
          simp only [lt_of_len hj, if_true, idx_nat hj, Option.bind_some, hc, letV_of, wcast hj (by omega)]
          rw [app_of (by simp only [List.length_append, List.length_map, List.length_take, List.length_singleton]; omega), Option.bind_some]
          refine ⟨_, rfl, ?_⟩
          rw [take_snoc hj, List.map_append, ← List.append_assoc]
          rfl
        · subst hI
          unfold history_Visible.l1
          dsimp only
          exact ⟨_, if_neg (by rw [not_lt_len]; simp), by rw [List.take_length]⟩
      rw [hb, hq]
      simp only [Option.bind_some, history_Visible.j2, letV_of, wcast hk (show t.Objects.length ≤ _ by omega)]
      refine ⟨_, rfl, ?_⟩
      rw [take_snoc hk]
      unfold visL
      rw [List.flatMap_append]
      simp
    · subst hI
      unfold history_Visible.l2
      dsimp only
      exact ⟨_, if_neg (by rw [not_lt_len]; simp), by rw [List.take_length]⟩
  rw [hb, hq]; rfl
end Go.Proofs.Ytbbeobiampbddaa
