/- Plain law: HistorySame. -/
import Derived.Test.YtbbeobiampbddaaP38g
import Derived.Test.YtbbeobiampbddaaLr
set_option linter.unusedVariables false
namespace Go.Proofs.Ytbbeobiampbddaa
open Go Go.Proofs.YtbbeobiampbddaaL
abbrev big : Nat := 9223372036854775807
theorem eq_loop {α : Type} [DecidableEq α] {step : Int → Option (Int ⊕ (Unit ⊕ Bool))} {xs ys : List α} (hl : xs.length = ys.length) (hm : xs.length ≤ big)
    (hs : ∀ k, (hk : k < xs.length) → step (k : Int) = if xs[k] = ys[k]'(hl ▸ hk) then some (.inl (IntKind.i64.wrap ((k : Int) + 1))) else some (.inr (.inr false))) (he : step (xs.length : Int) = some (.inr (.inl ()))) :
    loopO step 0 = some (if xs = ys then .inl () else .inr false) := by
  obtain ⟨b, hb, hq⟩ : ∃ b, loopO step (0 : Int) = some b ∧ b = (if xs = ys then .inl () else .inr false) := by
    refine loopO_ex (fun k s => s = (k : Int) ∧ xs.take k = ys.take k) xs.length ⟨rfl, rfl⟩ (fun k s hk hI => ?_) (fun s hI => ?_)
    · obtain ⟨rfl, hI⟩ := hI
      have hk' : k < ys.length := hl ▸ hk
      rw [hs k hk]
      by_cases hc : xs[k] = ys[k]
      · rw [if_pos hc]
        refine .inl ⟨((k + 1 : Nat) : Int), by rw [w64n (by have : big = 9223372036854775807 := rfl; omega)], rfl, ?_⟩
        rw [take_snoc hk, take_snoc hk', hI, hc]
      · rw [if_neg hc]
        refine .inr ⟨_, rfl, ?_⟩
        rw [if_neg]
        intro e
        subst e
        exact hc rfl
    · obtain ⟨rfl, hI⟩ := hI
      refine ⟨_, he, ?_⟩
      rw [List.take_length, hl, List.take_length] at hI
      rw [if_pos hI]
  rw [hb, hq]
theorem len_ne {α : Type} {xs ys : List α} (h : xs.length ≠ ys.length) : ((xs.length : Int) != (ys.length : Int)) = true := by
  simp; omega
theorem eq_fin {α : Type} [DecidableEq α] {step : Int → Option (Int ⊕ (Unit ⊕ Bool))} {xs ys : List α} (h : loopO step 0 = some (if xs = ys then .inl () else .inr false)) :
    ((loopO step 0).bind fun b => match b with | .inl _ => some true | .inr x => some x) = some (decide (xs = ys)) := by
  rw [h]
  by_cases e : xs = ys
  · rw [if_pos e, decide_eq_true e]; rfl
  · rw [if_neg e, decide_eq_false e]; rfl
theorem strings_eq {l m : List (List UInt8)} (h : l.length ≤ big) : slices_Equal_string l m = some (decide (l = m)) := by
  unfold slices_Equal_string
  by_cases hl : l.length = m.length
  · rw [if_neg (by simp [hl])]
    refine eq_fin (eq_loop hl h (fun k hk => ?_) ?_)
    · have hk' : k < m.length := hl ▸ hk
      unfold slices_Equal_string.l1
      simp only [lt_of_len hk, if_true, idx_nat hk, idx_nat hk', Option.bind_some, letV_of]
      by_cases e : l[k] = m[k]
      · rw [if_pos e, if_neg (by simp [e])]
      · rw [if_neg e, if_pos (by simpa using e)]
    · unfold slices_Equal_string.l1
      simp only [not_lt_len, Bool.false_eq_true, if_false]
  · rw [if_pos (len_ne hl), decide_eq_false (fun e => hl (by rw [e]))]
theorem refStrings_eq {l m : List (List UInt8)} (h : l.length ≤ big) : esref32_EqualStrings l m = some (decide (l = m)) := by
  unfold esref32_EqualStrings
  by_cases hl : l.length = m.length
  · rw [if_neg (by simp [hl])]
    refine eq_fin (eq_loop hl h (fun k hk => ?_) ?_)
    · have hk' : k < m.length := hl ▸ hk
      unfold esref32_EqualStrings.l1
      simp only [lt_of_len hk, if_true, idx_nat hk, idx_nat hk', Option.bind_some, letV_of]
      by_cases e : l[k] = m[k]
      · rw [if_pos e, if_neg (by simp [e])]
      · rw [if_neg e, if_pos (by simpa using e)]
    · unfold esref32_EqualStrings.l1
      simp only [not_lt_len, Bool.false_eq_true, if_false]
  · rw [if_pos (len_ne hl), decide_eq_false (fun e => hl (by rw [e]))]
theorem sameValue_eq {x y : history_Value} (h : x.Elems.length ≤ big) : history_sameValue x y = some (decide (x = y)) := by
  obtain ⟨x1, x2, x3, x4, x5, x6, x7, x8, x9, x10⟩ := x
  obtain ⟨y1, y2, y3, y4, y5, y6, y7, y8, y9, y10⟩ := y
  unfold history_sameValue
  simp only [strings_eq (show x9.length ≤ big from h), Option.bind_some, history_sameValue.j1, history_Value.mk.injEq]
  by_cases e1 : x1 = y1 <;> by_cases e2 : x2 = y2 <;> by_cases e3 : x3 = y3 <;> by_cases e4 : x4 = y4 <;> by_cases e5 : x5 = y5 <;> by_cases e6 : x6 = y6 <;> by_cases e7 : x7 = y7 <;> by_cases e8 : x8 = y8 <;> by_cases e9 : x9 = y9 <;> simp [e1, e2, e3, e4, e5, e6, e7, e8, e9]
  cases x10 <;> cases y10 <;> rfl
theorem EqualFunc_eq {l m : List history_Value} (hm : l.length ≤ big) (h : ∀ v ∈ l, v.Elems.length ≤ big) : slices_EqualFunc_Value l m (fun p => history_sameValue p.1 p.2) = some (decide (l = m)) := by
  unfold slices_EqualFunc_Value
  by_cases hl : l.length = m.length
  · rw [if_neg (by simp [hl])]
    refine eq_fin (eq_loop hl hm (fun k hk => ?_) ?_)
    · have hk' : k < m.length := hl ▸ hk
      unfold slices_EqualFunc_Value.l1
      simp only [lt_of_len hk, if_true, idx_nat hk, idx_nat hk', Option.bind_some, letV_of, sameValue_eq (h _ (List.getElem_mem hk))]
      by_cases e : l[k] = m[k]
      · rw [if_pos e, if_neg (by simp [e])]
      · rw [if_neg e, if_pos (by simpa using e)]
    · unfold slices_EqualFunc_Value.l1
      simp only [not_lt_len, Bool.false_eq_true, if_false]
  · rw [if_pos (len_ne hl), decide_eq_false (fun e => hl (by rw [e]))]
theorem SameValues_eq {l m : List history_Value} (hm : l.length ≤ big) (h : ∀ v ∈ l, v.Elems.length ≤ big) : history_SameValues l m = some (decide (l = m)) := by
  unfold history_SameValues
  rw [EqualFunc_eq hm h]; rfl
theorem j3_eq {x y : history_Value} (k : Int) (h : x.Elems.length ≤ big) : esref39_SameValues.j3 k x y = if x = y then some (.inl (IntKind.i64.wrap (k + 1))) else some (.inr (.inr false)) := by
  obtain ⟨x1, x2, x3, x4, x5, x6, x7, x8, x9, x10⟩ := x
  obtain ⟨y1, y2, y3, y4, y5, y6, y7, y8, y9, y10⟩ := y
  unfold esref39_SameValues.j3
  simp only [refStrings_eq (show x9.length ≤ big from h), Option.bind_some, esref39_SameValues.j2, history_Value.mk.injEq, letV_of]
  by_cases e1 : x1 = y1 <;> by_cases e2 : x2 = y2 <;> by_cases e3 : x3 = y3 <;> by_cases e4 : x4 = y4 <;> by_cases e5 : x5 = y5 <;> by_cases e6 : x6 = y6 <;> by_cases e7 : x7 = y7 <;> by_cases e8 : x8 = y8 <;> by_cases e9 : x9 = y9 <;> by_cases e10 : x10 = y10 <;> simp [e1, e2, e3, e4, e5, e6, e7, e8, e9, e10]
theorem refSameValues_eq {l m : List history_Value} (hm : l.length ≤ big) (h : ∀ v ∈ l, v.Elems.length ≤ big) : esref39_SameValues l m = some (decide (l = m)) := by
  unfold esref39_SameValues
  by_cases hl : l.length = m.length
  · rw [if_neg (by simp [hl])]
    refine eq_fin (eq_loop hl hm (fun k hk => ?_) ?_)
    · have hk' : k < m.length := hl ▸ hk
      unfold esref39_SameValues.l1
      simp only [lt_of_len hk, if_true, idx_nat hk, idx_nat hk', Option.bind_some, j3_eq _ (h _ (List.getElem_mem hk))]
    · unfold esref39_SameValues.l1
      simp only [not_lt_len, Bool.false_eq_true, if_false]
  · rw [if_pos (len_ne hl), decide_eq_false (fun e => hl (by rw [e]))]
def WV : history_Value → Prop := wIso (fun x : history_Value => (x.Object, x.Field, x.Set, x.N, x.S, x.HasMax, x.Max, x.Sum, x.Elems, x.Flag)) (wPair wStr (wPair wStr (wPair wBool (wPair (wInt .i64) (wPair wStr (wPair wBool (wPair (wInt .i64) (wPair (wInt .i64) (wPair (wSlice wStr) wBool)))))))))
theorem WV_el {v : history_Value} (h : WV v) : v.Elems.length ≤ big := h.2.2.2.2.2.2.2.2.1.1
theorem historySame_wf (a b : List history_Value) (ha : wSlice WV a) (hb : wSlice WV b) : eslaw38_HistorySame a b = some true := by
  have a2 : ∀ v ∈ a, v.Elems.length ≤ big := fun v hv => WV_el (ha.2 v hv)
  have b2 : ∀ v ∈ b, v.Elems.length ≤ big := fun v hv => WV_el (hb.2 v hv)
  unfold eslaw38_HistorySame eslaw38_HistorySame.j2
  by_cases h1 : (20 : Int) < (a.length : Int)
  · rw [if_pos (by simpa using h1), if_pos rfl, awake_true]; rfl
  · rw [if_neg (by simpa using h1)]
    by_cases h2 : (20 : Int) < (b.length : Int)
    · rw [if_pos (by simpa using h2), awake_true]; rfl
    · rw [if_neg (by simpa using h2), app_of (by simp; omega)]
      simp only [Option.bind_some, List.nil_append, SameValues_eq ha.1 a2, SameValues_eq hb.1 b2, refSameValues_eq ha.1 a2, awake_true, beq_self_eq_true, if_true, decide_true, eslaw38_HistorySame.j1]
      rw [if_pos]
      rw [beq_iff_eq, decide_eq_decide]
      exact eq_comm
end Go.Proofs.Ytbbeobiampbddaa
