/- Plain law: HistoryBefore. -/
import Derived.Test.YtbbeobiampbddaaP38B
set_option linter.unusedVariables false
namespace Go.Proofs.Ytbbeobiampbddaa
open Go Go.Proofs.YtbbeobiampbddaaL
theorem cErr_ret {o : history_Operation} (r : Int) (hr : o.Result = []) : cErr { o with Return := r } = cErr o := by
  obtain ⟨p, k, es, res, c, q⟩ := o
  have hr : res = [] := hr
  subst hr
  have a := cErr_eq ⟨p, k, es, [], c, q⟩
  have b := cErr_eq ⟨p, k, es, [], c, r⟩
  have e : ∀ x : Int, (if (x == 0) = true then esref39_content.j2 (decide ((0 : Int) < (([] : List history_Value).length : Int))) else esref39_content.j2 false) = esref39_content.j2 false := by
    intro x
    cases x == 0 <;> rfl
  unfold esref39_content at a b
  rw [e] at a b
  rw [a] at b
  exact (Option.some.inj b).symm
theorem befO_eq {e : Int} {o : history_Operation} (hr : o.Result = []) : befO e o = { o with Return := if decide (e ≤ o.Return) then 0 else o.Return } := by
  unfold befO
  obtain ⟨a, b, c, d, f, g⟩ := o
  have hr : d = [] := hr
  subst hr
  rfl
theorem befL_mem {e : Int} {l : List history_Operation} {o : history_Operation} (h : o ∈ befL e l) : ∃ q ∈ l, q.Call < e ∧ o = befO e q := by
  unfold befL at h
  obtain ⟨q, hq, rfl⟩ := List.mem_map.1 h
  obtain ⟨h1, h2⟩ := List.mem_filter.1 hq
  exact ⟨q, h1, of_decide_eq_true h2, rfl⟩
theorem befO_ret (e : Int) (o : history_Operation) : (befO e o).Return = 0 ∨ ((befO e o).Return = o.Return ∧ o.Return < e) := by
  unfold befO
  by_cases h : e ≤ o.Return
  · left; simp [h]
  · right; exact ⟨by simp [h], by omega⟩
theorem bef_good {e : Int} {l : List history_Operation} (h : Good l) (hr : ∀ o ∈ l, o.Result = [] ∧ o.Effects.length ≤ 100) : Good (befL e l) := by
  refine ⟨fun o ho => ?_, fun o ho => ?_, ?_⟩
  · obtain ⟨q, hq, hc, rfl⟩ := befL_mem ho
    have hv := h.v q hq
    obtain ⟨a, b, c, d⟩ := vErr_range hv
    obtain ⟨v1, v2⟩ := vErr_zero hv
    refine vErr_ok a b c d v1 ?_
    rcases befO_ret e q with h0 | ⟨h0, h1⟩
    · exact .inl h0
    · rw [h0]
      by_cases hz : q.Return = 0
      · exact .inl hz
      · exact .inr (v2 hz)
  · obtain ⟨q, hq, hc, rfl⟩ := befL_mem ho
    rw [befO_eq (hr q hq).1, cErr_ret _ (hr q hq).1]
    exact h.c q hq
  · unfold befL
    rw [List.pairwise_map]
    have hp := h.pw.sublist (List.filter_sublist (p := fun o : history_Operation => decide (o.Call < e)))
    refine hp.imp_of_mem fun {a b} ha hb hR => ?_
    have ha' := (List.mem_filter.1 ha).1
    have hb' := (List.mem_filter.1 hb).1
    obtain ⟨r1, r2, r3, r4⟩ := hR
    have va := (vErr_zero (h.v a ha')).1
    have vb := (vErr_zero (h.v b hb')).1
    refine ⟨r1, ?_, ?_, ?_⟩
    · show (befO e a).Return ≠ b.Call
      rcases befO_ret e a with h0 | ⟨h0, _⟩
      · rw [h0]; omega
      · rw [h0]; exact r2
    · intro hne
      rcases befO_ret e a with h0 | ⟨h0, _⟩
      · exact absurd h0 hne
      · rw [h0] at hne ⊢
        rcases befO_ret e b with h1 | ⟨h1, _⟩
        · rw [h1]; exact hne
        · rw [h1]; exact r3 hne
    · intro hpp
      show (befO e a).Return < b.Call
      rcases befO_ret e a with h0 | ⟨h0, _⟩
      · rw [h0]; omega
      · rw [h0]; exact r4 hpp
theorem bef_again {e e' : Int} {l : List history_Operation} (h : e ≤ e') : befL e' (befL e l) = befL e l := by
  have h1 : (befL e l).filter (fun o => decide (o.Call < e')) = befL e l := List.filter_eq_self.2 fun o ho => by
    obtain ⟨q, _, hc, rfl⟩ := befL_mem ho
    have : (befO e q).Call = q.Call := rfl
    rw [this]
    simp; omega
  show ((befL e l).filter (fun o => decide (o.Call < e'))).map (befO e') = _
  rw [h1]
  have : ∀ o ∈ befL e l, befO e' o = o := by
    intro o ho
    obtain ⟨q, _, hc, rfl⟩ := befL_mem ho
    rw [befO_eq (o := befO e q) rfl]
    rcases befO_ret e q with h0 | ⟨h0, h2⟩
    · have : (if decide (e' ≤ (befO e q).Return) = true then (0 : Int) else (befO e q).Return) = (befO e q).Return := by rw [h0]; split <;> rfl
      rw [this]
    · have : (if decide (e' ≤ (befO e q).Return) = true then (0 : Int) else (befO e q).Return) = (befO e q).Return := by rw [if_neg (by rw [h0]; simp; omega)]
      rw [this]
  rw [List.map_congr_left this, List.map_id']
theorem refSame_nil : esref39_SameValues [] [] = some true := by
  unfold esref39_SameValues
  rw [if_neg (by simp), loopO_done (b := .inl ()) (by unfold esref39_SameValues.l1; rfl)]
  rfl
theorem EqualOperation_refl {o : history_Operation} (hr : o.Result = [] ∧ o.Effects.length ≤ 100) : esref39_EqualOperation o o = some true := by
  unfold esref39_EqualOperation
  simp only [bne_self_eq_false, Bool.false_eq_true, if_false, hr.1, refSame_nil, Option.bind_some, esref39_EqualOperation.j2, Bool.not_true]
  have := loopO_up (step := esref39_EqualOperation.l1 o o) (fun k => (k : Int)) o.Effects.length (b := .inl ()) (fun k hk => ?_) ?_
  · have this : loopO (esref39_EqualOperation.l1 o o) 0 = some (.inl ()) := this
    rw [this]; rfl
  · unfold esref39_EqualOperation.l1
    simp only [lt_of_len hk, if_true, idx_nat hk, Option.bind_some, decide_true, Bool.not_true, Bool.false_eq_true, if_false, letV_of, wcast hk (by omega)]
  · unfold esref39_EqualOperation.l1
    simp only [not_lt_len, Bool.false_eq_true, if_false]
theorem historyBefore_true (l : List Int) (a b : Int) : eslaw38_HistoryBefore l a b = some true := by
  obtain ⟨n, ops, hT, hM, hl⟩ := Times_ex l
  have hg := hM.good
  obtain ⟨x, hx, hx0, hx1⟩ := Index_ex a 45 (by decide) (by decide)
  obtain ⟨y, hy, hy0, hy1⟩ := Index_ex b 9 (by decide) (by decide)
  unfold eslaw38_HistoryBefore
  rw [hT, Option.bind_some, hx, Option.bind_some, letV_of]
  have hw : IntKind.i64.wrap (x - 2) = x - 2 := w64 (by omega) (by omega)
  have hw2 : IntKind.i64.wrap (x - 2 + y) = x - 2 + y := w64 (by omega) (by omega)
  rw [hw]
  have hb := Before_eq (h := ⟨ops⟩) (x - 2) hM.res (by show ops.length ≤ 1000; omega)
  have hb2 := refBefore_eq (h := ⟨ops⟩) (x - 2) (fun o ho => (hM.res o ho).1) (by show ops.length ≤ 1000; omega)
  have hlen := befL_length (x - 2) ops
  have hres : ∀ o ∈ befL (x - 2) ops, o.Result = [] ∧ o.Effects.length ≤ 100 := by
    intro o ho
    obtain ⟨q, hq, _, rfl⟩ := befL_mem ho
    exact ⟨rfl, (hM.res q hq).2⟩
  have hb3 := Before_eq (h := ⟨befL (x - 2) ops⟩) (x - 2 + y) hres (by show (befL (x - 2) ops).length ≤ 1000; omega)
  have hv := Validate_eq ⟨befL (x - 2) ops⟩ (by show (befL (x - 2) ops).length ≤ 1000; omega)
  rw [(bef_good (e := x - 2) hg hM.res).val] at hv
  have hb : history_Before ⟨ops⟩ (x - 2) = some ⟨befL (x - 2) ops⟩ := hb
  have hb2 : esref39_Before ⟨ops⟩ (x - 2) = some ⟨befL (x - 2) ops⟩ := hb2
  have hb3 : history_Before ⟨befL (x - 2) ops⟩ (x - 2 + y) = some ⟨befL (x - 2) ops⟩ := by
    rw [hb3]
    show some (⟨befL (x - 2 + y) (befL (x - 2) ops)⟩ : history_History) = _
    rw [bef_again (by omega)]
  simp only [hb, hb2, hv, Option.bind_some, bne_self_eq_false, Bool.false_eq_true, if_false, eslaw38_HistoryBefore.j3, hy, letV_of, hw2, hb3]
  have hloop : loopO (eslaw38_HistoryBefore.l1 ⟨befL (x - 2) ops⟩ ⟨befL (x - 2) ops⟩ ⟨befL (x - 2) ops⟩) 0 = some (.inl ()) := by
    have := loopO_up (step := eslaw38_HistoryBefore.l1 ⟨befL (x - 2) ops⟩ ⟨befL (x - 2) ops⟩ ⟨befL (x - 2) ops⟩) (fun k => (k : Int)) (befL (x - 2) ops).length (b := .inl ()) (fun k hk => ?_) ?_
    · exact this
    · have he := EqualOperation_refl (hres _ (List.getElem_mem hk))
      unfold eslaw38_HistoryBefore.l1
      simp only [lt_of_len hk, if_true, idx_nat hk, Option.bind_some, he, Bool.not_true, bne_self_eq_false, Bool.false_eq_true, if_false, eslaw38_HistoryBefore.j2, letV_of, wcast hk (by omega)]
    · unfold eslaw38_HistoryBefore.l1
      simp only [not_lt_len, Bool.false_eq_true, if_false]
  rw [hloop]
  simp only [Option.bind_some, eslaw38_HistoryBefore.j1, awake_true]
end Go.Proofs.Ytbbeobiampbddaa
