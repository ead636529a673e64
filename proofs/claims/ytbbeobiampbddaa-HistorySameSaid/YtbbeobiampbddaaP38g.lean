/- Plain laws: Before; the sanity check. -/
import Derived.Test.YtbbeobiampbddaaP38f
set_option linter.unusedVariables false
namespace Go.Proofs.Ytbbeobiampbddaa
open Go Go.Proofs.YtbbeobiampbddaaL
theorem cErr_other {o : history_Operation} (hk : o.Kind ≠ 1) (he : o.Effects = []) (hr : o.Result = []) : cErr o = 0 := by
  have h1 := cErr_eq o
  unfold esref39_content at h1
  rw [he, hr, if_neg (by simpa using hk), if_neg (by simp)] at h1
  simp only [esref39_content.j2, List.length_nil] at h1
  have : some (0 : Int) = some (cErr o) := by
    rw [← h1]
    cases o.Return == 0 <;> rfl
  exact (Option.some.inj this).symm
theorem upd_one {e : api_Effect} (hv : esref14_ValidateEffect e = some 0) : esref14_ValidateUpdate ⟨101, 1, 0, [e]⟩ = some 0 := by
  have h2 : esref14_ValidateUpdate ⟨101, 1, 0, [e]⟩ = esref14_ValidateUpdate.j3 ⟨101, 1, 0, [e]⟩ false := by
    simp [esref14_ValidateUpdate, esref06_Client, esref06_Client.j1]
  rw [h2]
  unfold esref14_ValidateUpdate.j3
  have hl : loopO (esref14_ValidateUpdate.l1 ⟨101, 1, 0, [e]⟩) 0 = some (.inl ()) := by
    have := loopO_up (step := esref14_ValidateUpdate.l1 ⟨101, 1, 0, [e]⟩) (fun k => (k : Int)) 1 (b := .inl ()) (fun k hk => ?_) ?_
    · exact this
    · obtain rfl : k = 0 := by omega
      unfold esref14_ValidateUpdate.l1
      show (if decide ((0 : Int) < 1) = true then _ else _) = _
      rw [if_pos (by decide)]
      show (idx [e] 0).bind _ = _
      rw [idx_zero, Option.bind_some, hv, Option.bind_some, if_neg (by decide)]
      rfl
    · unfold esref14_ValidateUpdate.l1
      show (if decide ((1 : Int) < 1) = true then _ else _) = _
      rw [if_neg (by decide)]
  have hc := refCommutes_eq ⟨101, 1, 0, [e]⟩ (show [e].length ≤ 4 by simp)
  simp only [hl, Option.bind_some, esref14_ValidateUpdate.j2, hc, esref14_ValidateUpdate.j1]
  cases comm [e] <;> simp
theorem cErr_upd {o : history_Operation} {e : api_Effect} (hk : o.Kind = 1) (hr : o.Result = []) (he : o.Effects = [e]) (hv : esref14_ValidateEffect e = some 0) : cErr o = 0 := by
  have h1 := cErr_eq o
  unfold esref39_content at h1
  rw [hk, hr, he, if_pos (by decide), if_neg (by decide), upd_one hv] at h1
  exact (Option.some.inj h1).symm
theorem vErr_ok {o : history_Operation} (h1 : 101 ≤ o.Process) (h2 : o.Process < 107) (h3 : 1 ≤ o.Kind) (h4 : o.Kind ≤ 3) (h5 : 1 ≤ o.Call) (h6 : o.Return = 0 ∨ o.Call < o.Return) : vErr o = 0 := by
  have h := vErr_eq o
  unfold esref39_validOperation at h
  have hc : esref06_Client o.Process = some true := by
    unfold esref06_Client esref06_Client.j1
    rw [if_pos (by simpa using h1), decide_eq_true h2]
  rw [hc, Option.bind_some, if_neg (by simp), if_neg (by simp; omega)] at h
  unfold esref39_validOperation.j2 esref39_validOperation.j1 at h
  rw [if_neg (by simp; omega), if_neg (by simp; omega)] at h
  rcases h6 with h6 | h6
  · rw [h6, if_neg (by simp)] at h
    exact (Option.some.inj h).symm
  · have : (o.Return != 0) = true := by simp; omega
    rw [this, if_pos rfl, decide_eq_false (by omega)] at h
    exact (Option.some.inj h).symm
/-! Before. -/
def befO (e : Int) (o : history_Operation) : history_Operation := ⟨o.Process, o.Kind, o.Effects, [], o.Call, if decide (e ≤ o.Return) then 0 else o.Return⟩
def befL (e : Int) (l : List history_Operation) : List history_Operation := (l.filter fun o => decide (o.Call < e)).map (befO e)
theorem befL_length (e : Int) (l : List history_Operation) : (befL e l).length ≤ l.length := by
  unfold befL
  rw [List.length_map]
  exact List.length_filter_le _ _
theorem befL_snoc (e : Int) (l : List history_Operation) (o : history_Operation) : befL e (l ++ [o]) = befL e l ++ if decide (e ≤ o.Call) then [] else [befO e o] := by
  unfold befL
  rw [List.filter_append, List.map_append, List.filter_cons, List.filter_nil]
  congr 1
  by_cases h : e ≤ o.Call
  · rw [decide_eq_true h, decide_eq_false (by omega), if_pos rfl, if_neg (by simp)]; rfl
  · rw [decide_eq_false h, decide_eq_true (by omega), if_pos rfl, if_neg (by simp)]; rfl
theorem cloneValues_nil : history_cloneValues [] = some [] := by
  unfold history_cloneValues
  rw [loopO_done (b := []) (by unfold history_cloneValues.l1; rfl)]
  rfl
theorem Before_eq {h : history_History} (e : Int) (hr : ∀ o ∈ h.Operations, o.Result = [] ∧ o.Effects.length ≤ 100) (hm : h.Operations.length ≤ 1000) : history_Before h e = some ⟨befL e h.Operations⟩ := by
  unfold history_Before
  obtain ⟨b, hb, hq⟩ : ∃ b, loopO (history_Before.l1 h e) (0, []) = some b ∧ b = befL e h.Operations := by
    refine loopO_inv (fun k s => s = ((k : Int), befL e (h.Operations.take k))) h.Operations.length rfl (fun k s hk hI => ?_) (fun s hI => ?_)
    · subst hI
      obtain ⟨hr1, hr2⟩ := hr _ (List.getElem_mem hk)
      have hl : (befL e (h.Operations.take k)).length ≤ k := Nat.le_trans (befL_length _ _) (by rw [List.length_take]; omega)
      have hcl : slices_Clone_Effect h.Operations[k].Effects = some h.Operations[k].Effects := by
        unfold slices_Clone_Effect
        rw [app_of (by simp; omega)]; rfl
      unfold history_Before.l1
      simp only [lt_of_len hk, if_true, idx_nat hk, Option.bind_some, hcl, history_Before.j4, history_Before.j3, history_Before.j2, letV_of, wcast hk (by omega), hr1, cloneValues_nil]
      refine ⟨_, ?_, rfl⟩
      rw [take_snoc hk, befL_snoc]
      cases decide (e ≤ h.Operations[k].Call) with
      | true => rw [if_pos rfl, if_pos rfl, List.append_nil]
      | false =>
        have ha : ∀ r, app 80 (befL e (h.Operations.take k)) [(⟨h.Operations[k].Process, h.Operations[k].Kind, h.Operations[k].Effects, [], h.Operations[k].Call, r⟩ : history_Operation)] = some (befL e (h.Operations.take k) ++ [⟨h.Operations[k].Process, h.Operations[k].Kind, h.Operations[k].Effects, [], h.Operations[k].Call, r⟩]) := fun r => app_of (by simp; omega)
        simp only [ha, Option.bind_some, ite_self, Bool.false_eq_true, if_false]
        unfold befO
        cases decide (e ≤ h.Operations[k].Return) <;> rfl
    · subst hI
      unfold history_Before.l1
      dsimp only
      exact ⟨_, if_neg (by rw [not_lt_len]; simp), by rw [List.take_length]⟩
  rw [hb, hq]; rfl
theorem refBefore_eq {h : history_History} (e : Int) (hr : ∀ o ∈ h.Operations, o.Result = []) (hm : h.Operations.length ≤ 1000) : esref39_Before h e = some ⟨befL e h.Operations⟩ := by
  unfold esref39_Before
  obtain ⟨b, hb, hq⟩ : ∃ b, loopO (esref39_Before.l1 h e) (0, []) = some b ∧ b = befL e h.Operations := by
    refine loopO_inv (fun k s => s = ((k : Int), befL e (h.Operations.take k))) h.Operations.length rfl (fun k s hk hI => ?_) (fun s hI => ?_)
    · subst hI
      have hr1 := hr _ (List.getElem_mem hk)
      have hl : (befL e (h.Operations.take k)).length ≤ k := Nat.le_trans (befL_length _ _) (by rw [List.length_take]; omega)
      unfold esref39_Before.l1
      simp only [lt_of_len hk, if_true, idx_nat hk, Option.bind_some, esref39_Before.j3, esref39_Before.j2, letV_of, wcast hk (by omega), hr1]
      refine ⟨_, ?_, rfl⟩
      rw [take_snoc hk, befL_snoc]
      cases decide (e ≤ h.Operations[k].Call) with
      | true => rw [if_pos rfl, if_pos rfl, List.append_nil]
      | false =>
        have ha : ∀ r, app 80 (befL e (h.Operations.take k)) [(⟨h.Operations[k].Process, h.Operations[k].Kind, h.Operations[k].Effects, [], h.Operations[k].Call, r⟩ : history_Operation)] = some (befL e (h.Operations.take k) ++ [⟨h.Operations[k].Process, h.Operations[k].Kind, h.Operations[k].Effects, [], h.Operations[k].Call, r⟩]) := fun r => app_of (by simp; omega)
        simp only [ha, Option.bind_some, Bool.false_eq_true, if_false]
        unfold befO
        cases decide (e ≤ h.Operations[k].Return) <;> rfl
    · subst hI
      unfold esref39_Before.l1
      dsimp only
      exact ⟨_, if_neg (by rw [not_lt_len]; simp), by rw [List.take_length]⟩
  rw [hb, hq]; rfl
/-! The sanity check. -/
def wE : api_Effect := ⟨5, [97], [98], 0, []⟩
def wL : List history_Operation := [⟨101, 1, [wE], [], 1, 4⟩, ⟨102, 3, [], [], 3, 0⟩, ⟨101, 2, [], [], 5, 6⟩]
def wU : api_Update := ⟨101, 1, 0, [wE]⟩
def wO : List fold_Object := [⟨[97], [⟨[98], ⟨false, 0, 0, 0, 0, []⟩, false, 0, 0, [], true⟩]⟩]
theorem wE_ok : esref14_ValidateEffect wE = some 0 := by
  simp [esref14_ValidateEffect, esref14_ValidateEffect.j6, esref14_ValidateEffect.j5, esref14_ValidateEffect.j4, esref14_ValidateEffect.j3, esref14_ValidateEffect.j2, esref14_ValidateEffect.j1, wE]
theorem wL_good : Good wL := by
  refine ⟨fun o ho => ?_, fun o ho => ?_, by decide⟩
  · simp only [wL, List.mem_cons, List.not_mem_nil, or_false] at ho
    rcases ho with rfl | rfl | rfl <;> exact vErr_ok (by decide) (by decide) (by decide) (by decide) (by decide) (by decide)
  · simp only [wL, List.mem_cons, List.not_mem_nil, or_false] at ho
    rcases ho with rfl | rfl | rfl
    · exact cErr_upd rfl rfl rfl wE_ok
    · exact cErr_other (by decide) rfl rfl
    · exact cErr_other (by decide) rfl rfl
theorem awake_true : eslaw38_awake = some true := by
  unfold eslaw38_awake
  have hA := Apply_eq (n := 0) (t := ⟨[]⟩) (u := wU) (GD_nil 0) (by intro e he; simp [wU] at he; subst he; exact ⟨by decide, by decide, by decide⟩) (by decide)
  obtain ⟨e1, g1⟩ := hA
  have ew : appT wU [] = wO := by decide
  rw [ew] at e1 g1
  have e2 := Visible_eq (t := ⟨wO⟩) g1 (by decide)
  have e3 := Validate_eq ⟨wL⟩ (by decide)
  have e3' : valL [] wL = 0 := wL_good.val
  have e4 := Width_eq (h := ⟨wL⟩) (by decide) (by decide) (by decide)
  have e5 := Of_eq ⟨wL⟩ 101 (by decide)
  have e6 := Before_eq (h := ⟨wL⟩) 4 (by decide) (by decide)
  show ((idx wL 0).bind fun x7 => (fold_Apply (⟨[]⟩ : fold_Store) (⟨101, 1, 0, x7.Effects⟩ : api_Update)).bind fun x13 => (history_Visible x13).bind fun x16 => (history_Validate ⟨wL⟩).bind fun x24 =>
    if (x24 == 0) = true then (history_Precedes ⟨wL⟩ 0 2).bind fun x26 => if x26 = true then (history_Precedes ⟨wL⟩ 0 1).bind fun x28 => if (!x28) = true then (history_Concurrent ⟨wL⟩ 1 2).bind fun x30 => if x30 = true then (history_Concurrent ⟨wL⟩ 0 2).bind fun x32 => if (!x32) = true then (history_Width ⟨wL⟩).bind fun x34 => if (x34 == 2) = true then if ((x16.length : Int) == 1) = true then (idx x16 0).bind fun x37 => if x37.Flag = true then (history_Of ⟨wL⟩ 101).bind fun x42 => if ((x42.length : Int) == 2) = true then (history_Before ⟨wL⟩ 4).bind fun x47 => if (((⟨x47.Operations⟩ : history_History).Operations.length : Int) == 2) = true then (history_Before ⟨wL⟩ 4).bind fun x55 => (idx (⟨x55.Operations⟩ : history_History).Operations 0).bind fun x62 => eslaw38_awake.j1 (x62.Return == 0)
      else eslaw38_awake.j1 false else eslaw38_awake.j1 false else eslaw38_awake.j1 false else eslaw38_awake.j1 false else eslaw38_awake.j1 false else eslaw38_awake.j1 false else eslaw38_awake.j1 false else eslaw38_awake.j1 false else eslaw38_awake.j1 false else eslaw38_awake.j1 false) = some true
  rw [show idx wL 0 = some ⟨101, 1, [wE], [], 1, 4⟩ from rfl, Option.bind_some]
  have e1 : fold_Apply (⟨[]⟩ : fold_Store) (⟨101, 1, 0, [wE]⟩ : api_Update) = some ⟨wO⟩ := e1
  have e7 : wd [] wL 0 = 2 := by decide
  have e8 : ofL 101 0 wL = [0, 2] := by decide
  have e9 : befL 4 wL = [⟨101, 1, [wE], [], 1, 0⟩, ⟨102, 3, [], [], 3, 0⟩] := by decide
  have e10 : visL wO = [⟨[97], [98], false, 0, [], false, 0, 0, [], true⟩] := by decide
  have p1 : prB wL 0 2 = true := by decide
  have p2 : prB wL 0 1 = false := by decide
  have p3 : coB wL 1 2 = true := by decide
  have p4 : coB wL 0 2 = false := by decide
  simp only [e1, e2, e3, e3', e4, e5, e6, e7, e8, e9, e10, Precedes_eq, Concurrent_eq, p1, p2, p3, p4, Option.bind_some]
  rfl
end Go.Proofs.Ytbbeobiampbddaa
