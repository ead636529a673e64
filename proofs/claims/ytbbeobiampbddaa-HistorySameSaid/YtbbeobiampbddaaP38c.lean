/- Plain laws: the package's Validate. -/
import Derived.Test.YtbbeobiampbddaaP38b
set_option linter.unusedVariables false
namespace Go.Proofs.Ytbbeobiampbddaa
open Go Go.Proofs.YtbbeobiampbddaaL
/-- What the validator knows of the preceding operations. -/
structure VI (prev : List history_Operation) (last : Int) (ev : List (Int × Bool)) (rt : List (Int × Int)) : Prop where
  la : last = lastCall prev
  ord : ∀ o ∈ prev, 1 ≤ o.Call ∧ o.Call ≤ last ∧ (o.Return ≠ 0 → o.Call < o.Return)
  nn : 0 ≤ last
  eve : ∀ e, (ev.lookup e).getD false = true ↔ ∃ o ∈ prev, e = o.Call ∨ (o.Return ≠ 0 ∧ e = o.Return)
  ret : ∀ p c, 0 ≤ c → (c < (rt.lookup p).getD 0 ↔ ∃ o ∈ prev, o.Process = p ∧ c < o.Return)
theorem VI.nil : VI [] 0 [] [] := ⟨rfl, by simp, by omega, by simp, fun p c h => by simp; omega⟩
theorem vErr_zero {o : history_Operation} (h : vErr o = 0) : 1 ≤ o.Call ∧ (o.Return ≠ 0 → o.Call < o.Return) := by
  have h1 := vErr_eq o
  rw [h] at h1
  simp only [esref39_validOperation, esref39_validOperation.j2, esref39_validOperation.j1, esref06_Client, esref06_Client.j1] at h1
  by_cases a1 : 101 ≤ o.Process <;> by_cases a2 : o.Process < 107 <;> by_cases a3 : o.Kind < 1 <;> by_cases a4 : 3 < o.Kind <;> by_cases a5 : o.Call < 1 <;> by_cases a6 : o.Return = 0 <;> by_cases a7 : o.Return ≤ o.Call <;> simp [a1, a2, a3, a4, a5, a6, a7] at h1 <;> constructor <;> omega
theorem VI.next {prev : List history_Operation} {last : Int} {ev : List (Int × Bool)} {rt : List (Int × Int)} (h : VI prev last ev rt) {o : history_Operation} (hv : vErr o = 0) (hl : last < o.Call) {ev' : List (Int × Bool)}
    (he : ev' = if o.Return != 0 then mset (mset ev o.Call true) o.Return true else mset ev o.Call true) :
    VI (prev ++ [o]) o.Call ev' (mset rt o.Process (maxI ((rt.lookup o.Process).getD 0) o.Return)) := by
  obtain ⟨v1, v2⟩ := vErr_zero hv
  refine ⟨(lastCall_snoc _ _).symm, fun q hq => ?_, by omega, fun e => ?_, fun p c hc => ?_⟩
  · rcases List.mem_append.1 hq with hq | hq
    · obtain ⟨a, b, c⟩ := h.ord q hq
      exact ⟨a, by omega, c⟩
    · simp at hq; subst hq; exact ⟨v1, by omega, v2⟩
  · subst he
    have hx : (∃ q ∈ prev ++ [o], e = q.Call ∨ (q.Return ≠ 0 ∧ e = q.Return)) ↔ (∃ q ∈ prev, e = q.Call ∨ (q.Return ≠ 0 ∧ e = q.Return)) ∨ e = o.Call ∨ (o.Return ≠ 0 ∧ e = o.Return) := by
      simp only [List.mem_append, List.mem_singleton, or_and_right, exists_or, exists_eq_left]
    rw [hx, ← h.eve e]
    cases hr : (o.Return != 0) with
    | true =>
      have hr' : o.Return ≠ 0 := by simpa using hr
      simp only [if_true, mset_lookup]
      by_cases e1 : e = o.Return
      · subst e1; simp [hr']
      · have e1' : (e == o.Return) = false := by simpa using e1
        rw [e1']
        by_cases e2 : e = o.Call
        · subst e2; simp
        · have e2' : (e == o.Call) = false := by simpa using e2
          rw [e2']; simp [e1, e2]
    | false =>
      have hr' : o.Return = 0 := by simpa using hr
      simp only [Bool.false_eq_true, if_false, mset_lookup]
      by_cases e2 : e = o.Call
      · subst e2; simp
      · have e2' : (e == o.Call) = false := by simpa using e2
        rw [e2']; simp [e2, hr']
  · have hx : (∃ q ∈ prev ++ [o], q.Process = p ∧ c < q.Return) ↔ (∃ q ∈ prev, q.Process = p ∧ c < q.Return) ∨ (o.Process = p ∧ c < o.Return) := by
      simp only [List.mem_append, List.mem_singleton, or_and_right, exists_or, exists_eq_left]
    rw [hx, ← h.ret p c hc, mset_lookup]
    by_cases e1 : p = o.Process
    · subst e1
      simp only [beq_self_eq_true, if_true, Option.getD_some, true_and]
      unfold maxI
      split <;> omega
    · have e1' : (p == o.Process) = false := by simpa using e1
      rw [e1']
      have : o.Process ≠ p := fun h => e1 h.symm
      simp [this]
theorem dup_iff {prev : List history_Operation} {last : Int} {ev : List (Int × Bool)} {rt : List (Int × Int)} (h : VI prev last ev rt) {o : history_Operation} (hl : last < o.Call) :
    dupB prev o = ((ev.lookup o.Call).getD false || (o.Return != 0 && (ev.lookup o.Return).getD false)) := by
  rw [Bool.eq_iff_iff]
  unfold dupB
  simp only [List.any_eq_true, Bool.or_eq_true, Bool.and_eq_true, h.eve, beq_iff_eq, bne_iff_ne, ne_eq]
  constructor
  · rintro ⟨k, hk, h1 | ⟨h1, h2 | h2⟩⟩
    · refine .inl ⟨k, hk, .inr ⟨fun h0 => ?_, h1⟩⟩
      have := h.nn
      omega
    · exact .inr ⟨h1, k, hk, .inl h2⟩
    · exact .inr ⟨h1, k, hk, .inr ⟨fun h0 => h1 (h2.trans h0), h2⟩⟩
  · rintro (⟨k, hk, h1 | ⟨h1, h2⟩⟩ | ⟨h1, k, hk, h2 | ⟨h2, h3⟩⟩)
    · obtain ⟨a, b, c⟩ := h.ord k hk
      omega
    · exact ⟨k, hk, .inl h2⟩
    · exact ⟨k, hk, .inr ⟨h1, .inl h2⟩⟩
    · exact ⟨k, hk, .inr ⟨h1, .inr h3⟩⟩
theorem st_iff {prev : List history_Operation} {last : Int} {ev : List (Int × Bool)} {rt : List (Int × Int)} (h : VI prev last ev rt) {o : history_Operation} (hl : last < o.Call) :
    stB prev o = decide (o.Call < (rt.lookup o.Process).getD 0) := by
  rw [Bool.eq_iff_iff, decide_eq_true_iff, h.ret _ _ (by have := h.nn; omega)]
  unfold stB
  simp only [List.any_eq_true, Bool.and_eq_true, beq_iff_eq, decide_eq_true_iff]
theorem operation_eq {prev : List history_Operation} {last : Int} {ev : List (Int × Bool)} {rt : List (Int × Int)} (h : VI prev last ev rt) (o : history_Operation) :
    history_validator_operation ⟨last, ev, rt⟩ o = some (opErr prev o, ⟨last, ev, rt⟩) := by
  have hv : ∀ x : Int × history_validator, (if decide (o.Process < 101) = true then history_validator_operation.j4 ⟨last, ev, rt⟩ o true else history_validator_operation.j4 ⟨last, ev, rt⟩ o (decide (107 ≤ o.Process))) = some x ↔
      (if vErr o ≠ 0 then some (vErr o, (⟨last, ev, rt⟩ : history_validator)) else history_validator_operation.j2 ⟨last, ev, rt⟩ o false) = some x := by
    intro x
    have h1 := vErr_eq o
    simp only [esref39_validOperation, esref39_validOperation.j2, esref39_validOperation.j1, esref06_Client, esref06_Client.j1] at h1
    simp only [history_validator_operation.j4, history_validator_operation.j3]
    by_cases a1 : 101 ≤ o.Process <;> by_cases a2 : o.Process < 107 <;> by_cases a3 : o.Kind < 1 <;> by_cases a4 : 3 < o.Kind <;> by_cases a5 : o.Call < 1 <;> by_cases a6 : o.Return = 0 <;> by_cases a7 : o.Return ≤ o.Call <;>
      (have b1 : (o.Process < 101) = ¬ (101 ≤ o.Process) := propext ⟨fun h => by omega, fun h => by omega⟩
       have b2 : (107 ≤ o.Process) = ¬ (o.Process < 107) := propext ⟨fun h => by omega, fun h => by omega⟩
       simp [a1, a2, a3, a4, a5, a6, a7] at h1
       simp [b1, b2, a1, a2, a3, a4, a5, a6, a7, ← h1, history_validator_operation.j2])
  unfold history_validator_operation
  rw [hv]
  unfold opErr
  by_cases h0 : vErr o = 0
  · rw [if_neg (by simp [h0]), if_neg (by simp [h0])]
    unfold history_validator_operation.j2
    obtain ⟨v1, v2⟩ := vErr_zero h0
    have hlt : decide (o.Call ≤ last) = (decide (0 < prev.length) && decide (o.Call ≤ lastCall prev)) := by
      rw [← h.la]
      cases prev with
      | nil =>
        have : last = 0 := h.la
        simp; omega
      | cons q l => simp
    rw [if_neg (by simp), hlt]
    cases hb : (decide (0 < prev.length) && decide (o.Call ≤ lastCall prev)) with
    | true => rfl
    | false =>
      rw [hb] at hlt
      have hl : last < o.Call := by have := of_decide_eq_false hlt; omega
      simp only [Bool.false_eq_true, if_false, contents_c, Option.bind_some]
      by_cases hc : cErr o = 0
      · rw [if_neg (show ¬ ((cErr o != 0) = true) by simp [hc]), if_neg (show ¬ (cErr o ≠ 0) by simp [hc]), dup_iff h hl, st_iff h hl]
        simp only [letV_of, history_validator_operation.j1]
        cases (ev.lookup o.Call).getD false <;> cases o.Return != 0 <;> cases (ev.lookup o.Return).getD false <;> cases decide (o.Call < (rt.lookup o.Process).getD 0) <;> simp
      · rw [if_pos (by simpa using hc), if_pos hc]
  · rw [if_pos h0, if_pos h0]
theorem opErr_zero {prev : List history_Operation} {o : history_Operation} (h : opErr prev o = 0) : vErr o = 0 ∧ (decide (0 < prev.length) && decide (o.Call ≤ lastCall prev)) = false := by
  unfold opErr at h
  by_cases h0 : vErr o = 0
  · refine ⟨h0, ?_⟩
    rw [if_neg (by simp [h0])] at h
    cases hb : (decide (0 < prev.length) && decide (o.Call ≤ lastCall prev)) with
    | false => rfl
    | true => rw [hb, if_pos rfl] at h; cases h
  · rw [if_pos h0] at h; exact absurd h h0
theorem Validate_eq (h : history_History) (hm : h.Operations.length ≤ 1000) : history_Validate h = some (valL [] h.Operations) := by
  unfold history_Validate
  obtain ⟨b, hb, hq⟩ : ∃ b, loopO (history_Validate.l1 h) (0, 0, [], []) = some b ∧ (fun b : Unit ⊕ Int => match b with | .inl _ => valL [] h.Operations = 0 | .inr e => valL [] h.Operations = e) b := by
    refine loopO_ex (fun k (s : Int × Int × (List (Int × Bool)) × (List (Int × Int))) => s.1 = (k : Int) ∧ VI (h.Operations.take k) s.2.1 s.2.2.1 s.2.2.2 ∧ valL [] h.Operations = valL (h.Operations.take k) (h.Operations.drop k)) h.Operations.length ⟨rfl, VI.nil, rfl⟩ (fun k s hk hI => ?_) (fun s hI => ?_)
    · obtain ⟨i, last, ev, rt⟩ := s
      obtain ⟨h1, hV, hI⟩ := hI
      have h1 : i = (k : Int) := h1
      subst h1
      have hV : VI (h.Operations.take k) last ev rt := hV
      obtain ⟨t1, t2⟩ := take_drop_step hk hI
      unfold history_Validate.l1
      simp only [lt_of_len hk, if_true, idx_nat hk, Option.bind_some, operation_eq hV]
      by_cases ho : opErr (h.Operations.take k) h.Operations[k] = 0
      · rw [if_neg (by simp [ho])]
        obtain ⟨z1, z2⟩ := opErr_zero ho
        obtain ⟨v1, v2⟩ := vErr_zero z1
        have hl : last < h.Operations[k].Call := by
          rw [← hV.la] at z2
          rcases Nat.eq_zero_or_pos (h.Operations.take k).length with h0 | h0
          · have : h.Operations.take k = [] := List.length_eq_zero_iff.1 h0
            have hl0 := hV.la
            rw [this] at hl0
            have : last = 0 := hl0
            omega
          · rw [decide_eq_true h0, Bool.true_and] at z2
            have := of_decide_eq_false z2
            omega
        have hn := hV.next z1 hl rfl
        rw [← take_snoc hk] at hn
        refine .inl ⟨(((k + 1 : Nat) : Int), h.Operations[k].Call, _, _), ?_, rfl, hn, t2 ho⟩
        simp only [letV_of, history_Validate.j2, wcast hk (by omega)]
        cases h.Operations[k].Return != 0 <;> rfl
      · rw [if_pos (by simpa using ho)]
        exact .inr ⟨_, rfl, t1 ho⟩
    · obtain ⟨i, last, ev, rt⟩ := s
      obtain ⟨h1, hV, hI⟩ := hI
      have h1 : i = (h.Operations.length : Int) := h1
      subst h1
      unfold history_Validate.l1
      refine ⟨.inl (), by simp only [not_lt_len, Bool.false_eq_true, if_false], ?_⟩
      show valL [] h.Operations = 0
      rw [hI, List.drop_length, valL]
  rw [hb, Option.bind_some]
  cases b with
  | inl x => rw [show valL [] h.Operations = 0 from hq]; rfl
  | inr e => rw [show valL [] h.Operations = e from hq]
end Go.Proofs.Ytbbeobiampbddaa
