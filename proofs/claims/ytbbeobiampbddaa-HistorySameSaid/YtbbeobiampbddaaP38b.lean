/- Plain laws: Validate. -/
import Derived.Test.YtbbeobiampbddaaP38a
set_option linter.unusedVariables false
namespace Go.Proofs.Ytbbeobiampbddaa
open Go Go.Proofs.YtbbeobiampbddaaL
noncomputable def vErr (o : history_Operation) : Int := (esref39_validOperation o).getD 0
noncomputable def cErr (o : history_Operation) : Int := (esref39_content o).getD 0
theorem vErr_eq (o : history_Operation) : esref39_validOperation o = some (vErr o) := by
  obtain ⟨r, hr⟩ := valid_some o
  unfold vErr; rw [hr]; rfl
theorem cErr_eq (o : history_Operation) : esref39_content o = some (cErr o) := by
  obtain ⟨_, r, hr⟩ := contents_eq o
  unfold cErr; rw [hr]; rfl
theorem contents_c (o : history_Operation) : history_contents o = some (cErr o) := by rw [(contents_eq o).1, cErr_eq]
def lastCall : List history_Operation → Int
  | [] => 0
  | [o] => o.Call
  | _ :: l => lastCall l
theorem lastCall_snoc : ∀ (l : List history_Operation) (o : history_Operation), lastCall (l ++ [o]) = o.Call
  | [], o => rfl
  | [a], o => rfl
  | a :: b :: l, o => by
    show lastCall (b :: l ++ [o]) = o.Call
    exact lastCall_snoc (b :: l) o
def dupB (prev : List history_Operation) (o : history_Operation) : Bool := prev.any fun k => o.Call == k.Return || (o.Return != 0 && (o.Return == k.Call || o.Return == k.Return))
def stB (prev : List history_Operation) (o : history_Operation) : Bool := prev.any fun k => k.Process == o.Process && decide (o.Call < k.Return)
noncomputable def opErr (prev : List history_Operation) (o : history_Operation) : Int :=
  if vErr o ≠ 0 then vErr o else if decide (0 < prev.length) && decide (o.Call ≤ lastCall prev) then 7 else if cErr o ≠ 0 then cErr o else if dupB prev o then 5 else if stB prev o then 17 else 0
noncomputable def valL : List history_Operation → List history_Operation → Int
  | _, [] => 0
  | prev, o :: l => if opErr prev o ≠ 0 then opErr prev o else valL (prev ++ [o]) l
theorem take_drop_step {xs : List history_Operation} {k : Nat} (hk : k < xs.length) (h : valL [] xs = valL (xs.take k) (xs.drop k)) :
    (opErr (xs.take k) xs[k] ≠ 0 → valL [] xs = opErr (xs.take k) xs[k]) ∧ (opErr (xs.take k) xs[k] = 0 → valL [] xs = valL (xs.take (k + 1)) (xs.drop (k + 1))) := by
  rw [List.drop_eq_getElem_cons hk, valL] at h
  constructor
  · intro hn
    rw [h, if_pos hn]
  · intro hz
    rw [h, if_neg (by simp [hz]), take_snoc hk]
/-! The reference. -/
theorem anyLoop {xs : List history_Operation} {f : history_Operation → Bool} {step : Int → Option (Int ⊕ (Unit ⊕ Int))} {n : Nat} {er : Int} (hn : n ≤ xs.length) (hm : xs.length ≤ 30)
    (hs : ∀ k, (hk : k < n) → step (k : Int) = if f (xs[k]'(by omega)) then some (.inr (.inr er)) else some (.inl (IntKind.i64.wrap ((k : Int) + 1)))) (he : step (n : Int) = some (.inr (.inl ()))) :
    loopO step 0 = some (if (xs.take n).any f then .inr er else .inl ()) := by
  obtain ⟨b, hb, hq⟩ : ∃ b, loopO step (0 : Int) = some b ∧ b = (if (xs.take n).any f then .inr er else .inl ()) := by
    refine loopO_ex (fun k s => s = (k : Int) ∧ ∀ o ∈ xs.take k, f o = false) n ⟨rfl, by simp⟩ (fun k s hk hI => ?_) (fun s hI => ?_)
    · obtain ⟨rfl, hI⟩ := hI
      rw [hs k hk]
      have hk' : k < xs.length := by omega
      cases hc : f xs[k] with
      | true =>
        refine .inr ⟨_, rfl, ?_⟩
        rw [if_pos]
        rw [List.any_eq_true]
        refine ⟨xs[k], ?_, hc⟩
        rw [List.mem_take_iff_getElem]
        exact ⟨k, by omega, rfl⟩
      | false =>
        refine .inl ⟨((k + 1 : Nat) : Int), by rw [if_neg (by simp), wcast hk' (by omega)], rfl, fun o ho => ?_⟩
        rw [take_snoc hk'] at ho
        rcases List.mem_append.1 ho with ho | ho
        · exact hI o ho
        · simp at ho; subst ho; exact hc
    · obtain ⟨rfl, hI⟩ := hI
      refine ⟨_, he, ?_⟩
      rw [if_neg]
      rw [List.any_eq_true]
      rintro ⟨o, ho, h⟩
      rw [hI o ho] at h; cases h
  rw [hb, hq]
theorem l1_eq {h : history_History} {k : Nat} (hk : k < h.Operations.length) (hm : h.Operations.length ≤ 30) :
    loopO (esref39_Validate.l1 h k) 0 = some (if stB (h.Operations.take k) h.Operations[k] then .inr 17 else .inl ()) := by
  refine anyLoop (xs := h.Operations) (n := k) (f := fun o => o.Process == h.Operations[k].Process && decide (h.Operations[k].Call < o.Return)) (by omega) hm (fun j hj => ?_) ?_
  · have hj' : j < h.Operations.length := by omega
    unfold esref39_Validate.l1
    have hlt : decide ((j : Int) < (k : Int)) = true := by simpa using hj
    simp only [hlt, if_true, idx_nat hj', idx_nat hk, Option.bind_some, esref39_Validate.j3, letV_of]
    cases h.Operations[j].Process == h.Operations[k].Process <;> simp
  · unfold esref39_Validate.l1
    simp
theorem l2_eq {h : history_History} {k : Nat} (hk : k < h.Operations.length) (hm : h.Operations.length ≤ 30) :
    loopO (esref39_Validate.l2 h k) 0 = some (if dupB (h.Operations.take k) h.Operations[k] then .inr 5 else .inl ()) := by
  refine anyLoop (xs := h.Operations) (n := k) (f := fun o => h.Operations[k].Call == o.Return || (h.Operations[k].Return != 0 && (h.Operations[k].Return == o.Call || h.Operations[k].Return == o.Return))) (by omega) hm (fun j hj => ?_) ?_
  · have hj' : j < h.Operations.length := by omega
    unfold esref39_Validate.l2
    have hlt : decide ((j : Int) < (k : Int)) = true := by simpa using hj
    simp only [hlt, if_true, idx_nat hj', idx_nat hk, Option.bind_some, esref39_Validate.j5, letV_of]
    cases h.Operations[k].Call == h.Operations[j].Return <;> cases h.Operations[k].Return != 0 <;> cases h.Operations[k].Return == h.Operations[j].Call <;> simp
  · unfold esref39_Validate.l2
    simp
theorem lastCall_take {xs : List history_Operation} {k : Nat} (hk : k < xs.length) : lastCall (xs.take (k + 1)) = xs[k].Call := by
  rw [take_snoc hk, lastCall_snoc]
theorem refValidate_eq (h : history_History) (hm : h.Operations.length ≤ 30) : esref39_Validate h = some (valL [] h.Operations) := by
  unfold esref39_Validate
  obtain ⟨b, hb, hq⟩ : ∃ b, loopO (esref39_Validate.l3 h) (0 : Int) = some b ∧ (fun b : Unit ⊕ Int => match b with | .inl _ => valL [] h.Operations = 0 | .inr e => valL [] h.Operations = e) b := by
    refine loopO_ex (fun k s => s = (k : Int) ∧ valL [] h.Operations = valL (h.Operations.take k) (h.Operations.drop k)) h.Operations.length ⟨rfl, rfl⟩ (fun k s hk hI => ?_) (fun s hI => ?_)
    · obtain ⟨rfl, hI⟩ := hI
      obtain ⟨t1, t2⟩ := take_drop_step hk hI
      unfold esref39_Validate.l3
      simp only [lt_of_len hk, if_true, idx_nat hk, Option.bind_some, vErr_eq]
      by_cases hv : vErr h.Operations[k] = 0
      · simp only [hv, bne_self_eq_false, Bool.false_eq_true, if_false]
        have hlen : (h.Operations.take k).length = k := by rw [List.length_take]; omega
        have main : ∀ b : Bool, (decide (0 < (h.Operations.take k).length) && decide (h.Operations[k].Call ≤ lastCall (h.Operations.take k))) = b →
            (∃ s', esref39_Validate.j6 h k b = some (.inl s') ∧ (s' = ((k + 1 : Nat) : Int) ∧ valL [] h.Operations = valL (h.Operations.take (k + 1)) (h.Operations.drop (k + 1)))) ∨ ∃ b', esref39_Validate.j6 h k b = some (.inr b') ∧ (fun b : Unit ⊕ Int => match b with | .inl _ => valL [] h.Operations = 0 | .inr e => valL [] h.Operations = e) b' := by
          intro b hb
          have ho : opErr (h.Operations.take k) h.Operations[k] = if b then 7 else if cErr h.Operations[k] ≠ 0 then cErr h.Operations[k] else if dupB (h.Operations.take k) h.Operations[k] then 5 else if stB (h.Operations.take k) h.Operations[k] then 17 else 0 := by
            unfold opErr
            rw [if_neg (by simp [hv]), hb]
          unfold esref39_Validate.j6
          cases b with
          | true => exact .inr ⟨_, rfl, (t1 (by rw [ho]; simp)).trans (by rw [ho]; rfl)⟩
          | false =>
            simp only [Bool.false_eq_true, if_false, idx_nat hk, Option.bind_some, cErr_eq] at ho ⊢
            by_cases hc : cErr h.Operations[k] = 0
            · rw [if_neg (by simp [hc])] at ho ⊢
              rw [l2_eq hk hm, Option.bind_some]
              cases hd : dupB (h.Operations.take k) h.Operations[k] with
              | true =>
                rw [hd, if_pos rfl] at ho
                exact .inr ⟨_, rfl, (t1 (by rw [ho]; decide)).trans ho⟩
              | false =>
                rw [hd, if_neg (by simp)] at ho
                simp only [Bool.false_eq_true, if_false, esref39_Validate.j4]
                rw [l1_eq hk hm, Option.bind_some]
                cases hs : stB (h.Operations.take k) h.Operations[k] with
                | true =>
                  rw [hs, if_pos rfl] at ho
                  exact .inr ⟨_, rfl, (t1 (by rw [ho]; decide)).trans ho⟩
                | false =>
                  rw [hs, if_neg (by simp)] at ho
                  exact .inl ⟨_, by simp only [Bool.false_eq_true, if_false, esref39_Validate.j2, letV_of, wcast hk (by omega)], rfl, t2 ho⟩
            · have hc' : (cErr h.Operations[k] != 0) = true := by simpa using hc
              rw [if_pos hc] at ho
              rw [if_pos hc']
              exact .inr ⟨_, rfl, (t1 (by rw [ho]; exact hc)).trans ho⟩
        rcases Nat.eq_zero_or_pos k with h0 | h0
        · subst h0
          rw [if_neg (by simp)]
          exact main false (by simp)
        · rw [if_pos (by simpa using h0)]
          have hw : IntKind.i64.wrap ((k : Int) - 1) = ((k - 1 : Nat) : Int) := by rw [w64 (by omega) (by omega)]; omega
          have hk1 : k - 1 < h.Operations.length := by omega
          simp only [letV_of, hw, idx_nat hk1, Option.bind_some]
          refine main _ ?_
          have := lastCall_take hk1
          rw [show k - 1 + 1 = k by omega] at this
          rw [hlen, this, decide_eq_true h0, Bool.true_and]
      · have hv' : (vErr h.Operations[k] != 0) = true := by simpa using hv
        rw [if_pos hv']
        have ho : opErr (h.Operations.take k) h.Operations[k] = vErr h.Operations[k] := by
          unfold opErr
          rw [if_pos hv]
        exact .inr ⟨_, rfl, (t1 (by rw [ho]; exact hv)).trans ho⟩
    · obtain ⟨rfl, hI⟩ := hI
      unfold esref39_Validate.l3
      refine ⟨.inl (), by simp only [not_lt_len, Bool.false_eq_true, if_false], ?_⟩
      show valL [] h.Operations = 0
      rw [hI, List.drop_length, valL]
  rw [hb, Option.bind_some]
  cases b with
  | inl x => rw [show valL [] h.Operations = 0 from hq]; rfl
  | inr e => rw [show valL [] h.Operations = e from hq]
end Go.Proofs.Ytbbeobiampbddaa
