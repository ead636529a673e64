/- QuorumMonotone, as plain data. -/
import Derived.Test.YtodebgfppmcjlaaP04m
set_option linter.unusedVariables false
set_option linter.unusedSimpArgs false
namespace Go.Proofs.Ytodebgfppmcjlaa
open Go Go.Proofs.YtodebgfppmcjlaaL Go.Sort

theorem pres_mono {v : api_View} (h : VOk v) {p q : Int → Bool} (hpq : ∀ x, p x = true → q x = true) (hq : isQ v p = true) : isQ v q = true := by
  refine cSpec_mono h (by simp [pres]) (imp2_of (by simp [pres]) fun i h1 h2 hi => ?_) hq
  simp only [pres, List.getElem_map] at hi ⊢
  exact hpq _ hi
theorem isQ_of_min {v : api_View} (h : VOk v) {a : Nat} (ha : a ∈ mins v) {p : Int → Bool} (hp : ∀ x ∈ sub v a, p x = true) : isQ v p = true := by
  have hq := ((mem_mins v a _).1 ha).2.1
  rw [← pres_sub h] at hq
  exact pres_mono h (fun x hx => hp x (by simpa using hx)) hq
theorem min_of_isQ {v : api_View} (h : VOk v) {p : Int → Bool} (hq : isQ v p = true) : ∃ a ∈ mins v, ∀ x ∈ sub v a, p x = true := by
  have hl : (pres v p).length = v.Members.length := by simp [pres]
  have e : bv v.Members.length (toM (pres v p)) = pres v p := by rw [← hl]; exact bv_toM _
  have hlt := toM_lt (pres v p)
  rw [hl] at hlt
  obtain ⟨a, ha, hs⟩ := min_below h (toM (pres v p)) hlt (by unfold Qm; rw [e]; exact hq)
  refine ⟨a, ha, fun x hx => ?_⟩
  obtain ⟨j, hj, h1, h2⟩ := (mem_subL _ _ _ 0).1 hx
  rw [Nat.zero_add] at h2
  have h3 := hs j h2
  rw [toM_bit, List.getD_eq_getElem?_getD, List.getElem?_eq_getElem (by omega)] at h3
  simp only [Option.getD_some, pres, List.getElem_map] at h3
  rw [← h1]
  exact h3
theorem found_in (servers : List Int) (hs : servers.length ≤ 100) (L : List (List Int)) (hL : L.length ≤ 1000) (hb : ∀ l ∈ L, l.length ≤ 1000) (i : Nat) (hi : i < L.length) :
    loopO (eslaw04_QuorumMonotone.l1 servers L (i : Int)) (true, 0) = some (L[i].all fun x => decide (x ∈ servers)) := by
  have hbi := hb L[i] (by simp)
  have e := loopO_up (step := eslaw04_QuorumMonotone.l1 servers L (i : Int)) (fun k => ((L[i].take k).all fun x => decide (x ∈ servers), (k : Int))) L[i].length (b := L[i].all fun x => decide (x ∈ servers)) (fun k hk => ?_) ?_
  · simpa using e
  · simp only [eslaw04_QuorumMonotone.l1, idx_nat hi, Option.bind_some, lt_of_len hk, if_true, idx_nat hk, In_eq servers _ (by omega : servers.length ≤ _), eslaw04_QuorumMonotone.j5, letV_of, wcast hk (by omega : L[i].length ≤ _)]
    rw [take_snoc hk, List.all_append]
    cases (L[i].take k).all fun x => decide (x ∈ servers) <;> simp
  · simp only [eslaw04_QuorumMonotone.l1, idx_nat hi, Option.bind_some, not_lt_len, List.take_length]
    rfl
theorem found_eq (servers : List Int) (hs : servers.length ≤ 100) (L : List (List Int)) (hL : L.length ≤ 1000) (hb : ∀ l ∈ L, l.length ≤ 1000) :
    loopO (eslaw04_QuorumMonotone.l2 servers L) (false, 0) = some (L.any fun l => l.all fun x => decide (x ∈ servers)) := by
  have e := loopO_up (step := eslaw04_QuorumMonotone.l2 servers L) (fun k => ((L.take k).any fun l => l.all fun x => decide (x ∈ servers), (k : Int))) L.length (b := L.any fun l => l.all fun x => decide (x ∈ servers)) (fun k hk => ?_) ?_
  · simpa using e
  · simp only [eslaw04_QuorumMonotone.l2, lt_of_len hk, if_true, found_in servers hs L hL hb k hk, Option.bind_some, eslaw04_QuorumMonotone.j4, eslaw04_QuorumMonotone.j3, letV_of, wcast hk (by omega : L.length ≤ _)]
    rw [take_snoc hk, List.any_append]
    cases (L.take k).any fun l => l.all fun x => decide (x ∈ servers) <;> simp
  · simp only [eslaw04_QuorumMonotone.l2, not_lt_len, List.take_length]
    rfl
theorem monotone_true (n m : Int) (servers more : List Int) : eslaw04_QuorumMonotone n m servers more = some true := by
  unfold eslaw04_QuorumMonotone
  have hskip : eslaw04_QuorumMonotone.j7 n m servers more true = some true := by
    unfold eslaw04_QuorumMonotone.j7
    rw [if_pos rfl, awake_eq]; rfl
  by_cases h1 : 30 < (servers.length : Int)
  · rw [if_pos (by simpa using h1)]; exact hskip
  rw [if_neg (by simpa using h1)]
  by_cases h2 : 30 < (more.length : Int)
  · rw [show decide (30 < (more.length : Int)) = true by simpa using h2]; exact hskip
  rw [show decide (30 < (more.length : Int)) = false by simpa using h2]
  unfold eslaw04_QuorumMonotone.j7
  obtain ⟨v, hv, hok, hn, _⟩ := view_ex n m
  rw [if_neg (by simp), hv]
  simp only [Option.bind_some]
  rw [show (⟨v.Members, ⟨v.Rule.Kind, v.Rule.Columns, v.Rule.Faulty⟩⟩ : api_View) = v from rfl]
  rw [app_of (by simp; omega)]
  simp only [Option.bind_some, List.nil_append]
  rw [app_of (by omega)]
  simp only [Option.bind_some]
  rw [app_of (by simp; omega), IsQuorum_eq v servers hok (by omega), IsQuorum_eq v (servers ++ more) hok (by simp; omega)]
  simp only [Option.bind_some]
  rw [IsQuorum_eq v (servers ++ [0, 99, -1]) hok (by simp; omega)]
  simp only [Option.bind_some]
  have e99 : isQ v (fun s => decide (s ∈ servers ++ [0, 99, -1])) = isQ v fun s => decide (s ∈ servers) := by
    unfold isQ
    congr 1
    unfold pres
    refine List.map_congr_left fun x hx => ?_
    have := hok.srv x hx
    rw [Bool.eq_iff_iff, decide_eq_true_iff, decide_eq_true_iff]
    simp only [List.mem_append, List.mem_cons, List.not_mem_nil, or_false]
    constructor
    · rintro (h | h | h | h)
      · exact h
      · omega
      · omega
      · omega
    · exact .inl
  rw [e99]
  have hfin : eslaw04_QuorumMonotone.j6 servers v (isQ v fun s => decide (s ∈ servers)) false = some true := by
    unfold eslaw04_QuorumMonotone.j6
    rw [if_neg (by simp), show (⟨v.Members, ⟨v.Rule.Kind, v.Rule.Columns, v.Rule.Faulty⟩⟩ : api_View) = v from rfl]
    obtain ⟨L, h3, _, h5⟩ := Minimal_both v hok
    have hp := pow_256 (v := v) (by omega)
    have hll : L.length ≤ 256 := by
      have := h5.length_eq
      rw [List.length_map] at this
      have := minsTo_len v (2 ^ v.Members.length)
      unfold mins at *; omega
    have hel : ∀ l ∈ L, ∃ a ∈ mins v, l = sub v a := by
      intro l hl
      obtain ⟨a, ha, e⟩ := List.mem_map.1 (h5.mem_iff.1 hl)
      exact ⟨a, ha, e.symm⟩
    rw [h3]
    simp only [Option.bind_some]
    rw [found_eq servers (by omega) L (by omega) fun l hl => by
      obtain ⟨a, _, rfl⟩ := hel l hl
      have := sub_len v a; omega]
    simp only [Option.bind_some, eslaw04_QuorumMonotone.j2, eslaw04_QuorumMonotone.j1, awake_eq]
    rw [if_pos]
    rw [beq_iff_eq, Bool.eq_iff_iff]
    simp only [List.any_eq_true, List.all_eq_true]
    constructor
    · rintro ⟨l, hl, hx⟩
      obtain ⟨a, ha, rfl⟩ := hel l hl
      exact isQ_of_min hok ha hx
    · intro hq
      obtain ⟨a, ha, hx⟩ := min_of_isQ hok hq
      exact ⟨sub v a, h5.mem_iff.2 (List.mem_map.2 ⟨a, ha, rfl⟩), hx⟩
  cases hq : isQ v (fun s => decide (s ∈ servers)) with
  | false =>
    rw [hq] at hfin
    simp only [Bool.false_eq_true, if_false, bne_self_eq_false]
    exact hfin
  | true =>
    rw [hq] at hfin
    have hall : isQ v (fun s => decide (s ∈ servers ++ more)) = true := pres_mono hok (fun x hx => by
      simp only [decide_eq_true_eq] at hx ⊢
      exact List.mem_append.2 (.inl hx)) hq
    rw [hall]
    simp only [if_true, Bool.not_true, Bool.false_eq_true, if_false, bne_self_eq_false]
    exact hfin
end Go.Proofs.Ytodebgfppmcjlaa
