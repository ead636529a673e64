/- The quorum laws, as plain data: the helpers of the laws. -/
import Derived.Test.YtodebgfppmcjlaaP04k
set_option linter.unusedVariables false
set_option linter.unusedSimpArgs false
namespace Go.Proofs.Ytodebgfppmcjlaa
open Go Go.Proofs.YtodebgfppmcjlaaL Go.Sort

def wMask : api_View := ⟨[⟨1, 1⟩, ⟨2, 1⟩, ⟨3, 1⟩, ⟨4, 1⟩], ⟨4, 0, 1⟩⟩
def wGrid : api_View := ⟨[⟨1, 1⟩, ⟨2, 1⟩, ⟨3, 1⟩, ⟨4, 1⟩], ⟨3, 2, 0⟩⟩
theorem wMask_ok : VOk wMask where
  rule := by decide
  n := by decide
  srv := by decide
  wt := by unfold WB; decide
  asc := by decide
theorem wGrid_ok : VOk wGrid where
  rule := by decide
  n := by decide
  srv := by decide
  wt := by unfold WB; decide
  asc := by decide
theorem awake_eq : eslaw04_awake = some true := by
  unfold eslaw04_awake
  rw [show (⟨[⟨1, 1⟩, ⟨2, 1⟩, ⟨3, 1⟩, ⟨4, 1⟩], ⟨3, 2, 0⟩⟩ : api_View) = wGrid from rfl, show (⟨[⟨1, 1⟩, ⟨2, 1⟩, ⟨3, 1⟩, ⟨4, 1⟩], ⟨4, 0, 1⟩⟩ : api_View) = wMask from rfl]
  have h1 : quorum_IsQuorum wGrid [1, 2, 3] = some true := by rw [IsQuorum_eq _ _ wGrid_ok (by decide)]; decide
  have h2 : quorum_IsQuorum wGrid [1, 2] = some false := by rw [IsQuorum_eq _ _ wGrid_ok (by decide)]; decide
  have hm : mins wMask = [7, 11, 13, 14] := by decide
  obtain ⟨L, h3, _, h4⟩ := Minimal_both wMask wMask_ok
  have h5 : L.length = 4 := by rw [h4.length_eq, List.length_map, hm]; rfl
  obtain ⟨o, h6, _, h7⟩ := Overlap_both wMask wMask_ok (by decide)
  have h8 : o = 2 := by
    rcases h7 with ⟨e, _⟩ | ⟨_, h7⟩
    · rw [hm] at e; cases e
    · refine h7.unique ⟨⟨7, by rw [hm]; simp, 11, by rw [hm]; simp, by decide⟩, fun x hx => ?_⟩
      obtain ⟨a, ha, b, hb, rfl⟩ := hx
      rw [hm] at ha hb
      have : ∀ a ∈ [7, 11, 13, 14], ∀ b ∈ [7, 11, 13, 14], (2 : Int) ≤ (pc (a &&& b) : Int) := by decide
      exact this a ha b hb
  obtain ⟨t, h9, _, h10⟩ := Tolerance_both wMask wMask_ok (by decide)
  have h11 : t = 2 := by
    refine h10.unique ⟨⟨3, by decide, by decide, by decide⟩, fun x hx => ?_⟩
    obtain ⟨g, hg, hq, rfl⟩ := hx
    have : ∀ g, g < 16 → Qm wMask (andN 15 g) = false → (2 : Int) ≤ (pc g : Int) := by decide
    exact this g hg hq
  rw [h1, h3, h6, h9]
  simp only [Option.bind_some]
  rw [h2, VR_eq, h5, h8, h11]
  rfl

/-! Numbers for the laws. -/
theorem Index_ex (n k : Int) (h1 : 1 ≤ k) (h2 : k ≤ 1099511627776) : ∃ d, eslaw00_Index n k = some d ∧ 0 ≤ d ∧ d < k := by
  unfold eslaw00_Index
  rw [if_neg (by simp; omega), if_pos (by omega)]
  have e1 : Int.tmod n k < k := Int.tmod_lt_of_pos _ (by omega)
  have e2 : -k < Int.tmod n k := by
    have : Int.tmod (-n) k < k := Int.tmod_lt_of_pos _ (by omega)
    rw [Int.neg_tmod] at this
    omega
  simp only [letV_of]
  rw [w64 (by omega) (by omega), if_pos (by omega)]
  exact ⟨_, rfl, Int.tmod_nonneg _ (by omega), Int.tmod_lt_of_pos _ (by omega)⟩
theorem Digit_ex (n b : Int) (i : Nat) (h1 : 2 ≤ b) (h2 : b ≤ 16) (hi : i ≤ 100000) : ∃ d, eslaw00_Digit n b (i : Int) = some d ∧ 0 ≤ d ∧ d < b := by
  obtain ⟨x, hx, hx0, hx1⟩ := Index_ex n 1099511627776 (by decide) (by decide)
  unfold eslaw00_Digit
  rw [hx]
  simp only [Option.bind_some]
  have key : ∃ r, loopO (eslaw00_Digit.l1 b (i : Int)) (x, 0) = some r ∧ 0 ≤ r := by
    refine loopO_inv (fun k s => ∃ y : Int, s = (y, (k : Int)) ∧ 0 ≤ y ∧ y < 1099511627776) i ⟨x, rfl, hx0, hx1⟩ (fun k s hk hI => ?_) (fun s hI => ?_)
    · obtain ⟨y, rfl, h3, h4⟩ := hI
      simp only [eslaw00_Digit.l1]
      rw [if_pos (by simpa using hk), if_pos (by omega)]
      have h5 : 0 ≤ Int.tdiv y b := Int.tdiv_nonneg h3 (by omega)
      have h6 : Int.tdiv y b ≤ y := by
        rw [Int.tdiv_eq_ediv_of_nonneg h3]
        exact Int.ediv_le_self _ h3
      simp only [letV_of]
      rw [w64 (x := Int.tdiv y b) (by omega) (by omega), wcast hk (by omega)]
      exact ⟨_, rfl, _, rfl, h5, by omega⟩
    · obtain ⟨y, rfl, h3, h4⟩ := hI
      simp only [eslaw00_Digit.l1]
      rw [if_neg (by simp)]
      exact ⟨_, rfl, h3⟩
  obtain ⟨r, hr, hr0⟩ := key
  rw [hr]
  simp only [Option.bind_some, eslaw00_Digit.j1]
  rw [if_pos (by omega)]
  exact ⟨_, rfl, Int.tmod_nonneg _ hr0, Int.tmod_lt_of_pos _ (by omega)⟩
theorem Rule_ex (n : Int) : ∃ r, eslaw00_Rule n = some r ∧ vRule r = 0 := by
  obtain ⟨d, hd, h1, h2⟩ := Digit_ex n 8 0 (by decide) (by decide) (by decide)
  obtain ⟨c, hc, h3, h4⟩ := Digit_ex n 4 2 (by decide) (by decide) (by decide)
  obtain ⟨f, hf, h5, h6⟩ := Digit_ex n 2 3 (by decide) (by decide) (by decide)
  unfold eslaw00_Rule
  rw [show (0 : Int) = ((0 : Nat) : Int) from rfl, hd]
  simp only [Option.bind_some]
  have hj : ∀ b : Bool, ∃ r, eslaw00_Rule.j1 n d b = some r ∧ vRule r = 0 := by
    intro b
    unfold eslaw00_Rule.j1
    cases b with
    | true => exact ⟨_, if_pos rfl, by decide⟩
    | false =>
      rw [if_neg (by simp)]
      by_cases h : d = 3
      · rw [if_pos (by simpa using h), show (2 : Int) = ((2 : Nat) : Int) from rfl, hc]
        simp only [Option.bind_some, letV_of]
        rw [w64 (by omega) (by omega)]
        refine ⟨_, rfl, ?_⟩
        unfold vRule
        simp only []
        rw [if_neg (by omega), if_neg (by omega), if_neg (by omega)]
      rw [if_neg (by simpa using h)]
      by_cases h : d = 4
      · rw [if_pos (by simpa using h), show (3 : Int) = ((3 : Nat) : Int) from rfl, show (2 : Int) = ((2 : Nat) : Int) from rfl, show ((2 : Nat) : Int) = 2 from rfl, hf]
        simp only [Option.bind_some]
        refine ⟨_, rfl, ?_⟩
        unfold vRule
        simp only []
        rw [if_neg (by omega), if_neg (by omega), if_neg (by omega)]
      rw [if_neg (by simpa using h)]
      exact ⟨_, rfl, by decide⟩
  split
  · exact hj _
  · exact hj _
theorem view_ex (n m : Int) : ∃ v, eslaw04_view n m = some v ∧ VOk v ∧ v.Members.length ≤ 7 ∧ (eslaw00_Rule n = some v.Rule) := by
  obtain ⟨r, hr, hv⟩ := Rule_ex n
  unfold eslaw04_view
  rw [hr]
  simp only [Option.bind_some]
  have key : ∃ l, loopO (eslaw04_view.l1 m) (0, []) = some l ∧ l.length ≤ 7 ∧ (∀ x ∈ l, (1 ≤ x.Server ∧ x.Server ≤ 7) ∧ 1 ≤ x.Weight ∧ x.Weight ≤ 9) ∧ l.Pairwise fun a b => a.Server < b.Server := by
    refine loopO_inv (fun k s => ∃ l : List api_Member, s = ((k : Int), l) ∧ l.length ≤ k ∧ (∀ x ∈ l, (1 ≤ x.Server ∧ x.Server ≤ k) ∧ 1 ≤ x.Weight ∧ x.Weight ≤ 9) ∧ l.Pairwise fun a b => a.Server < b.Server) 7 ⟨[], rfl, by simp, by simp, by simp⟩ (fun k s hk hI => ?_) (fun s hI => ?_)
    · obtain ⟨l, rfl, h1, h2, h3⟩ := hI
      obtain ⟨d, hd, h4, h5⟩ := Digit_ex m 4 k (by decide) (by decide) (by omega)
      simp only [eslaw04_view.l1]
      rw [if_pos (by rw [decide_eq_true_iff]; omega), hd]
      simp only [Option.bind_some, eslaw04_view.j2, letV_of, wcast hk (by omega)]
      by_cases h6 : 0 < d
      · rw [if_pos (by simpa using h6), app_of (by simp; omega)]
        refine ⟨_, rfl, _, rfl, by simp; omega, fun x hx => ?_, ?_⟩
        · rcases List.mem_append.1 hx with hx | hx
          · have := h2 x hx; omega
          · rw [List.mem_singleton.1 hx]; simp only []; omega
        · rw [List.pairwise_append]
          refine ⟨h3, by simp, fun a ha b hb => ?_⟩
          rw [List.mem_singleton.1 hb]
          have := h2 a ha
          simp only []; omega
      · rw [if_neg (by simpa using h6)]
        refine ⟨_, rfl, _, rfl, by omega, fun x hx => ?_, h3⟩
        have := h2 x hx; omega
    · obtain ⟨l, rfl, h1, h2, h3⟩ := hI
      simp only [eslaw04_view.l1]
      exact ⟨_, rfl, h1, h2, h3⟩
  obtain ⟨l, hl, h1, h2, h3⟩ := key
  rw [hl]
  refine ⟨⟨l, r⟩, rfl, ⟨hv, by simp only []; omega, fun x hx => ?_, fun x hx => (h2 x hx).2, h3⟩, h1, rfl⟩
  have := h2 x hx; omega
theorem chosen_ex (n : Int) : ∃ xs, eslaw04_chosen n = some xs ∧ xs.length ≤ 8 := by
  unfold eslaw04_chosen
  have key : ∃ l, loopO (eslaw04_chosen.l1 n) ([], 0) = some l ∧ l.length ≤ 8 := by
    refine loopO_inv (fun k s => ∃ l : List Int, s = (l, (k : Int)) ∧ l.length ≤ k) 8 ⟨[], rfl, by simp⟩ (fun k s hk hI => ?_) (fun s hI => ?_)
    · obtain ⟨l, rfl, h1⟩ := hI
      obtain ⟨d, hd, h4, h5⟩ := Digit_ex n 2 k (by decide) (by decide) (by omega)
      simp only [eslaw04_chosen.l1]
      rw [if_pos (by rw [decide_eq_true_iff]; omega), hd]
      simp only [Option.bind_some, eslaw04_chosen.j2, letV_of, wcast hk (by omega)]
      split
      · rw [app_of (by simp; omega)]
        exact ⟨_, rfl, _, rfl, by simp; omega⟩
      · exact ⟨_, rfl, _, rfl, by omega⟩
    · obtain ⟨l, rfl, h1⟩ := hI
      simp only [eslaw04_chosen.l1]
      exact ⟨_, rfl, h1⟩
  obtain ⟨l, hl, h1⟩ := key
  rw [hl]
  exact ⟨l, rfl, h1⟩

/-! The laws. -/
theorem validate_true (r : api_Rule) (v : api_View) : eslaw04_QuorumValidate r v = some true := by
  unfold eslaw04_QuorumValidate
  rw [awake_eq, VR_eq, refVR_eq, vv_eq]
  by_cases h : 100 < (v.Members.length : Int)
  · rw [if_pos (by simpa using h)]; rfl
  · rw [if_neg (by simpa using h), vv_val v (by omega)]
    simp only [Option.bind_some, beq_self_eq_true, if_true, quorum_Faulty, eslaw04_QuorumValidate.j1]
    split <;> rfl
theorem small_ex (v : api_View) (n : Nat) (hn : n ≤ 12) : ∃ b, eslaw04_small v (n : Int) = some b ∧ (b = true → VOk v ∧ v.Members.length ≤ n) := by
  unfold eslaw04_small
  by_cases h : v.Members.length ≤ n
  · rw [if_pos (by simpa using h), vv_eq, vv_val v (by omega)]
    simp only [Option.bind_some, eslaw04_small.j1]
    refine ⟨_, rfl, fun e => ⟨vView_ok (by simpa using e) (by omega), h⟩⟩
  · rw [if_neg (by simpa using h)]
    exact ⟨false, rfl, fun e => by cases e⟩
theorem is_true (v : api_View) (xs : List Int) : eslaw04_QuorumIs v xs = some true := by
  unfold eslaw04_QuorumIs
  obtain ⟨b, hb, hv⟩ := small_ex v 12 (by decide)
  rw [show (12 : Int) = ((12 : Nat) : Int) from rfl, hb]
  simp only [Option.bind_some, eslaw04_QuorumIs.j2, awake_eq, eslaw04_QuorumIs.j1]
  cases b with
  | false => rfl
  | true =>
    rw [if_neg (by simp)]
    by_cases h : 60 < (xs.length : Int)
    · rw [if_pos (by simpa using h)]
    · rw [if_neg (by simpa using h), IsQuorum_eq v xs (hv rfl).1 (by omega), refIs_eq v xs (hv rfl).1 (by omega)]
      simp
theorem minimal_true (v : api_View) : eslaw04_QuorumMinimal v = some true := by
  unfold eslaw04_QuorumMinimal
  obtain ⟨b, hb, hv⟩ := small_ex v 8 (by decide)
  rw [show (8 : Int) = ((8 : Nat) : Int) from rfl, hb]
  simp only [Option.bind_some, awake_eq]
  cases b with
  | false => rfl
  | true =>
    rw [if_neg (by simp)]
    obtain ⟨hok, hn⟩ := hv rfl
    obtain ⟨L, h1, h2, h3⟩ := Minimal_both v hok
    have hp := pow_256 hn
    have hll : L.length ≤ 256 := by
      have := h3.length_eq
      rw [List.length_map] at this
      have := minsTo_len v (2 ^ v.Members.length)
      unfold mins at *; omega
    have hel : ∀ i (hi : i < L.length), L[i].length ≤ 8 := by
      intro i hi
      obtain ⟨a, ha, e⟩ := List.mem_map.1 (h3.mem_iff.1 (List.getElem_mem hi))
      rw [← e]; have := sub_len v a; omega
    rw [h1, h2]
    simp only [Option.bind_some, bne_self_eq_false, Bool.false_eq_true, if_false]
    have key : loopO (eslaw04_QuorumMinimal.l2 L L) 0 = some (.inl ()) := by
      refine loopO_up (step := eslaw04_QuorumMinimal.l2 L L) (fun k => (k : Int)) L.length (fun k hk => ?_) ?_
      · simp only [eslaw04_QuorumMinimal.l2, lt_of_len hk, if_true, idx_nat hk, Option.bind_some, bne_self_eq_false, Bool.false_eq_true, if_false]
        have hk8 := hel k hk
        have e := loopO_up (step := eslaw04_QuorumMinimal.l1 L L (k : Int)) (fun j => (j : Int)) L[k].length (b := .inl ()) (fun j hj => by
          simp only [eslaw04_QuorumMinimal.l1, idx_nat hk, Option.bind_some, lt_of_len hj, if_true, idx_nat hj, bne_self_eq_false, Bool.false_eq_true, if_false, letV_of, wcast hj (by omega : L[k].length ≤ _)]) (by
          simp only [eslaw04_QuorumMinimal.l1, idx_nat hk, Option.bind_some, not_lt_len]; rfl)
        rw [show (0 : Int) = ((0 : Nat) : Int) from rfl, e]
        simp only [Option.bind_some, eslaw04_QuorumMinimal.j2, letV_of, wcast hk (by omega : L.length ≤ _)]
      · simp only [eslaw04_QuorumMinimal.l2, not_lt_len]; rfl
    rw [key]
    simp only [Option.bind_some, eslaw04_QuorumMinimal.j1, awake_eq]
end Go.Proofs.Ytodebgfppmcjlaa
