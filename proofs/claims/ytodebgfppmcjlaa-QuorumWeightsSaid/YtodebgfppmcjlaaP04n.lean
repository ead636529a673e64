/- QuorumWeights, as plain data: equal weights. -/
import Derived.Test.YtodebgfppmcjlaaP04l
set_option linter.unusedVariables false
set_option linter.unusedSimpArgs false
namespace Go.Proofs.Ytodebgfppmcjlaa
open Go Go.Proofs.YtodebgfppmcjlaaL Go.Sort

theorem wAll_same (w : Int) : ∀ l : List api_Member, (∀ m ∈ l, m.Weight = w) → wAll l = (l.length : Int) * w
  | [], _ => by simp [wAll]
  | m :: l, h => by
    rw [wAll, wAll_same w l fun x hx => h x (by simp [hx]), h m (by simp), List.length_cons]
    rw [show ((l.length + 1 : Nat) : Int) = (l.length : Int) + 1 by omega, Int.add_mul, Int.one_mul, Int.add_comm]
theorem wIn_same (w : Int) : ∀ (l : List api_Member) (b : List Bool), b.length = l.length → (∀ m ∈ l, m.Weight = w) → wIn l b = (b.count true : Int) * w
  | [], b, hb, _ => by have := List.length_eq_zero_iff.1 hb; subst this; simp [wIn]
  | m :: l, [], hb, _ => by simp at hb
  | m :: l, c :: b, hb, h => by
    rw [wIn, wIn_same w l b (by simpa using hb) fun x hx => h x (by simp [hx]), h m (by simp)]
    cases c with
    | false => simp
    | true =>
      simp only [if_true, List.count_cons_self]
      rw [show ((b.count true + 1 : Nat) : Int) = (b.count true : Int) + 1 by omega, Int.add_mul, Int.one_mul, Int.add_comm]
theorem ok_rule {v : api_View} (h : VOk v) (r : api_Rule) (hr : vRule r = 0) : VOk ⟨v.Members, r⟩ := ⟨hr, h.n, h.srv, h.wt, h.asc⟩
theorem weights_true (m weight servers : Int) : eslaw04_QuorumWeights m weight servers = some true := by
  unfold eslaw04_QuorumWeights
  obtain ⟨v, hv, hok, hn, _⟩ := view_ex 0 m
  obtain ⟨d, hd, h1, h2⟩ := Index_ex weight 9 (by decide) (by decide)
  obtain ⟨xs, hx, hxl⟩ := chosen_ex servers
  rw [hv]
  simp only [Option.bind_some]
  have key : loopO (eslaw04_QuorumWeights.l1 weight) (v.Members, 0) = some (v.Members.map fun x => { x with Weight := 1 + d }) := by
    have e := loopO_up (step := eslaw04_QuorumWeights.l1 weight) (fun k => ((v.Members.take k).map (fun x => ({ x with Weight := 1 + d } : api_Member)) ++ v.Members.drop k, (k : Int))) v.Members.length (b := v.Members.map fun x => { x with Weight := 1 + d }) (fun k hk => ?_) ?_
    · simpa using e
    · have hl : ((v.Members.take k).map (fun x => ({ x with Weight := 1 + d } : api_Member)) ++ v.Members.drop k).length = v.Members.length := by simp; omega
      simp only [eslaw04_QuorumWeights.l1]
      rw [if_pos (by rw [hl]; simpa using hk), hd, idx_nat (by omega)]
      simp only [Option.bind_some, letV_of, wcast hk (by omega), Int.toNat_natCast]
      rw [w64 (by omega) (by omega), List.getElem_append_right (by simp; omega)]
      rw [List.set_append_right _ _ (by simp; omega)]
      have hlen : (List.map (fun x => ({ x with Weight := 1 + d } : api_Member)) (List.take k v.Members)).length = k := by simp; omega
      simp only [hlen, Nat.sub_self]
      rw [take_snoc hk, List.map_append]
      have hdrop : v.Members.drop k = v.Members[k] :: v.Members.drop (k + 1) := List.drop_eq_getElem_cons hk
      simp only [hdrop, List.getElem_cons_zero, List.set_cons_zero, List.map_cons, List.map_nil, List.append_assoc, List.singleton_append]
    · simp only [eslaw04_QuorumWeights.l1]
      have hl : ((v.Members.take v.Members.length).map (fun x => ({ x with Weight := 1 + d } : api_Member)) ++ v.Members.drop v.Members.length).length = v.Members.length := by simp
      rw [if_neg (by rw [hl]; simp)]
      simp
  rw [key]
  simp only [Option.bind_some, eslaw04_QuorumWeights.j3, eslaw04_QuorumWeights.j2, hx, eslaw04_QuorumWeights.j1, awake_eq]
  have hM : ∀ r, vRule r = 0 → VOk ⟨v.Members.map fun x => { x with Weight := 1 + d }, r⟩ := by
    intro r hr
    refine ⟨hr, by simp; omega, fun x hx => ?_, fun x hx => ?_, ?_⟩
    · obtain ⟨y, hy, rfl⟩ := List.mem_map.1 hx; exact hok.srv y hy
    · obtain ⟨y, hy, rfl⟩ := List.mem_map.1 hx; simp only []; omega
    · rw [List.pairwise_map]; exact hok.asc
  rw [IsQuorum_eq _ xs (hM ⟨1, 0, 0⟩ (by decide)) (by omega), IsQuorum_eq _ xs (hM ⟨2, 0, 0⟩ (by decide)) (by omega), IsQuorum_eq _ xs (hM ⟨4, 0, 0⟩ (by decide)) (by omega)]
  simp only [Option.bind_some]
  generalize hl : (v.Members.map fun x => ({ x with Weight := 1 + d } : api_Member)) = l
  have hw : ∀ x ∈ l, x.Weight = 1 + d := by
    intro x hx; rw [← hl] at hx; obtain ⟨y, hy, rfl⟩ := List.mem_map.1 hx; rfl
  have hb : (pres ⟨l, ⟨2, 0, 0⟩⟩ fun s => decide (s ∈ xs)).length = l.length := by simp [pres]
  have hQ : ∀ (k n w : Int), 0 < w → (n * w < 2 * (k * w) ↔ n < 2 * k) := by
    intro k n w hw
    rw [← Int.mul_assoc]
    exact Int.mul_lt_mul_right hw
  have e2 : isQ ⟨l, ⟨2, 0, 0⟩⟩ (fun s => decide (s ∈ xs)) = isQ ⟨l, ⟨1, 0, 0⟩⟩ (fun s => decide (s ∈ xs)) := by
    unfold isQ cSpec
    by_cases h0 : l.length = 0
    · simp [h0]
    simp only [h0, if_false]
    rw [if_neg (by decide), if_pos trivial, if_pos trivial, wAll_same _ l hw, wIn_same _ l _ hb hw, Bool.eq_iff_iff, decide_eq_true_iff, decide_eq_true_iff]
    exact hQ _ _ _ (by omega)
  have e4 : isQ ⟨l, ⟨4, 0, 0⟩⟩ (fun s => decide (s ∈ xs)) = isQ ⟨l, ⟨1, 0, 0⟩⟩ (fun s => decide (s ∈ xs)) := by
    unfold isQ cSpec
    by_cases h0 : l.length = 0
    · simp [h0]
    simp only [h0, if_false]
    rw [if_neg (by decide), if_neg (by decide), if_neg (by decide), if_pos trivial, if_pos trivial, Bool.eq_iff_iff, decide_eq_true_iff, decide_eq_true_iff]
    simp only [pres]
    omega
  rw [e2, e4]
  simp
end Go.Proofs.Ytodebgfppmcjlaa
