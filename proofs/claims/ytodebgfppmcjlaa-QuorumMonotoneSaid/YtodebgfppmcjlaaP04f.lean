/- The quorum functions, as plain data: quorums grow, and meet. -/
import Derived.Test.YtodebgfppmcjlaaP04e
set_option linter.unusedVariables false
set_option linter.unusedSimpArgs false
namespace Go.Proofs.Ytodebgfppmcjlaa
open Go Go.Proofs.YtodebgfppmcjlaaL

def imp2 : List Bool → List Bool → Prop
  | [], [] => True
  | a :: l, b :: l' => (a = true → b = true) ∧ imp2 l l'
  | _, _ => False
theorem imp2_len : ∀ {l l' : List Bool}, imp2 l l' → l.length = l'.length
  | [], [], _ => rfl
  | a :: l, b :: l', h => by simp [imp2_len h.2]
  | [], _ :: _, h => h.elim
  | _ :: _, [], h => h.elim
theorem imp2_of : ∀ {l l' : List Bool}, l.length = l'.length → (∀ i (h : i < l.length) (h' : i < l'.length), l[i] = true → l'[i] = true) → imp2 l l'
  | [], [], _, _ => trivial
  | a :: l, b :: l', h, hi => ⟨hi 0 (by simp) (by simp), imp2_of (by simpa using h) fun i h1 h2 => hi (i + 1) (by simpa using h1) (by simpa using h2)⟩
  | [], _ :: _, h, _ => by simp at h
  | _ :: _, [], h, _ => by simp at h
theorem imp2_take : ∀ {l l' : List Bool} (k : Nat), imp2 l l' → imp2 (l.take k) (l'.take k)
  | [], [], _, _ => by simp [imp2]
  | a :: l, b :: l', 0, h => by simp [imp2]
  | a :: l, b :: l', k + 1, h => ⟨h.1, imp2_take k h.2⟩
  | [], _ :: _, _, h => h.elim
  | _ :: _, [], _, h => h.elim
theorem imp2_drop : ∀ {l l' : List Bool} (k : Nat), imp2 l l' → imp2 (l.drop k) (l'.drop k)
  | [], [], _, _ => by simp [imp2]
  | a :: l, b :: l', 0, h => h
  | a :: l, b :: l', k + 1, h => imp2_drop k h.2
  | [], _ :: _, _, h => h.elim
  | _ :: _, [], _, h => h.elim
theorem imp2_count : ∀ {l l' : List Bool}, imp2 l l' → l.count true ≤ l'.count true
  | [], [], _ => Nat.le_refl _
  | a :: l, b :: l', h => by
    have := imp2_count h.2
    have h1 := h.1
    cases a <;> cases b <;> simp_all [List.count_cons] <;> omega
  | [], _ :: _, h => h.elim
  | _ :: _, [], h => h.elim
theorem imp2_wIn {ms : List api_Member} (hw : WB ms) : ∀ {l l' : List Bool}, imp2 l l' → wIn ms l ≤ wIn ms l' := by
  induction ms with
  | nil => intro l l' _; simp [wIn]
  | cons m ms ih =>
    intro l l' h
    have hm := hw m (by simp)
    match l, l', h with
    | [], [], _ => exact Int.le_refl _
    | a :: l, b :: l', h =>
      have := ih (fun x hx => hw x (by simp [hx])) h.2
      have h1 := h.1
      simp only [wIn]
      cases a <;> cases b <;> simp_all <;> omega
theorem imp2_grid : ∀ (f c : Nat) {l l' : List Bool} {w w' : Bool}, imp2 l l' → (w = true → w' = true) → gridF f c l w = true → gridF f c l' w' = true
  | 0, c, l, l', w, w', h, hw, hg => hw hg
  | f + 1, c, l, l', w, w', h, hw, hg => by
    have hlen := imp2_len h
    rw [gridF] at hg ⊢
    by_cases h0 : l = []
    · subst h0
      have : l' = [] := List.length_eq_zero_iff.1 (by simpa using hlen.symm)
      rw [if_pos this]
      rw [if_pos rfl] at hg
      exact hw hg
    rw [if_neg h0] at hg
    have h0' : l' ≠ [] := by
      rintro rfl
      exact h0 (List.length_eq_zero_iff.1 hlen)
    rw [if_neg h0']
    split at hg
    · cases hg
    rename_i hc
    have ht := imp2_take c h
    have hcc := imp2_count ht
    rw [if_neg (by omega)]
    refine imp2_grid f c (imp2_drop c h) ?_ hg
    intro hx
    simp only [Bool.or_eq_true, beq_iff_eq] at hx ⊢
    rcases hx with hx | hx
    · exact .inl (hw hx)
    · right
      have h1 := imp2_len ht
      have h2 : (l'.take c).count true ≤ (l'.take c).length := List.count_le_length
      omega
theorem cSpec_mono {v : api_View} (h : VOk v) {l l' : List Bool} (hl : l.length = v.Members.length) (hi : imp2 l l') (hq : cSpec v l = true) : cSpec v l' = true := by
  have h1 := imp2_count hi
  have h2 := imp2_wIn h.wt hi
  have h3 := imp2_len hi
  unfold cSpec at hq ⊢
  split at hq
  · cases hq
  rename_i h0
  rw [if_neg h0]
  split at hq
  · rename_i hk; rw [if_pos hk]; simp at hq ⊢; omega
  rename_i hk1
  rw [if_neg hk1]
  split at hq
  · rename_i hk; rw [if_pos hk]; simp at hq ⊢; omega
  rename_i hk2
  rw [if_neg hk2]
  split at hq
  · rename_i hk; rw [if_pos hk]
    split at hq
    · cases hq
    · rename_i hc; rw [if_neg hc, ← h3]; exact imp2_grid _ _ hi (fun h => h) hq
  rename_i hk3
  rw [if_neg hk3]
  split at hq
  · rename_i hk; rw [if_pos hk]; simp at hq ⊢; omega
  · cases hq

/-! Two quorums meet. -/
def and2 : List Bool → List Bool → List Bool
  | a :: l, b :: l' => (a && b) :: and2 l l'
  | _, _ => []
theorem and2_count : ∀ {l l' : List Bool}, l.length = l'.length → l.count true + l'.count true ≤ l.length + (and2 l l').count true
  | [], [], _ => by simp [and2]
  | a :: l, b :: l', h => by
    have := and2_count (l := l) (l' := l') (by simpa using h)
    cases a <;> cases b <;> simp [and2, List.count_cons] <;> omega
  | [], _ :: _, h => by simp at h
  | _ :: _, [], h => by simp at h
theorem and2_wIn {ms : List api_Member} (hw : WB ms) : ∀ {l l' : List Bool}, l.length = ms.length → l'.length = ms.length → wIn ms l + wIn ms l' ≤ wAll ms + wIn ms (and2 l l') ∧ wIn ms (and2 l l') ≤ 9 * ((and2 l l').count true : Int) := by
  induction ms with
  | nil => intro l l' h1 h2; have := List.length_eq_zero_iff.1 h1; have := List.length_eq_zero_iff.1 h2; subst_vars; simp [wIn, wAll, and2]
  | cons m ms ih =>
    intro l l' h1 h2
    have hm := hw m (by simp)
    match l, l', h1, h2 with
    | a :: l, b :: l', h1, h2 =>
      have := ih (fun x hx => hw x (by simp [hx])) (l := l) (l' := l') (by simpa using h1) (by simpa using h2)
      cases a <;> cases b <;> simp [wIn, and2, wAll, List.count_cons] <;> omega
theorem and2_take : ∀ (k : Nat) (l l' : List Bool), (and2 l l').take k = and2 (l.take k) (l'.take k)
  | 0, l, l' => by simp [and2]
  | k + 1, [], l' => by simp [and2]
  | k + 1, a :: l, [] => by simp [and2]
  | k + 1, a :: l, b :: l' => by simp [and2, and2_take k l l']
theorem and2_drop : ∀ (k : Nat) (l l' : List Bool), (and2 l l').drop k = and2 (l.drop k) (l'.drop k)
  | 0, l, l' => by simp
  | k + 1, [], l' => by simp [and2]
  | k + 1, a :: l, [] => by cases l.drop k <;> simp [and2] <;> cases (List.drop k l) <;> rfl
  | k + 1, a :: l, b :: l' => by simp [and2, and2_drop k l l']
theorem count_split (k : Nat) (l : List Bool) : l.count true = (l.take k).count true + (l.drop k).count true := by
  conv => lhs; rw [← List.take_append_drop k l]
  rw [List.count_append]
theorem and2_full {l l' : List Bool} (h : l.length = l'.length) (hf : l.count true = l.length) : (and2 l l').count true = l'.count true := by
  induction l generalizing l' with
  | nil => have := List.length_eq_zero_iff.1 h.symm; subst this; rfl
  | cons a l ih =>
    cases l' with
    | nil => simp at h
    | cons b l' =>
      have hc : l.count true ≤ l.length := List.count_le_length
      cases a with
      | false => simp [List.count_cons] at hf; omega
      | true =>
        have := ih (l' := l') (by simpa using h) (by simp [List.count_cons] at hf; omega)
        simp [and2, List.count_cons, this]
theorem and2_grid : ∀ (f c : Nat) {l l' : List Bool} {w w' : Bool}, l.length = l'.length → l.length ≤ f → 1 ≤ c → w = false → gridF f c l w = true → gridF f c l' w' = true → 0 < (and2 l l').count true
  | 0, c, l, l', w, w', h, hf, hc, hw, hg, hg' => by rw [gridF] at hg; rw [hw] at hg; cases hg
  | f + 1, c, l, l', w, w', h, hf, hc, hw, hg, hg' => by
    rw [gridF] at hg hg'
    by_cases h0 : l = []
    · rw [if_pos h0, hw] at hg; cases hg
    have h0' : l' ≠ [] := by
      rintro rfl
      exact h0 (List.length_eq_zero_iff.1 h)
    rw [if_neg h0] at hg
    rw [if_neg h0'] at hg'
    split at hg
    · cases hg
    rename_i hcl
    split at hg'
    · cases hg'
    rename_i hcl'
    have hpos : 0 < l.length := List.length_pos_iff.2 h0
    rw [count_split c, and2_take, and2_drop]
    by_cases hfull : (l.take c).count true = (l.take c).length
    · have := and2_full (l := l.take c) (l' := l'.take c) (by simp [h]) hfull
      omega
    · have := and2_grid f c (l := l.drop c) (l' := l'.drop c) (by simp [h]) (by rw [List.length_drop]; omega) hc (by rw [hw]; simpa using hfull) hg hg'
      omega
theorem cSpec_meet {v : api_View} (h : VOk v) {l l' : List Bool} (hl : l.length = v.Members.length) (hl' : l'.length = v.Members.length) (hq : cSpec v l = true) (hq' : cSpec v l' = true) :
    v.Rule.Faulty < ((and2 l l').count true : Int) := by
  have hr := vRule_ok h.rule
  have hn := h.n
  have h1 := and2_count (hl.trans hl'.symm)
  have h2 := and2_wIn h.wt hl hl'
  unfold cSpec at hq hq'
  split at hq
  · cases hq
  rename_i h0
  rw [if_neg h0] at hq'
  split at hq
  · rename_i hk; rw [if_pos hk] at hq'; simp at hq hq'; omega
  rename_i hk1
  rw [if_neg hk1] at hq'
  split at hq
  · rename_i hk; rw [if_pos hk] at hq'; simp at hq hq'; omega
  rename_i hk2
  rw [if_neg hk2] at hq'
  split at hq
  · rename_i hk; rw [if_pos hk] at hq'
    split at hq
    · cases hq
    · rename_i hc
      rw [if_neg hc] at hq'
      have := and2_grid l.length v.Rule.Columns.toNat (hl.trans hl'.symm) (Nat.le_refl _) (by omega) rfl hq (by rw [hl, ← hl']; exact hq')
      omega
  rename_i hk3
  rw [if_neg hk3] at hq'
  split at hq
  · rename_i hk; rw [if_pos hk] at hq'; simp at hq hq'; omega
  · cases hq
theorem cSpec_none {v : api_View} (h : VOk v) {l : List Bool} (hl : l.length = v.Members.length) (h0 : l.count true = 0) : cSpec v l = false := by
  cases hq : cSpec v l with
  | false => rfl
  | true =>
    have h1 := cSpec_meet h hl hl hq hq
    have hr := vRule_ok h.rule
    have : (and2 l l).count true ≤ l.count true := imp2_count (by
      clear h1 hq h0 hl
      induction l with
      | nil => trivial
      | cons a l ih => exact ⟨by simp, ih⟩)
    omega
end Go.Proofs.Ytodebgfppmcjlaa
