/- The quorum functions, as plain data: the list of minimal quorums, of the program and of the reference. -/
import Derived.Test.YtodebgfppmcjlaaP04g
set_option linter.unusedVariables false
set_option linter.unusedSimpArgs false
namespace Go.Proofs.Ytodebgfppmcjlaa
open Go Go.Proofs.YtodebgfppmcjlaaL Go.Sort

/-! The order of lists. -/
theorem cmpi_self (a : List Int) : cmpInts a a = 0 := by
  induction a with
  | nil => rfl
  | cons x a ih => rw [cmpInts, if_neg (by omega), if_neg (by omega), ih]
theorem cmpi_cases : ∀ a b : List Int, (cmpInts a b < 0 ∧ 0 < cmpInts b a) ∨ a = b ∨ (0 < cmpInts a b ∧ cmpInts b a < 0)
  | [], [] => .inr (.inl rfl)
  | [], _ :: _ => .inl (by simp [cmpInts])
  | _ :: _, [] => .inr (.inr (by simp [cmpInts]))
  | x :: a, y :: b => by
    rw [cmpInts, cmpInts]
    by_cases h1 : x < y
    · rw [if_pos h1, if_neg (by omega), if_pos h1]; exact .inl ⟨by decide, by decide⟩
    by_cases h2 : y < x
    · rw [if_neg h1, if_pos h2, if_pos h2]; exact .inr (.inr ⟨by decide, by decide⟩)
    have e : x = y := by omega
    subst e
    simp only [if_neg h1]
    rcases cmpi_cases a b with h | h | h
    · exact .inl h
    · exact .inr (.inl (by rw [h]))
    · exact .inr (.inr h)
theorem cmpi_trans : ∀ a b c : List Int, cmpInts a b < 0 → cmpInts b c < 0 → cmpInts a c < 0
  | [], _, [], h1, h2 => by
    rename_i b
    cases b with
    | nil => exact h1
    | cons y b => exact absurd h2 (by simp [cmpInts])
  | [], _, _ :: _, _, _ => by simp [cmpInts]
  | _ :: _, [], _, h1, _ => absurd h1 (by simp [cmpInts])
  | _ :: _, _ :: _, [], _, h2 => absurd h2 (by simp [cmpInts])
  | x :: a, y :: b, z :: c, h1, h2 => by
    rw [cmpInts] at h1 h2 ⊢
    by_cases h3 : x < z
    · rw [if_pos h3]; decide
    rw [if_neg h3]
    by_cases h4 : x < y
    · rw [if_neg (by omega)] at h2
      rw [if_pos (by omega)] at h2
      exact absurd h2 (by decide)
    rw [if_neg h4] at h1
    by_cases h5 : y < x
    · rw [if_pos h5] at h1; exact absurd h1 (by decide)
    rw [if_neg h5] at h1
    by_cases h6 : y < z
    · omega
    rw [if_neg h6] at h2
    by_cases h7 : z < y
    · rw [if_pos h7] at h2; exact absurd h2 (by decide)
    rw [if_neg h7] at h2
    rw [if_neg (by omega)]
    exact cmpi_trans a b c h1 h2
theorem lti_irrefl (a : List Int) : ltInts a a = false := by unfold ltInts; rw [cmpi_self]; rfl
theorem lti_trans {a b c : List Int} (h1 : ltInts a b = true) (h2 : ltInts b c = true) : ltInts a c = true := by
  unfold ltInts at *
  simp only [decide_eq_true_iff] at *
  exact cmpi_trans a b c h1 h2
theorem lti_tri (a b : List Int) : ltInts a b = true ∨ a = b ∨ ltInts b a = true := by
  unfold ltInts
  simp only [decide_eq_true_iff]
  rcases cmpi_cases a b with h | h | h
  · exact .inl h.1
  · exact .inr (.inl h)
  · exact .inr (.inr h.2)
theorem lti_asymm {a b : List Int} (h : ltInts a b = true) : ltInts b a = false := by
  cases h' : ltInts b a with
  | false => rfl
  | true => have := lti_trans h h'; rw [lti_irrefl] at this; cases this
theorem lti_swo : SWO ltInts where
  irrefl := lti_irrefl
  trans x y z h1 h2 := lti_trans h1 h2
  ntrans x y z h1 h2 := by
    cases h : ltInts x z with
    | false => rfl
    | true =>
      rcases lti_tri x y with h3 | h3 | h3
      · rw [h3] at h1; cases h1
      · rw [h3] at h; rw [h] at h2; cases h2
      · rcases lti_tri y z with h4 | h4 | h4
        · rw [h4] at h2; cases h2
        · rw [← h4, h1] at h; cases h
        · have := lti_trans h (lti_trans h4 h3)
          rw [lti_irrefl] at this; cases this
theorem Less_eq (a b : List Int) (ha : a.length ≤ 4611686018427387904) : esref06_Less a b = some (ltInts a b) := by
  unfold esref06_Less
  have key : ∃ r : Unit ⊕ Bool, loopO (esref06_Less.l1 a b) 0 = some r ∧ (match r with | .inl _ => decide ((a.length : Int) < (b.length : Int)) | .inr x => x) = ltInts a b := by
    refine loopO_ex (fun k s => s = (k : Int) ∧ k ≤ b.length ∧ ltInts a b = ltInts (a.drop k) (b.drop k) ∧ a.take k = b.take k) a.length ⟨rfl, Nat.zero_le _, rfl, rfl⟩ (fun k s hk hI => ?_) (fun s hI => ?_)
    · obtain ⟨rfl, hkb, hI, ht⟩ := hI
      simp only [esref06_Less.l1, lt_of_len hk, if_true]
      by_cases hb : k < b.length
      · rw [lt_of_len hb]
        simp only [esref06_Less.j2, if_true, idx_nat hk, idx_nat hb, Option.bind_some, letV_of, wcast hk ha]
        rw [List.drop_eq_getElem_cons hk, List.drop_eq_getElem_cons hb] at hI
        unfold ltInts at hI
        rw [cmpInts] at hI
        by_cases e : a[k] = b[k]
        · rw [if_neg (by simpa using e)]
          rw [if_neg (by omega), if_neg (by omega)] at hI
          exact .inl ⟨_, rfl, rfl, by omega, hI, by rw [take_snoc hk, take_snoc hb, ht, e]⟩
        · rw [if_pos (by simpa using e)]
          refine .inr ⟨.inr (decide (a[k] < b[k])), rfl, ?_⟩
          unfold ltInts
          rw [hI]
          by_cases h1 : a[k] < b[k]
          · rw [if_pos h1]; simp [h1]
          · rw [if_neg h1, if_pos (by omega)]; simp [h1]
      · rw [show decide ((k : Int) < (b.length : Int)) = false by simpa using hb]
        simp only [esref06_Less.j2, Bool.false_eq_true, if_false]
        refine .inr ⟨.inl (), rfl, ?_⟩
        simp only []
        rw [hI, List.drop_eq_getElem_cons hk, List.drop_eq_nil_of_le (as := b) (by omega)]
        unfold ltInts
        rw [cmpInts]
        simp
        omega
    · obtain ⟨rfl, hkb, hI, ht⟩ := hI
      simp only [esref06_Less.l1, not_lt_len, Bool.false_eq_true, if_false, esref06_Less.j2]
      refine ⟨.inl (), rfl, ?_⟩
      simp only []
      rw [hI, List.drop_length]
      rcases Nat.lt_or_ge a.length b.length with h | h
      · rw [List.drop_eq_getElem_cons h]
        unfold ltInts
        rw [cmpInts]
        simp [h]
      · rw [List.drop_eq_nil_of_le h]
        unfold ltInts
        rw [cmpInts]
        simp; omega
  obtain ⟨r, hr, hv⟩ := key
  rw [hr, ← hv]
  cases r <;> rfl

/-! The servers of a set. -/
def subL : Nat → List api_Member → Nat → List Int
  | _, [], _ => []
  | i, x :: l, m => if m.testBit i then x.Server :: subL (i + 1) l m else subL (i + 1) l m
def sub (v : api_View) (m : Nat) : List Int := subL 0 v.Members m
theorem subL_snoc (l : List api_Member) (x : api_Member) (m : Nat) : ∀ i, subL i (l ++ [x]) m = subL i l m ++ (if m.testBit (i + l.length) then [x.Server] else []) := by
  induction l with
  | nil => intro i; simp [subL]
  | cons y l ih =>
    intro i
    simp only [List.cons_append, subL, ih, List.length_cons]
    rw [show i + 1 + l.length = i + (l.length + 1) by omega]
    split <;> simp
theorem subL_sub (l : List api_Member) (m : Nat) : ∀ i, (subL i l m).Sublist (l.map (·.Server)) := by
  induction l with
  | nil => intro i; simp [subL]
  | cons y l ih =>
    intro i
    rw [subL, List.map_cons]
    split
    · exact (ih _).cons_cons _
    · exact (ih _).cons _
theorem subL_len (l : List api_Member) (m i : Nat) : (subL i l m).length ≤ l.length := by
  have := (subL_sub l m i).length_le
  simpa using this
theorem mem_subL (l : List api_Member) (m : Nat) (x : Int) : ∀ i, x ∈ subL i l m ↔ ∃ j, ∃ h : j < l.length, l[j].Server = x ∧ m.testBit (i + j) = true := by
  induction l with
  | nil => intro i; simp [subL]
  | cons y l ih =>
    intro i
    have hr : x ∈ subL (i + 1) l m ↔ ∃ j, ∃ h : j + 1 < (y :: l).length, (y :: l)[j + 1].Server = x ∧ m.testBit (i + (j + 1)) = true := by
      rw [ih]
      constructor
      · rintro ⟨j, h, h1, h2⟩; exact ⟨j, by simpa using h, by simpa using h1, by rw [← h2]; congr 1; omega⟩
      · rintro ⟨j, h, h1, h2⟩; exact ⟨j, by simpa using h, by simpa using h1, by rw [← h2]; congr 1; omega⟩
    rw [subL]
    constructor
    · intro h
      split at h
      · rename_i hb
        rcases List.mem_cons.1 h with rfl | h
        · exact ⟨0, by simp, by simp, hb⟩
        · obtain ⟨j, h1, h2⟩ := hr.1 h; exact ⟨j + 1, h1, h2⟩
      · obtain ⟨j, h1, h2⟩ := hr.1 h; exact ⟨j + 1, h1, h2⟩
    · rintro ⟨j, h1, h2, h3⟩
      cases j with
      | zero =>
        rw [if_pos (by simpa using h3)]
        simp at h2
        simp [h2]
      | succ j =>
        have := hr.2 ⟨j, h1, h2, h3⟩
        split
        · simp [this]
        · exact this
theorem srv_inj {v : api_View} (h : VOk v) {i j : Nat} (hi : i < v.Members.length) (hj : j < v.Members.length) (e : v.Members[i].Server = v.Members[j].Server) : i = j := by
  have hp := List.pairwise_iff_getElem.1 h.asc
  rcases Nat.lt_trichotomy i j with h1 | h1 | h1
  · have := hp i j hi hj h1; omega
  · exact h1
  · have := hp j i hj hi h1; omega
theorem mem_sub {v : api_View} (h : VOk v) (m i : Nat) (hi : i < v.Members.length) : v.Members[i].Server ∈ sub v m ↔ m.testBit i = true := by
  unfold sub
  rw [mem_subL]
  constructor
  · rintro ⟨j, hj, h1, h2⟩
    rw [Nat.zero_add] at h2
    rw [← srv_inj h hj hi h1]; exact h2
  · intro hb; exact ⟨i, hi, rfl, by simpa using hb⟩
theorem sub_asc {v : api_View} (h : VOk v) (m : Nat) : (sub v m).Pairwise (· < ·) := by
  refine List.Pairwise.sublist (subL_sub _ _ _) ?_
  rw [List.pairwise_map]
  exact h.asc
theorem sub_len (v : api_View) (m : Nat) : (sub v m).length ≤ v.Members.length := subL_len _ _ _
theorem sub_inj {v : api_View} (h : VOk v) {a b : Nat} (ha : a < 2 ^ v.Members.length) (hb : b < 2 ^ v.Members.length) (e : sub v a = sub v b) : a = b := by
  refine sub2_eq (fun j hj => ?_) (fun j hj => ?_)
  · have hjn := bit_lt ha hj
    rw [← mem_sub h b j hjn, ← e, mem_sub h a j hjn]; exact hj
  · have hjn := bit_lt hb hj
    rw [← mem_sub h a j hjn, e, mem_sub h b j hjn]; exact hj
theorem pres_sub {v : api_View} (h : VOk v) (m : Nat) : isQ v (fun s => decide (s ∈ sub v m)) = Qm v m := by
  unfold isQ Qm
  congr 1
  apply List.ext_getElem (by simp [pres, bv])
  intro i h1 h2
  have hi : i < v.Members.length := by simpa [pres] using h1
  rw [bv_get]
  simp only [pres, List.getElem_map]
  rw [Bool.eq_iff_iff, decide_eq_true_iff]
  exact mem_sub h m i hi

theorem sub_eq (v : api_View) (h : VOk v) (m : Nat) (hm : m < 18446744073709551616) : loopO (quorum_Minimal.l1 v (m : Int)) ([], 0) = some (sub v m) := by
  have hn := h.n
  refine loopO_up (step := quorum_Minimal.l1 v (m : Int)) (fun k => (subL 0 (v.Members.take k) m, (k : Int))) v.Members.length (fun k hk => ?_) ?_
  · have hl := subL_len (v.Members.take k) m 0
    rw [List.length_take] at hl
    simp only [quorum_Minimal.l1]
    rw [if_pos (by simpa using hk), idx_nat hk]
    simp only [Option.bind_some]
    rw [if_pos (by omega)]
    simp only [letV_of, bit_one m k hm (by omega), quorum_Minimal.j4, wcast hk (by omega)]
    rw [take_snoc hk, subL_snoc, List.length_take, Nat.min_eq_left (by omega), Nat.zero_add]
    cases m.testBit k with
    | false => simp
    | true => rw [if_pos rfl, app_of (by simp; omega)]; rfl
  · simp only [quorum_Minimal.l1]
    rw [if_neg (by simp), List.take_length]
    rfl
theorem refsub_eq (v : api_View) (h : VOk v) (m : Nat) (hm : m < 4611686018427387904) : esref06_subset v (m : Int) = some (sub v m) := by
  have hn := h.n
  unfold esref06_subset
  have e := loopO_up (step := esref06_subset.l1 v (m : Int)) (fun k => (subL 0 (v.Members.take k) m, (k : Int))) v.Members.length (b := sub v m) (fun k hk => ?_) ?_
  · simp only [List.take_zero, subL, Int.natCast_zero] at e
    rw [e]; rfl
  · have hl := subL_len (v.Members.take k) m 0
    rw [List.length_take] at hl
    simp only [esref06_subset.l1, wu64 (show k < 18446744073709551616 by omega)]
    rw [if_pos (by simpa using hk), if_pos (by omega)]
    simp only [letV_of, shr_nat_i m k (by omega), idx_nat hk, Option.bind_some, esref06_subset.j2, wcast hk (by omega : v.Members.length ≤ _)]
    have hb : (Int.tmod ((m / 2 ^ k : Nat) : Int) 2 == 1) = m.testBit k := by
      rw [Nat.testBit_eq_decide_div_mod_eq, Int.tmod_eq_emod_of_nonneg (Int.natCast_nonneg _), Bool.eq_iff_iff, beq_iff_eq, decide_eq_true_iff]
      generalize m / 2 ^ k = q
      omega
    rw [hb, take_snoc hk, subL_snoc, List.length_take, Nat.min_eq_left (by omega), Nat.zero_add]
    cases m.testBit k with
    | false => simp
    | true => rw [if_pos rfl, app_of (by simp; omega)]; rfl
  · simp only [esref06_subset.l1]
    rw [if_neg (by simp), List.take_length]
    rfl
theorem without_eq (q : List Int) (k : Nat) (hk : k < q.length) (hq : q.length ≤ 1000) : esref06_without q (k : Int) = some (q.eraseIdx k) := by
  unfold esref06_without
  rw [cut_of (by omega) (by omega) (by omega)]
  simp only [Option.bind_some]
  rw [app_of (by simp; omega)]
  simp only [Option.bind_some, letV_of, wcast hk (by omega : q.length ≤ _)]
  rw [cut_of (by omega) (by omega) (by omega)]
  simp only [Option.bind_some]
  rw [app_of (by simp; omega), List.eraseIdx_eq_take_drop_succ]
  simp
end Go.Proofs.Ytodebgfppmcjlaa
