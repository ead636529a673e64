/- The quorum functions, as plain data: both lists of minimal quorums are the same. -/
import Derived.Test.YtodebgfppmcjlaaP04h
set_option linter.unusedVariables false
set_option linter.unusedSimpArgs false
namespace Go.Proofs.Ytodebgfppmcjlaa
open Go Go.Proofs.YtodebgfppmcjlaaL Go.Sort

def isMinB (v : api_View) (m : Nat) : Bool := Qm v m && (List.range v.Members.length).all fun j => !m.testBit j || !Qm v (drp m j)
theorem isMinB_iff (v : api_View) (m : Nat) : isMinB v m = true ↔ isMin v m := by
  unfold isMinB isMin
  simp only [Bool.and_eq_true, List.all_eq_true, List.mem_range, Bool.or_eq_true, Bool.not_eq_true']
  constructor
  · rintro ⟨h1, h2⟩
    refine ⟨h1, fun j hj hb => (h2 j hj).resolve_left (by rw [hb]; simp)⟩
  · rintro ⟨h1, h2⟩
    refine ⟨h1, fun j hj => ?_⟩
    cases hb : m.testBit j with
    | false => exact .inl rfl
    | true => exact .inr (h2 j hj hb)
/-- The minimal quorums below a number. -/
def minsTo (v : api_View) (k : Nat) : List Nat := (List.range k).filter (isMinB v)
def mins (v : api_View) : List Nat := minsTo v (2 ^ v.Members.length)
theorem mem_mins (v : api_View) (m k : Nat) : m ∈ minsTo v k ↔ m < k ∧ isMin v m := by
  unfold minsTo
  rw [List.mem_filter, List.mem_range, isMinB_iff]
theorem minsTo_nodup (v : api_View) (k : Nat) : (minsTo v k).Nodup := List.nodup_range.sublist List.filter_sublist
theorem minsTo_succ (v : api_View) (k : Nat) : minsTo v (k + 1) = minsTo v k ++ (if isMinB v k then [k] else []) := by
  unfold minsTo
  rw [List.range_succ, List.filter_append]
  cases h : isMinB v k <;> simp [h]
theorem minsTo_len (v : api_View) (k : Nat) : (minsTo v k).length ≤ k := by
  have : (minsTo v k).length ≤ (List.range k).length := List.length_filter_le _ _
  simpa using this
theorem empty_not (v : api_View) (h : VOk v) : Qm v 0 = false := by
  refine cSpec_none h (bv_length _ _) ?_
  have : bv v.Members.length 0 = List.replicate v.Members.length false := by
    simp [bv, List.map_const']
  rw [this, List.count_replicate]
  simp

/-- A set of the program, as its servers, in their order. -/
theorem Minimal_eq (v : api_View) (h : VOk v) : ∃ L, quorum_Minimal v = some L ∧ L.Perm ((mins v).map (sub v)) ∧ L.Pairwise (fun a b => ltInts a b = true) := by
  have hn := h.n
  have hp : 2 ^ v.Members.length ≤ 2 ^ 12 := Nat.pow_le_pow_right (by decide) hn
  obtain ⟨out, ho, hnd, hmem⟩ := minimal_eq v h
  have hperm : out.Perm (mins v) := by
    refine (List.perm_ext_iff_of_nodup hnd (minsTo_nodup v _)).2 fun m => ?_
    rw [hmem, mem_mins]
  have hlen : out.length ≤ 2 ^ v.Members.length := nodup_len _ _ hnd fun x hx => ((hmem x).1 hx).1
  unfold quorum_Minimal
  rw [ho]
  simp only [Option.bind_some]
  have e := loopO_up (step := quorum_Minimal.l2 v (im out)) (fun k => ((out.take k).map (sub v), (k : Int))) out.length (b := out.map (sub v)) (fun k hk => ?_) ?_
  · simp only [List.take_zero, List.map_nil, Int.natCast_zero] at e
    rw [e]
    simp only [Option.bind_some, quorum_Minimal.j1, slices_SortFunc_sl]
    have hall : ((out.map (sub v)).all fun l => decide (l.length ≤ 140737488355328)) = true := by
      rw [List.all_eq_true]
      intro l hl
      obtain ⟨m, _, rfl⟩ := List.mem_map.1 hl
      have := sub_len v m
      rw [decide_eq_true_iff]; omega
    rw [if_pos hall]
    have hpw : (out.map (sub v)).Pairwise fun a b => ltInts a b = true ∨ ltInts b a = true := by
      rw [List.pairwise_map]
      refine List.Pairwise.imp_of_mem ?_ hnd
      intro a b ha hb hne
      rcases lti_tri (sub v a) (sub v b) with h1 | h1 | h1
      · exact .inl h1
      · exact absurd (sub_inj h ((hmem a).1 ha).1 ((hmem b).1 hb).1 h1) hne
      · exact .inr h1
    have hs : sortU ltInts (out.map (sub v)) = some ((out.map (sub v)).mergeSort fun a b => !ltInts b a) := by
      unfold sortU
      rw [if_pos ⟨hpw, by rw [List.length_map]; omega⟩]
    rw [hs]
    refine ⟨_, rfl, (sortU_perm hs).trans (hperm.map _), ?_⟩
    have h1 := sortU_sorted lti_swo hs
    have h2 := pairwise_perm (fun a b h => h.symm) (sortU_perm hs).symm hpw
    exact (h2.and h1).imp fun ⟨h3, h4⟩ => h3.resolve_right (by rw [h4]; simp)
  · have hk' : k < (im out).length := by rwa [im_len]
    have hg : (im out)[k] = (out[k] : Int) := by simp [im]
    have hko := (hmem out[k]).1 (by simp)
    simp only [quorum_Minimal.l2]
    rw [if_pos (by rw [im_len]; simpa using hk), idx_nat hk', hg]
    simp only [Option.bind_some]
    rw [sub_eq v h _ (by omega)]
    simp only [Option.bind_some, quorum_Minimal.j3]
    rw [app_of (by simp; omega)]
    simp only [Option.bind_some, quorum_Minimal.j2, letV_of, wcast hk (by omega : out.length ≤ _)]
    rw [take_snoc hk, List.map_append]
    rfl
  · simp only [quorum_Minimal.l2]
    rw [if_neg (by rw [im_len]; simp), List.take_length]

/-! The reference's list. -/
theorem least_eq (v : api_View) (h : VOk v) (m : Nat) (hm : m < 2 ^ v.Members.length) (hq : Qm v m = true) : loopO (esref06_Minimal.l2 v (sub v m)) (true, 0) = some (isMinB v m) := by
  have hn := h.n
  have hsl := sub_len v m
  have hasc := sub_asc h m
  have hnd : (sub v m).Nodup := hasc.imp fun h => by omega
  -- taking out what stands at k
  have htake : ∀ k (hk : k < (sub v m).length), ∃ j, ∃ hj : j < v.Members.length, v.Members[j].Server = (sub v m)[k] ∧ m.testBit j = true ∧ isQ v (fun s => decide (s ∈ (sub v m).eraseIdx k)) = Qm v (drp m j) := by
    intro k hk
    have hmem : (sub v m)[k] ∈ sub v m := List.getElem_mem hk
    obtain ⟨j, hj, h1, h2⟩ := (mem_subL _ _ _ 0).1 hmem
    rw [Nat.zero_add] at h2
    refine ⟨j, hj, h1, h2, ?_⟩
    unfold isQ Qm
    congr 1
    apply List.ext_getElem (by simp [pres, bv])
    intro i hi1 hi2
    have hi : i < v.Members.length := by simpa [pres] using hi1
    rw [bv_get, drp_bit]
    simp only [pres, List.getElem_map]
    rw [Bool.eq_iff_iff, decide_eq_true_iff, List.mem_eraseIdx_iff_getElem]
    simp only [Bool.and_eq_true, Bool.not_eq_true', decide_eq_false_iff_not]
    constructor
    · rintro ⟨i', hi', hne, he⟩
      have hm1 : v.Members[i].Server ∈ sub v m := by rw [← he]; exact List.getElem_mem _
      refine ⟨(mem_sub h m i hi).1 hm1, ?_⟩
      rintro rfl
      rw [h1] at he
      exact hne ((List.getElem_inj hnd).1 he)
    · rintro ⟨hb, hne⟩
      obtain ⟨i', hi', he⟩ := List.mem_iff_getElem.1 ((mem_sub h m i hi).2 hb)
      refine ⟨i', hi', ?_, he⟩
      rintro rfl
      exact hne (srv_inj h hj hi (h1.trans he))
  have hall : isMinB v m = (List.range (sub v m).length).all fun k => !isQ v (fun s => decide (s ∈ (sub v m).eraseIdx k)) := by
    unfold isMinB
    rw [hq, Bool.true_and, Bool.eq_iff_iff]
    simp only [List.all_eq_true, List.mem_range, Bool.or_eq_true, Bool.not_eq_true']
    constructor
    · intro hh k hk
      obtain ⟨j, hj, h1, h2, h3⟩ := htake k hk
      rw [h3]
      exact (hh j hj).resolve_left (by rw [h2]; simp)
    · intro hh j hj
      cases hb : m.testBit j with
      | false => exact .inl rfl
      | true =>
        right
        obtain ⟨k, hk, he⟩ := List.mem_iff_getElem.1 ((mem_sub h m j hj).2 hb)
        obtain ⟨j', hj', h1, h2, h3⟩ := htake k hk
        have : j' = j := srv_inj h hj' hj (h1.trans he)
        subst this
        rw [← h3]
        exact hh k hk
  rw [hall]
  have e := loopO_up (step := esref06_Minimal.l2 v (sub v m)) (fun k => ((List.range k).all fun k => !isQ v (fun s => decide (s ∈ (sub v m).eraseIdx k)), (k : Int))) (sub v m).length (b := (List.range (sub v m).length).all fun k => !isQ v (fun s => decide (s ∈ (sub v m).eraseIdx k))) (fun k hk => ?_) ?_
  · simpa using e
  · simp only [esref06_Minimal.l2, lt_of_len hk, if_true, esref06_Minimal.j6, letV_of, wcast hk (by omega : (sub v m).length ≤ _)]
    rw [List.range_succ, List.all_append]
    rw [without_eq _ k hk (by omega)]
    simp only [Option.bind_some]
    have hle : ((sub v m).eraseIdx k).length ≤ (sub v m).length := List.length_eraseIdx_le _ _
    rw [refIs_eq v _ h (by omega)]
    simp only [Option.bind_some]
    cases (List.range k).all fun k => !isQ v (fun s => decide (s ∈ (sub v m).eraseIdx k)) <;> simp
  · simp only [esref06_Minimal.l2, not_lt_len]
    rfl
/-- Where a list goes in. -/
theorem place_eq (out : List (List Int)) (q : List Int) (hs : out.Pairwise fun a b => ltInts a b = true) (hq : q ∉ out) (hl : out.length ≤ 100000) (hql : q.length ≤ 100) :
    ∃ k, k ≤ out.length ∧ loopO (esref06_Minimal.l1 out q) (out.length : Int) = some (k : Int) ∧ (out.take k ++ [q] ++ out.drop k).Pairwise fun a b => ltInts a b = true := by
  have key : ∃ r, loopO (esref06_Minimal.l1 out q) (out.length : Int) = some r ∧ ∃ k : Nat, k ≤ out.length ∧ r = (k : Int) ∧ (∀ x ∈ out.drop k, ltInts q x = true) ∧ (∀ x ∈ out.take k, ltInts x q = true) := by
    refine loopO_mu (fun s => ∃ k : Nat, k ≤ out.length ∧ s = (k : Int) ∧ ∀ x ∈ out.drop k, ltInts q x = true) Int.toNat ⟨out.length, Nat.le_refl _, rfl, by simp⟩ (fun s hI => ?_)
    obtain ⟨k, hk, rfl, hI⟩ := hI
    simp only [esref06_Minimal.l1]
    cases k with
    | zero =>
      right
      rw [if_neg (by simp)]
      simp only [esref06_Minimal.j4, Bool.false_eq_true, if_false]
      exact ⟨_, rfl, 0, Nat.zero_le _, rfl, hI, by simp⟩
    | succ k =>
      rw [if_pos (by rw [decide_eq_true_iff]; omega), show IntKind.i64.wrap (((k + 1 : Nat) : Int) - 1) = (k : Int) by rw [w64 (by omega) (by omega)]; omega]
      simp only [letV_of]
      rw [idx_nat (by omega)]
      simp only [Option.bind_some]
      rw [Less_eq q _ (by omega)]
      simp only [Option.bind_some, esref06_Minimal.j4]
      cases hlt : ltInts q out[k] with
      | true =>
        left
        rw [if_pos rfl, show IntKind.i64.wrap (((k + 1 : Nat) : Int) - 1) = (k : Int) by rw [w64 (by omega) (by omega)]; omega]
        simp only [letV_of]
        refine ⟨_, rfl, ⟨k, by omega, rfl, ?_⟩, by simp⟩
        rw [List.drop_eq_getElem_cons (by omega)]
        intro x hx
        rcases List.mem_cons.1 hx with rfl | hx
        · exact hlt
        · exact hI x hx
      | false =>
        right
        rw [if_neg (by simp)]
        refine ⟨_, rfl, k + 1, hk, rfl, hI, ?_⟩
        have hkq : ltInts out[k] q = true := by
          rcases lti_tri q out[k] with h1 | h1 | h1
          · rw [h1] at hlt; cases hlt
          · exact absurd (by rw [h1]; exact List.getElem_mem _) hq
          · exact h1
        intro x hx
        obtain ⟨i, hi, rfl⟩ := List.mem_iff_getElem.1 hx
        rw [List.length_take] at hi
        rw [List.getElem_take]
        rcases Nat.lt_or_ge i k with h1 | h1
        · exact lti_trans (List.pairwise_iff_getElem.1 hs i k (by omega) (by omega) h1) hkq
        · have : i = k := by omega
          subst this
          exact hkq
  obtain ⟨r, hr, k, hk, rfl, h1, h2⟩ := key
  refine ⟨k, hk, hr, ?_⟩
  have hs' := hs
  rw [← List.take_append_drop k out, List.pairwise_append] at hs'
  rw [List.append_assoc, List.pairwise_append]
  refine ⟨hs'.1, ?_, ?_⟩
  · rw [List.singleton_append, List.pairwise_cons]
    exact ⟨h1, hs'.2.1⟩
  · intro a ha b hb
    rcases List.mem_append.1 hb with hb | hb
    · rw [List.mem_singleton.1 hb]; exact h2 a ha
    · exact hs'.2.2 a ha b hb
theorem refMinimal_eq (v : api_View) (h : VOk v) : ∃ L, esref06_Minimal v = some L ∧ L.Perm ((mins v).map (sub v)) ∧ L.Pairwise (fun a b => ltInts a b = true) := by
  have hn := h.n
  have hp : 2 ^ v.Members.length ≤ 2 ^ 12 := Nat.pow_le_pow_right (by decide) hn
  have hp1 : 1 ≤ 2 ^ v.Members.length := Nat.one_le_two_pow
  unfold esref06_Minimal
  have key : ∃ r, loopO (esref06_Minimal.l3 v) ([], 1) = some r ∧ r.Perm ((mins v).map (sub v)) ∧ r.Pairwise (fun a b => ltInts a b = true) := by
    refine loopO_inv (fun k s => ∃ out, s = (out, ((k + 1 : Nat) : Int)) ∧ out.Perm ((minsTo v (k + 1)).map (sub v)) ∧ out.Pairwise (fun a b => ltInts a b = true)) (2 ^ v.Members.length - 1) ⟨[], rfl, ?_, by simp⟩ (fun k s hk hI => ?_) (fun s hI => ?_)
    · have : isMinB v 0 = false := by unfold isMinB; rw [empty_not v h]; rfl
      rw [minsTo_succ, this]
      simp [minsTo]
    · obtain ⟨out, rfl, hpm, hs⟩ := hI
      have hm : k + 1 < 2 ^ v.Members.length := by omega
      have hlen : out.length ≤ k + 1 := by have := hpm.length_eq; rw [List.length_map] at this; have := minsTo_len v (k + 1); omega
      simp only [esref06_Minimal.l3, wu64 (show v.Members.length < 18446744073709551616 by omega), letV_of]
      rw [if_pos (by omega), shl_nat_i v.Members.length (by omega), if_pos (by rw [decide_eq_true_iff]; omega), refsub_eq v h (k + 1) (by omega)]
      have hsl := sub_len v (k + 1)
      simp only [Option.bind_some]
      rw [refIs_eq v _ h (by omega), pres_sub h]
      simp only [Option.bind_some]
      have e1 : IntKind.i64.wrap (((k + 1 : Nat) : Int) + 1) = ((k + 1 + 1 : Nat) : Int) := w64n (by omega)
      have hskip : isMinB v (k + 1) = false → ∃ s', some (Sum.inl (out, ((k + 1 + 1 : Nat) : Int)) : (List (List Int) × Int) ⊕ List (List Int)) = some (.inl s') ∧ ∃ out, s' = (out, ((k + 1 + 1 : Nat) : Int)) ∧ out.Perm ((minsTo v (k + 1 + 1)).map (sub v)) ∧ out.Pairwise (fun a b => ltInts a b = true) := by
        intro hf
        refine ⟨_, rfl, out, rfl, ?_, hs⟩
        rw [minsTo_succ, hf]
        simpa using hpm
      cases hq : Qm v (k + 1) with
      | false =>
        simp only [Bool.not_false, if_true, esref06_Minimal.j2, letV_of, e1]
        exact hskip (by unfold isMinB; rw [hq]; rfl)
      | true =>
        simp only [Bool.not_true, Bool.false_eq_true, if_false]
        rw [least_eq v h (k + 1) hm hq]
        simp only [Option.bind_some, esref06_Minimal.j5]
        cases hmn : isMinB v (k + 1) with
        | false =>
          simp only [Bool.not_false, if_true, esref06_Minimal.j2, letV_of, e1]
          exact hskip hmn
        | true =>
          simp only [Bool.not_true, Bool.false_eq_true, if_false]
          have hnot : sub v (k + 1) ∉ out := by
            intro hmem
            have := hpm.mem_iff.1 hmem
            obtain ⟨m, hm1, hm2⟩ := List.mem_map.1 this
            have hm3 := ((mem_mins v m _).1 hm1).1
            have := sub_inj h (by omega) hm hm2
            omega
          obtain ⟨i, hi, hpl, hsort⟩ := place_eq out (sub v (k + 1)) hs hnot (by omega) (by omega)
          rw [hpl]
          simp only [Option.bind_some, esref06_Minimal.j3]
          rw [cut_of (by omega) (by omega) (by omega)]
          simp only [Option.bind_some]
          rw [app_of (by simp; omega), cut_of (by omega) (by omega) (by omega)]
          simp only [Option.bind_some]
          rw [app_of (by simp; omega)]
          simp only [Option.bind_some]
          rw [app_of (by simp; omega)]
          simp only [Option.bind_some, esref06_Minimal.j2, letV_of, e1]
          refine ⟨_, rfl, out.take i ++ [sub v (k + 1)] ++ out.drop i, by simp, ?_, hsort⟩
          rw [minsTo_succ, hmn, if_pos rfl, List.map_append]
          have : (out.take i ++ [sub v (k + 1)] ++ out.drop i).Perm (out ++ [sub v (k + 1)]) := by
            conv => rhs; rw [← List.take_append_drop i out]
            rw [List.append_assoc, List.append_assoc]
            exact (List.perm_append_comm).append_left _
          exact this.trans (hpm.append_right _)
    · obtain ⟨out, rfl, hpm, hs⟩ := hI
      have e : 2 ^ v.Members.length - 1 + 1 = 2 ^ v.Members.length := by omega
      rw [e] at hpm ⊢
      simp only [esref06_Minimal.l3, wu64 (show v.Members.length < 18446744073709551616 by omega), letV_of]
      rw [if_pos (by omega), shl_nat_i v.Members.length (by omega), if_neg (by rw [decide_eq_true_iff]; omega)]
      exact ⟨_, rfl, hpm, hs⟩
  obtain ⟨r, hr, hpm, hs⟩ := key
  rw [hr]
  exact ⟨r, rfl, hpm, hs⟩
theorem Minimal_both (v : api_View) (h : VOk v) : ∃ L, quorum_Minimal v = some L ∧ esref06_Minimal v = some L ∧ L.Perm ((mins v).map (sub v)) := by
  obtain ⟨L, h1, h2, h3⟩ := Minimal_eq v h
  obtain ⟨M, h4, h5, h6⟩ := refMinimal_eq v h
  have : L = M := List.Perm.eq_of_pairwise (le := fun a b => ltInts a b = true) (fun a b _ _ h1 h2 => by rw [lti_asymm h1] at h2; cases h2) h3 h6 (h2.trans h5.symm)
  subst this
  exact ⟨L, h1, h4, h2⟩
end Go.Proofs.Ytodebgfppmcjlaa
