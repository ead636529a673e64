/- The quorum laws, as plain data: what quorums have in common, and who may be missing. -/
import Derived.Test.YtodebgfppmcjlaaP04l
set_option linter.unusedVariables false
set_option linter.unusedSimpArgs false
namespace Go.Proofs.Ytodebgfppmcjlaa
open Go Go.Proofs.YtodebgfppmcjlaaL Go.Sort

/-- The bits of what is there. -/
def toM : List Bool → Nat
  | [] => 0
  | b :: l => (if b then 1 else 0) + 2 * toM l
theorem toM_bit : ∀ (l : List Bool) (i : Nat), (toM l).testBit i = l.getD i false
  | [], i => by simp [toM]
  | b :: l, 0 => by
    rw [Nat.testBit_zero, toM]
    cases b <;> simp <;> omega
  | b :: l, i + 1 => by
    rw [Nat.testBit_succ, toM, show ((if b then 1 else 0) + 2 * toM l) / 2 = toM l by split <;> omega, toM_bit l i]
    simp
theorem toM_lt : ∀ l : List Bool, toM l < 2 ^ l.length
  | [] => by simp [toM]
  | b :: l => by
    have := toM_lt l
    rw [toM, List.length_cons, Nat.pow_succ]
    split <;> omega
theorem bv_toM (l : List Bool) : bv l.length (toM l) = l := by
  apply List.ext_getElem (by simp [bv])
  intro i h1 h2
  rw [bv_get, toM_bit]
  simp [h2]
/-- Every quorum has a minimal one in it. -/
theorem min_below {v : api_View} (h : VOk v) : ∀ m, m < 2 ^ v.Members.length → Qm v m = true → ∃ a ∈ mins v, sub2 a m := by
  intro m
  induction m using Nat.strongRecOn with
  | ind m ih =>
    intro hm hq
    by_cases hmin : isMin v m
    · exact ⟨m, (mem_mins v m _).2 ⟨hm, hmin⟩, fun j hj => hj⟩
    · obtain ⟨j, hj, h1, h2⟩ : ∃ j, j < v.Members.length ∧ m.testBit j = true ∧ Qm v (drp m j) = true := by
        apply Classical.byContradiction
        intro hno
        refine hmin ⟨hq, fun j hj hb => ?_⟩
        cases hx : Qm v (drp m j) with
        | false => rfl
        | true => exact absurd ⟨j, hj, hb, hx⟩ hno
      have hle := drp_le m j
      have hne : drp m j ≠ m := fun e => by rw [(drp_eq_iff m j).1 e] at h1; cases h1
      obtain ⟨a, ha, hs⟩ := ih (drp m j) (by omega) (by omega) h2
      refine ⟨a, ha, fun i hi => ?_⟩
      have := hs i hi
      rw [drp_bit] at this
      cases hx : m.testBit i with
      | true => rfl
      | false => rw [hx] at this; simp at this
theorem and2_bv (n a b : Nat) : and2 (bv n a) (bv n b) = bv n (a &&& b) := by
  have : ∀ (l : List Nat), and2 (l.map (a.testBit ·)) (l.map (b.testBit ·)) = l.map ((a &&& b).testBit ·) := by
    intro l
    induction l with
    | nil => rfl
    | cons x l ih => simp only [List.map_cons, and2, ih, Nat.testBit_and]
  exact this _
theorem com_gt {v : api_View} (h : VOk v) (hn : v.Members.length ≤ 8) {x : Int} (hx : Com v x) : v.Rule.Faulty < x := by
  obtain ⟨a, ha, b, hb, rfl⟩ := hx
  have h1 := ((mem_mins v a _).1 ha)
  have h2 := ((mem_mins v b _).1 hb)
  have := cSpec_meet h (bv_length _ _) (bv_length _ _) h1.2.1 h2.2.1
  rw [and2_bv] at this
  rw [pc_eq hn (Nat.lt_of_le_of_lt Nat.and_le_left h1.1)]
  exact this
theorem overlap_true (n m : Int) : eslaw04_QuorumOverlap n m = some true := by
  unfold eslaw04_QuorumOverlap
  obtain ⟨v, hv, hok, hn, _⟩ := view_ex n m
  rw [hv]
  simp only [Option.bind_some]
  obtain ⟨o, h1, h2, h3⟩ := Overlap_both v hok (by omega)
  obtain ⟨L, h4, _, h5⟩ := Minimal_both v hok
  rw [show (⟨v.Members, ⟨v.Rule.Kind, v.Rule.Columns, v.Rule.Faulty⟩⟩ : api_View) = v from rfl, h1, h2, h4]
  simp only [Option.bind_some, beq_self_eq_true, if_true, awake_eq, eslaw04_QuorumOverlap.j1]
  have hl := h5.length_eq
  rw [List.length_map] at hl
  have hf := (vRule_ok hok.rule).2.2.2.1
  rcases h3 with ⟨e, e0⟩ | ⟨e, e0⟩
  · have e1 : (L.length : Int) = 0 := by rw [hl, e]; rfl
    rw [e0, e1]
    rfl
  · have hc := com_gt hok (by omega) e0.1
    have e1 : ((L.length : Int) == 0) = false := by
      rw [hl, beq_eq_false_iff_ne]
      intro h
      exact e (List.length_eq_zero_iff.1 (by omega))
    have e2 : (o == 0) = false := by rw [beq_eq_false_iff_ne]; omega
    rw [e1, e2]
    simp [hc]
theorem and2_mono : ∀ {a a' b b' : List Bool}, imp2 a a' → imp2 b b' → imp2 (and2 a b) (and2 a' b')
  | [], [], _, _, _, _ => by simp [and2, imp2]
  | _ :: _, _ :: _, [], [], _, _ => by simp [and2, imp2]
  | x :: a, x' :: a', y :: b, y' :: b', h1, h2 => by
    have h3 := h1.1
    have h4 := h2.1
    refine ⟨?_, and2_mono h1.2 h2.2⟩
    cases x <;> cases y <;> simp_all
  | [], _ :: _, _, _, h, _ => h.elim
  | _ :: _, [], _, _, h, _ => h.elim
  | _ :: _, _ :: _, [], _ :: _, _, h => h.elim
  | _ :: _, _ :: _, _ :: _, [], _, h => h.elim
theorem intersect_true (n m a b : Int) : eslaw04_QuorumIntersect n m a b = some true := by
  unfold eslaw04_QuorumIntersect
  obtain ⟨v, hv, hok, hn, _⟩ := view_ex n m
  obtain ⟨x, hx, hxl⟩ := chosen_ex a
  obtain ⟨y, hy, hyl⟩ := chosen_ex b
  rw [hv, hx, hy]
  simp only [Option.bind_some]
  rw [show (⟨v.Members, ⟨v.Rule.Kind, v.Rule.Columns, v.Rule.Faulty⟩⟩ : api_View) = v from rfl, IsQuorum_eq v x hok (by omega), IsQuorum_eq v y hok (by omega)]
  simp only [Option.bind_some]
  have hskip : eslaw04_QuorumIntersect.j5 v x y true = some true := by
    unfold eslaw04_QuorumIntersect.j5
    rw [if_pos rfl, awake_eq]; rfl
  cases hq : isQ v (fun s => decide (s ∈ x)) with
  | false => exact hskip
  | true =>
    simp only [Bool.not_true, Bool.false_eq_true, if_false]
    cases hq' : isQ v (fun s => decide (s ∈ y)) with
    | false => exact hskip
    | true =>
      unfold eslaw04_QuorumIntersect.j5
      simp only [Bool.not_true, Bool.false_eq_true, if_false]
      have hlx : (pres v fun s => decide (s ∈ x)).length = v.Members.length := by simp [pres]
      have hly : (pres v fun s => decide (s ∈ y)).length = v.Members.length := by simp [pres]
      have key : loopO (eslaw04_QuorumIntersect.l1 v x y) (0, 0) = some ((and2 (pres v fun s => decide (s ∈ x)) (pres v fun s => decide (s ∈ y))).count true : Int) := by
        refine loopO_up (step := eslaw04_QuorumIntersect.l1 v x y) (fun k => (((and2 ((pres v fun s => decide (s ∈ x)).take k) ((pres v fun s => decide (s ∈ y)).take k)).count true : Int), (k : Int))) v.Members.length (fun k hk => ?_) ?_
        · have hk1 : k < (pres v fun s => decide (s ∈ x)).length := by omega
          have hk2 : k < (pres v fun s => decide (s ∈ y)).length := by omega
          have hc : (and2 ((pres v fun s => decide (s ∈ x)).take k) ((pres v fun s => decide (s ∈ y)).take k)).count true ≤ 12 := by
            rw [← and2_take]
            have h1 : ((and2 (pres v fun s => decide (s ∈ x)) (pres v fun s => decide (s ∈ y))).take k).count true ≤ _ := List.count_le_length
            rw [List.length_take] at h1
            omega
          have hs : and2 ((pres v fun s => decide (s ∈ x)).take (k + 1)) ((pres v fun s => decide (s ∈ y)).take (k + 1)) = and2 ((pres v fun s => decide (s ∈ x)).take k) ((pres v fun s => decide (s ∈ y)).take k) ++ [decide (v.Members[k].Server ∈ x) && decide (v.Members[k].Server ∈ y)] := by
            have : ∀ (p q : List Bool) (c d : Bool), p.length = q.length → and2 (p ++ [c]) (q ++ [d]) = and2 p q ++ [c && d] := by
              intro p
              induction p with
              | nil => intro q c d h; have := List.length_eq_zero_iff.1 h.symm; subst this; rfl
              | cons z p ih => intro q c d h; cases q with
                | nil => simp at h
                | cons z' q => simp only [List.cons_append, and2, ih q c d (by simpa using h)]
            rw [take_snoc hk1, take_snoc hk2, this _ _ _ _ (by simp [hlx, hly])]
            simp [pres]
          simp only [eslaw04_QuorumIntersect.l1, lt_of_len hk, if_true, idx_nat hk, Option.bind_some]
          rw [In_eq _ _ (by omega), In_eq _ _ (by omega)]
          simp only [Option.bind_some, eslaw04_QuorumIntersect.j4, eslaw04_QuorumIntersect.j3, letV_of, wcast hk (by omega : v.Members.length ≤ _)]
          rw [hs, List.count_append]
          by_cases h1 : v.Members[k].Server ∈ x <;> by_cases h2 : v.Members[k].Server ∈ y <;> simp [h1, h2] <;> (rw [w64 (by omega) (by omega)])
        · simp only [eslaw04_QuorumIntersect.l1, not_lt_len]
          rw [List.take_of_length_le (by omega), List.take_of_length_le (by omega)]
          rfl
      rw [key]
      simp only [Option.bind_some, eslaw04_QuorumIntersect.j2, quorum_Faulty]
      have hmeet := cSpec_meet hok hlx hly hq hq'
      rw [if_pos (by simpa using hmeet)]
      obtain ⟨o, h1, _, h3⟩ := Overlap_both v hok (by omega)
      rw [show (⟨v.Members, ⟨v.Rule.Kind, v.Rule.Columns, v.Rule.Faulty⟩⟩ : api_View) = v from rfl, h1]
      simp only [Option.bind_some]
      have hle : o ≤ ((and2 (pres v fun s => decide (s ∈ x)) (pres v fun s => decide (s ∈ y))).count true : Int) := by
        have hX : ∀ l : List Bool, l.length = v.Members.length → cSpec v l = true → ∃ a ∈ mins v, imp2 (bv v.Members.length a) l := by
          intro l hl hq
          have e : bv v.Members.length (toM l) = l := by rw [← hl]; exact bv_toM l
          have hlt := toM_lt l
          rw [hl] at hlt
          obtain ⟨a, ha, hs⟩ := min_below hok (toM l) hlt (by unfold Qm; rw [e]; exact hq)
          refine ⟨a, ha, ?_⟩
          rw [← e]
          exact imp2_of (by simp [bv]) fun i h1 h2 hi => by rw [bv_get] at hi ⊢; exact hs i hi
        obtain ⟨p, hp, hp2⟩ := hX _ hlx hq
        obtain ⟨q, hq1, hq2⟩ := hX _ hly hq'
        have hcnt := imp2_count (and2_mono hp2 hq2)
        rw [and2_bv] at hcnt
        rcases h3 with ⟨e, _⟩ | ⟨_, h3⟩
        · rw [e] at hp; cases hp
        · have := h3.2 _ ⟨p, hp, q, hq1, rfl⟩
          rw [pc_eq (n := v.Members.length) (by omega) (Nat.lt_of_le_of_lt Nat.and_le_left (mins_lt hp))] at this
          omega
      rw [if_pos (by simpa using hle), awake_eq]
      rfl
theorem tolerance_true (n m gone : Int) : eslaw04_QuorumTolerance n m gone = some true := by
  unfold eslaw04_QuorumTolerance
  obtain ⟨v, hv, hok, hn, _⟩ := view_ex n m
  rw [hv]
  simp only [Option.bind_some]
  obtain ⟨o, h1, h2, h3⟩ := Tolerance_both v hok (by omega)
  rw [show (⟨v.Members, ⟨v.Rule.Kind, v.Rule.Columns, v.Rule.Faulty⟩⟩ : api_View) = v from rfl, h1, h2]
  simp only [Option.bind_some, bne_self_eq_false, Bool.false_eq_true, if_false]
  have key : ∃ r, loopO (eslaw04_QuorumTolerance.l1 gone v) ([], 0, 0) = some r ∧ ∃ g : Nat, g < 2 ^ v.Members.length ∧ r.2 = (pc g : Int) ∧ r.1 = sub v (andN (2 ^ v.Members.length - 1) g) := by
    refine loopO_inv (fun k s => ∃ g : Nat, g < 2 ^ k ∧ s = (subL 0 (v.Members.take k) (andN (2 ^ k - 1) g), (pc g : Int), (k : Int))) v.Members.length ⟨0, by simp, by simp [subL]; decide⟩ (fun k s hk hI => ?_) (fun s hI => ?_)
    · obtain ⟨g, hg, rfl⟩ := hI
      obtain ⟨d, hd, h4, h5⟩ := Digit_ex gone 2 k (by decide) (by decide) (by omega)
      have hg2 : ∀ j, k ≤ j → g.testBit j = false := fun j hj => Nat.testBit_lt_two_pow (Nat.lt_of_lt_of_le hg (Nat.pow_le_pow_right (by decide) hj))
      have hpk : 2 ^ (k + 1) ≤ 2 ^ 7 := Nat.pow_le_pow_right (by decide) (by omega)
      have hpg : pc g ≤ 8 := by unfold pc; exact Nat.le_trans List.count_le_length (by simp [bv])
      -- bits below k are as they were
      have hcong : ∀ (l : List api_Member) (p q i : Nat), (∀ j, i ≤ j → j < i + l.length → p.testBit j = q.testBit j) → subL i l p = subL i l q := by
        intro l
        induction l with
        | nil => intro p q i _; rfl
        | cons y l ih =>
          intro p q i hh
          rw [subL, subL, hh i (Nat.le_refl _) (by simp), ih p q (i + 1) fun j hj1 hj2 => hh j (by omega) (by simp; omega)]
      simp only [eslaw04_QuorumTolerance.l1, lt_of_len hk, if_true, hd, Option.bind_some]
      have hlen := subL_len (v.Members.take k) (andN (2 ^ k - 1) g) 0
      rw [List.length_take] at hlen
      by_cases he : d = 1
      · rw [if_pos (by simpa using he)]
        simp only [eslaw04_QuorumTolerance.j3, letV_of, wcast hk (by omega : v.Members.length ≤ _)]
        have hbit : ∀ j, (g + 2 ^ k).testBit j = (decide (j = k) || g.testBit j) := by
          intro j
          have hor := Nat.two_pow_add_eq_or_of_lt hg 1
          rw [Nat.mul_one] at hor
          rw [Nat.add_comm, hor, Nat.testBit_or, Nat.testBit_two_pow]
          congr 1
          rw [Bool.eq_iff_iff]; simp; omega
        refine ⟨_, rfl, g + 2 ^ k, by rw [Nat.pow_succ]; omega, ?_⟩
        rw [take_snoc hk, subL_snoc, List.length_take, Nat.min_eq_left (by omega), Nat.zero_add, andN_bit, hbit k]
        simp only [decide_true, Bool.true_or, Bool.not_true, Bool.and_false, Bool.false_eq_true, if_false, List.append_nil]
        have e1 : subL 0 (v.Members.take k) (andN (2 ^ k - 1) g) = subL 0 (v.Members.take k) (andN (2 ^ (k + 1) - 1) (g + 2 ^ k)) := by
          refine hcong _ _ _ 0 fun j _ hj => ?_
          rw [List.length_take, Nat.min_eq_left (by omega)] at hj
          rw [andN_bit, andN_bit, Nat.testBit_two_pow_sub_one, Nat.testBit_two_pow_sub_one, hbit]
          have a1 : j < k := by omega
          have a2 : j < k + 1 := by omega
          have a3 : ¬ j = k := by omega
          simp [a1, a2, a3]
        have e2 : pc (g + 2 ^ k) = pc g + 1 := by
          rw [pc_eq (n := k + 1) (by omega) (by rw [Nat.pow_succ]; omega), pc_eq (n := k) (by omega) hg, bv_succ, List.count_append, hbit k]
          have : bv k (g + 2 ^ k) = bv k g := by
            unfold bv
            refine List.map_congr_left fun j hj => ?_
            rw [hbit]
            have : ¬ j = k := by have := List.mem_range.1 hj; omega
            simp [this]
          rw [this]
          simp
        rw [e1, e2, w64 (by omega) (by omega)]
        simp
      · rw [if_neg (by simpa using he), idx_nat hk]
        simp only [Option.bind_some]
        rw [app_of (by simp; omega)]
        simp only [Option.bind_some, eslaw04_QuorumTolerance.j3, letV_of, wcast hk (by omega : v.Members.length ≤ _)]
        refine ⟨_, rfl, g, by rw [Nat.pow_succ]; omega, ?_⟩
        rw [take_snoc hk, subL_snoc, List.length_take, Nat.min_eq_left (by omega), Nat.zero_add, andN_bit, hg2 k (Nat.le_refl _), Nat.testBit_two_pow_sub_one]
        have e1 : subL 0 (v.Members.take k) (andN (2 ^ k - 1) g) = subL 0 (v.Members.take k) (andN (2 ^ (k + 1) - 1) g) := by
          refine hcong _ _ _ 0 fun j _ hj => ?_
          rw [List.length_take, Nat.min_eq_left (by omega)] at hj
          rw [andN_bit, andN_bit, Nat.testBit_two_pow_sub_one, Nat.testBit_two_pow_sub_one]
          have a1 : j < k := by omega
          have a2 : j < k + 1 := by omega
          simp [a1, a2]
        rw [e1]
        simp
    · obtain ⟨g, hg, rfl⟩ := hI
      simp only [eslaw04_QuorumTolerance.l1, not_lt_len]
      exact ⟨_, rfl, g, hg, rfl, by rw [List.take_length]; rfl⟩
  obtain ⟨⟨left, missing⟩, hr, g, hg, h4, h5⟩ := key
  simp only at h4 h5
  subst h4
  subst h5
  rw [hr]
  simp only [Option.bind_some, eslaw04_QuorumTolerance.j2, eslaw04_QuorumTolerance.j1, awake_eq]
  by_cases hlt : o - 1 < (pc g : Int)
  · rw [if_pos (by simpa using hlt)]
  · rw [if_neg (by simpa using hlt), show (⟨v.Members, ⟨v.Rule.Kind, v.Rule.Columns, v.Rule.Faulty⟩⟩ : api_View) = v from rfl]
    have hsl := sub_len v (andN (2 ^ v.Members.length - 1) g)
    rw [IsQuorum_eq v _ hok (by omega), pres_sub hok]
    simp only [Option.bind_some]
    cases hq : Qm v (andN (2 ^ v.Members.length - 1) g) with
    | true => rfl
    | false =>
      have := h3.2 _ ⟨g, hg, hq, rfl⟩
      omega
end Go.Proofs.Ytodebgfppmcjlaa
