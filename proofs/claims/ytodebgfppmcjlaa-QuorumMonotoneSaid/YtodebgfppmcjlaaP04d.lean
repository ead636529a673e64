/- The quorum functions, as plain data: the reference's membership, and the validation of views. -/
import Derived.Test.YtodebgfppmcjlaaP04c
set_option linter.unusedVariables false
set_option linter.unusedSimpArgs false
namespace Go.Proofs.Ytodebgfppmcjlaa
open Go Go.Proofs.YtodebgfppmcjlaaL

theorem vv_step (v : api_View) (s : Int) : esref06_ValidateView.l1 v s = quorum_ValidateView.l1 v s := by
  unfold esref06_ValidateView.l1 quorum_ValidateView.l1
  split
  · cases h : idx v.Members s with
    | none => rfl
    | some m =>
      simp only [Option.bind_some, esref06_Server, esref06_Server.j1]
      by_cases h1 : 1 ≤ m.Server
      · by_cases h2 : m.Server ≤ 12
        · have h3 : ¬ m.Server < 1 := by omega
          have h4 : ¬ 12 < m.Server := by omega
          simp [h1, h2, h3, h4]
          rfl
        · have h3 : ¬ m.Server < 1 := by omega
          have h4 : 12 < m.Server := by omega
          simp [h1, h2, h3, h4]
          rfl
      · have h3 : m.Server < 1 := by omega
        simp [h1, h3]
        rfl
  · rfl
theorem vv_eq (v : api_View) : esref06_ValidateView v = quorum_ValidateView v := by
  unfold esref06_ValidateView quorum_ValidateView
  rw [refVR_eq, VR_eq, loopO_congr (vv_step v)]
  rfl
/-- What a view's members answer when they are walked. -/
def vMem (l : List api_Member) : Nat → List api_Member → Int
  | _, [] => 0
  | k, m :: r => if m.Server < 1 ∨ 12 < m.Server ∨ m.Weight < 1 ∨ 9 < m.Weight then 9 else
      if 0 < k ∧ (∀ p ∈ l[k - 1]?, m.Server ≤ p.Server) then 7 else vMem l (k + 1) r
def vView (v : api_View) : Int := if vRule v.Rule ≠ 0 then vRule v.Rule else vMem v.Members 0 v.Members
theorem vv_val (v : api_View) (h : v.Members.length ≤ 4611686018427387904) : quorum_ValidateView v = some (vView v) := by
  unfold quorum_ValidateView vView
  rw [VR_eq]
  simp only [Option.bind_some]
  by_cases hr : vRule v.Rule ≠ 0
  · simp [hr]
  have hr : vRule v.Rule = 0 := by simpa using hr
  simp only [hr, bne_self_eq_false, Bool.false_eq_true, if_false, ne_eq, not_true_eq_false]
  have key : ∃ b, loopO (quorum_ValidateView.l1 v) 0 = some b ∧ (match b with | .inl _ => 0 | .inr x => x) = vMem v.Members 0 v.Members := by
    refine loopO_ex (fun k s => s = (k : Int) ∧ vMem v.Members 0 v.Members = vMem v.Members k (v.Members.drop k)) v.Members.length ⟨rfl, rfl⟩ (fun k s hk hI => ?_) (fun s hI => ?_)
    · obtain ⟨rfl, hI⟩ := hI
      rw [hI, List.drop_eq_getElem_cons hk, vMem]
      simp only [quorum_ValidateView.l1, lt_of_len hk, if_true, idx_nat hk, Option.bind_some, quorum_ValidateView.j3, quorum_ValidateView.j2, letV_of]
      by_cases h1 : v.Members[k].Server < 1
      · exact .inr ⟨_, by simp only [h1, decide_true, if_true]; rfl, by simp [h1]⟩
      by_cases h2 : 12 < v.Members[k].Server
      · exact .inr ⟨_, by simp only [h1, h2, decide_true, decide_false, if_true, Bool.false_eq_true, if_false]; rfl, by simp [h2]⟩
      by_cases h3 : v.Members[k].Weight < 1
      · exact .inr ⟨_, by simp only [h1, h2, h3, decide_true, decide_false, if_true, Bool.false_eq_true, if_false]; rfl, by simp [h3]⟩
      by_cases h4 : 9 < v.Members[k].Weight
      · exact .inr ⟨_, by simp only [h1, h2, h3, h4, decide_true, decide_false, if_true, Bool.false_eq_true, if_false]; rfl, by simp [h4]⟩
      simp only [h1, h2, h3, h4, decide_false, Bool.false_eq_true, if_false, or_self]
      rw [wcast hk h]
      by_cases h0 : 0 < k
      · rw [if_pos (by simpa using h0), show IntKind.i64.wrap ((k : Int) - 1) = ((k - 1 : Nat) : Int) by rw [w64 (by omega) (by omega)]; omega, idx_nat (by omega)]
        simp only [Option.bind_some]
        have e : v.Members[k - 1]? = some v.Members[k - 1] := List.getElem?_eq_getElem (by omega)
        by_cases h5 : v.Members[k].Server ≤ v.Members[k - 1].Server
        · exact .inr ⟨.inr 7, by simp only [h5, decide_true, if_true], by simp [h0, e, h5]⟩
        · exact .inl ⟨_, by simp only [h5, decide_false, Bool.false_eq_true, if_false], rfl, by simp [h0, e, h5]⟩
      · exact .inl ⟨_, by rw [if_neg (by simpa using h0)], rfl, by simp [h0]⟩
    · obtain ⟨rfl, hI⟩ := hI
      simp only [quorum_ValidateView.l1, not_lt_len]
      exact ⟨_, rfl, by rw [hI, List.drop_length]; rfl⟩
  obtain ⟨b, hb, hv⟩ := key
  rw [hb]
  simp only [Option.bind_some]
  cases b with
  | inl u => simp only [quorum_ValidateView.j1]; exact congrArg some hv
  | inr x => exact congrArg some hv
theorem vMem_ok (l : List api_Member) : ∀ (r : List api_Member) (k : Nat), l.drop k = r → vMem l k r = 0 →
    (∀ m ∈ r, (1 ≤ m.Server ∧ m.Server ≤ 12) ∧ 1 ≤ m.Weight ∧ m.Weight ≤ 9) ∧ (r.Pairwise fun a b => a.Server < b.Server) ∧ (0 < k → ∀ p ∈ l[k - 1]?, ∀ m ∈ r, p.Server < m.Server)
  | [], k, _, _ => by simp
  | m :: r, k, hd, h => by
    rw [vMem] at h
    split at h
    · cases h
    rename_i hm
    split at h
    · cases h
    rename_i hp
    have hk : k < l.length := by
      rcases Nat.lt_or_ge k l.length with h | h
      · exact h
      · rw [List.drop_eq_nil_of_le h] at hd; cases hd
    rw [List.drop_eq_getElem_cons hk] at hd
    injection hd with hd1 hd2
    obtain ⟨i1, i2, i3⟩ := vMem_ok l r (k + 1) hd2 h
    have i4 := i3 (by omega) m (by simp [hk, hd1])
    refine ⟨fun x hx => ?_, List.pairwise_cons.2 ⟨i4, i2⟩, fun h0 p hp' x hx => ?_⟩
    · rcases List.mem_cons.1 hx with rfl | hx
      · omega
      · exact i1 x hx
    · have : p.Server < m.Server := by
        by_cases h : p.Server < m.Server
        · exact h
        · refine absurd ⟨h0, fun q hq => ?_⟩ hp
          cases hp'.symm.trans hq
          omega
      rcases List.mem_cons.1 hx with rfl | hx
      · exact this
      · exact Int.lt_trans this (i4 x hx)
theorem vView_ok {v : api_View} (h : vView v = 0) (hn : v.Members.length ≤ 12) : VOk v := by
  unfold vView at h
  split at h
  · rename_i hr; exact absurd h hr
  rename_i hr
  obtain ⟨h1, h2, _⟩ := vMem_ok v.Members v.Members 0 rfl h
  exact ⟨by omega, hn, fun m hm => (h1 m hm).1, fun m hm => (h1 m hm).2, h2⟩
theorem vMem_zero (l : List api_Member) : ∀ (r : List api_Member) (k : Nat), l.drop k = r →
    (∀ m ∈ r, (1 ≤ m.Server ∧ m.Server ≤ 12) ∧ 1 ≤ m.Weight ∧ m.Weight ≤ 9) → (l.Pairwise fun a b => a.Server < b.Server) → vMem l k r = 0
  | [], k, _, _, _ => rfl
  | m :: r, k, hd, h, hp => by
    have hk : k < l.length := by
      rcases Nat.lt_or_ge k l.length with h | h
      · exact h
      · rw [List.drop_eq_nil_of_le h] at hd; cases hd
    rw [List.drop_eq_getElem_cons hk] at hd
    injection hd with hd1 hd2
    have hm := h m (by simp)
    rw [vMem, if_neg (by omega), if_neg, vMem_zero l r (k + 1) hd2 (fun x hx => h x (by simp [hx])) hp]
    rintro ⟨h0, h1⟩
    have := h1 l[k - 1] (List.getElem?_eq_getElem (by omega))
    have h2 := List.pairwise_iff_getElem.1 hp (k - 1) k (by omega) hk (by omega)
    rw [hd1] at h2
    omega
theorem VOk.val {v : api_View} (h : VOk v) : vView v = 0 := by
  unfold vView
  rw [if_neg (by simp [h.rule])]
  exact vMem_zero _ _ 0 rfl (fun m hm => ⟨h.srv m hm, h.wt m hm⟩) h.asc

/-! The reference's membership. -/
theorem refgrid_in (v : api_View) (xs : List Int) (hx : xs.length ≤ 4611686018427387904) (at_ c : Nat) (hn : v.Members.length ≤ 12) (hc : c ≤ 12) (ha : at_ < v.Members.length) :
    loopO (esref06_grid.l1 v xs ((at_ + c : Nat) : Int)) (0, (at_ : Int)) = some ((((pres v fun s => decide (s ∈ xs)).drop at_).take c).count true : Int) := by
  have hpl : (pres v fun s => decide (s ∈ xs)).length = v.Members.length := by simp [pres]
  have hmin : minI ((at_ + c : Nat) : Int) (v.Members.length : Int) = ((min (at_ + c) v.Members.length : Nat) : Int) := by unfold minI; split <;> omega
  have e := loopO_up (step := esref06_grid.l1 v xs ((at_ + c : Nat) : Int)) (fun j => (((((pres v fun s => decide (s ∈ xs)).drop at_).take j).count true : Int), ((at_ + j : Nat) : Int))) (min c (v.Members.length - at_))
    (b := ((((pres v fun s => decide (s ∈ xs)).drop at_).take c).count true : Int)) ?_ ?_
  · simp only [List.take_zero, List.count_nil, Nat.add_zero] at e
    exact e
  · intro j hj
    have hj1 : at_ + j < v.Members.length := by omega
    have hj2 : j < ((pres v fun s => decide (s ∈ xs)).drop at_).length := by rw [List.length_drop]; omega
    simp only [esref06_grid.l1]
    rw [if_pos (by rw [hmin]; simp; omega), idx_nat hj1]
    simp only [Option.bind_some, In_eq xs _ hx, letV_of, esref06_grid.j4]
    rw [take_snoc hj2, List.count_append, w64 (x := ((at_ + j : Nat) : Int) + 1) (by omega) (by omega)]
    have hcc : (((pres v fun s => decide (s ∈ xs)).drop at_).take j).count true ≤ j := Nat.le_trans List.count_le_length (by simp; omega)
    have hg : ((pres v fun s => decide (s ∈ xs)).drop at_)[j] = decide (v.Members[at_ + j].Server ∈ xs) := by simp [pres]
    rw [hg]
    cases decide (v.Members[at_ + j].Server ∈ xs) with
    | false => simp; omega
    | true => simp; rw [w64 (by omega) (by omega)]; omega
  · simp only [esref06_grid.l1]
    rw [if_neg (by rw [hmin]; simp; omega)]
    have : ((pres v fun s => decide (s ∈ xs)).drop at_).take (min c (v.Members.length - at_)) = ((pres v fun s => decide (s ∈ xs)).drop at_).take c := by
      rw [← List.take_take, List.take_of_length_le (i := v.Members.length - at_) (by rw [List.length_drop]; omega)]
    rw [this]
theorem refgrid_loop (v : api_View) (xs : List Int) (hx : xs.length ≤ 4611686018427387904) (c : Nat) (hn : v.Members.length ≤ 12) (hc : c ≤ 12) (hc1 : 1 ≤ c) (hcol : v.Rule.Columns = (c : Int)) :
    ∀ (f at_ : Nat) (whole : Bool), v.Members.length - at_ ≤ f → at_ ≤ 30 → ∃ r, loopO (esref06_grid.l2 v xs) (whole, (at_ : Int)) = some r ∧
      (match r with | .inl w => w | .inr w => w) = gridF f c ((pres v fun s => decide (s ∈ xs)).drop at_) whole := by
  have hpl : (pres v fun s => decide (s ∈ xs)).length = v.Members.length := by simp [pres]
  intro f
  induction f with
  | zero =>
    intro at_ whole h h30
    refine ⟨.inl whole, loopO_done ?_, rfl⟩
    simp only [esref06_grid.l2]
    rw [if_neg (by simp; omega)]
  | succ f ih =>
    intro at_ whole h h30
    by_cases hlt : at_ < v.Members.length
    · have hstep : esref06_grid.l2 v xs (whole, (at_ : Int)) = esref06_grid.j3 v whole (at_ : Int) ((at_ + c : Nat) : Int) ((((pres v fun s => decide (s ∈ xs)).drop at_).take c).count true : Int) := by
        simp only [esref06_grid.l2, lt_of_len hlt, if_true, hcol, letV_of]
        rw [show IntKind.i64.wrap ((at_ : Int) + (c : Int)) = ((at_ + c : Nat) : Int) by rw [w64 (by omega) (by omega)]; omega, refgrid_in v xs hx at_ c hn hc hlt]
        rfl
      rw [gridF, if_neg (by intro h0; have := congrArg List.length h0; rw [List.length_drop] at this; simp at this; omega)]
      simp only [esref06_grid.j3] at hstep
      by_cases h0 : (((pres v fun s => decide (s ∈ xs)).drop at_).take c).count true = 0
      · rw [if_pos h0]
        rw [if_pos (by rw [h0]; rfl)] at hstep
        exact ⟨_, loopO_done hstep, rfl⟩
      · rw [if_neg h0]
        rw [if_neg (by simpa using h0)] at hstep
        have hmin : minI ((at_ + c : Nat) : Int) (v.Members.length : Int) - (at_ : Int) = (((((pres v fun s => decide (s ∈ xs)).drop at_).take c).length : Nat) : Int) := by
          rw [List.length_take, List.length_drop, hpl]; unfold minI; split <;> omega
        rw [List.drop_drop]
        have hw : esref06_grid.l2 v xs (whole, (at_ : Int)) = some (.inl ((whole || (((pres v fun s => decide (s ∈ xs)).drop at_).take c).count true == (((pres v fun s => decide (s ∈ xs)).drop at_).take c).length), ((at_ + c : Nat) : Int))) := by
          rw [hstep]
          have e1 : IntKind.i64.wrap ((at_ : Int) + (c : Int)) = ((at_ + c : Nat) : Int) := by rw [w64 (by omega) (by omega)]; omega
          cases whole with
          | true => simp only [if_true, esref06_grid.j2, letV_of, hcol, e1, Bool.true_or]
          | false =>
            have e2 : ((((List.drop at_ (pres v fun s => decide (s ∈ xs))).take c).count true : Int) == (((List.drop at_ (pres v fun s => decide (s ∈ xs))).take c).length : Int)) = (((List.drop at_ (pres v fun s => decide (s ∈ xs))).take c).count true == ((List.drop at_ (pres v fun s => decide (s ∈ xs))).take c).length) := by
              rw [Bool.eq_iff_iff, beq_iff_eq, beq_iff_eq]; omega
            rw [hmin, w64 (x := (((((pres v fun s => decide (s ∈ xs)).drop at_).take c).length : Nat) : Int)) (by omega) (by rw [List.length_take]; omega)]
            simp only [Bool.false_eq_true, if_false, esref06_grid.j2, letV_of, hcol, e1, Bool.false_or, e2]
        rw [loopO_next hw]
        exact ih (at_ + c) _ (by omega) (by omega)
    · refine ⟨_, loopO_done (b := .inl whole) ?_, ?_⟩
      · simp only [esref06_grid.l2]
        rw [if_neg (by simpa using hlt)]
      · rw [List.drop_eq_nil_of_le (by omega), gridF, if_pos rfl]
theorem refIs_eq (v : api_View) (xs : List Int) (h : VOk v) (hx : xs.length ≤ 4611686018427387904) : esref06_IsQuorum v xs = some (isQ v fun s => decide (s ∈ xs)) := by
  have hn := h.n
  have hpl : (pres v fun s => decide (s ∈ xs)).length = v.Members.length := by simp [pres]
  unfold esref06_IsQuorum
  have e := loopO_up (step := esref06_IsQuorum.l1 v xs) (fun k => ((((pres v fun s => decide (s ∈ xs)).take k).count true : Int), wAll (v.Members.take k), wIn (v.Members.take k) ((pres v fun s => decide (s ∈ xs)).take k), (k : Int))) v.Members.length
    (b := (((pres v fun s => decide (s ∈ xs)).count true : Int), wAll v.Members, wIn v.Members (pres v fun s => decide (s ∈ xs)))) ?_ ?_
  · simp only [List.take_zero, List.count_nil, wAll, wIn, Int.natCast_zero] at e
    rw [e]
    have hr := vRule_ok h.rule
    have hc : (pres v fun s => decide (s ∈ xs)).count true ≤ (pres v fun s => decide (s ∈ xs)).length := List.count_le_length
    have hw := wAll_bd h.wt
    have hw2 := wIn_bd h.wt (pres v fun s => decide (s ∈ xs))
    simp only [Option.bind_some, esref06_IsQuorum.j1, letV_of, isQ, cSpec]
    by_cases h0 : v.Members.length = 0
    · simp [h0]
    rw [if_neg (by simpa using h0), if_neg h0]
    by_cases h1 : v.Rule.Kind = 1
    · rw [if_pos (by simpa using h1), if_pos h1, w64 (by omega) (by omega)]
    rw [if_neg (by simpa using h1), if_neg h1]
    by_cases h2 : v.Rule.Kind = 2
    · rw [if_pos (by simpa using h2), if_pos h2, w64 (by omega) (by omega)]
    rw [if_neg (by simpa using h2), if_neg h2]
    by_cases h4 : v.Rule.Kind = 4
    · rw [if_pos (by simpa using h4), if_neg (by omega), if_pos h4]
      rw [w64 (x := (v.Members.length : Int) + v.Rule.Faulty) (by omega) (by omega), w64 (x := (v.Members.length : Int) + v.Rule.Faulty + 2) (by omega) (by omega)]
      rw [Int.tdiv_eq_ediv_of_nonneg (by omega), w64 (by omega) (by omega)]
    have h3 : v.Rule.Kind = 3 := by omega
    rw [if_neg (by simpa using h4), if_pos h3]
    have hcol := hr.2.2.1 h3
    obtain ⟨r, hr1, hr2⟩ := refgrid_loop v xs hx v.Rule.Columns.toNat hn (by omega) (by omega) (by omega) v.Members.length 0 false (by omega) (by omega)
    unfold esref06_grid
    rw [show (0 : Int) = ((0 : Nat) : Int) from rfl, hr1]
    rw [if_neg (by omega), hpl, ← List.drop_zero (l := pres v fun s => decide (s ∈ xs)), ← hr2]
    cases r <;> rfl
  · intro k hk
    have hkb : k < (pres v fun s => decide (s ∈ xs)).length := by omega
    have h1 := wAll_bd (h.wt.take k)
    have h2 := wIn_bd (h.wt.take k) ((pres v fun s => decide (s ∈ xs)).take k)
    have h3 := h.wt v.Members[k] (by simp)
    rw [List.length_take, Nat.min_eq_left (by omega)] at h1
    have hcc : ((pres v fun s => decide (s ∈ xs)).take k).count true ≤ k := Nat.le_trans List.count_le_length (by simp; omega)
    simp only [esref06_IsQuorum.l1, lt_of_len hk, if_true, idx_nat hk, Option.bind_some, letV_of, esref06_IsQuorum.j2, wcast hk (by omega), In_eq xs _ hx]
    rw [take_snoc hk, take_snoc hkb, wAll_snoc, wIn_snoc _ _ _ _ (by simp [hpl]), w64 (x := wAll (v.Members.take k) + v.Members[k].Weight) (by omega) (by omega), List.count_append]
    have hg : (pres v fun s => decide (s ∈ xs))[k] = decide (v.Members[k].Server ∈ xs) := by simp [pres]
    rw [hg]
    cases decide (v.Members[k].Server ∈ xs) with
    | false => simp
    | true => simp; rw [w64 (by omega) (by omega), w64 (by omega) (by omega)]; exact ⟨rfl, rfl⟩
  · simp only [esref06_IsQuorum.l1, not_lt_len, List.take_length]
    rw [List.take_of_length_le (l := pres v fun s => decide (s ∈ xs)) (by omega)]
    rfl
end Go.Proofs.Ytodebgfppmcjlaa
