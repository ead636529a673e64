/- The command language, as plain data: the reference's reading of a line. -/
import Derived.Test.YthfoljpjhegkmaaDoorP08c
set_option linter.unusedVariables false
set_option linter.unusedSimpArgs false
namespace Go.Proofs.YthfoljpjhegkmaaDoor
open Go Go.Proofs.YthfoljpjhegkmaaDoorL

theorem len_lt2 (a b : List UInt8) (m : List (List UInt8)) : (decide (((a :: b :: m).length : Int) < 2)) = false := by
  rw [decide_eq_false_iff_not]; simp only [List.length_cons]; omega
theorem form_eq (a : List UInt8) (l : List (List UInt8)) (s : List UInt8) (h : esref10_words s = some (a :: l)) : ∃ c b, esref10_form s = some (c, b) ∧ synS (a :: l) = if b then some c else none := by
  unfold esref10_form
  rw [h]
  simp only [Option.bind_some, idx_zero]
  by_cases hu : a = wRule
  · have eu : (a == wRule) = true := by simpa using hu
    rw [if_pos eu, cut_tail]
    simp only [Option.bind_some, (rule_eq l).2]
    rw [synS, if_pos hu]
    cases ruleS l with
    | none => exact ⟨_, _, rfl, rfl⟩
    | some r => exact ⟨_, _, rfl, rfl⟩
  · have eu : ¬ ((a == wRule) = true) := by simpa using hu
    rw [if_neg eu, synS, if_neg hu]
    cases l with
    | nil => exact ⟨_, _, rfl, rfl⟩
    | cons b m =>
      have i1 : idx (a :: b :: m) 1 = some b := rfl
      rw [len_lt2, i1]
      simp only [Bool.false_eq_true, if_false, Option.bind_some, (number_eq b).2]
      cases hn : numS b with
      | none => simp only [synT, hn]; exact ⟨_, _, rfl, rfl⟩
      | some n =>
        simp only [synT, hn]
        rw [show (decide ((n : Int) < 0)) = false by rw [decide_eq_false_iff_not]; omega]
        simp only [esref10_form.j5, Bool.false_eq_true, if_false, i1, Option.bind_some, (number_eq b).2, hn, idx_zero]
        have k1 : ∀ x, esref10_form.j1 x n false = some (⟨0, 0, 0, 0, ⟨0, 0, 0⟩⟩, false) := fun x => by simp only [esref10_form.j1, Bool.false_eq_true, if_false]
        by_cases hj : a = wJoin
        · have e1 : (a == wJoin) = true := by simpa using hj
          have erm : (a == wRemove) = false := by rw [hj]; rfl
          have ew : (a == wWeight) = false := by rw [hj]; rfl
          have aw : a ≠ wWeight := by rw [hj]; decide
          have k3 : esref10_form.j3 (a :: b :: m) n false = some (⟨0, 0, 0, 0, ⟨0, 0, 0⟩⟩, false) := by
            simp only [esref10_form.j3, Bool.false_eq_true, if_false, idx_zero, Option.bind_some, erm, esref10_form.j2, ew, k1]
          rw [if_pos e1]
          match m with
          | [] => simp only [hj, if_true]; exact ⟨_, _, rfl, rfl⟩
          | [c] =>
            rw [show ((([a, b, c] : List (List UInt8)).length : Int) == 2) = false from rfl]
            simp only [esref10_form.j4, Bool.false_eq_true, if_false, idx_zero, Option.bind_some, e1, if_true]
            rw [show ((([a, b, c] : List (List UInt8)).length : Int) == 4) = false from rfl]
            simp only [Bool.false_eq_true, if_false, aw]
            rw [k3]
            exact ⟨_, _, rfl, rfl⟩
          | [c, d] =>
            rw [show ((([a, b, c, d] : List (List UInt8)).length : Int) == 2) = false from rfl]
            simp only [esref10_form.j4, Bool.false_eq_true, if_false, idx_zero, Option.bind_some, e1, if_true]
            rw [show ((([a, b, c, d] : List (List UInt8)).length : Int) == 4) = true from rfl, show idx [a, b, c, d] 2 = some c from rfl, show idx [a, b, c, d] 3 = some d from rfl]
            simp only [if_true, Option.bind_some, (number_eq d).2]
            by_cases hc : c = wWeight
            · have ec : (c == wWeight) = true := by simpa using hc
              rw [ec]
              simp only [if_true, hj, hc, and_self]
              cases hd : numS d with
              | none =>
                rw [hj, hc] at k3
                rw [show (decide ((0 : Int) ≤ -1)) = false from rfl, k3]
                exact ⟨_, _, rfl, rfl⟩
              | some k =>
                simp only [num_neg, esref10_form.j3, if_true]
                rw [show idx [wJoin, b, wWeight, d] 3 = some d from rfl]
                simp only [Option.bind_some, (number_eq d).2, hd]
                exact ⟨_, _, rfl, rfl⟩
            · have ec : (c == wWeight) = false := by simpa using hc
              rw [ec, k3]
              simp only [hc, and_false, if_false]
              exact ⟨_, _, rfl, rfl⟩
          | c :: d :: e :: k =>
            have l2 : ((((a :: b :: c :: d :: e :: k).length : Nat) : Int) == 2) = false := by rw [beq_eq_false_iff_ne]; simp only [List.length_cons]; omega
            have l4 : ((((a :: b :: c :: d :: e :: k).length : Nat) : Int) == 4) = false := by rw [beq_eq_false_iff_ne]; simp only [List.length_cons]; omega
            simp only [l2, esref10_form.j4, Bool.false_eq_true, if_false, idx_zero, Option.bind_some, e1, if_true, l4]
            rw [k3]
            exact ⟨_, _, rfl, rfl⟩
        · have e1 : (a == wJoin) = false := by simpa using hj
          simp only [e1, Bool.false_eq_true, if_false, esref10_form.j4, idx_zero, Option.bind_some, esref10_form.j3]
          by_cases hr : a = wRemove
          · have erm : (a == wRemove) = true := by simpa using hr
            have ew : (a == wWeight) = false := by rw [hr]; rfl
            have aw : a ≠ wWeight := by rw [hr]; decide
            have aj : a ≠ wJoin := hj
            have k2 : esref10_form.j2 (a :: b :: m) n false = some (⟨0, 0, 0, 0, ⟨0, 0, 0⟩⟩, false) := by
              simp only [Bool.false_eq_true, if_false, idx_zero, Option.bind_some, esref10_form.j2, ew, k1]
            rw [if_pos erm]
            match m with
            | [] => simp only [hj, hr, if_true, if_false]; exact ⟨_, _, rfl, rfl⟩
            | [c] => rw [show ((([a, b, c] : List (List UInt8)).length : Int) == 2) = false from rfl, k2]; simp only [aw, if_false]; exact ⟨_, _, rfl, rfl⟩
            | [c, d] => rw [show ((([a, b, c, d] : List (List UInt8)).length : Int) == 2) = false from rfl, k2]; simp only [hj, false_and, if_false]; exact ⟨_, _, rfl, rfl⟩
            | c :: d :: e :: k =>
              have l2 : ((((a :: b :: c :: d :: e :: k).length : Nat) : Int) == 2) = false := by rw [beq_eq_false_iff_ne]; simp only [List.length_cons]; omega
              rw [l2, k2]
              exact ⟨_, _, rfl, rfl⟩
          · have erm : (a == wRemove) = false := by simpa using hr
            simp only [erm, Bool.false_eq_true, if_false, esref10_form.j2, idx_zero, Option.bind_some]
            by_cases hw : a = wWeight
            · have ew : (a == wWeight) = true := by simpa using hw
              rw [if_pos ew]
              match m with
              | [] => rw [show ((([a, b] : List (List UInt8)).length : Int) == 3) = false from rfl]; simp only [Bool.false_eq_true, if_false, k1, hj, hr]; exact ⟨_, _, rfl, rfl⟩
              | [c] =>
                rw [show ((([a, b, c] : List (List UInt8)).length : Int) == 3) = true from rfl, show idx [a, b, c] 2 = some c from rfl]
                simp only [if_true, Option.bind_some, (number_eq c).2, hw]
                cases hd : numS c with
                | none =>
                  rw [show (decide ((0 : Int) ≤ -1)) = false from rfl, k1]
                  exact ⟨_, _, rfl, rfl⟩
                | some k =>
                  simp only [num_neg, esref10_form.j1, if_true]
                  rw [show idx [wWeight, b, c] 2 = some c from rfl]
                  simp only [Option.bind_some, (number_eq c).2, hd]
                  exact ⟨_, _, rfl, rfl⟩
              | [c, d] => rw [show ((([a, b, c, d] : List (List UInt8)).length : Int) == 3) = false from rfl]; simp only [Bool.false_eq_true, if_false, k1, hj, false_and]; exact ⟨_, _, rfl, rfl⟩
              | c :: d :: e :: k =>
                have l2 : ((((a :: b :: c :: d :: e :: k).length : Nat) : Int) == 3) = false := by rw [beq_eq_false_iff_ne]; simp only [List.length_cons]; omega
                simp only [l2, Bool.false_eq_true, if_false, k1]
                exact ⟨_, _, rfl, rfl⟩
            · have ew : (a == wWeight) = false := by simpa using hw
              simp only [ew, Bool.false_eq_true, if_false, k1]
              match m with
              | [] => simp only [hj, hr, if_false]; exact ⟨_, _, rfl, rfl⟩
              | [c] => simp only [hw, if_false]; exact ⟨_, _, rfl, rfl⟩
              | [c, d] => simp only [hj, false_and, if_false]; exact ⟨_, _, rfl, rfl⟩
              | c :: d :: e :: k => exact ⟨_, _, rfl, rfl⟩
end Go.Proofs.YthfoljpjhegkmaaDoor
