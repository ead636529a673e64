/- The command language, as plain data: lines. -/
import Derived.Test.YthfoljpjhegkmaaDoorP08b
set_option linter.unusedVariables false
set_option linter.unusedSimpArgs false
namespace Go.Proofs.YthfoljpjhegkmaaDoor
open Go Go.Proofs.YthfoljpjhegkmaaDoorL

theorem tuple_eta (p : api_Change × Bool) : (match p with | (a, b) => some (a, b)) = some p := rfl
theorem len_eq (w : List (List UInt8)) (k : Nat) : ((w.length : Int) == (k : Int)) = decide (w.length = k) := by
  rw [Bool.eq_iff_iff, beq_iff_eq, decide_eq_true_iff]; omega
theorem cut_tail (a : List UInt8) (l : List (List UInt8)) : cut (a :: l) 1 ((a :: l).length : Int) = some l := by
  rw [cut_of (by omega) (by simp only [List.length_cons]; omega) (by omega)]
  simp
theorem syn_eq (a : List UInt8) (l : List (List UInt8)) (s : List UInt8) (h : strings_Split s [32] = some (a :: l)) : command_syntax s = some (cOk (synS (a :: l))) := by
  unfold command_syntax
  rw [h]
  simp only [Option.bind_some, idx_zero]
  have hlen : ∀ k : Nat, ((((a :: l).length : Nat) : Int) == (k : Int)) = decide ((a :: l).length = k) := len_eq _
  by_cases hj : a = wJoin
  · have e1 : (a == wJoin) = true := by simpa using hj
    have er : a ≠ wRule := by rw [hj]; decide
    have erm : (a == wRemove) = false := by rw [hj]; rfl
    have ew : (a == wWeight) = false := by rw [hj]; rfl
    have eru : (a == wRule) = false := by rw [hj]; rfl
    have aw : a ≠ wWeight := by rw [hj]; decide
    have arm : a ≠ wRemove := by rw [hj]; decide
    have hrest : command_syntax.j3 (a :: l) false = some (cOk none) := by
      simp only [command_syntax.j3, Bool.false_eq_true, if_false, idx_zero, Option.bind_some, erm, command_syntax.j2, ew, command_syntax.j1, eru]
      rfl
    rw [if_pos e1]
    match l with
    | [] =>
      rw [show ((([a] : List (List UInt8)).length : Int) == 2) = false from rfl]
      simp only [command_syntax.j4, Bool.false_eq_true, if_false, idx_zero, Option.bind_some, e1, if_true]
      rw [show ((([a] : List (List UInt8)).length : Int) == 4) = false from rfl]
      simp only [Bool.false_eq_true, if_false]
      rw [hrest, synS, if_neg er]
      rfl
    | [b] =>
      rw [show ((([a, b] : List (List UInt8)).length : Int) == 2) = true from rfl]
      simp only [command_syntax.j4, if_true]
      rw [server1 _ _ b rfl]
      simp only [Option.bind_some, synT]
      rw [synS, if_neg er]
      simp only [synT]
      cases numS b with
      | none => rfl
      | some n => simp only [hj, if_true]; rfl
    | [b, c] =>
      rw [show ((([a, b, c] : List (List UInt8)).length : Int) == 2) = false from rfl]
      simp only [command_syntax.j4, Bool.false_eq_true, if_false, idx_zero, Option.bind_some, e1, if_true]
      rw [show ((([a, b, c] : List (List UInt8)).length : Int) == 4) = false from rfl]
      simp only [Bool.false_eq_true, if_false]
      rw [hrest, synS, if_neg er]
      simp only [synT]
      cases numS b with
      | none => rfl
      | some n => simp only [aw, if_false]
    | [b, c, d] =>
      rw [show ((([a, b, c, d] : List (List UInt8)).length : Int) == 2) = false from rfl]
      simp only [command_syntax.j4, Bool.false_eq_true, if_false, idx_zero, Option.bind_some, e1, if_true]
      rw [show ((([a, b, c, d] : List (List UInt8)).length : Int) == 4) = true from rfl, show idx [a, b, c, d] 2 = some c from rfl]
      simp only [if_true, Option.bind_some]
      rw [synS, if_neg er]
      by_cases hc : c = wWeight
      · have ec : (c == wWeight) = true := by simpa using hc
        rw [ec]
        simp only [command_syntax.j3, if_true]
        rw [server2 _ _ b d 3 (by decide) rfl rfl]
        simp only [Option.bind_some, synT]
        cases numS b with
        | none => rfl
        | some n =>
          simp only [hj, hc, and_self, if_true]
          cases numS d <;> rfl
      · have ec : (c == wWeight) = false := by simpa using hc
        rw [ec, hrest]
        simp only [synT]
        cases numS b with
        | none => rfl
        | some n => simp only [hc, and_false, if_false]
    | b :: c :: d :: e :: m =>
      have l2 : ((((a :: b :: c :: d :: e :: m).length : Nat) : Int) == 2) = false := by rw [beq_eq_false_iff_ne]; simp only [List.length_cons]; omega
      have l4 : ((((a :: b :: c :: d :: e :: m).length : Nat) : Int) == 4) = false := by rw [beq_eq_false_iff_ne]; simp only [List.length_cons]; omega
      simp only [l2, command_syntax.j4, Bool.false_eq_true, if_false, idx_zero, Option.bind_some, e1, if_true, l4]
      rw [hrest, synS, if_neg er]
      simp only [synT]
      cases numS b <;> rfl
  · have e1 : (a == wJoin) = false := by simpa using hj
    simp only [e1, Bool.false_eq_true, if_false, command_syntax.j4, idx_zero, Option.bind_some, command_syntax.j3]
    by_cases hr : a = wRemove
    · have erm : (a == wRemove) = true := by simpa using hr
      have er : a ≠ wRule := by rw [hr]; decide
      have ew : (a == wWeight) = false := by rw [hr]; rfl
      have eru : (a == wRule) = false := by rw [hr]; rfl
      have aw : a ≠ wWeight := by rw [hr]; decide
      have hrest : command_syntax.j2 (a :: l) false = some (cOk none) := by
        simp only [command_syntax.j2, Bool.false_eq_true, if_false, idx_zero, Option.bind_some, ew, command_syntax.j1, eru]
        rfl
      rw [if_pos erm, synS, if_neg er]
      match l with
      | [] => rw [show ((([a] : List (List UInt8)).length : Int) == 2) = false from rfl, hrest]; rfl
      | [b] =>
        rw [show ((([a, b] : List (List UInt8)).length : Int) == 2) = true from rfl]
        simp only [command_syntax.j2, if_true]
        rw [server1 _ _ b rfl]
        simp only [Option.bind_some, synT]
        cases numS b with
        | none => rfl
        | some n => simp only [hj, hr, if_true, if_false]; rfl
      | [b, c] =>
        rw [show ((([a, b, c] : List (List UInt8)).length : Int) == 2) = false from rfl, hrest]
        simp only [synT]
        cases numS b with
        | none => rfl
        | some n => simp only [aw, if_false]
      | [b, c, d] =>
        rw [show ((([a, b, c, d] : List (List UInt8)).length : Int) == 2) = false from rfl, hrest]
        simp only [synT]
        cases numS b with
        | none => rfl
        | some n => simp only [hj, false_and, if_false]
      | b :: c :: d :: e :: m =>
        have l2 : ((((a :: b :: c :: d :: e :: m).length : Nat) : Int) == 2) = false := by rw [beq_eq_false_iff_ne]; simp only [List.length_cons]; omega
        rw [l2, hrest]
        simp only [synT]
        cases numS b <;> rfl
    · have erm : (a == wRemove) = false := by simpa using hr
      simp only [erm, Bool.false_eq_true, if_false, command_syntax.j2, idx_zero, Option.bind_some]
      by_cases hw : a = wWeight
      · have ew : (a == wWeight) = true := by simpa using hw
        have er : a ≠ wRule := by rw [hw]; decide
        have eru : (a == wRule) = false := by rw [hw]; rfl
        have hrest : command_syntax.j1 (a :: l) false = some (cOk none) := by
          simp only [command_syntax.j1, Bool.false_eq_true, if_false, idx_zero, Option.bind_some, eru]
          rfl
        rw [if_pos ew, synS, if_neg er]
        match l with
        | [] => rw [show ((([a] : List (List UInt8)).length : Int) == 3) = false from rfl, hrest]; rfl
        | [b] =>
          rw [show ((([a, b] : List (List UInt8)).length : Int) == 3) = false from rfl, hrest]
          simp only [synT]
          cases numS b with
          | none => rfl
          | some n => simp only [hj, hr, if_false]
        | [b, c] =>
          rw [show ((([a, b, c] : List (List UInt8)).length : Int) == 3) = true from rfl]
          simp only [command_syntax.j1, if_true]
          rw [server2 _ _ b c 2 (by decide) rfl rfl]
          simp only [Option.bind_some, synT]
          cases numS b with
          | none => rfl
          | some n =>
            simp only [hw, if_true]
            cases numS c <;> rfl
        | [b, c, d] =>
          rw [show ((([a, b, c, d] : List (List UInt8)).length : Int) == 3) = false from rfl, hrest]
          simp only [synT]
          cases numS b with
          | none => rfl
          | some n => simp only [hj, false_and, if_false]
        | b :: c :: d :: e :: m =>
          have l2 : ((((a :: b :: c :: d :: e :: m).length : Nat) : Int) == 3) = false := by rw [beq_eq_false_iff_ne]; simp only [List.length_cons]; omega
          rw [l2, hrest]
          simp only [synT]
          cases numS b <;> rfl
      · have ew : (a == wWeight) = false := by simpa using hw
        simp only [ew, Bool.false_eq_true, if_false, command_syntax.j1, idx_zero, Option.bind_some]
        by_cases hu : a = wRule
        · have eu : (a == wRule) = true := by simpa using hu
          rw [if_pos eu, cut_tail]
          simp only [Option.bind_some, (rule_eq l).1]
          rw [synS, if_pos hu]
          cases ruleS l <;> rfl
        · have eu : (a == wRule) = false := by simpa using hu
          rw [eu, synS, if_neg hu]
          simp only [Bool.false_eq_true, if_false]
          match l with
          | [] => rfl
          | [b] => simp only [synT]; cases numS b with
            | none => rfl
            | some n => simp only [hj, hr, if_false]; rfl
          | [b, c] => simp only [synT]; cases numS b with
            | none => rfl
            | some n => simp only [hw, if_false]; rfl
          | [b, c, d] => simp only [synT]; cases numS b with
            | none => rfl
            | some n => simp only [hj, false_and, if_false]; rfl
          | b :: c :: d :: e :: m => simp only [synT]; cases numS b <;> rfl
end Go.Proofs.YthfoljpjhegkmaaDoor
