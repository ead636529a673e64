/- The command language, as plain data: numbers, words. -/
import Derived.Test.YthfoljpjhegkmaaDoorFd
import Derived.Test.YthfoljpjhegkmaaDoorPm
set_option linter.unusedVariables false
set_option linter.unusedSimpArgs false
namespace Go.Proofs.YthfoljpjhegkmaaDoor
open Go Go.Proofs.YthfoljpjhegkmaaDoorL

/-! Numbers. -/
def digs : Nat → List UInt8 → Option Nat
  | acc, [] => some acc
  | acc, b :: l => if b.toNat < 48 ∨ 57 < b.toNat then none else digs (10 * acc + (b.toNat - 48)) l
def numS (s : List UInt8) : Option Nat := if s = [] ∨ 4 < s.length ∨ (1 < s.length ∧ s.head? = some 48) then none else digs 0 s
theorem digs_lt : ∀ (l : List UInt8) (acc n : Nat), l.length ≤ 4 → acc < 10 ^ (10 - l.length) → digs acc l = some n → n < 10 ^ 10
  | [], acc, n, _, h, hd => by simp [digs] at hd; subst hd; simpa using h
  | b :: l, acc, n, hl, h, hd => by
    rw [digs] at hd
    split at hd
    · cases hd
    · rename_i hb
      refine digs_lt l _ n (by simp at hl; omega) ?_ hd
      simp only [List.length_cons] at h hl
      have e : 10 ^ (10 - l.length) = 10 * 10 ^ (10 - (l.length + 1)) := by
        rw [show 10 - l.length = (10 - (l.length + 1)) + 1 by omega, Nat.pow_succ]; omega
      rw [e]; omega
theorem w8 (b : UInt8) (h : 48 ≤ b.toNat) : IntKind.u8.wrap ((b.toNat : Int) - 48) = ((b.toNat - 48 : Nat) : Int) := by
  have := b.toNat_lt
  simp only [IntKind.wrap, IntKind.bits, IntKind.signed]; simp; omega
theorem num_loop (s : List UInt8) (hs : s.length ≤ 4) : (digs 0 s = none → loopO (command_number.l1 s) (0, 0) = some (.inr (0, false)) ∧ loopO (esref10_number.l1 s) (0, 0) = some (.inr (-1))) ∧
    (∀ n, digs 0 s = some n → loopO (command_number.l1 s) (0, 0) = some (.inl (n : Int)) ∧ loopO (esref10_number.l1 s) (0, 0) = some (.inl (n : Int))) := by
  have main : ∀ m k acc, k + m = s.length → acc < 10 ^ (10 - m) →
      (digs acc (s.drop k) = none → loopO (command_number.l1 s) ((acc : Int), (k : Int)) = some (.inr (0, false)) ∧ loopO (esref10_number.l1 s) ((acc : Int), (k : Int)) = some (.inr (-1))) ∧
      (∀ n, digs acc (s.drop k) = some n → loopO (command_number.l1 s) ((acc : Int), (k : Int)) = some (.inl (n : Int)) ∧ loopO (esref10_number.l1 s) ((acc : Int), (k : Int)) = some (.inl (n : Int))) := by
    intro m
    induction m with
    | zero =>
      intro k acc hk ha
      have hk : k = s.length := by omega
      subst hk
      rw [List.drop_length]
      refine ⟨fun h => by simp [digs] at h, fun n h => ?_⟩
      simp [digs] at h
      subst h
      exact ⟨loopO_done (by simp only [command_number.l1, not_lt_len]; rfl), loopO_done (by simp only [esref10_number.l1, not_lt_len]; rfl)⟩
    | succ m ih =>
      intro k acc hk ha
      have hlt : k < s.length := by omega
      have hp : 10 ^ (10 - m) = 10 * 10 ^ (10 - (m + 1)) := by
        rw [show 10 - m = (10 - (m + 1)) + 1 by omega, Nat.pow_succ]; omega
      have hp2 : 10 ^ (10 - (m + 1)) ≤ 10 ^ 10 := Nat.pow_le_pow_right (by decide) (by omega)
      rw [List.drop_eq_getElem_cons hlt, digs]
      by_cases hb : s[k].toNat < 48 ∨ 57 < s[k].toNat
      · rw [if_pos hb]
        refine ⟨fun _ => ⟨loopO_done ?_, loopO_done ?_⟩, fun n h => by cases h⟩
        · simp only [command_number.l1, lt_of_len hlt, if_true, idx_nat hlt, Option.bind_some, command_number.j2]
          by_cases h1 : s[k].toNat < 48
          · rw [if_pos (by rw [decide_eq_true_iff]; omega)]
          · have h2 : 57 < s[k].toNat := by omega
            rw [if_neg (by rw [decide_eq_true_iff]; omega), if_pos (by rw [decide_eq_true_iff]; omega)]
        · simp only [esref10_number.l1, lt_of_len hlt, if_true, idx_nat hlt, Option.bind_some, esref10_number.j2]
          by_cases h1 : s[k].toNat < 48
          · rw [if_pos (by rw [decide_eq_true_iff]; omega)]
          · have h2 : 57 < s[k].toNat := by omega
            rw [if_neg (by rw [decide_eq_true_iff]; omega), if_pos (by rw [decide_eq_true_iff]; omega)]
      · rw [if_neg hb]
        have h1 : ¬ s[k].toNat < 48 := by omega
        have h2 : ¬ 57 < s[k].toNat := by omega
        have e0 : IntKind.i64.wrap (10 * (acc : Int)) = ((10 * acc : Nat) : Int) := by rw [w64 (by omega) (by omega)]; omega
        have e1 : IntKind.i64.wrap (((s[k].toNat - 48 : Nat)) : Int) = ((s[k].toNat - 48 : Nat) : Int) := w64 (by omega) (by omega)
        have e2 : IntKind.i64.wrap (((10 * acc : Nat) : Int) + ((s[k].toNat - 48 : Nat) : Int)) = ((10 * acc + (s[k].toNat - 48) : Nat) : Int) := by rw [w64 (by omega) (by omega)]; omega
        have s1 : command_number.l1 s ((acc : Int), (k : Int)) = some (.inl (((10 * acc + (s[k].toNat - 48) : Nat) : Int), ((k + 1 : Nat) : Int))) := by
          simp only [command_number.l1, lt_of_len hlt, if_true, idx_nat hlt, Option.bind_some, command_number.j2]
          rw [if_neg (by rw [decide_eq_true_iff]; omega), if_neg (by rw [decide_eq_true_iff]; omega)]
          simp only [letV_of]
          rw [w8 _ (by omega), e0, e1, e2, wcast hlt (by omega)]
        have s2 : esref10_number.l1 s ((acc : Int), (k : Int)) = some (.inl (((10 * acc + (s[k].toNat - 48) : Nat) : Int), ((k + 1 : Nat) : Int))) := by
          simp only [esref10_number.l1, lt_of_len hlt, if_true, idx_nat hlt, Option.bind_some, esref10_number.j2]
          rw [if_neg (by rw [decide_eq_true_iff]; omega), if_neg (by rw [decide_eq_true_iff]; omega)]
          simp only [letV_of]
          rw [w8 _ (by omega), e0, e1, e2, wcast hlt (by omega)]
        rw [loopO_next s1, loopO_next s2]
        exact ih (k + 1) _ (by omega) (by rw [hp]; omega)
  have h := main s.length 0 0 (by omega) (Nat.pow_pos (by decide))
  rwa [List.drop_zero] at h
theorem head48 {s : List UInt8} (h : 1 < s.length) : ∃ b : UInt8, idx s 0 = some b ∧ s.head? = some b := by
  cases s with
  | nil => simp at h
  | cons b l => exact ⟨b, rfl, rfl⟩
theorem number_eq (s : List UInt8) : command_number s = some (match numS s with | some n => ((n : Int), true) | none => (0, false)) ∧ esref10_number s = some (match numS s with | some n => (n : Int) | none => -1) := by
  unfold command_number esref10_number numS
  by_cases h0 : s = []
  · subst h0; exact ⟨rfl, rfl⟩
  have h0' : s.length ≠ 0 := fun h => h0 (List.length_eq_zero_iff.1 h)
  rw [if_neg (by simpa using h0), if_neg (show ¬ (((s.length : Int) == 0) = true) by rw [beq_iff_eq]; omega)]
  by_cases h4 : 4 < s.length
  · rw [if_pos (show (decide (4 < (s.length : Int))) = true by rw [decide_eq_true_iff]; omega), if_pos (show (decide (4 < (s.length : Int))) = true by rw [decide_eq_true_iff]; omega), if_pos (.inr (.inl h4))]
    exact ⟨rfl, rfl⟩
  rw [if_neg (show ¬ ((decide (4 < (s.length : Int))) = true) by rw [decide_eq_true_iff]; omega), if_neg (show ¬ ((decide (4 < (s.length : Int))) = true) by rw [decide_eq_true_iff]; omega)]
  have hl := num_loop s (by omega)
  have hfin : command_number.j3 s false = some (match digs 0 s with | some n => ((n : Int), true) | none => (0, false)) ∧ esref10_number.j3 s false = some (match digs 0 s with | some n => (n : Int) | none => -1) := by
    unfold command_number.j3 esref10_number.j3
    rw [if_neg (by simp), if_neg (by simp)]
    cases hd : digs 0 s with
    | none => rw [(hl.1 hd).1, (hl.1 hd).2]; exact ⟨rfl, rfl⟩
    | some n => rw [(hl.2 n hd).1, (hl.2 n hd).2]; exact ⟨rfl, rfl⟩
  by_cases h1 : 1 < s.length
  · rw [if_pos (show (decide (1 < (s.length : Int))) = true by rw [decide_eq_true_iff]; omega), if_pos (show (decide (1 < (s.length : Int))) = true by rw [decide_eq_true_iff]; omega)]
    obtain ⟨b, hb, hh⟩ := head48 h1
    rw [hb, hh]
    simp only [Option.bind_some]
    by_cases hb8 : b = 48
    · subst hb8
      rw [if_pos (.inr (.inr ⟨h1, rfl⟩))]
      exact ⟨rfl, rfl⟩
    · have : ((b.toNat : Int) == 48) = false := by
        rw [beq_eq_false_iff_ne]
        intro h
        apply hb8
        apply UInt8.toNat_inj.1
        show b.toNat = 48
        omega
      rw [this, if_neg]
      · exact hfin
      · rintro (h | h | ⟨_, h⟩)
        · exact h0 h
        · exact h4 h
        · exact hb8 (by injection h)
  · rw [if_neg (show ¬ ((decide (1 < (s.length : Int))) = true) by rw [decide_eq_true_iff]; omega), if_neg (show ¬ ((decide (1 < (s.length : Int))) = true) by rw [decide_eq_true_iff]; omega), if_neg]
    · exact hfin
    · rintro (h | h | ⟨h, _⟩)
      · exact h0 h
      · exact h4 h
      · exact h1 h

/-! Words. -/
theorem spl_ne (c : UInt8) (s : List UInt8) : spl c s ≠ [] := by
  cases s with
  | nil => simp [spl]
  | cons b l =>
    rw [spl]
    split
    · simp
    · split <;> simp
/-- What is split of a text whose first piece has begun. -/
def splc (c : UInt8) (cur rest : List UInt8) : List (List UInt8) := match spl c rest with | h :: t => (cur ++ h) :: t | [] => [cur]
theorem splc_nil (c : UInt8) (cur : List UInt8) : splc c cur [] = [cur] := by simp [splc, spl]
theorem splc_sep (c : UInt8) (cur l : List UInt8) : splc c cur (c :: l) = cur :: splc c [] l := by
  unfold splc
  rw [spl, if_pos rfl]
  cases h : spl c l with
  | nil => exact absurd h (spl_ne c l)
  | cons a t => simp
theorem splc_cons (c : UInt8) (cur l : List UInt8) (b : UInt8) (hb : b ≠ c) : splc c cur (b :: l) = splc c (cur ++ [b]) l := by
  unfold splc
  rw [spl, if_neg hb]
  cases h : spl c l with
  | nil => exact absurd h (spl_ne c l)
  | cons a t => simp
theorem splc_zero (c : UInt8) (s : List UInt8) : splc c [] s = spl c s := by
  unfold splc
  cases h : spl c s with
  | nil => exact absurd h (spl_ne c s)
  | cons a t => simp
theorem spl_len (c : UInt8) : ∀ s : List UInt8, (spl c s).length ≤ s.length + 1
  | [] => by simp [spl]
  | b :: l => by
    have := spl_len c l
    rw [spl]
    split
    · simp; omega
    · split
      · simp
      · rename_i h t e; rw [e] at this; simp at this ⊢; omega
theorem spl_mem (c : UInt8) : ∀ (s : List UInt8) (p : List UInt8), p ∈ spl c s → p.length ≤ s.length
  | [], p, h => by simp [spl] at h; subst h; simp
  | b :: l, p, h => by
    rw [spl] at h
    split at h
    · rcases List.mem_cons.1 h with rfl | h
      · simp
      · have := spl_mem c l p h; simp; omega
    · split at h
      · simp at h; subst h; simp
      · rename_i x t e
        have hx := spl_mem c l x (by rw [e]; simp)
        rcases List.mem_cons.1 h with rfl | h
        · simp; omega
        · have := spl_mem c l p (by rw [e]; simp [h]); simp; omega
theorem words_eq (s : List UInt8) (hs : s.length ≤ 10000) : esref10_words s = some (spl 32 s) := by
  unfold esref10_words
  have main : ∀ m i at_ (out : List (List UInt8)), i + m = s.length → at_ ≤ i → out.length ≤ i →
      loopO (esref10_words.l1 s) (out, (at_ : Int), (i : Int)) = some (out ++ splc 32 ((s.take i).drop at_) (s.drop i)) := by
    intro m
    induction m with
    | zero =>
      intro i at_ out hi ha ho
      have hi : i = s.length := by omega
      subst hi
      rw [List.drop_length, splc_nil]
      have st : esref10_words.l1 s (out, (at_ : Int), (s.length : Int)) = some (.inl (out ++ [(s.take s.length).drop at_], ((s.length + 1 : Nat) : Int), ((s.length + 1 : Nat) : Int))) := by
        simp only [esref10_words.l1]
        rw [if_pos (by simp), if_pos (by simp)]
        simp only [esref10_words.j3, if_true, esref10_words.j2]
        rw [cut_of (by omega) (by omega) (by omega)]
        simp only [Option.bind_some]
        rw [app_of (by simp; omega)]
        simp only [Option.bind_some, letV_of, Int.toNat_natCast]
        rw [w64n (by omega)]
      rw [loopO_next st]
      refine loopO_done ?_
      simp only [esref10_words.l1]
      rw [if_neg (by rw [decide_eq_true_iff]; omega)]
    | succ m ih =>
      intro i at_ out hi ha ho
      have hlt : i < s.length := by omega
      rw [List.drop_eq_getElem_cons hlt]
      have hne : ((i : Int) == (s.length : Int)) = false := by rw [beq_eq_false_iff_ne]; omega
      by_cases hb : s[i] = 32
      · rw [hb, splc_sep]
        have st : esref10_words.l1 s (out, (at_ : Int), (i : Int)) = some (.inl (out ++ [(s.take i).drop at_], ((i + 1 : Nat) : Int), ((i + 1 : Nat) : Int))) := by
          simp only [esref10_words.l1]
          rw [if_pos (by rw [decide_eq_true_iff]; omega), hne]
          simp only [Bool.false_eq_true, if_false, idx_nat hlt, Option.bind_some, hb]
          rw [show (((32 : UInt8).toNat : Int) == 32) = true from rfl]
          simp only [esref10_words.j3, if_true, esref10_words.j2]
          rw [cut_of (by omega) (by omega) (by omega)]
          simp only [Option.bind_some]
          rw [app_of (by simp; omega)]
          simp only [Option.bind_some, letV_of, Int.toNat_natCast]
          rw [w64n (by omega)]
        rw [loopO_next st, ih (i + 1) (i + 1) _ (by omega) (by omega) (by simp; omega)]
        rw [List.drop_of_length_le (l := s.take (i + 1)) (by rw [List.length_take]; omega), List.append_assoc]
        rfl
      · rw [splc_cons _ _ _ _ hb]
        have hb' : ((s[i].toNat : Int) == 32) = false := by
          rw [beq_eq_false_iff_ne]
          intro h
          exact hb (UInt8.toNat_inj.1 (show s[i].toNat = 32 by omega))
        have st : esref10_words.l1 s (out, (at_ : Int), (i : Int)) = some (.inl (out, (at_ : Int), ((i + 1 : Nat) : Int))) := by
          simp only [esref10_words.l1]
          rw [if_pos (by rw [decide_eq_true_iff]; omega), hne]
          simp only [Bool.false_eq_true, if_false, idx_nat hlt, Option.bind_some, hb', esref10_words.j3, esref10_words.j2, letV_of]
          rw [w64n (by omega)]
        rw [loopO_next st, ih (i + 1) at_ out (by omega) (by omega) (by omega), take_snoc hlt, List.drop_append_of_le_length (by rw [List.length_take]; omega)]
  have h := main s.length 0 0 [] (by omega) (by omega) (by simp)
  rw [show ((0 : Nat) : Int) = 0 from rfl] at h
  rw [h]
  simp [splc_zero, esref10_words.j1]
end Go.Proofs.YthfoljpjhegkmaaDoor
