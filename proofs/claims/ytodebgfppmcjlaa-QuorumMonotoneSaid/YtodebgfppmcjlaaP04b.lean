/- The quorum functions, as plain data: what a set of members answers. -/
import Derived.Test.YtodebgfppmcjlaaP04
import Derived.Test.YtodebgfppmcjlaaPm
set_option linter.unusedVariables false
set_option linter.unusedSimpArgs false
namespace Go.Proofs.Ytodebgfppmcjlaa
open Go Go.Proofs.YtodebgfppmcjlaaL

theorem In_eq (xs : List Int) (n : Int) (h : xs.length ≤ 4611686018427387904) : esref06_In xs n = some (decide (n ∈ xs)) := by
  unfold esref06_In
  have e := loopO_runL (step := esref06_In.l1 xs n) (fun k (_ : Unit) => (k : Int)) (fun k x _ => if x == n then some (.inr (.inr true)) else some (.inl ())) (fun _ => some (.inl ())) xs
    (fun k hk s => by
      simp only [esref06_In.l1, lt_of_len hk, if_true, idx_nat hk, Option.bind_some, letV_of, wcast hk h]
      split <;> rfl)
    (fun s => by simp only [esref06_In.l1, not_lt_len]; rfl) ()
  rw [show (0 : Int) = ((0 : Nat) : Int) from rfl, e]
  clear e h
  generalize 0 = i
  induction xs generalizing i with
  | nil => simp [runL, esref06_In.j1]
  | cons x xs ih =>
    simp only [runL]
    by_cases hx : x = n
    · subst hx; simp
    · have e : (x == n) = false := by simpa using hx
      simp only [e]
      rw [show (if false = true then some (Sum.inr (Sum.inr true) : Unit ⊕ (Unit ⊕ Bool)) else some (.inl ())) = some (.inl ()) from rfl]
      simp only []
      rw [ih]
      simp [Ne.symm hx]
theorem Contains_eq (xs : List Int) (n : Int) (h : xs.length ≤ 4611686018427387904) : slices_Contains_int xs n = some (decide (n ∈ xs)) := by
  unfold slices_Contains_int slices_Index_int
  have e := loopO_runL (step := slices_Index_int.l1 xs n) (fun k (_ : Unit) => (k : Int)) (fun k x _ => if n == x then some (.inr (.inr (k : Int))) else some (.inl ())) (fun _ => some (.inl ())) xs
    (fun k hk s => by
      simp only [slices_Index_int.l1, lt_of_len hk, if_true, idx_nat hk, Option.bind_some, letV_of, wcast hk h]
      split <;> rfl)
    (fun s => by simp only [slices_Index_int.l1, not_lt_len]; rfl) ()
  rw [show (0 : Int) = ((0 : Nat) : Int) from rfl, e]
  clear e h
  suffices hh : ∀ i, ∃ b, runL (fun (k : Nat) (x : Int) (_ : Unit) => if n == x then some (Sum.inr (Sum.inr (k : Int)) : Unit ⊕ (Unit ⊕ Int)) else some (.inl ())) (fun _ => some (.inl ())) i xs () = some b ∧
      (match b with | .inl _ => n ∉ xs | .inr v => 0 ≤ v ∧ n ∈ xs) by
    obtain ⟨b, hb, hv⟩ := hh 0
    rw [hb]
    cases b with
    | inl u => simp [slices_Index_int.j1]; exact hv
    | inr v => simp [hv.1, hv.2]
  induction xs with
  | nil => intro i; exact ⟨_, rfl, by simp⟩
  | cons x xs ih =>
    intro i
    simp only [runL]
    by_cases hx : n = x
    · subst hx; simp
    · have e : (n == x) = false := by simpa using hx
      simp only [e]
      obtain ⟨b, hb, hv⟩ := ih (i + 1)
      refine ⟨b, hb, ?_⟩
      cases b with
      | inl u => simpa [hx] using hv
      | inr v => simp [hv.1, hv.2]
theorem cnt_eq (b : List Bool) (h : b.length ≤ 4611686018427387904) : quorum_count b = some (b.count true : Int) := by
  unfold quorum_count
  have e := loopO_up (step := quorum_count.l1 b) (fun k => (((b.take k).count true : Int), (k : Int))) b.length (b := (b.count true : Int)) ?_ ?_
  · simp only [List.take_zero, List.count_nil, Int.natCast_zero] at e
    rw [e]; rfl
  · intro k hk
    simp only [quorum_count.l1, lt_of_len hk, if_true, idx_nat hk, Option.bind_some, letV_of, quorum_count.j2, wcast hk h]
    have hc : (b.take k).count true ≤ k := Nat.le_trans List.count_le_length (by simp; omega)
    rw [take_snoc hk, List.count_append]
    cases b[k] with
    | false => simp
    | true => simp; rw [w64 (by omega) (by omega)]
  · simp only [quorum_count.l1, not_lt_len, List.take_length]
    rfl
end Go.Proofs.Ytodebgfppmcjlaa
