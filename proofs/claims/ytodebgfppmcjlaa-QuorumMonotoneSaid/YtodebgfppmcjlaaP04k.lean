/- The quorum functions, as plain data: the reference's overlap, and the tolerance of both. -/
import Derived.Test.YtodebgfppmcjlaaP04j
set_option linter.unusedVariables false
set_option linter.unusedSimpArgs false
namespace Go.Proofs.Ytodebgfppmcjlaa
open Go Go.Proofs.YtodebgfppmcjlaaL Go.Sort

/-- How many of one list are in another one. -/
def cm (a b : List Int) : Nat := (a.filter fun x => decide (x ∈ b)).length
theorem cm_sub {v : api_View} (h : VOk v) (hn : v.Members.length ≤ 8) {a b : Nat} (ha : a < 2 ^ v.Members.length) : cm (sub v a) (sub v b) = pc (a &&& b) := by
  unfold cm
  rw [sub_filter h, sub_card hn (Nat.lt_of_le_of_lt Nat.and_le_left ha)]
theorem cm_walk (L : List (List Int)) (hb : ∀ l ∈ L, l.length ≤ 1000) (i k : Nat) (hi : i < L.length) (hk : k < L.length) (hL : L.length ≤ 1000) : loopO (esref06_Overlap.l1 L (i : Int) (k : Int)) (0, 0) = some (cm L[i] L[k] : Int) := by
  have hbi := hb L[i] (by simp)
  have hbk := hb L[k] (by simp)
  have e := loopO_up (step := esref06_Overlap.l1 L (i : Int) (k : Int)) (fun j => ((((L[i].take j).filter fun x => decide (x ∈ L[k])).length : Int), (j : Int))) L[i].length (b := (cm L[i] L[k] : Int)) (fun j hj => ?_) ?_
  · simpa using e
  · have hc : ((L[i].take j).filter fun x => decide (x ∈ L[k])).length ≤ j := Nat.le_trans (List.length_filter_le _ _) (by simp; omega)
    simp only [esref06_Overlap.l1, idx_nat hi, idx_nat hk, Option.bind_some, lt_of_len hj, if_true, idx_nat hj, esref06_Overlap.j5, letV_of, wcast hj (by omega : L[i].length ≤ _)]
    rw [In_eq _ _ (by omega)]
    simp only [Option.bind_some]
    rw [take_snoc hj, List.filter_append]
    by_cases hm : L[i][j] ∈ L[k]
    · simp [hm]; rw [w64 (by omega) (by omega)]
    · simp [hm]
  · simp only [esref06_Overlap.l1, idx_nat hi, Option.bind_some, not_lt_len, List.take_length]
    rfl
theorem refOverlap_walk (L : List (List Int)) (hb : ∀ l ∈ L, l.length ≤ 1000) (hL : L.length ≤ 1000) (h0 : 0 < L.length) (hsym : ∀ i k (hi : i < L.length) (hk : k < L.length), cm L[i] L[k] = cm L[k] L[i]) (hself : cm L[0] L[0] = L[0].length) :
    ∃ o, loopO (esref06_Overlap.l3 L) ((L[0].length : Int), 0) = some o ∧ MinOf (fun x => ∃ p, ∃ hp : p < L.length, ∃ q, ∃ hq : q < L.length, x = (cm L[p] L[q] : Int)) o := by
  refine loopO_inv (fun i s => ∃ least, s = (least, (i : Int)) ∧ MinOf (fun x => x = (L[0].length : Int) ∨ ∃ p, ∃ hp : p < L.length, p < i ∧ ∃ q, ∃ hq : q < L.length, p ≤ q ∧ x = (cm L[p] L[q] : Int)) least) L.length ⟨_, rfl, MinOf.one fun x => ⟨fun hx => hx.elim id fun ⟨p, _, h, _⟩ => by omega, .inl⟩⟩ (fun i s hi hI => ?_) (fun s hI => ?_)
  · obtain ⟨least, rfl, hI⟩ := hI
    simp only [esref06_Overlap.l3, lt_of_len hi, if_true]
    have key : ∃ r, loopO (esref06_Overlap.l2 L (i : Int)) (least, (i : Int)) = some r ∧ MinOf (fun x => (x = (L[0].length : Int) ∨ ∃ p, ∃ hp : p < L.length, p < i ∧ ∃ q, ∃ hq : q < L.length, p ≤ q ∧ x = (cm L[p] L[q] : Int)) ∨ ∃ q, ∃ hq : q < L.length, i ≤ q ∧ x = (cm L[i] L[q] : Int)) r := by
      refine loopO_inv (fun j s => ∃ least, s = (least, ((i + j : Nat) : Int)) ∧ MinOf (fun x => (x = (L[0].length : Int) ∨ ∃ p, ∃ hp : p < L.length, p < i ∧ ∃ q, ∃ hq : q < L.length, p ≤ q ∧ x = (cm L[p] L[q] : Int)) ∨ ∃ q, ∃ hq : q < L.length, i ≤ q ∧ q < i + j ∧ x = (cm L[i] L[q] : Int)) least) (L.length - i) ⟨least, rfl, hI.congr fun x => ⟨.inl, fun hx => hx.elim id fun ⟨q, _, h1, h2, _⟩ => by omega⟩⟩ (fun j s hj hJ => ?_) (fun s hJ => ?_)
      · obtain ⟨ls, rfl, hJ⟩ := hJ
        have hk : i + j < L.length := by omega
        simp only [esref06_Overlap.l2, lt_of_len hk, if_true]
        rw [cm_walk L hb i (i + j) hi hk hL]
        simp only [Option.bind_some, esref06_Overlap.j4, esref06_Overlap.j3, letV_of, wcast hk (by omega : L.length ≤ _)]
        refine ⟨_, rfl, _, rfl, hJ.add fun x => ?_⟩
        constructor
        · rintro (h | ⟨q, hq, h1, h2, h3⟩)
          · exact .inl (.inl h)
          · by_cases e : q = i + j
            · subst e; exact .inr h3
            · exact .inl (.inr ⟨q, hq, h1, by omega, h3⟩)
        · rintro ((h | ⟨q, hq, h1, h2, h3⟩) | h)
          · exact .inl h
          · exact .inr ⟨q, hq, h1, by omega, h3⟩
          · exact .inr ⟨i + j, hk, by omega, by omega, h⟩
      · obtain ⟨ls, rfl, hJ⟩ := hJ
        rw [show i + (L.length - i) = L.length by omega] at hJ ⊢
        simp only [esref06_Overlap.l2, not_lt_len]
        exact ⟨_, rfl, hJ.congr fun x => ⟨fun hx => hx.imp id fun ⟨q, hq, h1, h2, h3⟩ => ⟨q, hq, h1, h3⟩, fun hx => hx.imp id fun ⟨q, hq, h1, h3⟩ => ⟨q, hq, h1, hq, h3⟩⟩⟩
    obtain ⟨r, hr, hm⟩ := key
    rw [hr]
    simp only [Option.bind_some, esref06_Overlap.j2, letV_of, wcast hi (by omega : L.length ≤ _)]
    refine ⟨_, rfl, r, rfl, hm.congr fun x => ⟨?_, ?_⟩⟩
    · rintro ((h | ⟨p, hp, h1, q, hq, h2, h3⟩) | ⟨q, hq, h1, h2⟩)
      · exact .inl h
      · exact .inr ⟨p, hp, by omega, q, hq, h2, h3⟩
      · exact .inr ⟨i, hi, by omega, q, hq, h1, h2⟩
    · rintro (h | ⟨p, hp, h1, q, hq, h2, h3⟩)
      · exact .inl (.inl h)
      · by_cases e : p = i
        · subst e; exact .inr ⟨q, hq, h2, h3⟩
        · exact .inl (.inr ⟨p, hp, by omega, q, hq, h2, h3⟩)
  · obtain ⟨least, rfl, hI⟩ := hI
    simp only [esref06_Overlap.l3, not_lt_len]
    refine ⟨_, rfl, hI.congr fun x => ⟨?_, ?_⟩⟩
    · rintro (h | ⟨p, hp, h1, q, hq, h2, h3⟩)
      · exact ⟨0, h0, 0, h0, by rw [hself]; exact h⟩
      · exact ⟨p, hp, q, hq, h3⟩
    · rintro ⟨p, hp, q, hq, h⟩
      rcases Nat.le_total p q with h1 | h1
      · exact .inr ⟨p, hp, hp, q, hq, h1, h⟩
      · exact .inr ⟨q, hq, hq, p, hp, h1, by rw [h, hsym]⟩
theorem refOverlap_eq (v : api_View) (h : VOk v) (hn : v.Members.length ≤ 8) : ∃ o, esref06_Overlap v = some o ∧ ((mins v = [] ∧ o = 0) ∨ (mins v ≠ [] ∧ MinOf (Com v) o)) := by
  obtain ⟨L, h1, h2, _⟩ := refMinimal_eq v h
  have hp := pow_256 hn
  have hlen : L.length = (mins v).length := by have := h2.length_eq; rwa [List.length_map] at this
  have hl : L.length ≤ 256 := by have := minsTo_len v (2 ^ v.Members.length); unfold mins at hlen; omega
  have hmem : ∀ i (hi : i < L.length), ∃ a ∈ mins v, L[i] = sub v a := by
    intro i hi
    obtain ⟨a, ha, e⟩ := List.mem_map.1 (h2.mem_iff.1 (List.getElem_mem hi))
    exact ⟨a, ha, e.symm⟩
  unfold esref06_Overlap
  rw [h1]
  simp only [Option.bind_some]
  rcases Nat.eq_zero_or_pos L.length with h0 | h0
  · rw [if_pos (by rw [h0]; rfl)]
    exact ⟨0, rfl, .inl ⟨List.length_eq_zero_iff.1 (by omega), rfl⟩⟩
  · rw [if_neg (by rw [beq_iff_eq]; omega), show (0 : Int) = ((0 : Nat) : Int) from rfl, idx_nat h0]
    simp only [Option.bind_some]
    obtain ⟨o, ho1, ho2⟩ := refOverlap_walk L (fun l hl => by
        obtain ⟨i, hi, rfl⟩ := List.mem_iff_getElem.1 hl
        obtain ⟨a, _, e⟩ := hmem i hi
        rw [e]; have := sub_len v a; omega) (by omega) h0 (fun i k hi hk => by
        obtain ⟨a, ha, e1⟩ := hmem i hi
        obtain ⟨b, hb, e2⟩ := hmem k hk
        rw [e1, e2, cm_sub h hn (mins_lt ha), cm_sub h hn (mins_lt hb), Nat.and_comm]) (by
        obtain ⟨a, ha, e1⟩ := hmem 0 h0
        rw [e1, cm_sub h hn (mins_lt ha), Nat.and_self, sub_card hn (mins_lt ha)])
    rw [show ((0 : Nat) : Int) = 0 from rfl, ho1]
    refine ⟨o, rfl, .inr ⟨fun e => ?_, ho2.congr fun x => ⟨?_, ?_⟩⟩⟩
    · rw [e, List.length_nil] at hlen; omega
    · rintro ⟨p, hp, q, hq, hx⟩
      obtain ⟨a, ha, e1⟩ := hmem p hp
      obtain ⟨b, hb, e2⟩ := hmem q hq
      exact ⟨a, ha, b, hb, by rw [hx, e1, e2, cm_sub h hn (mins_lt ha)]⟩
    · rintro ⟨a, ha, b, hb, hx⟩
      obtain ⟨p, hp, e1⟩ := List.mem_iff_getElem.1 (h2.mem_iff.2 (List.mem_map.2 ⟨a, ha, rfl⟩))
      obtain ⟨q, hq, e2⟩ := List.mem_iff_getElem.1 (h2.mem_iff.2 (List.mem_map.2 ⟨b, hb, rfl⟩))
      exact ⟨p, hp, q, hq, by rw [hx, e1, e2, cm_sub h hn (mins_lt ha)]⟩
theorem Overlap_both (v : api_View) (h : VOk v) (hn : v.Members.length ≤ 8) : ∃ o, quorum_Overlap v = some o ∧ esref06_Overlap v = some o ∧ ((mins v = [] ∧ o = 0) ∨ (mins v ≠ [] ∧ MinOf (Com v) o)) := by
  obtain ⟨o, h1, h2⟩ := Overlap_eq v h hn
  obtain ⟨p, h3, h4⟩ := refOverlap_eq v h hn
  have : o = p := by
    rcases h2 with ⟨e, h2⟩ | ⟨e, h2⟩ <;> rcases h4 with ⟨e', h4⟩ | ⟨e', h4⟩
    · omega
    · exact absurd e e'
    · exact absurd e' e
    · exact h2.unique h4
  subst this
  exact ⟨o, h1, h3, h2⟩

/-! Tolerance. -/
def Gone (v : api_View) (k : Nat) (x : Int) : Prop := ∃ g, g < k ∧ Qm v (andN (2 ^ v.Members.length - 1) g) = false ∧ x = (pc g : Int)
theorem bits_all : ∀ m : Nat, m < 256 → loopN esref06_bits.l1 10 ((m : Int), 0) = some (pc m : Int) := by
  decide +kernel
theorem bits_eq (m : Nat) (h : m < 256) : esref06_bits (m : Int) = some (pc m : Int) := by
  unfold esref06_bits
  rw [loopO_iff.2 ⟨10, bits_all m h⟩]
  rfl
theorem andN_full {n g : Nat} (h : g < 2 ^ n) : andN (2 ^ n - 1) g = 2 ^ n - 1 - g := by
  apply Nat.eq_of_testBit_eq
  intro j
  rw [andN_bit, Nat.testBit_two_pow_sub_one, show 2 ^ n - 1 - g = 2 ^ n - (g + 1) by omega, Nat.testBit_two_pow_sub_succ h]
theorem pc_full (n : Nat) (h : n ≤ 8) : pc (2 ^ n - 1) = n := by
  have : ∀ n, n ≤ 8 → pc (2 ^ n - 1) = n := by decide
  exact this n h
theorem Gone_succ (v : api_View) (k : Nat) (x : Int) : Gone v (k + 1) x ↔ Gone v k x ∨ (Qm v (andN (2 ^ v.Members.length - 1) k) = false ∧ x = (pc k : Int)) := by
  constructor
  · rintro ⟨g, h1, h2, h3⟩
    by_cases e : g = k
    · subst e; exact .inr ⟨h2, h3⟩
    · exact .inl ⟨g, by omega, h2, h3⟩
  · rintro (⟨g, h1, h2, h3⟩ | ⟨h2, h3⟩)
    · exact ⟨g, by omega, h2, h3⟩
    · exact ⟨k, by omega, h2, h3⟩
theorem Gone_full {v : api_View} (h : VOk v) (hn : v.Members.length ≤ 8) : Gone v (2 ^ v.Members.length) (v.Members.length : Int) := by
  have hp1 : 1 ≤ 2 ^ v.Members.length := Nat.one_le_two_pow
  refine ⟨2 ^ v.Members.length - 1, by omega, ?_, by rw [pc_full _ hn]⟩
  rw [andN_full (by omega), Nat.sub_self]
  exact empty_not v h
theorem Tolerance_eq (v : api_View) (h : VOk v) (hn : v.Members.length ≤ 8) : ∃ o, quorum_Tolerance v = some (o - 1) ∧ MinOf (Gone v (2 ^ v.Members.length)) o := by
  have hp := pow_256 hn
  have hp1 : 1 ≤ 2 ^ v.Members.length := Nat.one_le_two_pow
  unfold quorum_Tolerance
  rw [full_eq v h]
  simp only [Option.bind_some]
  rw [size_all _ (by omega), pc_full _ hn]
  simp only [Option.bind_some]
  have key : ∃ r, loopO (quorum_Tolerance.l1 v ((2 ^ v.Members.length - 1 : Nat) : Int)) ((v.Members.length : Int), 0) = some r ∧ (0 ≤ r ∧ r ≤ 8 ∧ MinOf (Gone v (2 ^ v.Members.length)) r) := by
    refine loopO_inv (fun k s => ∃ least : Int, s = (least, (k : Int)) ∧ 0 ≤ least ∧ least ≤ v.Members.length ∧ (least = (v.Members.length : Int) ∨ Gone v k least) ∧ ∀ x, Gone v k x → least ≤ x) (2 ^ v.Members.length)
      ⟨_, rfl, by omega, by omega, .inl rfl, fun x ⟨g, hg, _⟩ => by omega⟩ (fun k s hk hI => ?_) (fun s hI => ?_)
    · obtain ⟨ls, rfl, hb0, hb1, h1, h2⟩ := hI
      simp only [quorum_Tolerance.l1]
      rw [if_pos (by rw [decide_eq_true_iff]; omega), size_all _ (by omega)]
      simp only [Option.bind_some, letV_of]
      have hj2 : ∀ y : Int, quorum_Tolerance.j2 (k : Int) y = some (.inl (y, ((k + 1 : Nat) : Int))) := by
        intro y; simp only [quorum_Tolerance.j2, letV_of]
        rw [show (k : Int) + 1 = ((k + 1 : Nat) : Int) by omega, wu64 (by omega)]
      by_cases hlt : (pc k : Int) < ls
      · rw [if_pos (by simpa using hlt), bAndN _ _ (by omega) (by omega)]
        have hle := andN_le (2 ^ v.Members.length - 1) k
        rw [holds_eq v _ h (by omega)]
        simp only [Option.bind_some, quorum_Tolerance.j3, hj2]
        cases hq : Qm v (andN (2 ^ v.Members.length - 1) k) with
        | false =>
          rw [if_pos (by rfl)]
          refine ⟨_, rfl, _, rfl, by omega, by omega, .inr ((Gone_succ _ _ _).2 (.inr ⟨hq, rfl⟩)), fun x hx => ?_⟩
          rcases (Gone_succ _ _ _).1 hx with hx | ⟨_, hx⟩
          · have := h2 x hx; omega
          · omega
        | true =>
          rw [if_neg (by simp)]
          refine ⟨_, rfl, _, rfl, hb0, hb1, h1.imp id fun hg => (Gone_succ _ _ _).2 (.inl hg), fun x hx => ?_⟩
          rcases (Gone_succ _ _ _).1 hx with hx | ⟨hx, _⟩
          · exact h2 x hx
          · rw [hq] at hx; cases hx
      · rw [if_neg (by simpa using hlt)]
        simp only [quorum_Tolerance.j3, hj2, Bool.false_eq_true, if_false]
        refine ⟨_, rfl, _, rfl, hb0, hb1, h1.imp id fun hg => (Gone_succ _ _ _).2 (.inl hg), fun x hx => ?_⟩
        rcases (Gone_succ _ _ _).1 hx with hx | ⟨_, hx⟩
        · exact h2 x hx
        · omega
    · obtain ⟨ls, rfl, hb0, hb1, h1, h2⟩ := hI
      simp only [quorum_Tolerance.l1]
      rw [if_neg (by rw [decide_eq_true_iff]; omega)]
      refine ⟨_, rfl, hb0, by omega, ?_, h2⟩
      rcases h1 with h1 | h1
      · rw [h1]; exact Gone_full h hn
      · exact h1
  obtain ⟨r, hr, hb0, hb1, hm⟩ := key
  rw [hr]
  simp only [Option.bind_some, quorum_Tolerance.j1, letV_of]
  rw [w64 (by omega) (by omega)]
  exact ⟨r, rfl, hm⟩
theorem refTolerance_eq (v : api_View) (h : VOk v) (hn : v.Members.length ≤ 8) : ∃ o, esref06_Tolerance v = some (o - 1) ∧ MinOf (Gone v (2 ^ v.Members.length)) o := by
  have hp := pow_256 hn
  have hp1 : 1 ≤ 2 ^ v.Members.length := Nat.one_le_two_pow
  unfold esref06_Tolerance
  simp only [letV_of]
  rw [w64 (by omega) (by omega)]
  have key : ∃ r, loopO (esref06_Tolerance.l1 v) ((v.Members.length : Int) + 1, 0) = some r ∧ (0 ≤ r ∧ r ≤ 9 ∧ MinOf (Gone v (2 ^ v.Members.length)) r) := by
    refine loopO_inv (fun k s => ∃ least : Int, s = (least, (k : Int)) ∧ 0 ≤ least ∧ least ≤ (v.Members.length : Int) + 1 ∧ (least = (v.Members.length : Int) + 1 ∨ Gone v k least) ∧ ∀ x, Gone v k x → least ≤ x) (2 ^ v.Members.length)
      ⟨_, rfl, by omega, by omega, .inl rfl, fun x ⟨g, hg, _⟩ => by omega⟩ (fun k s hk hI => ?_) (fun s hI => ?_)
    · obtain ⟨ls, rfl, hb0, hb1, h1, h2⟩ := hI
      have hle := andN_le (2 ^ v.Members.length - 1) k
      have hsl := sub_len v (andN (2 ^ v.Members.length - 1) k)
      simp only [esref06_Tolerance.l1, letV_of, wu64 (show v.Members.length < 18446744073709551616 by omega)]
      rw [if_pos (by omega), shl_nat_i v.Members.length (by omega), if_pos (by rw [decide_eq_true_iff]; omega), if_pos (by omega)]
      rw [show IntKind.i64.wrap (((2 ^ v.Members.length : Nat) : Int) - 1) = ((2 ^ v.Members.length - 1 : Nat) : Int) by rw [w64 (by omega) (by omega)]; omega]
      rw [show IntKind.i64.wrap (((2 ^ v.Members.length - 1 : Nat) : Int) - (k : Int)) = ((andN (2 ^ v.Members.length - 1) k : Nat) : Int) by rw [andN_full hk, w64 (by omega) (by omega)]; omega]
      rw [refsub_eq v h _ (by omega)]
      simp only [Option.bind_some]
      rw [refIs_eq v _ h (by omega), pres_sub h]
      simp only [Option.bind_some]
      have hj2 : ∀ y : Int, esref06_Tolerance.j2 (k : Int) y = some (.inl (y, ((k + 1 : Nat) : Int))) := by
        intro y; simp only [esref06_Tolerance.j2, letV_of, wcast (show k < 256 by omega) (by omega : 256 ≤ _)]
      cases hq : Qm v (andN (2 ^ v.Members.length - 1) k) with
      | false =>
        rw [if_pos (by rfl), bits_eq _ (by omega)]
        simp only [Option.bind_some, hj2, minI]
        refine ⟨_, rfl, _, rfl, by split <;> omega, by split <;> omega, ?_, fun x hx => ?_⟩
        · split
          · exact .inr ((Gone_succ _ _ _).2 (.inr ⟨hq, rfl⟩))
          · exact h1.imp id fun hg => (Gone_succ _ _ _).2 (.inl hg)
        · rcases (Gone_succ _ _ _).1 hx with hx | ⟨_, hx⟩
          · have := h2 x hx; split <;> omega
          · split <;> omega
      | true =>
        rw [if_neg (by simp)]
        simp only [hj2]
        refine ⟨_, rfl, _, rfl, hb0, hb1, h1.imp id fun hg => (Gone_succ _ _ _).2 (.inl hg), fun x hx => ?_⟩
        rcases (Gone_succ _ _ _).1 hx with hx | ⟨hx, _⟩
        · exact h2 x hx
        · rw [hq] at hx; cases hx
    · obtain ⟨ls, rfl, hb0, hb1, h1, h2⟩ := hI
      simp only [esref06_Tolerance.l1, letV_of, wu64 (show v.Members.length < 18446744073709551616 by omega)]
      rw [if_pos (by omega), shl_nat_i v.Members.length (by omega), if_neg (by rw [decide_eq_true_iff]; omega)]
      refine ⟨_, rfl, hb0, by omega, ?_, h2⟩
      rcases h1 with h1 | h1
      · have := h2 _ (Gone_full h hn); omega
      · exact h1
  obtain ⟨r, hr, hb0, hb1, hm⟩ := key
  rw [hr]
  simp only [Option.bind_some, esref06_Tolerance.j1, letV_of]
  rw [w64 (by omega) (by omega)]
  exact ⟨r, rfl, hm⟩
theorem Tolerance_both (v : api_View) (h : VOk v) (hn : v.Members.length ≤ 8) : ∃ o, quorum_Tolerance v = some (o - 1) ∧ esref06_Tolerance v = some (o - 1) ∧ MinOf (Gone v (2 ^ v.Members.length)) o := by
  obtain ⟨o, h1, h2⟩ := Tolerance_eq v h hn
  obtain ⟨p, h3, h4⟩ := refTolerance_eq v h hn
  have := h2.unique h4
  subst this
  exact ⟨o, h1, h3, h2⟩
end Go.Proofs.Ytodebgfppmcjlaa
