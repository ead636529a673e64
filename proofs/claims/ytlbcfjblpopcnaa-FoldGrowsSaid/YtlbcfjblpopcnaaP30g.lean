/- Plain laws: FoldSorted. -/
import Derived.Test.YtlbcfjblpopcnaaP30f
set_option linter.unusedVariables false
set_option linter.unusedSimpArgs false
namespace Go.Proofs.Ytlbcfjblpopcnaa
open Go Go.Proofs.YtlbcfjblpopcnaaL
theorem made_fold {s : List api_Update} (h : US 3 0 s) : fold_Fold s = some ⟨foldT s []⟩ ∧ GD 100 (foldT s []) := by
  have h1 := h.len
  have h2 := US_effN h
  obtain ⟨a, b⟩ := Fold_eq (s := s) (fun u hu => (h.ok u hu).ef) (by omega) (by omega)
  exact ⟨a, b.mono (by omega)⟩
theorem not_le {a b : List UInt8} (h : Op.bytesLess b a = true) : (Op.bytesLess a b || a == b) = false := by
  rw [bl_asymm h, Bool.false_or, beq_eq_false_iff_ne]
  intro e
  rw [e, bl_irrefl] at h
  cases h
theorem wsub {k : Nat} (h1 : 1 ≤ k) (h : k ≤ 1000000) : IntKind.i64.wrap ((k : Int) - 1) = ((k - 1 : Nat) : Int) := by
  rw [w64 (by omega) (by omega)]
  omega
theorem foldSorted_true (x1 : List Int) (x4 : Int) : eslaw30_FoldSorted x1 x4 = some true := by
  unfold eslaw30_FoldSorted
  obtain ⟨s, e1, h1⟩ := Updates_ex x1
  obtain ⟨p, e2⟩ := Some_ex h1 x4
  obtain ⟨e3, g⟩ := made_fold (US_sub h1 List.filter_sublist (t := s.filter p))
  rw [e1, Option.bind_some, e2, Option.bind_some, e3, Option.bind_some]
  obtain ⟨T, hT⟩ : ∃ T, T = foldT (s.filter p) [] := ⟨_, rfl⟩
  rw [← hT] at g ⊢
  have hlen := g.len
  have key : loopO (eslaw30_FoldSorted.l3 ⟨T⟩) ((0 : Nat) : Int) = some (.inl ()) := by
    refine loopO_up (fun k => (k : Int)) T.length (fun k hk => ?_) ?_
    · have hm := List.getElem_mem hk
      have hfl := g.flen _ hm
      have inner : loopO (eslaw30_FoldSorted.l2 T[k]) ((0 : Nat) : Int) = some (.inl ()) := by
        refine loopO_up (fun j => (j : Int)) T[k].Fields.length (fun j hj => ?_) ?_
        · have hmf := List.getElem_mem hj
          have hgf := g.good _ hm _ hmf
          have hel := hgf.len
          have inner2 : loopO (eslaw30_FoldSorted.l1 T[k] (j : Int)) ((0 + 1 : Nat) : Int) = some (.inl ()) := by
            refine loopO_up (fun q => ((q + 1 : Nat) : Int)) (T[k].Fields[j].Elems.length - 1) (fun q hq => ?_) ?_
            · have hq1 : q + 1 < T[k].Fields[j].Elems.length := by omega
              have hq0 : q < T[k].Fields[j].Elems.length := by omega
              unfold eslaw30_FoldSorted.l1
              simp only [idx_nat hj, Option.bind_some, lt_of_len hq1, if_true, idx_nat hq1, letV_of]
              rw [wsub (by omega) (by omega), show q + 1 - 1 = q by omega, idx_nat hq0, Option.bind_some, not_le (List.pairwise_iff_getElem.1 hgf.asc q (q + 1) hq0 hq1 (by omega)), if_neg (by simp), wcast hq1 (by omega)]
            · unfold eslaw30_FoldSorted.l1
              simp only [idx_nat hj, Option.bind_some]
              rw [if_neg (by simp; omega)]
          have hj4 : eslaw30_FoldSorted.j4 T[k] (j : Int) false = some (.inl ((j + 1 : Nat) : Int)) := by
            unfold eslaw30_FoldSorted.j4
            have inner2 : loopO (eslaw30_FoldSorted.l1 T[k] (j : Int)) 1 = some (.inl ()) := inner2
            rw [if_neg (by simp), inner2, Option.bind_some]
            show eslaw30_FoldSorted.j3 (j : Int) = _
            unfold eslaw30_FoldSorted.j3
            rw [letV_of, wcast hj (by omega)]
          unfold eslaw30_FoldSorted.l2
          simp only [lt_of_len hj, if_true, idx_nat hj, Option.bind_some, letV_of]
          by_cases hj0 : j = 0
          · subst hj0
            rw [if_neg (by simp)]
            exact hj4
          · rw [if_pos (by simp; omega), wsub (by omega) (by omega), idx_nat (show j - 1 < _ by omega), Option.bind_some, not_le (List.pairwise_iff_getElem.1 (g.fasc _ hm) (j - 1) j (by omega) hj (by omega))]
            exact hj4
        · unfold eslaw30_FoldSorted.l2
          simp only [not_lt_len, Bool.false_eq_true, if_false]
      have hj5 : eslaw30_FoldSorted.j5 (k : Int) T[k] false = some (.inl ((k + 1 : Nat) : Int)) := by
        unfold eslaw30_FoldSorted.j5
        have inner : loopO (eslaw30_FoldSorted.l2 T[k]) 0 = some (.inl ()) := inner
        rw [if_neg (by simp), inner, Option.bind_some]
        show eslaw30_FoldSorted.j2 (k : Int) = _
        unfold eslaw30_FoldSorted.j2
        rw [letV_of, wcast hk (by omega)]
      have hne : ((T[k].Fields.length : Int) == 0) = false := by
        have := g.ne _ hm
        have h0 : T[k].Fields.length ≠ 0 := fun e => this (List.length_eq_zero_iff.1 e)
        rw [beq_eq_false_iff_ne]
        omega
      unfold eslaw30_FoldSorted.l3
      simp only [lt_of_len hk, if_true, idx_nat hk, Option.bind_some, letV_of, hne]
      by_cases hk0 : k = 0
      · subst hk0
        rw [if_neg (by simp)]
        exact hj5
      · rw [if_pos (by simp; omega), wsub (by omega) (by omega), idx_nat (show k - 1 < _ by omega), Option.bind_some, not_le (List.pairwise_iff_getElem.1 g.asc (k - 1) k (by omega) hk (by omega)), if_neg (by simp)]
        exact hj5
    · unfold eslaw30_FoldSorted.l3
      simp only [not_lt_len, Bool.false_eq_true, if_false]
  have key : loopO (eslaw30_FoldSorted.l3 ⟨T⟩) 0 = some (.inl ()) := key
  rw [key, Option.bind_some]
  show eslaw30_FoldSorted.j1 = _
  unfold eslaw30_FoldSorted.j1
  rw [awake_true]
  rfl
end Go.Proofs.Ytlbcfjblpopcnaa
