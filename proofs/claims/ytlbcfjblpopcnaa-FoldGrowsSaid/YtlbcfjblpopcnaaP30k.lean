/- Plain laws: FoldOrder. -/
import Derived.Test.YtlbcfjblpopcnaaP30j
set_option linter.unusedVariables false
set_option linter.unusedSimpArgs false
namespace Go.Proofs.Ytlbcfjblpopcnaa
open Go Go.Proofs.YtlbcfjblpopcnaaL
theorem rEqual_refl {n : Nat} {t : fold_Store} (h : GD n t.Objects) (hn : n ≤ 1000000) : esref32_Equal t t = some true := by
  unfold esref32_Equal
  have hlen := h.len
  rw [if_neg (by simp)]
  have := loopO_up (step := esref32_Equal.l1 t t) (fun k => (k : Int)) t.Objects.length (b := .inl ()) (fun k hk => ?_) ?_
  · have this : loopO (esref32_Equal.l1 t t) 0 = some (.inl ()) := this
    rw [this]; rfl
  · have hm := List.getElem_mem hk
    unfold esref32_Equal.l1
    simp only [lt_of_len hk, if_true, idx_nat hk, Option.bind_some, robject_refl (h.good _ hm) (h.flen _ hm) hn, Bool.not_true, Bool.false_eq_true, if_false, letV_of, wcast hk (by omega)]
  · unfold esref32_Equal.l1
    simp only [not_lt_len, Bool.false_eq_true, if_false]
theorem foldOrder_sz (x1 x4 : List Int) (hz1 : x1.length * 8 ≤ 140737488351232) (hz : x4.length * 8 ≤ 140737488351232) : eslaw30_FoldOrder x1 x4 = some true := by
  unfold eslaw30_FoldOrder
  obtain ⟨s, e1, h1⟩ := Updates_ex x1
  have hlen := h1.len
  have hN := US_effN h1
  rw [e1, Option.bind_some, app_of (by simp only [List.length_nil]; omega), List.nil_append, Option.bind_some]
  have key : ∃ b, loopO (eslaw30_FoldOrder.l1 x4) (s, 0, []) = some b ∧ b = foldT s [] := by
    refine loopO_mu (fun t : List api_Update × Int × List fold_Object => ∃ σ, t.2.2 = foldT σ [] ∧ (σ ++ t.1).Perm s ∧ 0 ≤ t.2.1 ∧ t.2.1 + t.1.length ≤ 24) (fun t => t.1.length) ⟨[], rfl, .refl _, Int.le_refl 0, by simp only; omega⟩ ?_
    rintro ⟨left, i, objs⟩ ⟨σ, ho, hp, h0, hi⟩
    simp only at ho hp h0 hi
    have hmem : ∀ u ∈ σ ++ left, u ∈ s := fun u hu => hp.mem_iff.1 hu
    have hpl := hp.length_eq
    rw [List.length_append] at hpl
    unfold eslaw30_FoldOrder.l1
    dsimp only
    by_cases hc : left = []
    · rw [if_neg (by simp [hc])]
      rw [hc, List.append_nil] at hp
      exact .inr ⟨objs, rfl, by rw [ho]; exact fold_perm hp (fun u hu v hv => ult_ids h1.asc u (hp.mem_iff.1 hu) v (hp.mem_iff.1 hv)) ⟨List.Pairwise.nil, by simp⟩⟩
    · have hl0 : left.length ≠ 0 := fun e => hc (List.length_eq_zero_iff.1 e)
      rw [if_pos (by simp; omega)]
      obtain ⟨a, ha⟩ := At_ex x4 i.toNat (by omega)
      rw [show ((i.toNat : Nat) : Int) = i by omega] at ha
      rw [ha, Option.bind_some]
      obtain ⟨d, hd, hd0, hd1⟩ := Index_ex a (left.length : Int) (by omega) (by omega)
      rw [hd, Option.bind_some]
      obtain ⟨k, rfl⟩ : ∃ k : Nat, d = k := ⟨d.toNat, by omega⟩
      have hk : k < left.length := by omega
      rw [idx_nat hk, Option.bind_some]
      have hkm : left[k] ∈ s := hmem _ (List.mem_append.2 (.inr (List.getElem_mem hk)))
      have hσ : ∀ u ∈ σ, ∀ e ∈ u.Effects, EF e := fun u hu => (h1.ok u (hmem u (List.mem_append.2 (.inl hu)))).ef
      have hσn : effN σ ≤ 4 * σ.length := by
        have : ∀ l : List api_Update, (∀ u ∈ l, UOK u) → effN l ≤ 4 * l.length := by
          intro l
          induction l with
          | nil => intro _; exact Nat.zero_le _
          | cons u l ih =>
            intro h
            have h1 := (h u (by simp)).len
            have h2 := ih fun v hv => h v (by simp [hv])
            unfold effN at h2 ⊢
            rw [List.map_cons, List.sum_cons, List.length_cons]
            omega
        exact this σ fun u hu => h1.ok u (hmem u (List.mem_append.2 (.inl hu)))
      obtain ⟨_, hg⟩ := Fold_eq (s := σ) hσ (by omega) (by omega)
      have hel := (h1.ok _ hkm).len
      obtain ⟨e2, _⟩ := Apply_eq (t := ⟨objs⟩) (u := left[k]) (n := effN σ) (by show GD _ objs; rw [ho]; exact hg) (h1.ok _ hkm).ef (by omega)
      rw [e2, Option.bind_some, cut_of (Int.le_refl 0) (by omega) (by omega), Option.bind_some]
      have c1 : (left.take ((k : Int)).toNat).drop (0 : Int).toNat = left.take k := by simp
      rw [c1, app_of (by simp only [List.length_nil, List.length_take]; omega), List.nil_append, Option.bind_some, letV_of, wcast hk (by omega), cut_of (by omega) (by omega) (Int.le_refl _), Option.bind_some]
      have c2 : (left.take ((left.length : Nat) : Int).toNat).drop (((k + 1 : Nat) : Int)).toNat = left.drop (k + 1) := by simp
      rw [c2, app_of (by simp only [List.length_drop, List.length_take]; omega), Option.bind_some, letV_of, w64 (x := i + 1) (by omega) (by omega)]
      have hll : (left.take k ++ left.drop (k + 1)).length + 1 = left.length := by rw [List.length_append, List.length_take, List.length_drop]; omega
      refine .inl ⟨_, rfl, ⟨σ ++ [left[k]], ?_, ?_, ?_, ?_⟩, ?_⟩
      · show appT left[k] objs = _
        rw [foldT_append, ho]
        rfl
      · show (σ ++ [left[k]] ++ (left.take k ++ left.drop (k + 1))).Perm s
        rw [List.append_assoc]
        refine (List.Perm.append_left σ ?_).trans hp
        show (left[k] :: (left.take k ++ left.drop (k + 1))).Perm left
        refine List.perm_middle.symm.trans ?_
        rw [← List.drop_eq_getElem_cons hk, List.take_append_drop]
      · show 0 ≤ i + 1
        omega
      · show i + 1 + ((left.take k ++ left.drop (k + 1)).length : Int) ≤ 24
        omega
      · show (left.take k ++ left.drop (k + 1)).length < left.length
        omega
  obtain ⟨b, e2, rfl⟩ := key
  rw [e2, Option.bind_some]
  unfold eslaw30_FoldOrder.j2
  obtain ⟨e3, g⟩ := made_fold h1
  rw [e3, Option.bind_some, Equal_refl (t := ⟨foldT s []⟩) g (by decide), Option.bind_some, if_pos rfl, rEqual_refl (t := ⟨foldT s []⟩) g (by decide), Option.bind_some, if_pos rfl, Hash_eq (t := ⟨foldT s []⟩) g (by decide), Option.bind_some, Option.bind_some, if_pos (by simp), awake_true]
  rfl
end Go.Proofs.Ytlbcfjblpopcnaa
