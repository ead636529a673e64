/- What the row leans on, as few texts. -/
import Derived.Test.YtpfgdjfiimknlaaGreatQIG4
set_option linter.unusedVariables false
set_option linter.unusedSimpArgs false
namespace Go.Proofs.YtpfgdjfiimknlaaGreat
open Go Go.Proofs.YtpfgdjfiimknlaaGreatL
theorem PB_grow {f : schema_Field} (hk : f.Kind = 4) {A B : List fold_Object} (ga : GD 100 A) (grows : ∀ k n x, fa A k n = some x → ∃ y, fa B k n = some y ∧ ELe x y) {k : index_Key} {s : List UInt8} (h : PB f A k s) : PB f B k s := by
  obtain ⟨o, ho, rfl, hkk⟩ := h
  have kf : ∀ y : fold_Field, keysF f y = y.Elems.map fun s => (⟨2, 0, s⟩ : index_Key) := fun y => by
    unfold keysF
    rw [if_neg (fun h => by have := h.1; omega), if_neg (fun h => by have := h.1; omega), if_pos hk]
  unfold keysOf at hkk
  rw [kf] at hkk
  obtain ⟨x, hx, rfl⟩ := List.mem_map.1 hkk
  unfold fieldN at hx
  cases hg : get FN_ o.Fields f.Name with
  | none =>
    rw [hg] at hx
    have hx : x ∈ ([] : List (List UInt8)) := hx
    simp at hx
  | some y =>
    rw [hg] at hx
    have hx : x ∈ y.Elems := hx
    have hy := fa_of ga ho (get_mem hg)
    rw [show y.Name = f.Name from get_key hg] at hy
    obtain ⟨z, hz, hle⟩ := grows _ _ _ hy
    unfold fa at hz
    cases hgb : get ON_ B o.Name with
    | none =>
      rw [hgb] at hz
      simp [get_nil] at hz
    | some ob =>
      rw [hgb] at hz
      have hz : get FN_ ob.Fields f.Name = some z := hz
      refine ⟨ob, get_mem hgb, get_key hgb, ?_⟩
      unfold keysOf
      rw [kf]
      refine List.mem_map.2 ⟨x, ?_, rfl⟩
      unfold fieldN
      rw [hz]
      exact hle x hx
theorem indexGrows_true (x1 : List Int) (x4 x5 : Int) : eslaw32_IndexGrows x1 x4 x5 = some true := by
  unfold eslaw32_IndexGrows
  obtain ⟨s, e1, h1⟩ := Updates_ex x1
  obtain ⟨f, e4⟩ := field_ex x4
  obtain ⟨p, e2⟩ := Some_ex h1 x5
  have hsub := US_sub h1 (List.filter_sublist (p := p))
  obtain ⟨e3, ga⟩ := made_fold hsub
  obtain ⟨e5, gb⟩ := made_fold h1
  rw [e1, Option.bind_some, e4, Option.bind_some, e2, Option.bind_some, e3, Option.bind_some]
  have grows : ∀ k n x, fa (foldT (s.filter p) []) k n = some x → ∃ y, fa (foldT s []) k n = some y ∧ ELe x y := by
    intro k f x hx
    have hp := filter_perm p s
    have e : foldT s [] = foldT (s.filter fun u => !p u) (foldT (s.filter p) []) := by
      rw [← foldT_append]
      exact (fold_perm hp (fun u hu v hv => ult_ids h1.asc u (hp.mem_iff.1 hu) v (hp.mem_iff.1 hv)) SO_nil).symm
    rw [e]
    exact egrow_fold _ (SO_foldT _ SO_nil) hx
  obtain ⟨A, hA⟩ : ∃ A, A = foldT (s.filter p) [] := ⟨_, rfl⟩
  obtain ⟨B, hB⟩ : ∃ B, B = foldT s [] := ⟨_, rfl⟩
  rw [← hA] at ga grows ⊢
  rw [← hB] at gb grows e5
  obtain ⟨f', hf'⟩ : ∃ f', f' = (⟨f.Name, 4, 0, f.At⟩ : schema_Field) := ⟨_, rfl⟩
  have hk4 : f'.Kind = 4 := by rw [hf']
  rw [← hf']
  obtain ⟨ea, b1, b2⟩ := Build_eq f' ga.go ga.len
  obtain ⟨eb, b3, b4⟩ := Build_eq f' gb.go gb.len
  rw [b1, Option.bind_some, e5, Option.bind_some, b3, Option.bind_some]
  have hel := b2.len
  have key : loopO (eslaw32_IndexGrows.l2 ⟨f', ea⟩ ⟨f', eb⟩) ((0 : Nat) : Int) = some (.inl ()) := by
    refine loopO_up (fun k => (k : Int)) ea.length (fun k hk => ?_) ?_
    · have hm := List.getElem_mem hk
      have hol := b2.olen _ hm
      unfold eslaw32_IndexGrows.l2
      simp only [lt_of_len hk, if_true, idx_nat hk, Option.bind_some]
      obtain ⟨r, p1, p2⟩ := Lookup_eq (f := f') b4.eb ea[k].Key
      rw [p1, Option.bind_some]
      have inner : loopO (eslaw32_IndexGrows.l1 ⟨f', ea⟩ (k : Int) r) ((0 : Nat) : Int) = some (.inl ()) := by
        refine loopO_up (fun j => (j : Int)) ea[k].Objects.length (fun j hj => ?_) ?_
        · unfold eslaw32_IndexGrows.l1
          rw [idx_nat (show k < (⟨f', ea⟩ : index_Index).Entries.length from hk), Option.bind_some]
          simp only [lt_of_len hj, if_true, idx_nat hj, Option.bind_some]
          have hin : ea[k].Objects[j] ∈ r := by
            rw [p2.lookP b4.ix]
            exact PB_grow hk4 ga grows ((b2.ix.obj hm _).1 (List.getElem_mem hj))
          rw [rHas_eq (by have := p2.len; omega), Option.bind_some, if_neg (by simp [hin]), letV_of, wcast hj (by omega)]
        · unfold eslaw32_IndexGrows.l1
          rw [idx_nat (show k < (⟨f', ea⟩ : index_Index).Entries.length from hk), Option.bind_some]
          simp only [not_lt_len, Bool.false_eq_true, if_false]
      have inner : loopO (eslaw32_IndexGrows.l1 ⟨f', ea⟩ (k : Int) r) 0 = some (.inl ()) := inner
      rw [inner, Option.bind_some]
      show eslaw32_IndexGrows.j2 (k : Int) = _
      unfold eslaw32_IndexGrows.j2
      rw [letV_of, wcast hk (by omega)]
    · unfold eslaw32_IndexGrows.l2
      simp only [not_lt_len, Bool.false_eq_true, if_false]
  have key : loopO (eslaw32_IndexGrows.l2 ⟨f', ea⟩ ⟨f', eb⟩) 0 = some (.inl ()) := key
  rw [key, Option.bind_some]
  show eslaw32_IndexGrows.j1 = _
  unfold eslaw32_IndexGrows.j1
  rw [awake_true]
  rfl
end Go.Proofs.YtpfgdjfiimknlaaGreat
