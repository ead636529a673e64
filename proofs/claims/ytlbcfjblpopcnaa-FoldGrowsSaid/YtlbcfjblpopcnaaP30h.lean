/- Plain laws: the reference's comparisons; FoldFind. -/
import Derived.Test.YtlbcfjblpopcnaaP30g
set_option linter.unusedVariables false
set_option linter.unusedSimpArgs false
namespace Go.Proofs.Ytlbcfjblpopcnaa
open Go Go.Proofs.YtlbcfjblpopcnaaL
theorem rstrings_refl {l : List (List UInt8)} (h : l.length ≤ 1000000) : esref32_EqualStrings l l = some true := by
  unfold esref32_EqualStrings
  rw [if_neg (by simp)]
  have := loopO_up (step := esref32_EqualStrings.l1 l l) (fun k => (k : Int)) l.length (b := .inl ()) (fun k hk => ?_) ?_
  · have this : loopO (esref32_EqualStrings.l1 l l) 0 = some (.inl ()) := this
    rw [this]; rfl
  · unfold esref32_EqualStrings.l1
    simp only [lt_of_len hk, if_true, idx_nat hk, Option.bind_some, bne_self_eq_false, Bool.false_eq_true, if_false, letV_of, wcast hk (by omega)]
  · unfold esref32_EqualStrings.l1
    simp only [not_lt_len, Bool.false_eq_true, if_false]
theorem rfield_refl {n : Nat} {y : fold_Field} (h : GF n y) (hn : n ≤ 1000000) : esref32_EqualField y y = some true := by
  unfold esref32_EqualField
  have := h.len
  simp only [beq_self_eq_true, if_true, decide_true, rstrings_refl (show y.Elems.length ≤ 1000000 by omega), Option.bind_some, esref32_EqualField.j1]
theorem robject_refl {n : Nat} {o : fold_Object} (h : ∀ y ∈ o.Fields, GF n y) (hl : o.Fields.length ≤ n) (hn : n ≤ 1000000) : esref32_EqualObject o o = some true := by
  unfold esref32_EqualObject
  rw [if_neg (by simp)]
  unfold esref32_EqualObject.j2
  rw [if_neg (by simp)]
  have := loopO_up (step := esref32_EqualObject.l1 o o) (fun k => (k : Int)) o.Fields.length (b := .inl ()) (fun k hk => ?_) ?_
  · have this : loopO (esref32_EqualObject.l1 o o) 0 = some (.inl ()) := this
    rw [this]; rfl
  · unfold esref32_EqualObject.l1
    simp only [lt_of_len hk, if_true, idx_nat hk, Option.bind_some, rfield_refl (h _ (List.getElem_mem hk)) hn, Bool.not_true, Bool.false_eq_true, if_false, letV_of, wcast hk (by omega)]
  · unfold esref32_EqualObject.l1
    simp only [not_lt_len, Bool.false_eq_true, if_false]
theorem rFind_eq {n : Nat} {t : fold_Store} (h : GD n t.Objects) (hn : n ≤ 1000000) (k : List UInt8) : esref32_Find t k = some ((get ON_ t.Objects k).getD ⟨k, []⟩) := by
  unfold esref32_Find
  have hlen := h.len
  have key : loopO (esref32_Find.l1 t k) (0, [], []) = some (match get ON_ t.Objects k with | some o => .inr o | none => .inl ([], [])) := by
    have h1 := loopO_runL (step := esref32_Find.l1 t k) (fun i (_ : Unit) => ((i : Int), ([] : List UInt8), ([] : List fold_Field))) (fun _ o (_ : Unit) => if o.Name = k then some (.inr (.inr o)) else some (.inl ())) (fun _ => some (.inl ([], []))) t.Objects (fun i hi _ => ?_) (fun _ => ?_) ()
    · have h2 : ∀ (l : List fold_Object) (i : Nat), runL (fun _ (o : fold_Object) (_ : Unit) => if o.Name = k then some (.inr (.inr o : (List UInt8 × List fold_Field) ⊕ fold_Object)) else some (.inl ())) (fun _ => some (.inl ([], []))) i l () = some (match get ON_ l k with | some o => .inr o | none => .inl ([], [])) := by
        intro l
        induction l with
        | nil => intro i; rfl
        | cons o l ih =>
          intro i
          rw [runL, get_cons]
          by_cases he : o.Name = k
          · rw [if_pos he, if_pos he]
          · rw [if_neg he, if_neg he]
            exact ih _
      rw [← h2 t.Objects 0]
      exact h1
    · unfold esref32_Find.l1
      simp only [lt_of_len hi, if_true, idx_nat hi, Option.bind_some]
      by_cases he : t.Objects[i].Name = k
      · rw [if_pos (by simp [he]), if_pos he]
      · rw [if_neg (by simpa using he), if_neg he, letV, wcast hi (by omega)]
    · unfold esref32_Find.l1
      simp only [not_lt_len, Bool.false_eq_true, if_false]
      rfl
  rw [key, Option.bind_some]
  cases get ON_ t.Objects k with
  | none => rfl
  | some o => rfl
theorem rFieldOf_eq {o : fold_Object} (h1 : o.Fields.length ≤ 1000000) (k : List UInt8) : esref32_FieldOf o k = some ((get FN_ o.Fields k).getD { fold_zero with Name := k }) := by
  unfold esref32_FieldOf
  have key : loopO (esref32_FieldOf.l1 o k) (0, (⟨[], (⟨false, 0, 0, 0, 0, []⟩ : fold_Register), false, 0, 0, [], false⟩ : fold_Field)) = some (match get FN_ o.Fields k with | some y => .inr y | none => .inl ⟨[], ⟨false, 0, 0, 0, 0, []⟩, false, 0, 0, [], false⟩) := by
    have h1 := loopO_runL (step := esref32_FieldOf.l1 o k) (fun i (z : fold_Field) => ((i : Int), z)) (fun _ y (z : fold_Field) => if y.Name = k then some (.inr (.inr y)) else some (.inl z)) (fun z => some (.inl z)) o.Fields (fun i hi z => ?_) (fun z => ?_) ⟨[], ⟨false, 0, 0, 0, 0, []⟩, false, 0, 0, [], false⟩
    · have h2 : ∀ (l : List fold_Field) (i : Nat) (z : fold_Field), runL (fun _ (y : fold_Field) (z : fold_Field) => if y.Name = k then some (.inr (.inr y : fold_Field ⊕ fold_Field)) else some (.inl z)) (fun z => some (.inl z)) i l z = some (match get FN_ l k with | some y => .inr y | none => .inl z) := by
        intro l
        induction l with
        | nil => intro i z; rfl
        | cons o l ih =>
          intro i z
          rw [runL, get_cons]
          by_cases he : o.Name = k
          · rw [if_pos he, if_pos he]
          · rw [if_neg he, if_neg he]
            exact ih _ z
      rw [← h2 o.Fields 0]
      exact h1
    · unfold esref32_FieldOf.l1
      simp only [lt_of_len hi, if_true, idx_nat hi, Option.bind_some]
      by_cases he : o.Fields[i].Name = k
      · rw [if_pos (by simp [he]), if_pos he]
      · rw [if_neg (by simpa using he), if_neg he, letV, wcast hi (by omega)]
    · unfold esref32_FieldOf.l1
      simp only [not_lt_len, Bool.false_eq_true, if_false]
      rfl
  rw [key, Option.bind_some]
  cases get FN_ o.Fields k with
  | none => rfl
  | some o => rfl
theorem foldFind_true (x1 : List Int) (x4 x5 : List UInt8) : eslaw30_FoldFind x1 x4 x5 = some true := by
  have main : eslaw30_FoldFind.j5 x1 x4 x5 false = some true := by
    unfold eslaw30_FoldFind.j5
    obtain ⟨s, e1, h1⟩ := Updates_ex x1
    obtain ⟨e3, g⟩ := made_fold h1
    rw [if_neg (by simp), e1, Option.bind_some, e3, Option.bind_some]
    obtain ⟨T, hT⟩ : ∃ T, T = foldT s [] := ⟨_, rfl⟩
    rw [← hT] at g ⊢
    obtain ⟨ns, hns⟩ : ∃ ns, ns = [x4, ([97] : List UInt8), ([98] : List UInt8), ([120, 49] : List UInt8)] := ⟨_, rfl⟩
    obtain ⟨ms, hms⟩ : ∃ ms, ms = [x5, ([97] : List UInt8), ([99] : List UInt8), ([120, 49] : List UInt8)] := ⟨_, rfl⟩
    have l1 : ns.length = 4 := by rw [hns]; rfl
    have l2 : ms.length = 4 := by rw [hms]; rfl
    have key : loopO (eslaw30_FoldFind.l2 x4 x5 ⟨T⟩) ((0 : Nat) : Int) = some (.inl ()) := by
      refine loopO_up (fun k => (k : Int)) ns.length (fun k hk => ?_) ?_
      · unfold eslaw30_FoldFind.l2
        rw [← hns]
        simp only [lt_of_len hk, if_true, idx_nat hk, Option.bind_some]
        obtain ⟨nm, hnm⟩ : ∃ nm, nm = ns[k] := ⟨_, rfl⟩
        rw [← hnm]
        rw [Find_eq g (by decide), Option.bind_some, rFind_eq g (by decide), Option.bind_some]
        obtain ⟨ob, hob⟩ : ∃ ob, ob = (get ON_ T nm).getD ⟨nm, []⟩ := ⟨_, rfl⟩
        have gob : ob.Name = nm ∧ ob.Fields.length ≤ 100 ∧ ∀ y ∈ ob.Fields, GF 100 y := by
          rw [hob]
          cases hg : get ON_ T nm with
          | none => exact ⟨rfl, Nat.zero_le _, fun y hy => by simp at hy⟩
          | some o => exact ⟨get_key hg, g.flen _ (get_mem hg), g.good _ (get_mem hg)⟩
        show (esref32_EqualObject ((get ON_ T nm).getD ⟨nm, []⟩) ((get ON_ T nm).getD ⟨nm, []⟩)).bind _ = _
        rw [← hob, robject_refl gob.2.2 gob.2.1 (by decide), Option.bind_some, if_neg (by simp), gob.1, bne_self_eq_false]
        unfold eslaw30_FoldFind.j4
        rw [if_neg (by simp)]
        have inner : loopO (eslaw30_FoldFind.l1 x5 ob) ((0 : Nat) : Int) = some (.inl ()) := by
          refine loopO_up (fun k => (k : Int)) ms.length (fun j hj => ?_) ?_
          · unfold eslaw30_FoldFind.l1
            rw [← hms]
            simp only [lt_of_len hj, if_true, idx_nat hj, Option.bind_some]
            obtain ⟨fm, hfm⟩ : ∃ fm, fm = ms[j] := ⟨_, rfl⟩
            rw [← hfm, FieldOf_eq gob.2.1 gob.2.2 (by decide), Option.bind_some, rFieldOf_eq (by omega), Option.bind_some]
            obtain ⟨y, hy⟩ : ∃ y, y = (get FN_ ob.Fields fm).getD { fold_zero with Name := fm } := ⟨_, rfl⟩
            rw [← hy]
            have gy : y.Name = fm ∧ y.Elems.length ≤ 100 := by
              rw [hy]
              cases hg : get FN_ ob.Fields fm with
              | none => exact ⟨rfl, Nat.zero_le _⟩
              | some y => exact ⟨get_key hg, (gob.2.2 _ (get_mem hg)).len⟩
            have er : esref32_EqualField y y = some true := by
              unfold esref32_EqualField
              simp only [beq_self_eq_true, if_true, decide_true, rstrings_refl (show y.Elems.length ≤ 1000000 by omega), Option.bind_some, esref32_EqualField.j1]
            show ((esref32_EqualField y y).bind _) = _
            rw [er, Option.bind_some, if_neg (by simp), gy.1, bne_self_eq_false]
            unfold eslaw30_FoldFind.j3
            rw [if_neg (by simp), letV_of, wcast hj (by omega)]
          · unfold eslaw30_FoldFind.l1
            rw [← hms]
            simp only [not_lt_len, Bool.false_eq_true, if_false]
        have inner : loopO (eslaw30_FoldFind.l1 x5 ob) 0 = some (.inl ()) := inner
        rw [inner, Option.bind_some]
        show eslaw30_FoldFind.j2 (k : Int) = _
        unfold eslaw30_FoldFind.j2
        rw [letV_of, wcast hk (by omega)]
      · unfold eslaw30_FoldFind.l2
        rw [← hns]
        simp only [not_lt_len, Bool.false_eq_true, if_false]
    have key : loopO (eslaw30_FoldFind.l2 x4 x5 ⟨T⟩) 0 = some (.inl ()) := key
    rw [key, Option.bind_some]
    show eslaw30_FoldFind.j1 = _
    unfold eslaw30_FoldFind.j1
    rw [awake_true]
    rfl
  have early : eslaw30_FoldFind.j5 x1 x4 x5 true = some true := by
    unfold eslaw30_FoldFind.j5
    rw [if_pos rfl, awake_true]
    rfl
  unfold eslaw30_FoldFind
  split
  · exact early
  · cases decide (40 < (x5.length : Int)) with
    | true => exact early
    | false => exact main
end Go.Proofs.Ytlbcfjblpopcnaa
