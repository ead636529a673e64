/- Plain laws: a store equals itself; the sanity check. -/
import Derived.Test.YtlbcfjblpopcnaaP30e
set_option linter.unusedVariables false
set_option linter.unusedSimpArgs false
namespace Go.Proofs.Ytlbcfjblpopcnaa
open Go Go.Proofs.YtlbcfjblpopcnaaL
theorem strings_refl {l : List (List UInt8)} (h : l.length ≤ 1000000) : slices_Equal_string l l = some true := by
  unfold slices_Equal_string
  rw [if_neg (by simp)]
  have := loopO_up (step := slices_Equal_string.l1 l l) (fun k => (k : Int)) l.length (b := .inl ()) (fun k hk => ?_) ?_
  · have this : loopO (slices_Equal_string.l1 l l) 0 = some (.inl ()) := this
    rw [this]; rfl
  · unfold slices_Equal_string.l1
    simp only [lt_of_len hk, if_true, idx_nat hk, Option.bind_some, bne_self_eq_false, Bool.false_eq_true, if_false, letV_of, wcast hk (by omega)]
  · unfold slices_Equal_string.l1
    simp only [not_lt_len, Bool.false_eq_true, if_false]
theorem field_refl {n : Nat} {y : fold_Field} (h : GF n y) (hn : n ≤ 1000000) : fold_equalFields y y = some true := by
  unfold fold_equalFields
  have := h.len
  simp only [beq_self_eq_true, if_true, decide_true, strings_refl (show y.Elems.length ≤ 1000000 by omega), Option.bind_some, fold_equalFields.j1]
theorem fields_refl {n : Nat} {l : List fold_Field} (h : ∀ y ∈ l, GF n y) (hl : l.length ≤ n) (hn : n ≤ 1000000) : slices_EqualFunc_Field l l (fun p => fold_equalFields p.1 p.2) = some true := by
  unfold slices_EqualFunc_Field
  rw [if_neg (by simp)]
  have := loopO_up (step := slices_EqualFunc_Field.l1 l l (fun p => fold_equalFields p.1 p.2)) (fun k => (k : Int)) l.length (b := .inl ()) (fun k hk => ?_) ?_
  · have this : loopO (slices_EqualFunc_Field.l1 l l (fun p => fold_equalFields p.1 p.2)) 0 = some (.inl ()) := this
    rw [this]; rfl
  · unfold slices_EqualFunc_Field.l1
    simp only [lt_of_len hk, if_true, idx_nat hk, Option.bind_some, field_refl (h _ (List.getElem_mem hk)) hn, Bool.not_true, Bool.false_eq_true, if_false, letV_of, wcast hk (by omega)]
  · unfold slices_EqualFunc_Field.l1
    simp only [not_lt_len, Bool.false_eq_true, if_false]
theorem object_refl {n : Nat} {o : fold_Object} (h : ∀ y ∈ o.Fields, GF n y) (hl : o.Fields.length ≤ n) (hn : n ≤ 1000000) : fold_equalObjects o o = some true := by
  unfold fold_equalObjects
  simp only [beq_self_eq_true, if_true, fields_refl h hl hn, Option.bind_some, fold_equalObjects.j1]
theorem Equal_refl {n : Nat} {t : fold_Store} (h : GD n t.Objects) (hn : n ≤ 1000000) : fold_Equal t t = some true := by
  unfold fold_Equal slices_EqualFunc_Object
  have hlen := h.len
  rw [if_neg (by simp)]
  have := loopO_up (step := slices_EqualFunc_Object.l1 t.Objects t.Objects (fun p => fold_equalObjects p.1 p.2)) (fun k => (k : Int)) t.Objects.length (b := .inl ()) (fun k hk => ?_) ?_
  · have this : loopO (slices_EqualFunc_Object.l1 t.Objects t.Objects (fun p => fold_equalObjects p.1 p.2)) 0 = some (.inl ()) := this
    rw [this]; rfl
  · have hm := List.getElem_mem hk
    unfold slices_EqualFunc_Object.l1
    simp only [lt_of_len hk, if_true, idx_nat hk, Option.bind_some, object_refl (h.good _ hm) (h.flen _ hm) hn, Bool.not_true, Bool.false_eq_true, if_false, letV_of, wcast hk (by omega)]
  · unfold slices_EqualFunc_Object.l1
    simp only [not_lt_len, Bool.false_eq_true, if_false]
/-! The sanity check. -/
def wU : api_Update := ⟨101, 1, 0, [⟨3, [120], [99], 2, []⟩]⟩
def wV : api_Update := ⟨102, 1, 0, [⟨3, [120], [99], 3, []⟩, ⟨4, [97], [115], 0, [113]⟩]⟩
def wT : List fold_Object := [⟨[97], [⟨[115], ⟨false, 0, 0, 0, 0, []⟩, false, 0, 0, [[113]], false⟩]⟩, ⟨[120], [⟨[99], ⟨false, 0, 0, 0, 0, []⟩, false, 0, 5, [], false⟩]⟩]
theorem wU_ef : ∀ e ∈ wU.Effects, EF e := by
  intro e he
  simp [wU] at he
  subst he
  exact ⟨by decide, by decide, by decide⟩
theorem wV_ef : ∀ e ∈ wV.Effects, EF e := by
  intro e he
  simp [wV] at he
  rcases he with rfl | rfl <;> exact ⟨by decide, by decide, by decide⟩
theorem awake_true : eslaw30_awake = some true := by
  unfold eslaw30_awake
  obtain ⟨e1, g1⟩ := Apply_eq (n := 0) (t := ⟨[]⟩) (u := wV) (GD_nil 0) wV_ef (by decide)
  have e1 : fold_Apply (⟨[]⟩ : fold_Store) (⟨102, 1, 0, [(⟨3, ([120] : List UInt8), ([99] : List UInt8), 3, []⟩ : api_Effect), (⟨4, ([97] : List UInt8), ([115] : List UInt8), 0, ([113] : List UInt8)⟩ : api_Effect)]⟩ : api_Update) = some ⟨appT wV []⟩ := e1
  obtain ⟨e2, g2⟩ := Apply_eq (t := ⟨appT wV []⟩) (u := wU) g1 wU_ef (by decide)
  have ew : appT wU (appT wV []) = wT := by decide
  have ew2 : foldT [wU, wV] [] = wT := by decide
  rw [ew] at e2 g2
  have e2 : fold_Apply ⟨appT wV []⟩ (⟨101, 1, 0, [(⟨3, ([120] : List UInt8), ([99] : List UInt8), 2, []⟩ : api_Effect)]⟩ : api_Update) = some ⟨wT⟩ := e2
  rw [e1, Option.bind_some, e2, Option.bind_some]
  obtain ⟨e3, _⟩ := Fold_eq (s := [wU, wV]) (by
    intro u hu
    simp at hu
    rcases hu with rfl | rfl
    · exact wU_ef
    · exact wV_ef) (by decide) (by decide)
  rw [ew2] at e3
  have e3 : fold_Fold ([(⟨101, 1, 0, [(⟨3, ([120] : List UInt8), ([99] : List UInt8), 2, []⟩ : api_Effect)]⟩ : api_Update), (⟨102, 1, 0, [(⟨3, ([120] : List UInt8), ([99] : List UInt8), 3, []⟩ : api_Effect), (⟨4, ([97] : List UInt8), ([115] : List UInt8), 0, ([113] : List UInt8)⟩ : api_Effect)]⟩ : api_Update)]) = some ⟨wT⟩ := e3
  have e4 := Find_eq (t := ⟨wT⟩) g2 (by decide) [120]
  have e5 : (get ON_ wT [120]).getD ⟨[120], []⟩ = ⟨[120], [⟨[99], ⟨false, 0, 0, 0, 0, []⟩, false, 0, 5, [], false⟩]⟩ := by decide
  rw [show (⟨wT⟩ : fold_Store).Objects = wT from rfl, e5] at e4
  have e6 := FieldOf_eq (n := 1) (o := ⟨[120], [⟨[99], ⟨false, 0, 0, 0, 0, []⟩, false, 0, 5, [], false⟩]⟩) (by decide) (by
    intro y hy
    simp at hy
    subst hy
    exact ⟨by decide, List.Pairwise.nil, by decide, by simp, by decide⟩) (by decide) [99]
  have e7 : (get FN_ [⟨[99], ⟨false, 0, 0, 0, 0, []⟩, false, 0, 5, [], false⟩] [99]).getD { fold_zero with Name := [99] } = ⟨[99], ⟨false, 0, 0, 0, 0, []⟩, false, 0, 5, [], false⟩ := by decide
  rw [show (⟨[120], [⟨[99], ⟨false, 0, 0, 0, 0, []⟩, false, 0, 5, [], false⟩]⟩ : fold_Object).Fields = [⟨[99], ⟨false, 0, 0, 0, 0, []⟩, false, 0, 5, [], false⟩] from rfl, e7] at e6
  have e8 := Equal_refl (t := ⟨wT⟩) g2 (by decide)
  have e9 : fold_Equal ⟨wT⟩ ⟨[]⟩ = some false := by
    unfold fold_Equal slices_EqualFunc_Object
    rw [if_pos (by decide)]
    rfl
  have e10 : fold_Hash ⟨[]⟩ = some 14695981039346656037 := by
    unfold fold_Hash
    rw [loopO_done (b := 14695981039346656037) (by unfold fold_Hash.l3; rfl)]
    rfl
  rw [if_pos (by decide)]
  rw [show idx (⟨wT⟩ : fold_Store).Objects 0 = some ⟨[97], [⟨[115], ⟨false, 0, 0, 0, 0, []⟩, false, 0, 0, [[113]], false⟩]⟩ from rfl, Option.bind_some, if_pos (by decide), e4, Option.bind_some, e6, Option.bind_some, if_pos (by decide), e3, Option.bind_some, e8, Option.bind_some, if_pos rfl, e9, Option.bind_some, if_pos (by decide), e10, Option.bind_some]
  rfl
end Go.Proofs.Ytlbcfjblpopcnaa
