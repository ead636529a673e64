/- What the row leans on, as few texts. -/
import Derived.Test.YtlbcfjblpopcnaaQFY3
import Derived.Test.YtlbcfjblpopcnaaQFY5
import Derived.Test.YtlbcfjblpopcnaaQFY2
import Derived.Test.YtlbcfjblpopcnaaQFY1
set_option linter.unusedVariables false
set_option linter.unusedSimpArgs false
namespace Go.Proofs.Ytlbcfjblpopcnaa
open Go Go.Proofs.YtlbcfjblpopcnaaL
theorem rInsert_eq {x : List (List UInt8)} {s : List UInt8} (ha : Asc x) (hl : x.length ≤ 1000000000) : esref32_Insert x s = some (insS x s) := by
  unfold esref32_Insert
  have hp := posS_le x s
  obtain ⟨p, hpe⟩ : ∃ p, p = posS x s := ⟨_, rfl⟩
  have gD : ∀ k (h : k < x.length), x.getD k s = x[k] := fun k h => by simp [h]
  have key : loopO (esref32_Insert.l1 x s) 0 = some (p : Int) := by
    have := loopO_up (step := esref32_Insert.l1 x s) (fun k => (k : Int)) p (b := (p : Int)) (fun k hk => ?_) ?_
    · exact this
    · have hkx : k < x.length := by omega
      have h1 := posS_lt x s k (by omega)
      rw [gD k hkx] at h1
      unfold esref32_Insert.l1
      simp only [lt_of_len hkx, if_true, idx_nat hkx, Option.bind_some, h1]
      unfold esref32_Insert.j4
      rw [if_pos rfl, letV_of, wcast hkx (by omega)]
    · unfold esref32_Insert.l1
      by_cases hpx : p < x.length
      · have h1 := posS_ge x s ha p (by omega)
        rw [gD p hpx] at h1
        simp only [lt_of_len hpx, if_true, idx_nat hpx, Option.bind_some, h1]
        unfold esref32_Insert.j4
        rw [if_neg (by simp)]
      · rw [if_neg (by simp; omega)]
        unfold esref32_Insert.j4
        rw [if_neg (by simp)]
  rw [key, Option.bind_some, insS_pos, ← hpe]
  have no : esref32_Insert.j2 x s (p : Int) false = some (x.take p ++ s :: x.drop p) := by
    unfold esref32_Insert.j2
    rw [if_neg (by simp), cut_of (by omega) (by omega) (by omega), Option.bind_some]
    simp only [Int.toNat_zero, List.drop_zero, Int.toNat_natCast]
    have hlt : (x.take p).length ≤ x.length := by rw [List.length_take]; omega
    rw [app_of (by rw [List.length_nil]; omega), Option.bind_some, List.nil_append, app_of (by rw [List.length_singleton]; omega), Option.bind_some, cut_of (by omega) (by omega) (by omega), Option.bind_some]
    simp only [Int.toNat_natCast, List.take_length]
    rw [app_of (by simp only [List.length_append, List.length_singleton, List.length_drop]; omega), Option.bind_some]
    unfold esref32_Insert.j1
    rw [List.append_assoc]
    rfl
  unfold esref32_Insert.j3
  by_cases hpx : p < x.length
  · rw [if_pos (by simpa using hpx), idx_nat hpx, Option.bind_some]
    by_cases he : x[p] = s
    · rw [if_pos ⟨hpx, by rw [gD p hpx]; exact he⟩, show (x[p] == s) = true by simp [he]]
      unfold esref32_Insert.j2
      rw [if_pos rfl, app_of (by rw [List.length_nil]; omega), Option.bind_some, List.nil_append]
    · rw [if_neg (fun h => he (by rw [← gD p hpx]; exact h.2)), show (x[p] == s) = false by simpa using he, no]
  · rw [if_neg (by simpa using hpx), if_neg (fun h => hpx h.1), no]
theorem rbefore_eq (u : api_Update) (r : fold_Register) : (if r.Set then esref32_before r u.Tag u.Client u.Seq else some true) = some (newerS u r) := by
  unfold newerS esref32_before
  cases r.Set with
  | false => rfl
  | true =>
    simp only [if_true, Bool.not_true, Bool.false_or]
    by_cases h1 : r.Tag = u.Tag
    · rw [if_neg (by simpa using h1)]
      by_cases h2 : r.Client = u.Client
      · rw [if_neg (by simpa using h2)]
        congr 1
        rw [Bool.eq_iff_iff, decide_eq_true_eq, decide_eq_true_eq]
        constructor
        · intro h; omega
        · intro h; omega
      · rw [if_pos (by simpa using h2)]
        congr 1
        rw [Bool.eq_iff_iff, decide_eq_true_eq, decide_eq_true_eq]
        constructor
        · intro h; omega
        · intro h; omega
    · rw [if_pos (by simpa using h1)]
      congr 1
      rw [Bool.eq_iff_iff, decide_eq_true_eq, decide_eq_true_eq]
      constructor
      · intro h; omega
      · intro h; omega
theorem r32_fld_eq {n : Nat} {u : api_Update} {e : api_Effect} {f : fold_Field} (h : GF n f) (hn : n ≤ 1000000) : r32_fld u e f = some (updF u e f) := by
  unfold r32_fld updF
  rw [rbefore_eq, Option.bind_some]
  have hl := h.len
  rw [rInsert_eq h.asc (by omega), Option.bind_some]
  by_cases h1 : e.Kind = 1
  · rw [if_pos h1, if_pos h1]
  rw [if_neg h1, if_neg h1]
  by_cases h2 : e.Kind = 2
  · rw [if_pos h2, if_pos h2]
    cases hm : f.HasMax with
    | false => simp
    | true =>
      by_cases hx : f.Max < e.N
      · simp [hx]
      · simp only [Bool.not_true, hx, decide_false, Bool.or_false, Bool.false_eq_true, if_false]
        rw [← hm]
  rw [if_neg h2, if_neg h2]
  by_cases h3 : e.Kind = 3
  · rw [if_pos h3, if_pos h3]
  rw [if_neg h3, if_neg h3]
  by_cases h4 : e.Kind = 4
  · rw [if_pos h4, if_pos h4]
  rw [if_neg h4, if_neg h4]
  by_cases h5 : e.Kind = 5
  · rw [if_pos h5, if_pos h5]
  rw [if_neg h5, if_neg h5]
theorem r32_eff_eq {n : Nat} {u : api_Update} {objs : List fold_Object} {e : api_Effect} (h : GD n objs) (hn : n ≤ 100000) (he : EF e) : r32_eff u objs e = some (effT u objs e) := by
  have hlen := h.len
  have hok : r32_ok objs := ⟨h.asc, by omega, fun o ho => ⟨by have := h.flen o ho; omega, h.fasc o ho⟩⟩
  unfold r32_eff
  rw [if_pos hok, r32_ins_eq]
  have g1 : get ON_ (insT objs e.Object e.Field) e.Object = some (inObj e.Object e.Field (fun o => o.getD { fold_zero with Name := e.Field }) (get ON_ objs e.Object)) := by
    unfold insT
    rw [get_upd (inObj_key _ _ _) _ h.asc, if_pos rfl]
  obtain ⟨fs, hfs⟩ : ∃ fs, fs = ((get ON_ objs e.Object).map (·.Fields)).getD [] := ⟨_, rfl⟩
  have hsa : SA FN_ fs := by
    rw [hfs]
    cases hg : get ON_ objs e.Object with
    | none => exact .nil
    | some o => exact h.fasc o (get_mem hg)
  have hgood : ∀ y ∈ fs, GF n y := by
    intro y hy
    rw [hfs] at hy
    cases hg : get ON_ objs e.Object with
    | none => rw [hg] at hy; simp at hy
    | some o => rw [hg] at hy; exact h.good o (get_mem hg) y hy
  have g1' : ((insT objs e.Object e.Field).find? fun o => o.Name == e.Object) = some ⟨e.Object, upd FN_ e.Field (fun o => o.getD { fold_zero with Name := e.Field }) fs⟩ := by
    rw [hfs]
    exact g1
  rw [g1', Option.bind_some]
  have g2 : get FN_ (upd FN_ e.Field (fun o => o.getD { fold_zero with Name := e.Field }) fs) e.Field = some ((get FN_ fs e.Field).getD { fold_zero with Name := e.Field }) := by
    rw [get_upd (insF_key _) _ hsa, if_pos rfl]
  have g2' : ((upd FN_ e.Field (fun o => o.getD { fold_zero with Name := e.Field }) fs).find? fun y => y.Name == e.Field) = some ((get FN_ fs e.Field).getD { fold_zero with Name := e.Field }) := g2
  simp only [g2', Option.bind_some]
  have hy : GF n ((get FN_ fs e.Field).getD { fold_zero with Name := e.Field }) := by
    cases hg : get FN_ fs e.Field with
    | none => exact GF_named (GF_zero n) he.fld
    | some y => exact hgood y (get_mem hg)
  have hyn : ((get FN_ fs e.Field).getD { fold_zero with Name := e.Field }).Name = e.Field := by
    cases hg : get FN_ fs e.Field with
    | none => rfl
    | some y => exact get_key hg
  rw [r32_fld_eq hy (by omega), Option.bind_some]
  congr 1
  rw [r32_upd_eq, r32_upd_eq]
  unfold insT effT
  have hk1 : ∀ o : Option fold_Object, (∀ a, o = some a → ON_ a = e.Object) → ON_ ((fun _ => (⟨e.Object, upd FN_ e.Field (fun _ => updF u e ((get FN_ fs e.Field).getD { fold_zero with Name := e.Field })) (upd FN_ e.Field (fun o => o.getD { fold_zero with Name := e.Field }) fs)⟩ : fold_Object)) o) = e.Object := fun _ _ => rfl
  have := upd_upd (g := fun _ => (⟨e.Object, upd FN_ e.Field (fun _ => updF u e ((get FN_ fs e.Field).getD { fold_zero with Name := e.Field })) (upd FN_ e.Field (fun o => o.getD { fold_zero with Name := e.Field }) fs)⟩ : fold_Object)) hk1 (inObj_key e.Object e.Field (fun o => o.getD { fold_zero with Name := e.Field })) h.asc
  refine this.trans ?_
  refine upd_congr (g := fun _ => (⟨e.Object, upd FN_ e.Field (fun _ => updF u e ((get FN_ fs e.Field).getD { fold_zero with Name := e.Field })) (upd FN_ e.Field (fun o => o.getD { fold_zero with Name := e.Field }) fs)⟩ : fold_Object)) (g' := inObj e.Object e.Field (inFld u e)) (fun _ _ => rfl) h.asc ?_ (inObj_key _ _ _)
  show (⟨e.Object, _⟩ : fold_Object) = ⟨e.Object, upd FN_ e.Field (inFld u e) (((get ON_ objs e.Object).map (·.Fields)).getD [])⟩
  rw [← hfs]
  congr 1
  have hk2 : ∀ o : Option fold_Field, (∀ a, o = some a → FN_ a = e.Field) → FN_ ((fun _ => updF u e ((get FN_ fs e.Field).getD { fold_zero with Name := e.Field })) o) = e.Field := fun _ _ => (updF_name _ _ _).trans hyn
  refine (upd_upd hk2 (insF_key e.Field) hsa).trans ?_
  refine upd_congr (fun _ _ => (updF_name _ _ _).trans hyn) hsa ?_ (inFld_key u e)
  unfold inFld
  cases hg : get FN_ fs e.Field with
  | none => rfl
  | some y =>
    have hk := get_key hg
    show updF u e y = updF u e { y with Name := e.Field }
    congr 1
    rw [← hk]
theorem eff_GD {n : Nat} {u : api_Update} {objs : List fold_Object} {e : api_Effect} (h : GD n objs) (hn : n + 1 ≤ 1000000) (he : EF e) : GD (n + 1) (effT u objs e) :=
  (Apply_eq (t := ⟨objs⟩) (u := { u with Effects := [e] }) h (fun q hq => by simp at hq; subst hq; exact he) hn).2
theorem rcopy_fields {n : Nat} {t : fold_Store} (h : GD n t.Objects) (hn : n ≤ 1000000) {k : Nat} (hk : k < t.Objects.length) : loopO (esref32_Copy.l1 t (k : Int)) (0, []) = some t.Objects[k].Fields := by
  have hm := List.getElem_mem hk
  have hfl := h.flen _ hm
  have := loopO_up (step := esref32_Copy.l1 t (k : Int)) (fun j => ((j : Int), t.Objects[k].Fields.take j)) t.Objects[k].Fields.length (b := t.Objects[k].Fields) (fun j hj => ?_) ?_
  · exact this
  · have hg := (h.good _ hm _ (List.getElem_mem hj)).len
    unfold esref32_Copy.l1
    simp only [idx_nat hk, Option.bind_some, lt_of_len hj, if_true, idx_nat hj]
    rw [app_of (by simp only [List.length_nil]; omega), Option.bind_some, List.nil_append, app_of (by simp only [List.length_take, List.length_singleton]; omega), Option.bind_some, letV_of, wcast hj (by omega), take_snoc hj]
  · unfold esref32_Copy.l1
    simp only [idx_nat hk, Option.bind_some, not_lt_len, Bool.false_eq_true, if_false, List.take_length]
theorem rCopy_eq {n : Nat} {t : fold_Store} (h : GD n t.Objects) (hn : n ≤ 1000000) : esref32_Copy t = some t := by
  unfold esref32_Copy
  have hlen := h.len
  have : loopO (esref32_Copy.l2 t) (0, []) = some t.Objects := by
    have := loopO_up (step := esref32_Copy.l2 t) (fun k => ((k : Int), t.Objects.take k)) t.Objects.length (b := t.Objects) (fun k hk => ?_) ?_
    · exact this
    · unfold esref32_Copy.l2
      simp only [lt_of_len hk, if_true, idx_nat hk, Option.bind_some]
      rw [rcopy_fields h hn hk, Option.bind_some]
      unfold esref32_Copy.j3
      rw [app_of (by simp only [List.length_take, List.length_singleton]; omega), Option.bind_some]
      unfold esref32_Copy.j2
      rw [letV_of, wcast hk (by omega), take_snoc hk]
    · unfold esref32_Copy.l2
      simp only [not_lt_len, Bool.false_eq_true, if_false, List.take_length]
  rw [this]
  rfl
theorem rApply_eq {n : Nat} {t : fold_Store} {u : api_Update} (h : GD n t.Objects) (he : ∀ e ∈ u.Effects, EF e) (hn : n + u.Effects.length ≤ 100000) :
    esref32_Apply t u = some ⟨appT u t.Objects⟩ := by
  unfold esref32_Apply
  rw [rCopy_eq h (by omega), Option.bind_some]
  have : loopO (esref32_Apply.l1 u) (0, t.Objects) = some (appT u t.Objects) := by
    have key := loopO_inv (step := esref32_Apply.l1 u) (I := fun k s => s.1 = (k : Int) ∧ s.2 = (u.Effects.take k).foldl (effT u) t.Objects ∧ GD (n + k) s.2) u.Effects.length (s0 := ((0 : Int), t.Objects)) (Q := fun b => b = appT u t.Objects) ⟨rfl, rfl, h⟩ ?_ ?_
    · obtain ⟨b, e1, rfl⟩ := key
      exact e1
    · rintro k ⟨i, o⟩ hk ⟨hi, ho, hg⟩
      dsimp only at hi ho hg
      subst hi
      have hek := he _ (List.getElem_mem hk)
      refine ⟨(((k + 1 : Nat) : Int), effT u o u.Effects[k]), ?_, rfl, ?_, eff_GD (n := n + k) hg (by omega) hek⟩
      · unfold esref32_Apply.l1
        simp only [lt_of_len hk, if_true, idx_nat hk, Option.bind_some]
        rw [r32_eff_eq hg (by omega) hek, Option.bind_some, letV_of, wcast hk (by omega)]
      · show effT u o u.Effects[k] = _
        rw [ho, take_snoc hk, List.foldl_append]
        rfl
    · rintro ⟨i, o⟩ ⟨hi, ho, hg⟩
      dsimp only at hi ho hg
      subst hi
      rw [List.take_length] at ho
      refine ⟨o, ?_, ho⟩
      unfold esref32_Apply.l1
      simp only [not_lt_len, Bool.false_eq_true, if_false]
  rw [this]
  rfl
end Go.Proofs.Ytlbcfjblpopcnaa
set_option linter.unusedVariables false
set_option linter.unusedSimpArgs false
namespace Go.Proofs.Ytlbcfjblpopcnaa
open Go Go.Proofs.YtlbcfjblpopcnaaL
def Ev {α : Type} (P : α → Prop) (o : Option α) : Prop := ∀ a, o = some a → P a
theorem Ev.some {α : Type} {P : α → Prop} {x : α} (h : P x) : Ev P (some x) := fun a e => by injection e with e; rwa [← e]
theorem Ev.none {α : Type} {P : α → Prop} : Ev P none := fun a e => by cases e
theorem VE_ex (e : api_Effect) : ∃ r, esref14_ValidateEffect e = some r ∧ (r = 0 → EF e) := by
  have j1 : ∀ b, ∃ r, esref14_ValidateEffect.j1 b = some r := by
    intro b; unfold esref14_ValidateEffect.j1; split <;> exact ⟨_, rfl⟩
  have j2 : ∀ b, ∃ r, esref14_ValidateEffect.j2 e b = some r := by
    intro b; unfold esref14_ValidateEffect.j2
    split
    · exact ⟨_, rfl⟩
    · split
      · exact j1 _
      · split
        · exact j1 _
        · split <;> exact j1 _
  have j3 : ∀ b, ∃ r, esref14_ValidateEffect.j3 e b = some r := by
    intro b; unfold esref14_ValidateEffect.j3
    split
    · exact ⟨_, rfl⟩
    · split
      · exact j2 _
      · split <;> exact j2 _
  have j4 : ∀ b, ∃ r, esref14_ValidateEffect.j4 e b = some r ∧ (r = 0 → b = false) := by
    intro b; unfold esref14_ValidateEffect.j4
    cases b with
    | true => exact ⟨3, rfl, fun h => absurd h (by decide)⟩
    | false =>
      rw [if_neg (by simp)]
      split
      · split
        · obtain ⟨r, h⟩ := j3 true; exact ⟨r, h, fun _ => rfl⟩
        · obtain ⟨r, h⟩ := j3 (decide (1000000 < e.N)); exact ⟨r, h, fun _ => rfl⟩
      · obtain ⟨r, h⟩ := j3 false; exact ⟨r, h, fun _ => rfl⟩
  have j5 : ∀ b, ∃ r, esref14_ValidateEffect.j5 e b = some r ∧ (r = 0 → EF e) := by
    intro b; unfold esref14_ValidateEffect.j5
    cases b with
    | true => exact ⟨2, rfl, fun h => absurd h (by decide)⟩
    | false =>
      rw [if_neg (by simp)]
      by_cases h1 : (16 : Int) < (e.Object.length : Int)
      · rw [if_pos (by simpa using h1)]
        obtain ⟨r, h, h2⟩ := j4 true; exact ⟨r, h, fun h0 => by have := h2 h0; cases this⟩
      · rw [if_neg (by simpa using h1)]
        by_cases h2 : (16 : Int) < (e.Field.length : Int)
        · rw [if_pos (by simpa using h2)]
          obtain ⟨r, h, h2⟩ := j4 true; exact ⟨r, h, fun h0 => by have := h2 h0; cases this⟩
        · rw [if_neg (by simpa using h2)]
          obtain ⟨r, h, h3⟩ := j4 (decide ((32 : Int) < (e.S.length : Int)))
          refine ⟨r, h, fun h0 => ⟨by omega, by omega, ?_⟩⟩
          have := h3 h0
          have : ¬ (32 : Int) < (e.S.length : Int) := by simpa using this
          omega
  have j6 : ∀ b, ∃ r, esref14_ValidateEffect.j6 e b = some r ∧ (r = 0 → EF e) := by
    intro b; unfold esref14_ValidateEffect.j6
    cases b with
    | true => exact ⟨10, rfl, fun h => absurd h (by decide)⟩
    | false =>
      rw [if_neg (by simp)]
      split <;> exact j5 _
  unfold esref14_ValidateEffect
  split <;> exact j6 _
theorem Commutes_ex {u : api_Update} (hl : u.Effects.length ≤ 4) : ∃ b, esref14_Commutes u = some b := by
  unfold esref14_Commutes
  have key : ∃ b, loopO (esref14_Commutes.l1 u) 0 = some b ∧ True := by
    refine loopO_ex (fun k s => s = (k : Int)) u.Effects.length rfl ?_ ?_
    · rintro k s hk rfl
      unfold esref14_Commutes.l1
      simp only [lt_of_len hk, if_true, idx_nat hk, Option.bind_some]
      split
      · exact .inr ⟨_, rfl, trivial⟩
      · rw [letV_of, wcast hk (by omega)]
        exact .inl ⟨_, rfl, rfl⟩
    · rintro s rfl
      unfold esref14_Commutes.l1
      simp only [not_lt_len, Bool.false_eq_true, if_false]
      exact ⟨_, rfl, trivial⟩
  obtain ⟨b, e, _⟩ := key
  rw [e, Option.bind_some]
  cases b <;> exact ⟨_, rfl⟩
structure VU (u : api_Update) : Prop where
  len : u.Effects.length ≤ 4
  ef : ∀ e ∈ u.Effects, EF e
theorem VU_ex (u : api_Update) : ∃ r, esref14_ValidateUpdate u = some r ∧ (r = 0 → VU u) := by
  have j1 : ∀ b, ∃ r, esref14_ValidateUpdate.j1 b = some r := by
    intro b; unfold esref14_ValidateUpdate.j1; split <;> exact ⟨_, rfl⟩
  have j2 : u.Effects.length ≤ 4 → ∃ r, esref14_ValidateUpdate.j2 u = some r := by
    intro hl
    unfold esref14_ValidateUpdate.j2
    obtain ⟨b, hb⟩ := Commutes_ex hl
    rw [hb, Option.bind_some]
    split
    · split
      · exact j1 _
      · rw [Option.bind_some]
        split <;> exact j1 _
    · rw [Option.bind_some]
      split <;> exact j1 _
  have j3 : ∀ b, ∃ r, esref14_ValidateUpdate.j3 u b = some r ∧ (r = 0 → VU u) := by
    intro b; unfold esref14_ValidateUpdate.j3
    cases b with
    | true => exact ⟨9, rfl, fun h => absurd h (by decide)⟩
    | false =>
      rw [if_neg (by simp)]
      split
      · exact ⟨2, rfl, fun h => absurd h (by decide)⟩
      · by_cases h4 : (4 : Int) < (u.Effects.length : Int)
        · rw [if_pos (by simpa using h4)]
          exact ⟨3, rfl, fun h => absurd h (by decide)⟩
        · rw [if_neg (by simpa using h4)]
          have hl : u.Effects.length ≤ 4 := by omega
          have key : ∃ b, loopO (esref14_ValidateUpdate.l1 u) 0 = some b ∧ (match b with | .inl _ => VU u | .inr r => r ≠ 0) := by
            refine loopO_ex (fun k s => s = (k : Int) ∧ ∀ i, i < k → (h : i < u.Effects.length) → EF u.Effects[i]) u.Effects.length ⟨rfl, fun i h => absurd h (by omega)⟩ ?_ ?_
            · rintro k s hk ⟨rfl, hi⟩
              unfold esref14_ValidateUpdate.l1
              simp only [lt_of_len hk, if_true, idx_nat hk, Option.bind_some]
              obtain ⟨r, hr, hr0⟩ := VE_ex u.Effects[k]
              rw [hr, Option.bind_some]
              by_cases h0 : r = 0
              · rw [if_neg (by simp [h0]), letV_of, wcast hk (by omega)]
                refine .inl ⟨_, rfl, rfl, fun i h1 h2 => ?_⟩
                by_cases he : i = k
                · subst he; exact hr0 h0
                · exact hi i (by omega) h2
              · rw [if_pos (by simpa using h0)]
                exact .inr ⟨_, rfl, h0⟩
            · rintro s ⟨rfl, hi⟩
              unfold esref14_ValidateUpdate.l1
              simp only [not_lt_len, Bool.false_eq_true, if_false]
              refine ⟨_, rfl, hl, fun e he => ?_⟩
              obtain ⟨i, h1, rfl⟩ := List.getElem_of_mem he
              exact hi i h1 h1
          obtain ⟨b, e, hb⟩ := key
          rw [e, Option.bind_some]
          cases b with
          | inl _ => obtain ⟨r, hr⟩ := j2 hl; exact ⟨r, hr, fun _ => hb⟩
          | inr r => exact ⟨r, rfl, fun h => absurd h hb⟩
  unfold esref14_ValidateUpdate
  have hc : ∃ b, esref06_Client u.Client = some b := by unfold esref06_Client esref06_Client.j1; split <;> exact ⟨_, rfl⟩
  obtain ⟨b, hb⟩ := hc
  rw [hb, Option.bind_some]
  split
  · exact j3 _
  · split
    · exact j3 _
    · split
      · exact j3 _
      · split <;> exact j3 _
theorem foldApply_true (x1 : List Int) (x4 : api_Update) : eslaw30_FoldApply x1 x4 = some true := by
  unfold eslaw30_FoldApply
  obtain ⟨r, hr, hr0⟩ := VU_ex x4
  rw [hr, Option.bind_some]
  by_cases h0 : r = 0
  · have hv := hr0 h0
    have hvl := hv.len
    rw [if_neg (by simp [h0])]
    obtain ⟨s, e1, h1⟩ := Updates_ex x1
    obtain ⟨e3, g⟩ := made_fold h1
    obtain ⟨e4, g4⟩ := Apply_eq (t := ⟨foldT s []⟩) (u := x4) g hv.ef (by omega)
    have e5 := rApply_eq (t := ⟨foldT s []⟩) (u := x4) g hv.ef (by omega)
    rw [e1, Option.bind_some, e3, Option.bind_some, rCopy_eq (t := ⟨foldT s []⟩) g (by decide), Option.bind_some, e4, Option.bind_some, e5, Option.bind_some, rEqual_refl (t := ⟨appT x4 (foldT s [])⟩) g4 (by omega), Option.bind_some, if_pos rfl, rEqual_refl (t := ⟨foldT s []⟩) g (by decide), Option.bind_some, if_pos rfl, awake_true]
    rfl
  · rw [if_pos (by simpa using h0), awake_true]
    rfl
end Go.Proofs.Ytlbcfjblpopcnaa
