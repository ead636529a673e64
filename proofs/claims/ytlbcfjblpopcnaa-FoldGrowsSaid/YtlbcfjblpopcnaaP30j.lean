/- Plain laws: updates may come in any order. -/
import Derived.Test.YtlbcfjblpopcnaaP30i
set_option linter.unusedVariables false
set_option linter.unusedSimpArgs false
namespace Go.Proofs.Ytlbcfjblpopcnaa
open Go Go.Proofs.YtlbcfjblpopcnaaL
/-! One effect, by the field's parts. -/
def rgS (u : api_Update) (e : api_Effect) (r : fold_Register) : fold_Register := if e.Kind = 1 then (if newerS u r then ⟨true, u.Tag, u.Client, u.Seq, e.N, e.S⟩ else r) else r
def mxS (e : api_Effect) (m : Bool × Int) : Bool × Int := if e.Kind = 2 then (if !m.1 || decide (m.2 < e.N) then (true, e.N) else m) else m
def smS (e : api_Effect) (s : Int) : Int := if e.Kind = 3 then IntKind.i64.wrap (s + e.N) else s
def elS (e : api_Effect) (l : List (List UInt8)) : List (List UInt8) := if e.Kind = 4 then insS l e.S else l
def flS (e : api_Effect) (b : Bool) : Bool := if e.Kind = 5 then true else b
theorem updF_parts (u : api_Update) (e : api_Effect) (f : fold_Field) : updF u e f = ⟨f.Name, rgS u e f.Register, (mxS e (f.HasMax, f.Max)).1, (mxS e (f.HasMax, f.Max)).2, smS e f.Sum, elS e f.Elems, flS e f.Flag⟩ := by
  unfold updF rgS mxS smS elS flS
  by_cases h1 : e.Kind = 1
  · simp only [h1, if_true, (by decide : ¬ (1 : Int) = 2), (by decide : ¬ (1 : Int) = 3), (by decide : ¬ (1 : Int) = 4), (by decide : ¬ (1 : Int) = 5), if_false]
    split <;> rfl
  · by_cases h2 : e.Kind = 2
    · simp only [h2, if_true, (by decide : ¬ (2 : Int) = 1), (by decide : ¬ (2 : Int) = 3), (by decide : ¬ (2 : Int) = 4), (by decide : ¬ (2 : Int) = 5), if_false]
      split <;> rfl
    · by_cases h3 : e.Kind = 3
      · simp only [h3, if_true, (by decide : ¬ (3 : Int) = 1), (by decide : ¬ (3 : Int) = 2), (by decide : ¬ (3 : Int) = 4), (by decide : ¬ (3 : Int) = 5), if_false]
      · by_cases h4 : e.Kind = 4
        · simp only [h4, if_true, (by decide : ¬ (4 : Int) = 1), (by decide : ¬ (4 : Int) = 2), (by decide : ¬ (4 : Int) = 3), (by decide : ¬ (4 : Int) = 5), if_false]
        · by_cases h5 : e.Kind = 5
          · simp only [h5, if_true, (by decide : ¬ (5 : Int) = 1), (by decide : ¬ (5 : Int) = 2), (by decide : ¬ (5 : Int) = 3), (by decide : ¬ (5 : Int) = 4), if_false]
          · simp only [h1, h2, h3, h4, h5, if_false]
/-- Identifiers that differ. -/
def idne (u v : api_Update) : Prop := u.Client ≠ v.Client ∨ u.Seq ≠ v.Seq
theorem rg_comm {u v : api_Update} (h : idne u v) (e e' : api_Effect) (r : fold_Register) : rgS v e' (rgS u e r) = rgS u e (rgS v e' r) := by
  unfold rgS
  by_cases h1 : e.Kind = 1
  · by_cases h2 : e'.Kind = 1
    · simp only [h1, h2, if_true]
      unfold idne at h
      unfold newerS
      cases hs : r.Set <;> simp only [Bool.not_true, Bool.not_false, Bool.true_or, Bool.false_or, if_true, decide_eq_true_eq] <;> grind
    · simp only [h2, if_false]
  · simp only [h1, if_false]
theorem mx_comm (e e' : api_Effect) (m : Bool × Int) : mxS e' (mxS e m) = mxS e (mxS e' m) := by
  obtain ⟨b, x⟩ := m
  unfold mxS
  by_cases h1 : e.Kind = 2
  · by_cases h2 : e'.Kind = 2
    · simp only [h1, h2, if_true]
      cases b <;> simp only [Bool.not_true, Bool.not_false, Bool.true_or, Bool.false_or, if_true, decide_eq_true_eq] <;> grind
    · simp only [h2, if_false]
  · simp only [h1, if_false]
theorem wadd (a b : Int) : IntKind.i64.wrap (IntKind.i64.wrap a + b) = IntKind.i64.wrap (a + b) := by
  simp only [IntKind.wrap, IntKind.bits, IntKind.signed]
  simp
  split <;> split <;> split <;> omega
theorem sm_comm (e e' : api_Effect) (s : Int) : smS e' (smS e s) = smS e (smS e' s) := by
  unfold smS
  by_cases h1 : e.Kind = 3
  · by_cases h2 : e'.Kind = 3
    · simp only [h1, h2, if_true]
      rw [wadd, wadd, show s + e.N + e'.N = s + e'.N + e.N by omega]
    · simp only [h2, if_false]
  · simp only [h1, if_false]
theorem insS_mem_iff : ∀ {l : List (List UInt8)} {s x : List UInt8}, x ∈ insS l s ↔ x = s ∨ x ∈ l
  | [], s, x => by simp [insS]
  | a :: l, s, x => by
    unfold insS
    split
    · rw [List.mem_cons, insS_mem_iff, List.mem_cons]
      constructor
      · rintro (h | h | h)
        · exact .inr (.inl h)
        · exact .inl h
        · exact .inr (.inr h)
      · rintro (h | h | h)
        · exact .inr (.inl h)
        · exact .inl h
        · exact .inr (.inr h)
    · split
      · rename_i _ h
        have : a = s := by simpa using h
        subst this
        simp
      · simp
theorem asc_ext : ∀ {l l' : List (List UInt8)}, Asc l → Asc l' → (∀ x, x ∈ l ↔ x ∈ l') → l = l' := by
  intro l l' h h' he
  have h1 : SA (fun x : List UInt8 => x) l := h
  have h2 : SA (fun x : List UInt8 => x) l' := h'
  refine SA_ext h1 h2 fun k => ?_
  have g : ∀ {m : List (List UInt8)}, get (fun x : List UInt8 => x) m k = if k ∈ m then some k else none := by
    intro m
    cases hg : get (fun x : List UInt8 => x) m k with
    | some a =>
      have e := get_key hg
      have hm := get_mem hg
      have e : a = k := e
      rw [e] at hm ⊢
      rw [if_pos hm]
    | none =>
      by_cases hm : k ∈ m
      · have : (get (fun x : List UInt8 => x) m k).isSome = true := get_some_iff.2 ⟨k, hm, rfl⟩
        rw [hg] at this
        cases this
      · rw [if_neg hm]
  rw [g, g]
  by_cases hk : k ∈ l
  · rw [if_pos hk, if_pos ((he k).1 hk)]
  · rw [if_neg hk, if_neg fun h => hk ((he k).2 h)]
theorem insS_comm {l : List (List UInt8)} (h : Asc l) (a b : List UInt8) : insS (insS l a) b = insS (insS l b) a := by
  refine asc_ext (insS_asc (insS_asc h)) (insS_asc (insS_asc h)) fun x => ?_
  rw [insS_mem_iff, insS_mem_iff, insS_mem_iff, insS_mem_iff]
  constructor
  · rintro (h | h | h)
    · exact .inr (.inl h)
    · exact .inl h
    · exact .inr (.inr h)
  · rintro (h | h | h)
    · exact .inr (.inl h)
    · exact .inl h
    · exact .inr (.inr h)
theorem el_comm (e e' : api_Effect) {l : List (List UInt8)} (h : Asc l) : elS e' (elS e l) = elS e (elS e' l) := by
  unfold elS
  by_cases h1 : e.Kind = 4
  · by_cases h2 : e'.Kind = 4
    · simp only [h1, h2, if_true]
      exact insS_comm h _ _
    · simp only [h2, if_false]
  · simp only [h1, if_false]
theorem fl_comm (e e' : api_Effect) (b : Bool) : flS e' (flS e b) = flS e (flS e' b) := by
  unfold flS
  split <;> split <;> rfl
theorem updF_comm {u v : api_Update} (h : idne u v) (e e' : api_Effect) {f : fold_Field} (ha : Asc f.Elems) : updF v e' (updF u e f) = updF u e (updF v e' f) := by
  rw [updF_parts u e f, updF_parts v e', updF_parts v e' f, updF_parts u e]
  have hm := mx_comm e e' (f.HasMax, f.Max)
  simp only [rg_comm h e e', sm_comm e e', el_comm e e' ha, fl_comm e e', hm]
theorem updF_asc {u : api_Update} {e : api_Effect} {f : fold_Field} (h : Asc f.Elems) : Asc (updF u e f).Elems := by
  rw [updF_parts]
  show Asc (elS e f.Elems)
  unfold elS
  split
  · exact insS_asc h
  · exact h
/-- Objects that ascend, with fields and elements that ascend. -/
def SO (objs : List fold_Object) : Prop := SA ON_ objs ∧ ∀ o ∈ objs, SA FN_ o.Fields ∧ ∀ y ∈ o.Fields, Asc y.Elems
theorem GD.so {n : Nat} {objs : List fold_Object} (h : GD n objs) : SO objs := ⟨h.asc, fun o ho => ⟨h.fasc o ho, fun y hy => (h.good o ho y hy).asc⟩⟩
theorem fields_ok {objs : List fold_Object} (h : SO objs) (k : List UInt8) : SA FN_ (((get ON_ objs k).map (·.Fields)).getD []) ∧ ∀ y ∈ ((get ON_ objs k).map (·.Fields)).getD [], Asc y.Elems := by
  cases hg : get ON_ objs k with
  | none => exact ⟨List.Pairwise.nil, by simp⟩
  | some o => exact h.2 o (get_mem hg)
theorem field_ok {l : List fold_Field} (h : ∀ y ∈ l, Asc y.Elems) (k : List UInt8) : Asc ((get FN_ l k).getD fold_zero).Elems := by
  cases hg : get FN_ l k with
  | none => exact List.Pairwise.nil
  | some y => exact h y (get_mem hg)
theorem SO_eff {u : api_Update} {objs : List fold_Object} (h : SO objs) (e : api_Effect) : SO (effT u objs e) := by
  unfold effT
  refine ⟨SA_upd (inObj_key _ _ _) h.1, fun o ho => ?_⟩
  rcases mem_upd h.1 o ho with ho | rfl
  · exact h.2 o ho
  · obtain ⟨h1, h2⟩ := fields_ok h e.Object
    refine ⟨SA_upd (inFld_key u e) h1, fun y hy => ?_⟩
    rcases mem_upd h1 y hy with hy | rfl
    · exact h2 y hy
    · exact updF_asc (show Asc ({ (get FN_ _ e.Field).getD fold_zero with Name := e.Field } : fold_Field).Elems from field_ok h2 e.Field)
theorem inFld_comm {u v : api_Update} (h : idne u v) {e e' : api_Effect} (hf : e.Field = e'.Field) {o : Option fold_Field} (ha : Asc (o.getD fold_zero).Elems) : inFld v e' (some (inFld u e o)) = inFld u e (some (inFld v e' o)) := by
  unfold inFld
  simp only [Option.getD_some]
  have n1 : ∀ (u : api_Update) (e : api_Effect) (f : fold_Field) (k : List UInt8), f.Name = k → ({ updF u e f with Name := k } : fold_Field) = updF u e f := by
    intro u e f k hk
    have := updF_name u e f
    rw [← hk, ← this]
  rw [n1 u e _ e'.Field hf, n1 v e' _ e.Field hf.symm, hf]
  exact updF_comm h e e' ha
theorem eff_comm {u v : api_Update} (h : idne u v) (e e' : api_Effect) {objs : List fold_Object} (ho : SO objs) : effT v (effT u objs e) e' = effT u (effT v objs e') e := by
  unfold effT
  by_cases hk : e.Object = e'.Object
  · rw [← hk]
    rw [upd_upd (inObj_key _ _ _) (inObj_key _ _ _) ho.1, upd_upd (inObj_key _ _ _) (inObj_key _ _ _) ho.1]
    refine upd_congr (g := fun o => inObj e.Object e'.Field (inFld v e') (some (inObj e.Object e.Field (inFld u e) o))) (g' := fun o => inObj e.Object e.Field (inFld u e) (some (inObj e.Object e'.Field (inFld v e') o))) (fun o _ => rfl) ho.1 ?_ (fun o _ => rfl)
    obtain ⟨h1, h2⟩ := fields_ok ho e.Object
    show (⟨e.Object, upd FN_ e'.Field (inFld v e') (upd FN_ e.Field (inFld u e) _)⟩ : fold_Object) = ⟨e.Object, upd FN_ e.Field (inFld u e) (upd FN_ e'.Field (inFld v e') _)⟩
    congr 1
    by_cases hf : e.Field = e'.Field
    · have k' : ∀ o, (∀ a, o = some a → FN_ a = e.Field) → FN_ (inFld v e' o) = e.Field := fun o _ => by rw [hf]; exact updF_name _ _ _
      rw [← hf, upd_upd k' (inFld_key u e) h1, upd_upd (inFld_key u e) k' h1]
      refine upd_congr (fun o _ => k' _ fun a ha => by rw [← Option.some.inj ha]; exact updF_name _ _ _) h1 (inFld_comm h hf (field_ok h2 _)) (fun o _ => updF_name _ _ _)
    · exact upd_comm (inFld_key v e') (inFld_key u e) (fun e => hf e.symm) h1
  · exact upd_comm (inObj_key _ _ _) (inObj_key _ _ _) (fun e => hk e.symm) ho.1
theorem SO_app (u : api_Update) : ∀ (es : List api_Effect) {objs : List fold_Object}, SO objs → SO (es.foldl (effT u) objs)
  | [], _, h => h
  | e :: es, _, h => SO_app u es (SO_eff h e)
theorem effs_comm {u v : api_Update} (h : idne u v) (e : api_Effect) : ∀ (es : List api_Effect) {objs : List fold_Object}, SO objs → es.foldl (effT v) (effT u objs e) = effT u (es.foldl (effT v) objs) e
  | [], _, _ => rfl
  | e' :: es, objs, ho => by
    rw [List.foldl_cons, List.foldl_cons, eff_comm h e e' ho]
    exact effs_comm h e es (SO_eff ho e')
theorem lists_comm {u v : api_Update} (h : idne u v) (fs : List api_Effect) : ∀ (es : List api_Effect) {objs : List fold_Object}, SO objs → fs.foldl (effT v) (es.foldl (effT u) objs) = es.foldl (effT u) (fs.foldl (effT v) objs)
  | [], _, _ => rfl
  | e :: es, objs, ho => by
    rw [List.foldl_cons, List.foldl_cons, lists_comm h fs es (SO_eff ho e), effs_comm h e fs ho]
theorem app_comm {u v : api_Update} (h : idne u v) {objs : List fold_Object} (ho : SO objs) : appT v (appT u objs) = appT u (appT v objs) := lists_comm h v.Effects u.Effects ho
theorem SO_appT (u : api_Update) {objs : List fold_Object} (h : SO objs) : SO (appT u objs) := SO_app u u.Effects h
theorem SO_foldT : ∀ (s : List api_Update) {objs : List fold_Object}, SO objs → SO (foldT s objs)
  | [], _, h => h
  | u :: s, _, h => SO_foldT s (SO_appT u h)
/-- The order does not matter. -/
theorem fold_perm {s t : List api_Update} (hp : s.Perm t) : (∀ u ∈ s, ∀ v ∈ s, u = v ∨ idne u v) → ∀ {objs : List fold_Object}, SO objs → foldT s objs = foldT t objs := by
  induction hp with
  | nil => intro _ _ _; rfl
  | cons u _ ih =>
    intro h objs ho
    exact ih (fun a ha b hb => h a (by simp [ha]) b (by simp [hb])) (SO_appT u ho)
  | swap u v l =>
    intro h objs ho
    show foldT l (appT u (appT v objs)) = foldT l (appT v (appT u objs))
    rcases h u (by simp) v (by simp) with rfl | hne
    · rfl
    · rw [app_comm hne ho]
  | trans h1 h2 ih1 ih2 =>
    intro h objs ho
    rw [ih1 h ho]
    exact ih2 (fun a ha b hb => h a (h1.mem_iff.2 ha) b (h1.mem_iff.2 hb)) ho
theorem ult_ids {s : List api_Update} (h : s.Pairwise ult) : ∀ u ∈ s, ∀ v ∈ s, u = v ∨ idne u v := by
  induction s with
  | nil => intro u hu; simp at hu
  | cons a s ih =>
    have h1 := (List.pairwise_cons.1 h).1
    have h2 := (List.pairwise_cons.1 h).2
    have hne : ∀ b ∈ s, idne a b := fun b hb => by
      have := h1 b hb
      unfold ult at this
      unfold idne
      omega
    intro u hu v hv
    rcases List.mem_cons.1 hu with hu' | hu' <;> rcases List.mem_cons.1 hv with hv' | hv'
    · exact .inl (hu'.trans hv'.symm)
    · rw [hu']; exact .inr (hne v hv')
    · refine .inr ?_
      have := hne u hu'
      rw [hv']
      unfold idne at this ⊢
      omega
    · exact ih h2 u hu' v hv'
theorem foldT_append (s t : List api_Update) (objs : List fold_Object) : foldT (s ++ t) objs = foldT t (foldT s objs) := List.foldl_append
end Go.Proofs.Ytlbcfjblpopcnaa
