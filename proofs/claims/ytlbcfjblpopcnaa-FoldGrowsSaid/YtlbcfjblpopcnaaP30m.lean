/- Plain laws: FoldGrows. -/
import Derived.Test.YtlbcfjblpopcnaaP30l
set_option linter.unusedVariables false
set_option linter.unusedSimpArgs false
namespace Go.Proofs.Ytlbcfjblpopcnaa
open Go Go.Proofs.YtlbcfjblpopcnaaL
/-- Registers by their numbers. -/
def erS (a b : fold_Register) : Bool := decide (a.Tag < b.Tag ∨ a.Tag = b.Tag ∧ (a.Client < b.Client ∨ a.Client = b.Client ∧ a.Seq < b.Seq))
theorem earlier_eq (a b : fold_Register) : eslaw30_earlier a b = some (erS a b) := by
  unfold eslaw30_earlier erS eslaw30_earlier.j1
  by_cases h1 : a.Tag < b.Tag
  · simp [h1]
  · by_cases h2 : a.Tag = b.Tag
    · by_cases h3 : a.Client < b.Client
      · simp [h2, h3]
      · by_cases h4 : a.Client = b.Client
        · simp [h2, h4]
        · simp [h2, h3, h4]
    · simp [h1, h2]
/-- A field that is not less. -/
structure FLe (x y : fold_Field) : Prop where
  max : x.HasMax = true → y.HasMax = true ∧ x.Max ≤ y.Max
  flag : x.Flag = true → y.Flag = true
  reg : x.Register.Set = true → y.Register.Set = true ∧ erS y.Register x.Register = false
  els : ∀ s ∈ x.Elems, s ∈ y.Elems
theorem erS_irrefl (a : fold_Register) : erS a a = false := by
  unfold erS
  simp
theorem erS_trans {a b c : fold_Register} (h : erS b a = false) (k : erS c b = false) : erS c a = false := by
  unfold erS at *
  rw [decide_eq_false_iff_not] at *
  omega
theorem FLe.refl (x : fold_Field) : FLe x x := ⟨fun h => ⟨h, Int.le_refl _⟩, fun h => h, fun h => ⟨h, erS_irrefl _⟩, fun s h => h⟩
theorem FLe.trans {x y z : fold_Field} (h : FLe x y) (k : FLe y z) : FLe x z :=
  ⟨fun q => ⟨(k.max (h.max q).1).1, Int.le_trans (h.max q).2 (k.max (h.max q).1).2⟩, fun q => k.flag (h.flag q), fun q => ⟨(k.reg (h.reg q).1).1, erS_trans (h.reg q).2 (k.reg (h.reg q).1).2⟩, fun s q => k.els s (h.els s q)⟩
theorem FLe_upd (u : api_Update) (e : api_Effect) (x : fold_Field) : FLe x (updF u e x) := by
  rw [updF_parts]
  refine ⟨fun h => ?_, fun h => ?_, fun h => ?_, fun s h => ?_⟩
  · show (mxS e (x.HasMax, x.Max)).1 = true ∧ x.Max ≤ (mxS e (x.HasMax, x.Max)).2
    unfold mxS
    rw [h]
    split
    · by_cases hc : x.Max < e.N
      · simp [hc]; omega
      · simp [hc]
    · exact ⟨rfl, Int.le_refl _⟩
  · show flS e x.Flag = true
    unfold flS
    rw [h]
    split <;> rfl
  · show (rgS u e x.Register).Set = true ∧ erS (rgS u e x.Register) x.Register = false
    unfold rgS
    split
    · split
      · rename_i _ hn
        refine ⟨rfl, ?_⟩
        unfold newerS at hn
        rw [h] at hn
        simp only [Bool.not_true, Bool.false_or, decide_eq_true_eq] at hn
        unfold erS
        rw [decide_eq_false_iff_not]
        simp only
        omega
      · exact ⟨h, erS_irrefl _⟩
    · exact ⟨h, erS_irrefl _⟩
  · show s ∈ elS e x.Elems
    unfold elS
    split
    · exact insS_mem_iff.2 (.inr h)
    · exact h
theorem grow_eff {u : api_Update} {objs : List fold_Object} (h : SO objs) (e : api_Effect) {k f : List UInt8} {x : fold_Field} (hx : fa objs k f = some x) : ∃ y, fa (effT u objs e) k f = some y ∧ FLe x y := by
  rw [fa_eff h]
  by_cases hm : e.Object = k ∧ e.Field = f
  · rw [if_pos hm, hx]
    refine ⟨_, rfl, ?_⟩
    unfold inFld
    have hn : ({ (some x).getD fold_zero with Name := e.Field } : fold_Field) = x := by
      have := fa_name hx
      rw [hm.2, ← this]
      rfl
    rw [hn]
    exact FLe_upd u e x
  · rw [if_neg hm, hx]
    exact ⟨x, rfl, FLe.refl x⟩
theorem grow_effs {u : api_Update} {k f : List UInt8} : ∀ (es : List api_Effect) {objs : List fold_Object} {x : fold_Field}, SO objs → fa objs k f = some x → ∃ y, fa (es.foldl (effT u) objs) k f = some y ∧ FLe x y
  | [], _, x, _, hx => ⟨x, hx, FLe.refl x⟩
  | e :: es, _, _, h, hx => by
    obtain ⟨y, hy, h1⟩ := grow_eff (u := u) h e hx
    obtain ⟨z, hz, h2⟩ := grow_effs es (SO_eff h e) hy
    exact ⟨z, hz, h1.trans h2⟩
theorem grow_fold {k f : List UInt8} : ∀ (s : List api_Update) {objs : List fold_Object} {x : fold_Field}, SO objs → fa objs k f = some x → ∃ y, fa (foldT s objs) k f = some y ∧ FLe x y
  | [], _, x, _, hx => ⟨x, hx, FLe.refl x⟩
  | u :: s, _, _, h, hx => by
    obtain ⟨y, hy, h1⟩ := grow_effs (u := u) u.Effects h hx
    obtain ⟨z, hz, h2⟩ := grow_fold s (SO_appT u h) hy
    exact ⟨z, hz, h1.trans h2⟩
theorem filter_perm {α : Type} (p : α → Bool) : ∀ s : List α, (s.filter p ++ s.filter fun u => !p u).Perm s
  | [] => .refl _
  | u :: s => by
    have ih := filter_perm p s
    rw [List.filter_cons, List.filter_cons]
    cases p u with
    | true => simp only [if_true, Bool.not_true, Bool.false_eq_true, if_false, List.cons_append]; exact ih.cons u
    | false => simp only [if_true, Bool.not_false, Bool.false_eq_true, if_false]; exact List.perm_middle.trans (ih.cons u)
theorem has_eq {l : List (List UInt8)} (hl : l.length ≤ 1000000) {s : List UInt8} (hs : s ∈ l) : esref32_Has l s = some true := by
  unfold esref32_Has
  have key : loopO (esref32_Has.l1 l s) 0 = some (.inr true) := by
    have h1 := loopO_runL (step := esref32_Has.l1 l s) (fun i (_ : Unit) => (i : Int)) (fun _ v (_ : Unit) => if (v == s) = true then some (.inr (.inr true)) else some (.inl ())) (fun _ => some (.inl ())) l (fun i hi _ => ?_) (fun _ => ?_) ()
    · have h2 : ∀ (l : List (List UInt8)) (i : Nat), s ∈ l → runL (fun _ (v : List UInt8) (_ : Unit) => if (v == s) = true then some (.inr (.inr true : Unit ⊕ Bool)) else some (.inl ())) (fun _ => some (.inl ())) i l () = some (.inr true) := by
        intro l
        induction l with
        | nil => intro i h; simp at h
        | cons v l ih =>
          intro i h
          rw [runL]
          cases hc : (v == s) with
          | true => rfl
          | false =>
            simp only [Bool.false_eq_true, if_false]
            rcases List.mem_cons.1 h with rfl | h
            · simp at hc
            · exact ih _ h
      rw [← h2 l 0 hs]
      exact h1
    · unfold esref32_Has.l1
      simp only [lt_of_len hi, if_true, idx_nat hi, Option.bind_some]
      cases h1 : (l[i] == s) with
      | true => rfl
      | false => simp only [Bool.false_eq_true, if_false, letV_of, wcast hi (by omega)]
    · unfold esref32_Has.l1
      simp only [not_lt_len, Bool.false_eq_true, if_false]
      rfl
  rw [key]
  rfl
theorem foldGrows_true (x1 : List Int) (x4 : Int) : eslaw30_FoldGrows x1 x4 = some true := by
  unfold eslaw30_FoldGrows
  obtain ⟨s, e1, h1⟩ := Updates_ex x1
  obtain ⟨p, e2⟩ := Some_ex h1 x4
  have hsub := US_sub h1 (List.filter_sublist (p := p))
  obtain ⟨e3, ga⟩ := made_fold hsub
  obtain ⟨e4, gb⟩ := made_fold h1
  rw [e1, Option.bind_some, e2, Option.bind_some, e3, Option.bind_some, e4, Option.bind_some]
  have grows : ∀ k f x, fa (foldT (s.filter p) []) k f = some x → ∃ y, fa (foldT s []) k f = some y ∧ FLe x y := by
    intro k f x hx
    have hp := filter_perm p s
    have e : foldT s [] = foldT (s.filter fun u => !p u) (foldT (s.filter p) []) := by
      rw [← foldT_append]
      exact (fold_perm hp (fun u hu v hv => ult_ids h1.asc u (hp.mem_iff.1 hu) v (hp.mem_iff.1 hv)) SO_nil).symm
    rw [e]
    exact grow_fold _ (SO_foldT _ SO_nil) hx
  obtain ⟨A, hA⟩ : ∃ A, A = foldT (s.filter p) [] := ⟨_, rfl⟩
  obtain ⟨B, hB⟩ : ∃ B, B = foldT s [] := ⟨_, rfl⟩
  rw [← hA] at ga grows ⊢
  rw [← hB] at gb grows ⊢
  have hAl := ga.len
  have key : loopO (eslaw30_FoldGrows.l3 ⟨A⟩ ⟨B⟩) ((0 : Nat) : Int) = some (.inl ()) := by
    refine loopO_up (fun k => (k : Int)) A.length (fun k hk => ?_) ?_
    · have hm := List.getElem_mem hk
      have hfl := ga.flen _ hm
      unfold eslaw30_FoldGrows.l3
      simp only [lt_of_len hk, if_true, idx_nat hk, Option.bind_some]
      obtain ⟨o, ho⟩ : ∃ o, o = A[k] := ⟨_, rfl⟩
      rw [← ho] at hm hfl ⊢
      obtain ⟨ob, hob, _⟩ := findField_eq (t := ⟨B⟩) gb (by decide) o.Name []
      rw [hob, Option.bind_some]
      have inner : loopO (eslaw30_FoldGrows.l2 o ob) ((0 : Nat) : Int) = some (.inl ()) := by
        refine loopO_up (fun k => (k : Int)) o.Fields.length (fun j hj => ?_) ?_
        · have hmf := List.getElem_mem hj
          have hgf := ga.good _ hm _ hmf
          unfold eslaw30_FoldGrows.l2
          simp only [lt_of_len hj, if_true, idx_nat hj, Option.bind_some]
          obtain ⟨x, hx⟩ : ∃ x, x = o.Fields[j] := ⟨_, rfl⟩
          rw [← hx] at hmf hgf ⊢
          obtain ⟨y, hy, hle⟩ := grows _ _ _ (fa_of ga hm hmf)
          obtain ⟨ob2, hob2, hfo, _⟩ := findField_eq (t := ⟨B⟩) gb (by decide) o.Name x.Name
          have : ob2 = ob := by
            rw [hob] at hob2
            exact (Option.some.inj hob2).symm
          subst this
          rw [hfo, show fa (⟨B⟩ : fold_Store).Objects o.Name x.Name = some y from hy, Option.getD_some, Option.bind_some]
          have gy : GF 100 y := by
            have : ∃ ob ∈ B, y ∈ ob.Fields := by
              unfold fa at hy
              cases hg : get ON_ B o.Name with
              | none => rw [hg] at hy; cases hy
              | some q => rw [hg] at hy; exact ⟨q, get_mem hg, get_mem hy⟩
            obtain ⟨q, hq1, hq2⟩ := this
            exact gb.good _ hq1 _ hq2
          have hel := hgf.len
          have inner2 : loopO (eslaw30_FoldGrows.l1 x y) ((0 : Nat) : Int) = some (.inl ()) := by
            refine loopO_up (fun k => (k : Int)) x.Elems.length (fun q hq => ?_) ?_
            · unfold eslaw30_FoldGrows.l1
              simp only [lt_of_len hq, if_true, idx_nat hq, Option.bind_some]
              rw [has_eq (by have := gy.len; omega) (hle.els _ (List.getElem_mem hq)), Option.bind_some, if_neg (by simp), letV_of, wcast hq (by omega)]
            · unfold eslaw30_FoldGrows.l1
              simp only [not_lt_len, Bool.false_eq_true, if_false]
          have hj4 : eslaw30_FoldGrows.j4 (j : Int) x y false = some (.inl ((j + 1 : Nat) : Int)) := by
            unfold eslaw30_FoldGrows.j4
            have inner2 : loopO (eslaw30_FoldGrows.l1 x y) 0 = some (.inl ()) := inner2
            rw [if_neg (by simp), inner2, Option.bind_some]
            show eslaw30_FoldGrows.j3 (j : Int) = _
            unfold eslaw30_FoldGrows.j3
            rw [letV_of, wcast hj (by omega)]
          have hreg : (if x.Register.Set = true then (if (!y.Register.Set) = true then eslaw30_FoldGrows.j4 (j : Int) x y true else ((eslaw30_earlier y.Register x.Register).bind fun r => eslaw30_FoldGrows.j4 (j : Int) x y r)) else eslaw30_FoldGrows.j4 (j : Int) x y false) = some (.inl ((j + 1 : Nat) : Int)) := by
            cases hr : x.Register.Set with
            | false => simp only [Bool.false_eq_true, if_false]; exact hj4
            | true =>
              obtain ⟨h1, h2⟩ := hle.reg hr
              simp only [h1, Bool.not_true, Bool.false_eq_true, if_false, if_true, earlier_eq, Option.bind_some, h2]
              exact hj4
          have hflag : (if x.Flag = true then (if (!y.Flag) = true then eslaw30_FoldGrows.j4 (j : Int) x y true else (if x.Register.Set = true then (if (!y.Register.Set) = true then eslaw30_FoldGrows.j4 (j : Int) x y true else ((eslaw30_earlier y.Register x.Register).bind fun r => eslaw30_FoldGrows.j4 (j : Int) x y r)) else eslaw30_FoldGrows.j4 (j : Int) x y false)) else (if x.Register.Set = true then (if (!y.Register.Set) = true then eslaw30_FoldGrows.j4 (j : Int) x y true else ((eslaw30_earlier y.Register x.Register).bind fun r => eslaw30_FoldGrows.j4 (j : Int) x y r)) else eslaw30_FoldGrows.j4 (j : Int) x y false)) = some (.inl ((j + 1 : Nat) : Int)) := by
            cases hf : x.Flag with
            | false => simp only [Bool.false_eq_true, if_false]; exact hreg
            | true =>
              have h1 := hle.flag hf
              simp only [h1, Bool.not_true, Bool.false_eq_true, if_false, if_true]
              exact hreg
          cases hmx : x.HasMax with
          | false => simp only [Bool.false_eq_true, if_false]; exact hflag
          | true =>
            obtain ⟨h1, h2⟩ := hle.max hmx
            have h3 : decide (y.Max < x.Max) = false := by
              rw [decide_eq_false_iff_not]; omega
            simp only [h1, h3, Bool.not_true, Bool.false_eq_true, if_false, if_true]
            exact hflag
        · unfold eslaw30_FoldGrows.l2
          simp only [not_lt_len, Bool.false_eq_true, if_false]
      have inner : loopO (eslaw30_FoldGrows.l2 o ob) 0 = some (.inl ()) := inner
      rw [inner, Option.bind_some]
      show eslaw30_FoldGrows.j2 (k : Int) = _
      unfold eslaw30_FoldGrows.j2
      rw [letV_of, wcast hk (by omega)]
    · unfold eslaw30_FoldGrows.l3
      simp only [not_lt_len, Bool.false_eq_true, if_false]
  have key : loopO (eslaw30_FoldGrows.l3 ⟨A⟩ ⟨B⟩) 0 = some (.inl ()) := key
  rw [key, Option.bind_some]
  show eslaw30_FoldGrows.j1 = _
  unfold eslaw30_FoldGrows.j1
  rw [awake_true]
  rfl
end Go.Proofs.Ytlbcfjblpopcnaa
