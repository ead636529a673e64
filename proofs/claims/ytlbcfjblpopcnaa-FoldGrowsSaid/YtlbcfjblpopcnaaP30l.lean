/- Plain laws: FoldSums and FoldGrows. -/
import Derived.Test.YtlbcfjblpopcnaaP30k
set_option linter.unusedVariables false
set_option linter.unusedSimpArgs false
namespace Go.Proofs.Ytlbcfjblpopcnaa
open Go Go.Proofs.YtlbcfjblpopcnaaL
/-- A field of an object. -/
def fa (objs : List fold_Object) (k f : List UInt8) : Option fold_Field := get FN_ (((get ON_ objs k).map (·.Fields)).getD []) f
theorem fa_eff {u : api_Update} {objs : List fold_Object} (h : SO objs) (e : api_Effect) (k f : List UInt8) : fa (effT u objs e) k f = if e.Object = k ∧ e.Field = f then some (inFld u e (fa objs k f)) else fa objs k f := by
  unfold fa effT
  rw [get_upd (inObj_key _ _ _) k h.1]
  by_cases hk : k = e.Object
  · rw [if_pos hk, hk]
    obtain ⟨h1, _⟩ := fields_ok h e.Object
    show get FN_ (upd FN_ e.Field (inFld u e) (((get ON_ objs e.Object).map (·.Fields)).getD [])) f = _
    rw [get_upd (inFld_key u e) f h1]
    by_cases hf : f = e.Field
    · rw [if_pos hf, if_pos ⟨rfl, hf.symm⟩, hf]
    · rw [if_neg hf, if_neg fun h => hf h.2.symm]
  · rw [if_neg hk, if_neg fun h => hk h.1.symm]
theorem fa_name {objs : List fold_Object} {k f : List UInt8} {x : fold_Field} (h : fa objs k f = some x) : x.Name = f := get_key h
/-- Find, then FieldOf. -/
theorem findField_eq {n : Nat} {t : fold_Store} (g : GD n t.Objects) (hn : n ≤ 1000000) (k f : List UInt8) :
    ∃ o, fold_Find t k = some o ∧ fold_FieldOf o f = some ((fa t.Objects k f).getD { fold_zero with Name := f }) ∧ o.Name = k := by
  refine ⟨_, Find_eq g hn k, ?_, ?_⟩
  · unfold fa
    cases hg : get ON_ t.Objects k with
    | none => exact FieldOf_eq (n := 0) (Nat.le_refl _) (by simp) (by decide) f
    | some o => exact FieldOf_eq (g.flen _ (get_mem hg)) (g.good _ (get_mem hg)) hn f
  · cases hg : get ON_ t.Objects k with
    | none => rfl
    | some o => exact get_key hg
theorem fa_of {n : Nat} {objs : List fold_Object} (g : GD n objs) {o : fold_Object} (ho : o ∈ objs) {x : fold_Field} (hx : x ∈ o.Fields) : fa objs o.Name x.Name = some x := by
  unfold fa
  rw [show get ON_ objs o.Name = some o from get_mem_self g.asc ho]
  exact get_mem_self (g.fasc _ ho) hx
/-! The sums. -/
def addE (k f : List UInt8) (e : api_Effect) : Int := if e.Kind = 3 ∧ e.Object = k ∧ e.Field = f then e.N else 0
def totE (k f : List UInt8) (es : List api_Effect) : Int := (es.map (addE k f)).sum
def totU (k f : List UInt8) (s : List api_Update) : Int := (s.map fun u => totE k f u.Effects).sum
def sm (objs : List fold_Object) (k f : List UInt8) : Int := ((fa objs k f).getD fold_zero).Sum
theorem wwrap (a : Int) : IntKind.i64.wrap (IntKind.i64.wrap a) = IntKind.i64.wrap a := by
  have := wadd a 0
  rwa [Int.add_zero, Int.add_zero] at this
theorem sm_eff {u : api_Update} {objs : List fold_Object} (h : SO objs) (e : api_Effect) (k f : List UInt8) (hr : IntKind.i64.wrap (sm objs k f) = sm objs k f) :
    sm (effT u objs e) k f = IntKind.i64.wrap (sm objs k f + addE k f e) := by
  unfold sm at hr ⊢
  rw [fa_eff h]
  unfold addE
  by_cases hm : e.Object = k ∧ e.Field = f
  · rw [if_pos hm]
    show (inFld u e (fa objs k f)).Sum = _
    unfold inFld
    rw [updF_parts]
    show smS e ((fa objs k f).getD fold_zero).Sum = _
    unfold smS
    by_cases hk : e.Kind = 3
    · rw [if_pos hk, if_pos ⟨hk, hm.1, hm.2⟩]
    · rw [if_neg hk, if_neg fun h => hk h.1, Int.add_zero, hr]
  · rw [if_neg hm, if_neg fun h => hm h.2, Int.add_zero, hr]
theorem sm_effs {u : api_Update} (k f : List UInt8) : ∀ (es : List api_Effect) {objs : List fold_Object}, SO objs → IntKind.i64.wrap (sm objs k f) = sm objs k f →
    sm (es.foldl (effT u) objs) k f = IntKind.i64.wrap (sm objs k f + totE k f es)
  | [], objs, _, hr => by
    show sm objs k f = IntKind.i64.wrap (sm objs k f + 0)
    rw [Int.add_zero, hr]
  | e :: es, objs, h, hr => by
    rw [List.foldl_cons, sm_effs k f es (SO_eff h e) (by rw [sm_eff h e k f hr, wwrap]), sm_eff h e k f hr, wadd]
    unfold totE
    rw [List.map_cons, List.sum_cons, Int.add_assoc]
theorem sm_fold (k f : List UInt8) : ∀ (s : List api_Update) {objs : List fold_Object}, SO objs → IntKind.i64.wrap (sm objs k f) = sm objs k f →
    sm (foldT s objs) k f = IntKind.i64.wrap (sm objs k f + totU k f s)
  | [], objs, _, hr => by
    show sm objs k f = IntKind.i64.wrap (sm objs k f + 0)
    rw [Int.add_zero, hr]
  | u :: s, objs, h, hr => by
    have e1 := sm_effs (u := u) k f u.Effects h hr
    have e2 := sm_fold k f s (objs := appT u objs) (SO_appT u h) (by unfold appT; rw [e1, wwrap])
    show sm (foldT s (appT u objs)) k f = _
    rw [e2]
    unfold appT
    rw [e1, wadd]
    unfold totU
    rw [List.map_cons, List.sum_cons, Int.add_assoc]
theorem tot_split (k f : List UInt8) (p : api_Update → Bool) : ∀ s : List api_Update, totU k f s = totU k f (s.filter p) + totU k f (s.filter fun u => !p u)
  | [] => rfl
  | u :: s => by
    have ih := tot_split k f p s
    unfold totU at ih ⊢
    rw [List.map_cons, List.sum_cons, List.filter_cons, List.filter_cons]
    cases p u with
    | true =>
      simp only [if_true, Bool.not_true, Bool.false_eq_true, if_false, List.map_cons, List.sum_cons]
      omega
    | false =>
      simp only [if_true, Bool.not_false, Bool.false_eq_true, if_false, List.map_cons, List.sum_cons]
      omega
theorem SO_nil : SO [] := ⟨List.Pairwise.nil, by simp⟩
theorem in_eq {l : List api_Update} (hl : l.length ≤ 1000000) (u : api_Update) : eslaw30_in l u = some (l.any fun v => v.Client == u.Client && v.Seq == u.Seq) := by
  unfold eslaw30_in
  have key : loopO (eslaw30_in.l1 l u) 0 = some (if l.any (fun v => v.Client == u.Client && v.Seq == u.Seq) then .inr true else .inl ()) := by
    have h1 := loopO_runL (step := eslaw30_in.l1 l u) (fun i (_ : Unit) => (i : Int)) (fun _ v (_ : Unit) => if (v.Client == u.Client && v.Seq == u.Seq) = true then some (.inr (.inr true)) else some (.inl ())) (fun _ => some (.inl ())) l (fun i hi _ => ?_) (fun _ => ?_) ()
    · have h2 : ∀ (l : List api_Update) (i : Nat), runL (fun _ (v : api_Update) (_ : Unit) => if (v.Client == u.Client && v.Seq == u.Seq) = true then some (.inr (.inr true : Unit ⊕ Bool)) else some (.inl ())) (fun _ => some (.inl ())) i l () = some (if l.any (fun v => v.Client == u.Client && v.Seq == u.Seq) then .inr true else .inl ()) := by
        intro l
        induction l with
        | nil => intro i; rfl
        | cons v l ih =>
          intro i
          rw [runL, List.any_cons]
          cases hc : (v.Client == u.Client && v.Seq == u.Seq) with
          | true => rfl
          | false => simp only [Bool.false_eq_true, if_false, Bool.false_or]; exact ih _
      rw [← h2 l 0]
      exact h1
    · unfold eslaw30_in.l1
      simp only [lt_of_len hi, if_true, idx_nat hi, Option.bind_some]
      unfold eslaw30_in.j2
      cases h1 : (l[i].Client == u.Client) with
      | true =>
        cases h2 : (l[i].Seq == u.Seq) with
        | true => rfl
        | false => simp only [Bool.true_and, Bool.false_eq_true, if_true, if_false, letV_of, wcast hi (by omega)]
      | false => simp only [Bool.false_and, Bool.false_eq_true, if_false, letV_of, wcast hi (by omega)]
    · unfold eslaw30_in.l1
      simp only [not_lt_len, Bool.false_eq_true, if_false]
      rfl
  rw [key, Option.bind_some]
  cases l.any (fun v => v.Client == u.Client && v.Seq == u.Seq) <;> rfl
theorem in_part {s : List api_Update} (h : s.Pairwise ult) (p : api_Update → Bool) {u : api_Update} (hu : u ∈ s) : (s.filter p).any (fun v => v.Client == u.Client && v.Seq == u.Seq) = p u := by
  rw [Bool.eq_iff_iff, List.any_eq_true]
  constructor
  · rintro ⟨v, hv, hid⟩
    obtain ⟨hv, hp⟩ := List.mem_filter.1 hv
    rcases ult_ids h v hv u hu with rfl | hne
    · exact hp
    · exfalso
      simp only [Bool.and_eq_true, beq_iff_eq] at hid
      unfold idne at hne
      omega
  · intro hp
    exact ⟨u, List.mem_filter.2 ⟨hu, hp⟩, by simp⟩
theorem foldSums_true (x1 : List Int) (x4 : Int) : eslaw30_FoldSums x1 x4 = some true := by
  unfold eslaw30_FoldSums
  obtain ⟨s, e1, h1⟩ := Updates_ex x1
  obtain ⟨p, e2⟩ := Some_ex h1 x4
  have hsub := US_sub h1 (List.filter_sublist (p := p))
  have hsub2 := US_sub h1 (List.filter_sublist (p := fun u => !p u))
  obtain ⟨e3, ga⟩ := made_fold hsub
  obtain ⟨e4, gb⟩ := made_fold h1
  obtain ⟨_, gr⟩ := made_fold hsub2
  rw [e1, Option.bind_some, e2, Option.bind_some, e3, Option.bind_some, e4, Option.bind_some]
  have hlen := h1.len
  have hrest : loopO (eslaw30_FoldSums.l3 s (s.filter p)) (0, []) = some (foldT (s.filter fun u => !p u) []) := by
    have := loopO_up (step := eslaw30_FoldSums.l3 s (s.filter p)) (fun k => ((k : Int), foldT ((s.take k).filter fun u => !p u) [])) s.length (b := foldT (s.filter fun u => !p u) []) (fun k hk => ?_) ?_
    · exact this
    · have hm := List.getElem_mem hk
      have hfl : (s.filter p).length ≤ s.length := List.length_filter_le _ _
      unfold eslaw30_FoldSums.l3
      simp only [lt_of_len hk, if_true, idx_nat hk, Option.bind_some]
      rw [in_eq (by omega), in_part h1.asc p hm, Option.bind_some]
      have hst := US_sub h1 (t := (s.take k).filter fun u => !p u) (List.filter_sublist.trans (List.take_sublist _ _))
      have hstn := US_effN hst
      have hstl := hst.len
      obtain ⟨_, gk⟩ := Fold_eq (s := (s.take k).filter fun u => !p u) (fun u hu => (hst.ok u hu).ef) (by omega) (by omega)
      unfold eslaw30_FoldSums.j4
      cases hp : p s[k] with
      | true =>
        have e : ((s.take (k + 1)).filter fun u => !p u) = (s.take k).filter fun u => !p u := by
          rw [take_snoc hk, List.filter_append, List.filter_cons]
          simp [hp]
        rw [e]
        simp only [Bool.not_true, Bool.false_eq_true, if_false, letV_of, wcast hk (by omega)]
      | false =>
        have e : ((s.take (k + 1)).filter fun u => !p u) = ((s.take k).filter fun u => !p u) ++ [s[k]] := by
          rw [take_snoc hk, List.filter_append, List.filter_cons]
          simp [hp]
        have hel := (h1.ok _ hm).len
        obtain ⟨ea, _⟩ := Apply_eq (t := ⟨foldT ((s.take k).filter fun u => !p u) []⟩) (u := s[k]) gk (h1.ok _ hm).ef (by omega)
        rw [e, foldT_append]
        simp only [Bool.not_false, if_true]
        rw [ea, Option.bind_some, letV_of, wcast hk (by omega)]
        rfl
    · unfold eslaw30_FoldSums.l3
      simp only [not_lt_len, Bool.false_eq_true, if_false, List.take_length]
  rw [hrest, Option.bind_some]
  unfold eslaw30_FoldSums.j3
  obtain ⟨A, hA⟩ : ∃ A, A = foldT (s.filter p) [] := ⟨_, rfl⟩
  obtain ⟨B, hB⟩ : ∃ B, B = foldT s [] := ⟨_, rfl⟩
  obtain ⟨R, hR⟩ : ∃ R, R = foldT (s.filter fun u => !p u) [] := ⟨_, rfl⟩
  have sums : ∀ k f, IntKind.i64.wrap (sm A k f + sm R k f) = sm B k f := by
    intro k f
    have z : IntKind.i64.wrap (sm [] k f) = sm [] k f := rfl
    have z0 : sm [] k f = 0 := rfl
    rw [hA, hR, hB, sm_fold k f _ SO_nil z, sm_fold k f _ SO_nil z, sm_fold k f _ SO_nil z, z0, Int.zero_add, Int.zero_add, Int.zero_add, wadd, Int.add_comm, wadd, tot_split k f p s, Int.add_comm]
  rw [← hA] at ga ⊢
  rw [← hB] at gb ⊢
  rw [← hR] at gr ⊢
  have hBl := gb.len
  have key : loopO (eslaw30_FoldSums.l2 ⟨A⟩ ⟨B⟩ R) ((0 : Nat) : Int) = some (.inl ()) := by
    refine loopO_up (fun k => (k : Int)) B.length (fun k hk => ?_) ?_
    · have hm := List.getElem_mem hk
      have hfl := gb.flen _ hm
      unfold eslaw30_FoldSums.l2
      simp only [lt_of_len hk, if_true, idx_nat hk, Option.bind_some]
      obtain ⟨o, ho⟩ : ∃ o, o = B[k] := ⟨_, rfl⟩
      rw [← ho] at hm hfl ⊢
      have inner : loopO (eslaw30_FoldSums.l1 ⟨A⟩ R o) ((0 : Nat) : Int) = some (.inl ()) := by
        refine loopO_up (fun k => (k : Int)) o.Fields.length (fun j hj => ?_) ?_
        · have hmf := List.getElem_mem hj
          unfold eslaw30_FoldSums.l1
          simp only [lt_of_len hj, if_true, idx_nat hj, Option.bind_some]
          obtain ⟨x, hx⟩ : ∃ x, x = o.Fields[j] := ⟨_, rfl⟩
          rw [← hx] at hmf ⊢
          obtain ⟨oa, a1, a2, _⟩ := findField_eq (t := ⟨A⟩) ga (by decide) o.Name x.Name
          obtain ⟨orr, r1, r2, _⟩ := findField_eq (t := ⟨R⟩) gr (by decide) o.Name x.Name
          rw [a1, Option.bind_some, a2, Option.bind_some, r1, Option.bind_some, r2, Option.bind_some, letV_of]
          have hs : ∀ objs : List fold_Object, ((fa objs o.Name x.Name).getD { fold_zero with Name := x.Name }).Sum = sm objs o.Name x.Name := by
            intro objs
            unfold sm
            cases fa objs o.Name x.Name <;> rfl
          have hb : x.Sum = sm B o.Name x.Name := by
            unfold sm
            rw [fa_of gb hm hmf]
            rfl
          rw [show ((fa (⟨A⟩ : fold_Store).Objects o.Name x.Name).getD { fold_zero with Name := x.Name }).Sum = sm A o.Name x.Name from hs A, show ((fa (⟨R⟩ : fold_Store).Objects o.Name x.Name).getD { fold_zero with Name := x.Name }).Sum = sm R o.Name x.Name from hs R, sums, hb, bne_self_eq_false, if_neg (by simp), letV_of, wcast hj (by omega)]
        · unfold eslaw30_FoldSums.l1
          simp only [not_lt_len, Bool.false_eq_true, if_false]
      have inner : loopO (eslaw30_FoldSums.l1 ⟨A⟩ R o) 0 = some (.inl ()) := inner
      rw [inner, Option.bind_some]
      show eslaw30_FoldSums.j2 (k : Int) = _
      unfold eslaw30_FoldSums.j2
      rw [letV_of, wcast hk (by omega)]
    · unfold eslaw30_FoldSums.l2
      simp only [not_lt_len, Bool.false_eq_true, if_false]
  have key : loopO (eslaw30_FoldSums.l2 ⟨A⟩ ⟨B⟩ R) 0 = some (.inl ()) := key
  rw [key, Option.bind_some]
  show eslaw30_FoldSums.j1 = _
  unfold eslaw30_FoldSums.j1
  rw [awake_true]
  rfl
end Go.Proofs.Ytlbcfjblpopcnaa
