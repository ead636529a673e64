/- Plain laws: one effect on a builder, as it is told by its store. -/
import Derived.Test.YtbbeobiampbddaaP30b
set_option linter.unusedVariables false
set_option linter.unusedSimpArgs false
namespace Go.Proofs.Ytbbeobiampbddaa
open Go Go.Proofs.YtbbeobiampbddaaL
/-- A write that replaces. -/
def newerS (u : api_Update) (r : fold_Register) : Bool := !r.Set || decide (r.Tag < u.Tag ∨ r.Tag = u.Tag ∧ (r.Client < u.Client ∨ r.Client = u.Client ∧ r.Seq < u.Seq))
theorem compare_eq (a b : Int) : cmp_Compare_int a b = some (cmpI a b) := by
  unfold cmp_Compare_int cmp_isNaN_int cmpI
  simp only [Option.bind_some, bne_self_eq_false, Bool.false_eq_true, if_false]
  by_cases h1 : a < b
  · simp [h1]
  · by_cases h2 : b < a <;> simp [h1, h2]
theorem or_eq (a b c : Int) : cmp_Or_int [a, b, c] = some (if a ≠ 0 then a else if b ≠ 0 then b else c) := by
  unfold cmp_Or_int
  have e : loopO (cmp_Or_int.l1 [a, b, c]) 0 = some (if a ≠ 0 then .inr a else if b ≠ 0 then .inr b else if c ≠ 0 then .inr c else .inl ()) := by
    by_cases ha : a = 0
    · rw [loopO_next (s' := 1) (by unfold cmp_Or_int.l1; simp [idx, ha, letV, w64])]
      by_cases hb : b = 0
      · rw [loopO_next (s' := 2) (by unfold cmp_Or_int.l1; simp [idx, hb, letV, w64])]
        by_cases hc : c = 0
        · rw [loopO_next (s' := 3) (by unfold cmp_Or_int.l1; simp [idx, hc, letV, w64]), loopO_done (b := .inl ()) (by unfold cmp_Or_int.l1; simp)]
          simp [ha, hb, hc]
        · rw [loopO_done (b := .inr c) (by unfold cmp_Or_int.l1; simp [idx, hc])]
          simp [ha, hb, hc]
      · rw [loopO_done (b := .inr b) (by unfold cmp_Or_int.l1; simp [idx, hb])]
        simp [ha, hb]
    · rw [loopO_done (b := .inr a) (by unfold cmp_Or_int.l1; simp [idx, ha])]
      simp [ha]
  rw [e, Option.bind_some]
  by_cases ha : a = 0
  · by_cases hb : b = 0
    · by_cases hc : c = 0
      · simp [ha, hb, hc, cmp_Or_int.j1]
      · simp [ha, hb, hc]
    · simp [ha, hb]
  · simp [ha]
theorem cmp_lex (a b c d e f : Int) : (0 < (if cmpI a b ≠ 0 then cmpI a b else if cmpI c d ≠ 0 then cmpI c d else cmpI e f)) ↔ (b < a ∨ b = a ∧ (d < c ∨ d = c ∧ f < e)) := by
  unfold cmpI
  grind
theorem newer_eq (u : api_Update) (r : fold_Register) : fold_newer u r = some (newerS u r) := by
  unfold fold_newer newerS
  cases r.Set with
  | false => rfl
  | true =>
    simp only [Bool.not_true, Bool.false_eq_true, if_false, compare_eq, Option.bind_some, or_eq, fold_newer.j1, Bool.false_or]
    congr 1
    rw [Bool.eq_iff_iff, decide_eq_true_eq, decide_eq_true_eq]
    exact cmp_lex _ _ _ _ _ _
/-- What an effect makes of a field. -/
def updF (u : api_Update) (e : api_Effect) (f : fold_Field) : fold_Field :=
  if e.Kind = 1 then (if newerS u f.Register then { f with Register := ⟨true, u.Tag, u.Client, u.Seq, e.N, e.S⟩ } else f) else
  if e.Kind = 2 then (if !f.HasMax || decide (f.Max < e.N) then { f with HasMax := true, Max := e.N } else f) else
  if e.Kind = 3 then { f with Sum := IntKind.i64.wrap (f.Sum + e.N) } else
  if e.Kind = 4 then { f with Elems := insS f.Elems e.S } else
  if e.Kind = 5 then { f with Flag := true } else f
theorem fold_upd_eq {n : Nat} {u : api_Update} {e : api_Effect} {f : fold_Field} (h : GF n f) (hn : n ≤ 1000000) : fold_upd u e f = some (updF u e f) := by
  unfold fold_upd updF
  by_cases h1 : e.Kind = 1
  · simp only [h1, beq_self_eq_true, if_true, newer_eq, Option.bind_some]
    cases newerS u f.Register <;> rfl
  · rw [if_neg (by simpa using h1), if_neg h1]
    by_cases h2 : e.Kind = 2
    · simp only [h2, beq_self_eq_true, if_true]
      cases f.HasMax with
      | false => rfl
      | true =>
        simp only [Bool.not_true, Bool.false_or, Bool.false_eq_true, if_false]
        cases decide (f.Max < e.N) <;> rfl
    · rw [if_neg (by simpa using h2), if_neg h2]
      by_cases h3 : e.Kind = 3
      · simp only [h3, beq_self_eq_true, if_true]
      · rw [if_neg (by simpa using h3), if_neg h3]
        by_cases h4 : e.Kind = 4
        · simp only [h4, beq_self_eq_true, if_true, insO]
          rw [if_pos ⟨h.asc, by have := h.len; omega⟩]
          rfl
        · rw [if_neg (by simpa using h4), if_neg h4]
          by_cases h5 : e.Kind = 5
          · simp only [h5, beq_self_eq_true, if_true]
          · rw [if_neg (by simpa using h5), if_neg h5]
theorem insS_mem : ∀ {l : List (List UInt8)} {s x : List UInt8}, x ∈ insS l s → x = s ∨ x ∈ l
  | [], s, x, h => by simp [insS] at h; exact .inl h
  | a :: l, s, x, h => by
    unfold insS at h
    split at h
    · rcases List.mem_cons.1 h with rfl | h
      · exact .inr (by simp)
      · rcases insS_mem h with h | h
        · exact .inl h
        · exact .inr (by simp [h])
    · split at h
      · exact .inr h
      · rcases List.mem_cons.1 h with rfl | h
        · exact .inl rfl
        · exact .inr h
theorem insS_asc : ∀ {l : List (List UInt8)} {s : List UInt8}, Asc l → Asc (insS l s)
  | [], s, _ => by unfold insS; exact List.pairwise_singleton _ _
  | a :: l, s, h => by
    have h1 := (List.pairwise_cons.1 h).1
    have h2 := (List.pairwise_cons.1 h).2
    unfold insS
    cases hc : Op.bytesLess a s with
    | true =>
      rw [if_pos rfl]
      refine List.pairwise_cons.2 ⟨fun x hx => ?_, insS_asc h2⟩
      rcases insS_mem hx with rfl | hx
      · exact hc
      · exact h1 x hx
    | false =>
      rw [if_neg (by simp)]
      by_cases he : a = s
      · rw [if_pos (by simp [he])]; exact h
      · rw [if_neg (by simpa using he)]
        have hs : Op.bytesLess s a = true := by
          cases hk : Op.bytesLess s a with
          | true => rfl
          | false => exact absurd (bl_tri hc hk) he
        refine List.pairwise_cons.2 ⟨fun x hx => ?_, h⟩
        rcases List.mem_cons.1 hx with rfl | hx
        · exact hs
        · exact bl_trans hs (h1 x hx)
theorem insS_length : ∀ (l : List (List UInt8)) (s : List UInt8), (insS l s).length ≤ l.length + 1
  | [], s => by simp [insS]
  | a :: l, s => by
    unfold insS
    have := insS_length l s
    split
    · simp only [List.length_cons]; omega
    · split <;> simp
theorem updF_name (u : api_Update) (e : api_Effect) (f : fold_Field) : (updF u e f).Name = f.Name := by
  unfold updF
  repeat' split
  all_goals rfl
/-- An effect with short words. -/
structure EF (e : api_Effect) : Prop where
  obj : e.Object.length ≤ 1000
  fld : e.Field.length ≤ 1000
  str : e.S.length ≤ 1000
theorem GF.mono {n m : Nat} {y : fold_Field} (h : GF n y) (hm : n ≤ m) : GF m y := ⟨h.name, h.asc, Nat.le_trans h.len hm, h.els, h.reg⟩
theorem GF_upd {n : Nat} {u : api_Update} {e : api_Effect} {f : fold_Field} (h : GF n f) (he : EF e) : GF (n + 1) (updF u e f) := by
  have hm : GF (n + 1) f := h.mono (by omega)
  unfold updF
  split
  · split
    · exact ⟨hm.name, hm.asc, hm.len, hm.els, he.str⟩
    · exact hm
  · split
    · split
      · exact ⟨hm.name, hm.asc, hm.len, hm.els, hm.reg⟩
      · exact hm
    · split
      · exact ⟨hm.name, hm.asc, hm.len, hm.els, hm.reg⟩
      · split
        · refine ⟨hm.name, insS_asc h.asc, Nat.le_trans (insS_length _ _) (by have := h.len; omega), fun s hs => ?_, hm.reg⟩
          rcases insS_mem hs with rfl | hs
          · exact he.str
          · exact h.els s hs
        · split
          · exact ⟨hm.name, hm.asc, hm.len, hm.els, hm.reg⟩
          · exact hm
theorem GF_named {n : Nat} {f : fold_Field} (h : GF n f) {k : List UInt8} (hk : k.length ≤ 1000) : GF n { f with Name := k } := ⟨hk, h.asc, h.len, h.els, h.reg⟩
theorem GF_zero (n : Nat) : GF n fold_zero := ⟨by decide, List.Pairwise.nil, Nat.zero_le _, fun s hs => by simp [fold_zero] at hs, by decide⟩
/-- A field of an object turned. -/
def inObj (k f : List UInt8) (h : Option fold_Field → fold_Field) : Option fold_Object → fold_Object := fun o => ⟨k, upd FN_ f h ((o.map (·.Fields)).getD [])⟩
theorem inObj_key (k f : List UInt8) (h : Option fold_Field → fold_Field) : ∀ o, (∀ a, o = some a → ON_ a = k) → ON_ (inObj k f h o) = k := fun _ _ => rfl
def inFld (u : api_Update) (e : api_Effect) : Option fold_Field → fold_Field := fun y => updF u e { y.getD fold_zero with Name := e.Field }
theorem inFld_key (u : api_Update) (e : api_Effect) : ∀ o, (∀ a, o = some a → FN_ a = e.Field) → FN_ (inFld u e o) = e.Field := fun _ _ => updF_name _ _ _
/-- What an effect makes of the objects. -/
def effT (u : api_Update) (objs : List fold_Object) (e : api_Effect) : List fold_Object := upd ON_ e.Object (inObj e.Object e.Field (inFld u e)) objs
/-! A builder turned. -/
theorem get_fput {y : fold_Field} {k : List UInt8} : ∀ {fs : List fold_Field}, get FN_ (fput fold_Field.Name y fs) k = if k = y.Name then some y else get FN_ fs k
  | [] => by
    unfold fput
    rw [get_cons, get_nil]
    by_cases h : y.Name = k
    · rw [if_pos h, if_pos h.symm]
    · rw [if_neg h, if_neg (fun e => h e.symm)]
  | a :: fs => by
    unfold fput
    by_cases h : y.Name = a.Name
    · rw [if_pos (by simp [h]), get_cons, get_cons]
      by_cases hk : y.Name = k
      · rw [if_pos hk, if_pos hk.symm]
      · rw [if_neg hk, if_neg (fun e => hk e.symm), if_neg (by show ¬ a.Name = k; rw [← h]; exact hk)]
    · rw [if_neg (by simpa using h), get_cons, get_cons, get_fput]
      by_cases hk : a.Name = k
      · rw [if_pos hk, if_neg (by rw [← hk]; exact fun e => h e.symm), if_pos hk]
      · rw [if_neg hk, if_neg hk]
theorem fput_mem {y z : fold_Field} : ∀ {fs : List fold_Field}, z ∈ fput fold_Field.Name y fs → z = y ∨ z ∈ fs
  | [], h => by simp [fput] at h; exact .inl h
  | a :: fs, h => by
    unfold fput at h
    split at h
    · rcases List.mem_cons.1 h with h | h
      · exact .inl h
      · exact .inr (by simp [h])
    · rcases List.mem_cons.1 h with h | h
      · exact .inr (by simp [h])
      · rcases fput_mem h with h | h
        · exact .inl h
        · exact .inr (by simp [h])
theorem fput_names {y : fold_Field} : ∀ {fs : List fold_Field}, (fs.map (·.Name)).Nodup → ((fput fold_Field.Name y fs).map (·.Name)).Nodup
  | [], _ => by simp [fput]
  | a :: fs, h => by
    rw [List.map_cons, List.nodup_cons] at h
    unfold fput
    by_cases hk : y.Name = a.Name
    · rw [if_pos (by simp [hk]), List.map_cons, List.nodup_cons, hk]
      exact h
    · rw [if_neg (by simpa using hk), List.map_cons, List.nodup_cons]
      refine ⟨fun hm => ?_, fput_names h.2⟩
      obtain ⟨z, hz, he⟩ := List.mem_map.1 hm
      rcases fput_mem hz with rfl | hz
      · exact hk he
      · exact h.1 (List.mem_map.2 ⟨z, hz, he⟩)
theorem fput_length {y : fold_Field} : ∀ fs : List fold_Field, (fput fold_Field.Name y fs).length ≤ fs.length + 1
  | [] => by simp [fput]
  | a :: fs => by
    unfold fput
    have := fput_length (y := y) fs
    split
    · simp
    · simp only [List.length_cons]; omega
theorem fput_ne {y : fold_Field} (fs : List fold_Field) : fput fold_Field.Name y fs ≠ [] := by
  cases fs with
  | nil => simp [fput]
  | cons a fs => unfold fput; split <;> simp
theorem with_lookup (x : fold_B) (k q : List UInt8) : (fold_with x k).lookup q = if q = k then some ((x.lookup k).getD []) else x.lookup q := by
  unfold fold_with
  cases h : x.lookup k with
  | some fs =>
    simp only [Option.isNone_some, Bool.false_eq_true, if_false, Option.getD_some]
    by_cases hq : q = k
    · rw [if_pos hq, hq, h]
    · rw [if_neg hq]
  | none =>
    simp only [Option.isNone_none, if_true, Option.getD_none]
    revert h
    induction x with
    | nil =>
      intro h
      rw [List.nil_append, List.lookup_cons]
      by_cases hq : q = k
      · rw [if_pos hq, show (q == k) = true by simp [hq]]
      · rw [if_neg hq, show (q == k) = false by simp [hq]]
    | cons a x ih =>
      intro h
      rw [List.lookup_cons] at h
      rw [List.cons_append, List.lookup_cons, List.lookup_cons]
      cases hk : k == a.1 with
      | true => rw [hk] at h; cases h
      | false =>
        rw [hk] at h
        cases hq : q == a.1 with
        | true =>
          have e1 : q = a.1 := by simpa using hq
          have e2 : q ≠ k := fun e => by rw [← e, hq] at hk; cases hk
          rw [if_neg e2]
        | false => exact ih h
theorem set_lookup (x : fold_B) (k q : List UInt8) (y : fold_Field) : (fold_set (fold_with x k) k y).lookup q = if q = k then some (fput fold_Field.Name y ((x.lookup k).getD [])) else x.lookup q := by
  unfold fold_set
  rw [mset_lookup, with_lookup, with_lookup, if_pos rfl]
  by_cases hq : q = k
  · simp [hq]
  · simp [hq]
theorem mset_mem {κ β : Type} [BEq κ] [LawfulBEq κ] {k : κ} {y : β} : ∀ {l : List (κ × β)} {o : κ × β}, o ∈ mset l k y → o = (k, y) ∨ o ∈ l
  | [], o, h => by simp [mset] at h; exact .inl h
  | a :: l, o, h => by
    unfold mset at h
    by_cases hk : k == a.1
    · rw [if_pos hk] at h
      have e : k = a.1 := by simpa using hk
      rcases List.mem_cons.1 h with h | h
      · exact .inl (by rw [h, e])
      · exact .inr (by simp [h])
    · rw [if_neg hk] at h
      rcases List.mem_cons.1 h with h | h
      · exact .inr (by simp [h])
      · rcases mset_mem h with h | h
        · exact .inl h
        · exact .inr (by simp [h])
theorem nodup_lookup {β : Type} : ∀ {x : List (List UInt8 × β)}, (x.map (·.1)).Nodup → ∀ o ∈ x, x.lookup o.1 = some o.2
  | [], _, o, h => by simp at h
  | a :: x, hn, o, h => by
    rw [List.map_cons, List.nodup_cons] at hn
    rw [List.lookup_cons]
    rcases List.mem_cons.1 h with rfl | h
    · simp
    · have : (o.1 == a.1) = false := by
        rw [beq_eq_false_iff_ne]
        exact fun e => hn.1 (List.mem_map.2 ⟨o, h, e⟩)
      rw [this]
      exact nodup_lookup hn.2 o h
theorem set_keys (x : fold_B) (k : List UInt8) (y : fold_Field) (h : (x.map (·.1)).Nodup) : ((fold_set (fold_with x k) k y).map (·.1)).Nodup := by
  have h2 : ((fold_with x k).map (·.1)).Nodup := by
    unfold fold_with
    cases hl : x.lookup k with
    | some fs => simpa using h
    | none =>
      simp only [Option.isNone_none, if_true, List.map_append, List.map_cons, List.map_nil]
      rw [List.nodup_append]
      refine ⟨h, by simp, fun a ha b hb e => ?_⟩
      simp at hb
      subst hb
      subst e
      obtain ⟨o, ho, he⟩ := List.mem_map.1 ha
      have := nodup_lookup h o ho
      rw [he, hl] at this
      cases this
  exact (mset_keys k _ _ h2).1
theorem set_length (x : fold_B) (k : List UInt8) (y : fold_Field) : (fold_set (fold_with x k) k y).length ≤ x.length + 1 := by
  unfold fold_set fold_with
  cases hl : x.lookup k with
  | none =>
    simp only [Option.isNone_none, if_true]
    have : ∀ (l : fold_B) (v : List fold_Field) (v' : List fold_Field), (mset (l ++ [(k, v)]) k v').length ≤ l.length + 1 := by
      intro l v v'
      induction l with
      | nil => simp [mset]
      | cons a l ih =>
        rw [List.cons_append, mset]
        split
        · simp
        · simp only [List.length_cons]; omega
    exact this x _ _
  | some fs =>
    simp only [Option.isNone_some, Bool.false_eq_true, if_false]
    exact mset_length _ _ _
theorem canon_set {x : fold_B} {k : List UInt8} {y : fold_Field} (hk : (x.map (·.1)).Nodup) (hn : ∀ o ∈ x, (o.2.map (·.Name)).Nodup) :
    canonB (fold_set (fold_with x k) k y) = upd ON_ k (inObj k y.Name fun _ => y) (canonB x) := by
  refine SA_ext (SA_canonB (set_keys x k y hk)) (SA_upd (inObj_key k y.Name fun _ => y) (SA_canonB hk)) fun q => ?_
  rw [get_upd (inObj_key k y.Name fun _ => y) q (SA_canonB hk), get_canonB, get_canonB, get_canonB, set_lookup]
  by_cases hq : q = k
  · rw [if_pos hq, if_pos hq, hq]
    show some (⟨k, canonF (fput fold_Field.Name y ((x.lookup k).getD []))⟩ : fold_Object) = some (⟨k, _⟩ : fold_Object)
    congr 2
    have hnn : (((x.lookup k).getD []).map (·.Name)).Nodup := by
      cases hl : x.lookup k with
      | none => simp
      | some fs => exact hn _ (lookup_mem hl)
    have e : (((x.lookup k).map fun fs => (⟨k, canonF fs⟩ : fold_Object)).map (·.Fields)).getD [] = canonF ((x.lookup k).getD []) := by
      cases x.lookup k with
      | none => simp [canonF, srtN]
      | some fs => rfl
    rw [e]
    refine SA_ext (SA_canonF (fput_names hnn)) (SA_upd (fun o _ => rfl) (SA_canonF hnn)) fun p => ?_
    rw [get_upd (fun o _ => rfl) p (SA_canonF hnn), get_canonF, get_canonF, get_fput]
  · rw [if_neg hq, if_neg hq]
theorem find_get {fs : List fold_Field} {f : List UInt8} : fs.find? (fun q => f == q.Name) = get FN_ fs f := by
  unfold get
  congr 1
  funext q
  rw [Bool.eq_iff_iff, beq_iff_eq, beq_iff_eq]
  exact eq_comm
theorem eff_eq {n : Nat} {u : api_Update} {x : fold_B} {e : api_Effect} (h : BI n x) (he : EF e) (hn : n ≤ 1000000) :
    ∃ x', fold_eff u x e = some x' ∧ BI (n + 1) x' ∧ canonB x' = effT u (canonB x) e := by
  unfold fold_eff
  have hat : fold_at (fold_with x e.Object) e.Object e.Field = (get FN_ ((x.lookup e.Object).getD []) e.Field).getD fold_zero := by
    unfold fold_at
    rw [with_lookup, if_pos rfl, Option.getD_some, find_get]
  rw [hat]
  obtain ⟨y0, hy0⟩ : ∃ y0, y0 = (get FN_ ((x.lookup e.Object).getD []) e.Field).getD fold_zero := ⟨_, rfl⟩
  rw [← hy0]
  have hg0 : GF n y0 := by
    rw [hy0]
    cases hl : x.lookup e.Object with
    | none => exact GF_zero n
    | some fs =>
      cases hg : get FN_ fs e.Field with
      | none => simp only [Option.getD_some, hg]; exact GF_zero n
      | some y => simp only [Option.getD_some, hg]; exact h.good _ (lookup_mem hl) y (get_mem hg)
  have hg1 : GF n { y0 with Name := e.Field } := GF_named hg0 he.fld
  rw [fold_upd_eq hg1 hn, Option.bind_some]
  obtain ⟨y1, hy1⟩ : ∃ y1, y1 = updF u e { y0 with Name := e.Field } := ⟨_, rfl⟩
  rw [← hy1]
  have hg2 : GF (n + 1) y1 := by rw [hy1]; exact GF_upd hg1 he
  have hn1 : y1.Name = e.Field := by rw [hy1, updF_name]
  refine ⟨_, rfl, ?_, ?_⟩
  · have hmem : ∀ o ∈ fold_set (fold_with x e.Object) e.Object y1, o = (e.Object, fput fold_Field.Name y1 ((x.lookup e.Object).getD [])) ∨ o ∈ x := by
      intro o ho
      have hl := nodup_lookup (set_keys x e.Object y1 h.keys) o ho
      rw [set_lookup] at hl
      by_cases hq : o.1 = e.Object
      · rw [if_pos hq] at hl
        exact .inl (Prod.ext hq (Option.some.inj hl).symm)
      · rw [if_neg hq] at hl
        exact .inr (lookup_mem hl)
    have hin : ∀ o, o = (e.Object, fput fold_Field.Name y1 ((x.lookup e.Object).getD [])) ∨ o ∈ x → o.1.length ≤ 1000 ∧ o.2 ≠ [] ∧ (o.2.map (·.Name)).Nodup ∧ o.2.length ≤ n + 1 ∧ ∀ y ∈ o.2, GF (n + 1) y := by
      rintro o (rfl | ho)
      · refine ⟨he.obj, fput_ne _, fput_names ?_, ?_, fun y hy => ?_⟩
        · cases hl : x.lookup e.Object with
          | none => simp
          | some fs => exact h.names _ (lookup_mem hl)
        · refine Nat.le_trans (fput_length _) ?_
          cases hl : x.lookup e.Object with
          | none => simp
          | some fs => have := h.flen _ (lookup_mem hl); simpa using this
        · rcases fput_mem hy with rfl | hy
          · exact hg2
          · cases hl : x.lookup e.Object with
            | none => rw [hl] at hy; simp at hy
            | some fs => rw [hl] at hy; exact (h.good _ (lookup_mem hl) y hy).mono (by omega)
      · exact ⟨h.name o ho, h.ne o ho, h.names o ho, by have := h.flen o ho; omega, fun y hy => (h.good o ho y hy).mono (by omega)⟩
    exact ⟨set_keys x e.Object y1 h.keys, Nat.le_trans (set_length _ _ _) (by have := h.len; omega), fun o ho => (hin o (hmem o ho)).1, fun o ho => (hin o (hmem o ho)).2.1, fun o ho => (hin o (hmem o ho)).2.2.1, fun o ho => (hin o (hmem o ho)).2.2.2.1, fun o ho => (hin o (hmem o ho)).2.2.2.2⟩
  · rw [canon_set h.keys h.names]
    unfold effT
    refine upd_congr (inObj_key _ _ _) (SA_canonB h.keys) ?_ (inObj_key _ _ _)
    rw [get_canonB]
    unfold inObj
    have e1 : (((x.lookup e.Object).map fun fs => (⟨e.Object, canonF fs⟩ : fold_Object)).map (·.Fields)).getD [] = canonF ((x.lookup e.Object).getD []) := by
      cases x.lookup e.Object with
      | none => simp [canonF, srtN]
      | some fs => rfl
    have hnn : (((x.lookup e.Object).getD []).map (·.Name)).Nodup := by
      cases hl : x.lookup e.Object with
      | none => simp
      | some fs => exact h.names _ (lookup_mem hl)
    simp only [e1]
    congr 1
    rw [hn1]
    refine upd_congr (g := fun _ => y1) (g' := inFld u e) (fun o _ => hn1) (SA_canonF hnn) ?_ (inFld_key u e)
    rw [get_canonF]
    unfold inFld
    rw [← hy0]
    exact hy1
end Go.Proofs.Ytbbeobiampbddaa
