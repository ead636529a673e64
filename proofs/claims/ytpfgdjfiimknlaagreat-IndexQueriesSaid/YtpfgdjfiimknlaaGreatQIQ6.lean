/- What the row leans on, as few texts. -/
import Derived.Test.YtpfgdjfiimknlaaGreatQIQ5
import Derived.Test.YtpfgdjfiimknlaaGreatQIQ1
import Derived.Test.YtpfgdjfiimknlaaGreatQIQ3
set_option linter.unusedVariables false
set_option linter.unusedSimpArgs false
namespace Go.Proofs.YtpfgdjfiimknlaaGreat
open Go Go.Proofs.YtpfgdjfiimknlaaGreatL
theorem FieldOf_eq {n : Nat} {o : fold_Object} (h1 : o.Fields.length ≤ n) (h2 : ∀ y ∈ o.Fields, GF n y) (hn : n ≤ 1000000) (k : List UInt8) :
    fold_FieldOf o k = some ((get FN_ o.Fields k).getD { fold_zero with Name := k }) := by
  unfold fold_FieldOf
  have key : loopO (fold_FieldOf.l1 o k) (0, (⟨[], (⟨false, 0, 0, 0, 0, []⟩ : fold_Register), false, 0, 0, [], false⟩ : fold_Field)) = some (match get FN_ o.Fields k with | some y => .inr y | none => .inl ⟨[], ⟨false, 0, 0, 0, 0, []⟩, false, 0, 0, [], false⟩) := by
    have h1 := loopO_runL (step := fold_FieldOf.l1 o k) (fun i (z : fold_Field) => ((i : Int), z)) (fun _ y (z : fold_Field) => if y.Name = k then some (.inr (.inr y)) else some (.inl z)) (fun z => some (.inl z)) o.Fields (fun i hi z => ?_) (fun z => ?_) ⟨[], ⟨false, 0, 0, 0, 0, []⟩, false, 0, 0, [], false⟩
    · have h2 : ∀ (l : List fold_Field) (i : Nat) (z : fold_Field), runL (fun _ (y : fold_Field) (z : fold_Field) => if y.Name = k then some (.inr (.inr y : fold_Field ⊕ fold_Field)) else some (.inl z)) (fun z => some (.inl z)) i l z = some (match get FN_ l k with | some y => .inr y | none => .inl z) := by
        intro l
        induction l with
        | nil => intro i z; rfl
        | cons o l ih =>
          intro i z
          rw [runL, get_cons]
          by_cases he : o.Name = k
          · rw [if_pos he, if_pos he]
          · rw [if_neg he, if_neg he]
            exact ih _ z
      rw [← h2 o.Fields 0]
      exact h1
    · have hm := List.getElem_mem hi
      unfold fold_FieldOf.l1
      simp only [lt_of_len hi, if_true, idx_nat hi, Option.bind_some]
      by_cases he : o.Fields[i].Name = k
      · rw [if_pos (by simp [he]), if_pos he, clone_eq (by have := (h2 _ hm).len; omega)]
        rfl
      · rw [if_neg (by simpa using he), if_neg he, letV, wcast hi (by omega)]
    · unfold fold_FieldOf.l1
      simp only [not_lt_len, Bool.false_eq_true, if_false]
      rfl
  rw [key, Option.bind_some]
  cases get FN_ o.Fields k with
  | none => rfl
  | some o => rfl
structure GO (o : fold_Object) : Prop where
  len : o.Fields.length ≤ 100
  good : ∀ y ∈ o.Fields, GF 100 y
theorem GD.go {objs : List fold_Object} (h : GD 100 objs) : ∀ o ∈ objs, GO o := fun o ho => ⟨h.flen o ho, h.good o ho⟩
def fieldN (o : fold_Object) (k : List UInt8) : fold_Field := (get FN_ o.Fields k).getD { fold_zero with Name := k }
theorem fieldN_good {o : fold_Object} (g : GO o) (k : List UInt8) : Asc (fieldN o k).Elems ∧ (fieldN o k).Elems.length ≤ 100 := by
  unfold fieldN
  cases h : get FN_ o.Fields k with
  | none => exact ⟨List.Pairwise.nil, Nat.zero_le _⟩
  | some y =>
    have := g.good y (get_mem h)
    exact ⟨this.asc, this.len⟩
def keysF (f : schema_Field) (y : fold_Field) : List index_Key :=
  if f.Kind = 1 ∧ y.Register.Set = true ∧ f.f_Type = 1 then [⟨1, y.Register.N, []⟩]
  else if f.Kind = 1 ∧ y.Register.Set = true ∧ f.f_Type = 2 then [⟨2, 0, y.Register.S⟩]
  else if f.Kind = 4 then y.Elems.map fun s => ⟨2, 0, s⟩ else []
def keysOf (f : schema_Field) (o : fold_Object) : List index_Key := keysF f (fieldN o f.Name)
theorem keysF_srt {f : schema_Field} {y : fold_Field} (h : Asc y.Elems) : (keysF f y).Pairwise keyLt := by
  unfold keysF
  split
  · exact List.pairwise_singleton _ _
  · split
    · exact List.pairwise_singleton _ _
    · split
      · refine List.pairwise_map.2 (h.imp fun {a b} hab => ?_)
        exact .inr ⟨rfl, .inr ⟨rfl, hab⟩⟩
      · exact List.Pairwise.nil
theorem keysF_length {f : schema_Field} {y : fold_Field} (h : y.Elems.length ≤ 100) : (keysF f y).length ≤ 100 := by
  unfold keysF
  split
  · simp
  · split
    · simp
    · split
      · rw [List.length_map]; exact h
      · simp
theorem keysOf_srt {f : schema_Field} {o : fold_Object} (g : GO o) : (keysOf f o).Pairwise keyLt := keysF_srt (fieldN_good g f.Name).1
theorem keysOf_length {f : schema_Field} {o : fold_Object} (g : GO o) : (keysOf f o).length ≤ 100 := keysF_length (fieldN_good g f.Name).2
theorem keyLt_ne {a b : index_Key} (h : keyLt a b) : a ≠ b := fun e => keyLt_irrefl a (by rw [← e] at h; exact h)
theorem keyLt_asymm {a b : index_Key} (h : keyLt a b) : ¬ keyLt b a := fun k => keyLt_irrefl a (keyLt_trans h k)
theorem sortKeys_self {l : List index_Key} (h : l.Pairwise keyLt) (hl : l.length ≤ 1000000) : slices_SortFunc_Key l = some l := by
  unfold slices_SortFunc_Key sortU
  rw [if_pos ⟨h.imp fun {a b} hab => .inl (by rw [decide_eq_true_eq, keyCmp_lt]; exact hab), by omega⟩]
  congr 1
  refine List.mergeSort_of_pairwise (h.imp fun {a b} hab => ?_)
  have : ¬ keyCmp b a < 0 := by rw [keyCmp_lt]; exact keyLt_asymm hab
  simpa using this
theorem keys_j1 {l : List index_Key} (h : l.Pairwise keyLt) (hl : l.length ≤ 1000000) : index_Keys.j1 l = some l := by
  unfold index_Keys.j1
  rw [sortKeys_self h hl, Option.bind_some, compactK_eq (by omega), Option.bind_some, dd_self (h.imp fun {a b} hab => keyLt_ne hab)]
theorem index_Keys_eq {f : schema_Field} {o : fold_Object} (g : GO o) : index_Keys f o = some (keysOf f o) := by
  unfold index_Keys
  rw [FieldOf_eq g.len g.good (by decide), Option.bind_some]
  obtain ⟨h1, h2⟩ := fieldN_good g f.Name
  have hs : (keysOf f o).Pairwise keyLt := keysOf_srt g
  have hlen : (keysOf f o).length ≤ 100 := keysOf_length g
  unfold keysOf at hs hlen ⊢
  change (let y := fieldN o f.Name; _) = _
  obtain ⟨y, hy⟩ : ∃ y, y = fieldN o f.Name := ⟨_, rfl⟩
  have hy' : (get FN_ o.Fields f.Name).getD { fold_zero with Name := f.Name } = y := hy.symm
  rw [← hy] at h1 h2 hs hlen ⊢
  simp only [hy']
  have fin : ∀ l, l = keysF f y → index_Keys.j1 l = some (keysF f y) := fun l hl => by
    rw [hl]; exact keys_j1 hs (by omega)
  have loop : loopO (index_Keys.l1 y) ([], 0) = some (y.Elems.map fun s => (⟨2, 0, s⟩ : index_Key)) := by
    have := loopO_up (step := index_Keys.l1 y) (fun k => ((y.Elems.take k).map fun s => (⟨2, 0, s⟩ : index_Key), (k : Int))) y.Elems.length (b := y.Elems.map fun s => (⟨2, 0, s⟩ : index_Key)) (fun k hk => ?_) ?_
    · exact this
    · unfold index_Keys.l1
      simp only [lt_of_len hk, if_true, idx_nat hk, Option.bind_some]
      rw [app_of (by simp; omega), Option.bind_some, letV_of, wcast hk (by omega), take_snoc hk, List.map_append]
      rfl
    · unfold index_Keys.l1
      simp only [not_lt_len, Bool.false_eq_true, if_false, List.take_length]
  have hf2 : index_Keys.j2 f y false = some (if f.Kind = 4 then y.Elems.map fun s => (⟨2, 0, s⟩ : index_Key) else []) := by
    unfold index_Keys.j2
    rw [if_neg (by simp)]
    by_cases hk : f.Kind = 4
    · rw [if_pos (by simpa using hk), if_pos hk, loop, Option.bind_some]
      refine keys_j1 ?_ (by rw [List.length_map]; omega)
      exact List.pairwise_map.2 (h1.imp fun {a b} hab => .inr ⟨rfl, .inr ⟨rfl, hab⟩⟩)
    · rw [if_neg (by simpa using hk), if_neg hk]
      exact keys_j1 .nil (by simp)
  have hf3 : index_Keys.j3 f y false = some (if f.Kind = 1 ∧ y.Register.Set = true ∧ f.f_Type = 2 then [⟨2, 0, y.Register.S⟩] else if f.Kind = 4 then y.Elems.map fun s => (⟨2, 0, s⟩ : index_Key) else []) := by
    unfold index_Keys.j3
    rw [if_neg (by simp)]
    by_cases hk : f.Kind = 1
    · rw [if_pos (by simpa using hk)]
      cases hS : y.Register.Set with
      | false => rw [if_neg (by simp), hf2]; simp
      | true =>
        rw [if_pos rfl]
        by_cases ht : f.f_Type = 2
        · rw [if_pos ⟨hk, rfl, ht⟩]
          unfold index_Keys.j2
          rw [if_pos (by simpa using ht), app_of (by simp), Option.bind_some, ht]
          exact keys_j1 (List.pairwise_singleton _ _) (by simp)
        · rw [if_neg (fun h => ht h.2.2), show (f.f_Type == 2) = false by simpa using ht, hf2]
    · rw [if_neg (by simpa using hk), hf2]; simp [hk]
  unfold keysF
  by_cases hk : f.Kind = 1
  · rw [if_pos (by simpa using hk)]
    cases hS : y.Register.Set with
    | false => rw [if_neg (by simp), hf3]; simp [hS]
    | true =>
      rw [if_pos rfl]
      by_cases ht : f.f_Type = 1
      · rw [if_pos ⟨hk, rfl, ht⟩]
        unfold index_Keys.j3
        rw [if_pos (by simpa using ht), app_of (by simp), Option.bind_some, ht]
        exact keys_j1 (List.pairwise_singleton _ _) (by simp)
      · rw [if_neg (fun h => ht h.2.2), show (f.f_Type == 1) = false by simpa using ht, hf3, hS]
  · rw [if_neg (by simpa using hk), hf3]; simp [hk]
def kc (k : index_Key) : elasticstoreref32_Key := ⟨k.f_Type, k.N, k.S⟩
theorem kc_inj {a b : index_Key} (h : kc a = kc b) : a = b := by
  obtain ⟨t, n, s⟩ := a
  obtain ⟨t', n', s'⟩ := b
  unfold kc at h
  simp only [elasticstoreref32_Key.mk.injEq] at h
  obtain ⟨rfl, rfl, rfl⟩ := h
  rfl
def pairsOf (f : schema_Field) (objs : List fold_Object) : List index_pair := objs.flatMap fun o => (keysOf f o).map fun k => ⟨k, o.Name⟩
theorem pairsOf_mem {f : schema_Field} {objs : List fold_Object} {p : index_pair} : p ∈ pairsOf f objs ↔ ∃ o ∈ objs, o.Name = p.f_object ∧ p.f_key ∈ keysOf f o := by
  unfold pairsOf
  rw [List.mem_flatMap]
  constructor
  · rintro ⟨o, ho, hp⟩
    obtain ⟨k, hk, rfl⟩ := List.mem_map.1 hp
    exact ⟨o, ho, rfl, hk⟩
  · rintro ⟨o, ho, hn, hk⟩
    refine ⟨o, ho, List.mem_map.2 ⟨p.f_key, hk, ?_⟩⟩
    rw [hn]
theorem pairsOf_length {f : schema_Field} : ∀ {objs : List fold_Object}, (∀ o ∈ objs, GO o) → (pairsOf f objs).length ≤ 100 * objs.length
  | [], _ => Nat.zero_le _
  | o :: objs, h => by
    have h1 := keysOf_length (f := f) (h o (by simp))
    have h2 := pairsOf_length (f := f) (objs := objs) fun q hq => h q (by simp [hq])
    unfold pairsOf at h2 ⊢
    rw [List.flatMap_cons, List.length_append, List.length_map, List.length_cons]
    omega
theorem pairsOf_snoc (f : schema_Field) (objs : List fold_Object) (o : fold_Object) : pairsOf f (objs ++ [o]) = pairsOf f objs ++ (keysOf f o).map fun k => ⟨k, o.Name⟩ := by
  unfold pairsOf
  rw [List.flatMap_append, List.flatMap_cons, List.flatMap_nil, List.append_nil]
theorem pairs_eq {f : schema_Field} {objs : List fold_Object} (h : ∀ o ∈ objs, GO o) (hl : objs.length ≤ 1000) : index_pairs f objs = some (pairsOf f objs) := by
  unfold index_pairs
  have := loopO_up (step := index_pairs.l2 f objs) (fun k => (pairsOf f (objs.take k), (k : Int))) objs.length (b := pairsOf f objs) (fun k hk => ?_) ?_
  · have this : loopO (index_pairs.l2 f objs) ([], 0) = some (pairsOf f objs) := this
    rw [this]
    rfl
  · have hg := h _ (List.getElem_mem hk)
    have hkl := keysOf_length (f := f) hg
    have hpl : (pairsOf f (objs.take k)).length ≤ 100 * 1000 := by
      have := pairsOf_length (f := f) (objs := objs.take k) fun q hq => h q (List.mem_of_mem_take hq)
      rw [List.length_take] at this
      omega
    unfold index_pairs.l2
    simp only [lt_of_len hk, if_true, idx_nat hk, Option.bind_some]
    rw [index_Keys_eq hg, Option.bind_some]
    have inner := loopO_up (step := index_pairs.l1 objs[k] (keysOf f objs[k])) (fun j => (pairsOf f (objs.take k) ++ ((keysOf f objs[k]).take j).map fun q => ⟨q, objs[k].Name⟩, (j : Int))) (keysOf f objs[k]).length (b := pairsOf f (objs.take k) ++ (keysOf f objs[k]).map fun q => ⟨q, objs[k].Name⟩) (fun j hj => ?_) ?_
    · have inner : loopO (index_pairs.l1 objs[k] (keysOf f objs[k])) (pairsOf f (objs.take k) ++ [], 0) = _ := inner
      rw [List.append_nil] at inner
      rw [inner, Option.bind_some]
      unfold index_pairs.j2
      rw [letV_of, wcast hk (by omega), take_snoc hk, pairsOf_snoc]
    · unfold index_pairs.l1
      simp only [lt_of_len hj, if_true, idx_nat hj, Option.bind_some]
      rw [app_of (by simp only [List.length_append, List.length_map, List.length_take, List.length_singleton]; omega), Option.bind_some, letV_of, wcast hj (by omega), take_snoc hj, List.map_append, List.append_assoc]
      rfl
    · unfold index_pairs.l1
      simp only [not_lt_len, Bool.false_eq_true, if_false, List.take_length]
  · unfold index_pairs.l2
    simp only [not_lt_len, Bool.false_eq_true, if_false, List.take_length]
end Go.Proofs.YtpfgdjfiimknlaaGreat
set_option linter.unusedVariables false
set_option linter.unusedSimpArgs false
namespace Go.Proofs.YtpfgdjfiimknlaaGreat
open Go Go.Proofs.YtpfgdjfiimknlaaGreatL
structure IsIx (P : index_Key → List UInt8 → Prop) (es : List index_Entry) : Prop where
  srt : es.Pairwise fun a b => keyLt a.Key b.Key
  asc : ∀ e ∈ es, Asc e.Objects
  ne : ∀ e ∈ es, e.Objects ≠ []
  mem : ∀ k s, (∃ e ∈ es, e.Key = k ∧ s ∈ e.Objects) ↔ P k s
theorem ix_key {es : List index_Entry} (h : es.Pairwise fun a b => keyLt a.Key b.Key) {a b : index_Entry} (ha : a ∈ es) (hb : b ∈ es) (e : a.Key = b.Key) : a = b := by
  induction es with
  | nil => simp at ha
  | cons c es ih =>
    have h1 := (List.pairwise_cons.1 h).1
    have h2 := (List.pairwise_cons.1 h).2
    rcases List.mem_cons.1 ha with p | p <;> rcases List.mem_cons.1 hb with q | q
    · rw [p, q]
    · rw [p] at e; exact absurd e (keyLt_ne (h1 b q))
    · rw [q] at e; exact absurd e.symm (keyLt_ne (h1 a p))
    · exact ih h2 p q
theorem IsIx.obj {P : index_Key → List UInt8 → Prop} {es : List index_Entry} (h : IsIx P es) {e : index_Entry} (he : e ∈ es) (s : List UInt8) : s ∈ e.Objects ↔ P e.Key s := by
  rw [← h.mem]
  constructor
  · exact fun hs => ⟨e, he, rfl, hs⟩
  · rintro ⟨e', he', hk, hs⟩
    rw [← ix_key h.srt he' he hk]
    exact hs
theorem IsIx.sub {P : index_Key → List UInt8 → Prop} {es es' : List index_Entry} (h : IsIx P es) (h' : IsIx P es') {e : index_Entry} (he : e ∈ es) : e ∈ es' := by
  obtain ⟨s, hs⟩ : ∃ s, s ∈ e.Objects := by
    cases ho : e.Objects with
    | nil => exact absurd ho (h.ne e he)
    | cons s l => exact ⟨s, by simp⟩
  obtain ⟨e', he', hk, _⟩ := (h'.mem e.Key s).2 ((h.obj he s).1 hs)
  have : e.Objects = e'.Objects := ascS_ext (h.asc e he) (h'.asc e' he') fun x => by rw [h.obj he, h'.obj he', hk]
  have e2 : e = e' := by
    obtain ⟨k, o⟩ := e
    obtain ⟨k', o'⟩ := e'
    simp only at this hk
    rw [this, hk]
  rw [e2]
  exact he'
theorem IsIx.uniq {P : index_Key → List UInt8 → Prop} {es es' : List index_Entry} (h : IsIx P es) (h' : IsIx P es') : es = es' :=
  srt_ext (lt := fun a b => keyLt a.Key b.Key) (fun _ => keyLt_irrefl _) (fun _ _ _ => keyLt_trans) h.srt h'.srt fun x => ⟨fun hx => h.sub h' hx, fun hx => h'.sub h hx⟩
theorem IsIx.congr {P Q : index_Key → List UInt8 → Prop} {es : List index_Entry} (h : IsIx P es) (hpq : ∀ k s, P k s ↔ Q k s) : IsIx Q es := ⟨h.srt, h.asc, h.ne, fun k s => by rw [h.mem, hpq]⟩
section
variable {κ β : Type} [BEq κ] [LawfulBEq κ]
theorem nodup_lookupK : ∀ {x : List (κ × β)}, (x.map (·.1)).Nodup → ∀ o ∈ x, x.lookup o.1 = some o.2
  | [], _, o, h => by simp at h
  | a :: x, hn, o, h => by
    rw [List.map_cons, List.nodup_cons] at hn
    rw [List.lookup_cons]
    rcases List.mem_cons.1 h with rfl | h
    · simp
    · have : (o.1 == a.1) = false := by
        rw [beq_eq_false_iff_ne]
        exact fun e => hn.1 (List.mem_map.2 ⟨o, h, e⟩)
      rw [this]
      exact nodup_lookupK hn.2 o h
theorem lookup_memK {x : List (κ × β)} {k : κ} {b : β} (h : x.lookup k = some b) : (k, b) ∈ x := by
  induction x with
  | nil => cases h
  | cons a x ih =>
    rw [List.lookup_cons] at h
    cases hk : k == a.1 with
    | true =>
      rw [hk] at h
      have e : k = a.1 := by simpa using hk
      have : a = (k, b) := by rw [e]; exact Prod.ext rfl (Option.some.inj h)
      rw [this]; simp
    | false => rw [hk] at h; exact List.mem_cons_of_mem _ (ih h)
end
structure Grp (l : List index_pair) (gs : List (index_Key × List index_pair)) : Prop where
  nd : (gs.map (·.1)).Nodup
  len : gs.length ≤ l.length
  at_ : ∀ k, gs.lookup k = if l.filter (fun p => decide (p.f_key = k)) = [] then none else some (l.filter fun p => decide (p.f_key = k))
theorem groupBy_ex {l : List index_pair} (hl : l.length ≤ 1000000) : ∃ gs, index_groupBy l = some gs ∧ Grp l gs := by
  unfold index_groupBy
  refine loopO_inv (fun n s => s.1 = (n : Int) ∧ Grp (l.take n) s.2) l.length ⟨rfl, ⟨by simp, by simp, fun k => by simp⟩⟩ ?_ ?_
  · rintro n ⟨i, gs⟩ hn ⟨hi, g⟩
    simp only at hi g
    subst hi
    have glen := g.len
    rw [List.length_take] at glen
    unfold index_groupBy.l1
    simp only [lt_of_len hn, if_true, idx_nat hn, Option.bind_some]
    have e1 : index_pair_group l[n] = some l[n].f_key := rfl
    have hfl : ((gs.lookup l[n].f_key).getD []) = (l.take n).filter fun p => decide (p.f_key = l[n].f_key) := by
      rw [g.at_]
      split
      · rename_i h; rw [h]; rfl
      · rfl
    have hfl2 := List.length_filter_le (fun p => decide (p.f_key = l[n].f_key)) (l.take n)
    rw [List.length_take] at hfl2
    rw [e1, Option.bind_some, hfl, app_of (by rw [List.length_singleton]; omega), Option.bind_some, letV_of, wcast hn (by omega)]
    refine ⟨_, rfl, rfl, ?_⟩
    simp only
    refine ⟨(mset_keys _ _ _ g.nd).1, ?_, fun k => ?_⟩
    · have := mset_length l[n].f_key ((l.take n).filter (fun p => decide (p.f_key = l[n].f_key)) ++ [l[n]]) gs
      rw [List.length_take]
      omega
    · rw [mset_lookup, take_snoc hn, List.filter_append]
      by_cases hk : k = l[n].f_key
      · rw [if_pos (by simp [hk]), ← hk, if_neg]
        · congr 2
          rw [List.filter_cons, if_pos (by simp [hk])]
          rfl
        · rw [List.filter_cons, if_pos (by simp [hk])]
          simp
      · have e2 : [l[n]].filter (fun p => decide (p.f_key = k)) = [] := by
          rw [List.filter_cons, if_neg (by simpa using fun e => hk e.symm)]
          rfl
        rw [if_neg (by simpa using hk), g.at_, e2, List.append_nil]
  · rintro ⟨i, gs⟩ ⟨hi, g⟩
    simp only at hi g
    subst hi
    unfold index_groupBy.l1
    simp only [not_lt_len, Bool.false_eq_true, if_false]
    rw [List.take_length] at g
    exact ⟨gs, rfl, g⟩
def ent (p : index_Key × List index_pair) : index_Entry := ⟨p.1, ascL (p.2.map fun q => q.f_object)⟩
def srtE (es : List index_Entry) : List index_Entry := es.mergeSort fun a b => !decide (keyCmp b.Key a.Key < 0)
theorem objs_loop {g : List index_pair} (hl : g.length ≤ 1000000) : loopO (index_collect.l1 g) (0, []) = some (g.map fun q => q.f_object) := by
  have := loopO_up (step := index_collect.l1 g) (fun k => ((k : Int), (g.take k).map fun q => q.f_object)) g.length (b := g.map fun q => q.f_object) (fun k hk => ?_) ?_
  · exact this
  · unfold index_collect.l1
    simp only [lt_of_len hk, if_true, idx_nat hk, Option.bind_some]
    rw [app_of (by simp only [List.length_map, List.length_take, List.length_singleton]; omega), Option.bind_some, letV_of, wcast hk (by omega), take_snoc hk, List.map_append]
    rfl
  · unfold index_collect.l1
    simp only [not_lt_len, Bool.false_eq_true, if_false, List.take_length]
theorem ents_fold : ∀ (t : List (index_Key × List index_pair)) (es : List index_Entry), (∀ p ∈ t, p.2.length ≤ 1000000) → es.length + t.length ≤ 1000000 →
    foldO (fun p : index_Key × (List index_pair) => index_collect.l2 p.1 p.2) t es = some (.inl (es ++ t.map ent))
  | [], es, _, _ => by rw [foldO, List.map_nil, List.append_nil]
  | p :: t, es, h, hl => by
    have hp := h p (by simp)
    rw [List.length_cons] at hl
    have step : index_collect.l2 p.1 p.2 es = some (.inl (es ++ [ent p])) := by
      unfold index_collect.l2 index_collect.j2
      rw [objs_loop hp, Option.bind_some, ascending_eq (by rw [List.length_map]; omega), Option.bind_some, app_of (by rw [List.length_singleton]; omega), Option.bind_some]
      rfl
    rw [foldO, step]
    have := ents_fold t (es ++ [ent p]) (fun q hq => h q (by simp [hq])) (by rw [List.length_append, List.length_singleton]; omega)
    simp only
    rw [this, List.map_cons, List.append_assoc]
    rfl
theorem srtE_perm (es : List index_Entry) : (srtE es).Perm es := List.mergeSort_perm _ _
theorem sortE_eq {es : List index_Entry} (h : (es.map (·.Key)).Nodup) (hl : es.length ≤ 1000000) : slices_SortFunc_Entry es = some (srtE es) ∧ (srtE es).Pairwise fun a b => keyLt a.Key b.Key := by
  have hp : es.Pairwise fun a b => decide (keyCmp a.Key b.Key < 0) = true ∨ decide (keyCmp b.Key a.Key < 0) = true := by
    refine (List.pairwise_map.1 h).imp fun {a b} hab => ?_
    simp only [decide_eq_true_eq, keyCmp_lt]
    refine Classical.byContradiction fun hc => ?_
    rw [not_or] at hc
    exact hab (key_tri hc.1 hc.2)
  have e1 : slices_SortFunc_Entry es = some (srtE es) := by
    unfold slices_SortFunc_Entry sortU
    rw [if_pos ⟨hp, by omega⟩]
    rfl
  refine ⟨e1, ?_⟩
  have h1 := sortU_sorted (swo_keys fun e : index_Entry => e.Key) (xs := es) (ys := srtE es) e1
  have h2 := pairwise_perm (fun a b h => h.symm) (srtE_perm es).symm hp
  refine (h1.and h2).imp fun {a b} hab => ?_
  obtain ⟨a1, a2⟩ := hab
  simp only [decide_eq_true_eq, decide_eq_false_iff_not, keyCmp_lt] at a1 a2
  exact a2.resolve_right a1
theorem collect_eq {f : schema_Field} {l : List index_pair} (hl : l.length ≤ 1000000) :
    ∃ es, index_collect f l = some ⟨f, es⟩ ∧ IsIx (fun k s => (⟨k, s⟩ : index_pair) ∈ l) es ∧ es.length ≤ l.length ∧ ∀ e ∈ es, e.Objects.length ≤ l.length := by
  obtain ⟨gs, e1, g⟩ := groupBy_ex hl
  have glen := g.len
  have gmem : ∀ p : index_Key × List index_pair, p ∈ gs → p.2 = (l.filter fun q => decide (q.f_key = p.1)) ∧ p.2 ≠ [] := by
    intro p hp
    have h1 := nodup_lookupK g.nd p hp
    rw [g.at_] at h1
    split at h1
    · cases h1
    · rename_i hne
      have := Option.some.inj h1
      exact ⟨this.symm, by rw [← this]; exact hne⟩
  have facts : ∀ t : List (index_Key × List index_pair), t.Perm gs → (foldO (fun p : index_Key × (List index_pair) => index_collect.l2 p.1 p.2) t []) = some (.inl (t.map ent)) ∧ slices_SortFunc_Entry (t.map ent) = some (srtE (t.map ent)) ∧ IsIx (fun k s => (⟨k, s⟩ : index_pair) ∈ l) (srtE (t.map ent)) := by
    intro t ht
    have tl : t.length ≤ 1000000 := by rw [ht.length_eq]; omega
    have tm : ∀ p ∈ t, p.2.length ≤ l.length := fun p hp => by
      rw [(gmem p (ht.mem_iff.1 hp)).1]
      exact List.length_filter_le _ _
    have f1 := ents_fold t [] (fun p hp => Nat.le_trans (tm p hp) hl) (by simpa using tl)
    rw [List.nil_append] at f1
    have nd : ((t.map ent).map (·.Key)).Nodup := by
      rw [List.map_map]
      exact ((ht.map (·.1)).nodup_iff).2 g.nd
    obtain ⟨s1, s2⟩ := sortE_eq nd (by rw [List.length_map]; exact tl)
    refine ⟨f1, s1, s2, fun e he => ?_, fun e he => ?_, fun k s => ?_⟩
    · obtain ⟨p, _, rfl⟩ := List.mem_map.1 ((srtE_perm _).mem_iff.1 he)
      exact ascL_asc _
    · obtain ⟨p, hp, rfl⟩ := List.mem_map.1 ((srtE_perm _).mem_iff.1 he)
      obtain ⟨q, hq⟩ : ∃ q, q ∈ p.2 := by
        cases h2 : p.2 with
        | nil => exact absurd h2 (gmem p (ht.mem_iff.1 hp)).2
        | cons q _ => exact ⟨q, by simp⟩
      intro h0
      have : q.f_object ∈ (ent p).Objects := (ascL_mem _ _).2 (List.mem_map.2 ⟨q, hq, rfl⟩)
      rw [h0] at this
      simp at this
    · constructor
      · rintro ⟨e, he, hk, hs⟩
        obtain ⟨p, hp, rfl⟩ := List.mem_map.1 ((srtE_perm _).mem_iff.1 he)
        obtain ⟨q, hq, rfl⟩ := List.mem_map.1 ((ascL_mem _ _).1 hs)
        rw [(gmem p (ht.mem_iff.1 hp)).1, List.mem_filter] at hq
        have hk2 : q.f_key = p.1 := by simpa using hq.2
        have hk : p.1 = k := hk
        rw [← hk, ← hk2]
        exact hq.1
      · intro hm
        have hf : (⟨k, s⟩ : index_pair) ∈ l.filter fun q => decide (q.f_key = k) := List.mem_filter.2 ⟨hm, by simp⟩
        have hlk : gs.lookup k = some (l.filter fun q => decide (q.f_key = k)) := by
          rw [g.at_, if_neg]
          intro h0
          rw [h0] at hf
          simp at hf
        have hg := lookup_memK hlk
        refine ⟨ent (k, l.filter fun q => decide (q.f_key = k)), (srtE_perm _).mem_iff.2 (List.mem_map.2 ⟨_, ht.mem_iff.2 hg, rfl⟩), rfl, ?_⟩
        exact (ascL_mem _ _).2 (List.mem_map.2 ⟨_, hf, rfl⟩)
  obtain ⟨_, _, ix0⟩ := facts gs (.refl _)
  refine ⟨srtE (gs.map ent), ?_, ix0, ?_, fun e he => ?_⟩
  · unfold index_collect
    rw [e1, Option.bind_some]
    refine permI fun t ht => ?_
    obtain ⟨f1, f2, f3⟩ := facts t ht
    rw [f1, Option.bind_some]
    simp only
    unfold index_collect.j1
    rw [f2, Option.bind_some, f3.uniq ix0]
  · rw [(srtE_perm _).length_eq, List.length_map]
    exact glen
  · obtain ⟨p, hp, rfl⟩ := List.mem_map.1 ((srtE_perm _).mem_iff.1 he)
    refine Nat.le_trans (ascL_length _) ?_
    rw [List.length_map, (gmem p hp).1]
    exact List.length_filter_le _ _
def PB (f : schema_Field) (objs : List fold_Object) (k : index_Key) (s : List UInt8) : Prop := ∃ o ∈ objs, o.Name = s ∧ k ∈ keysOf f o
structure GX (P : index_Key → List UInt8 → Prop) (es : List index_Entry) : Prop where
  ix : IsIx P es
  len : es.length ≤ 10000
  olen : ∀ e ∈ es, e.Objects.length ≤ 10000
theorem Build_eq (f : schema_Field) {objs : List fold_Object} (h : ∀ o ∈ objs, GO o) (hl : objs.length ≤ 100) : ∃ es, index_Build f ⟨objs⟩ = some ⟨f, es⟩ ∧ GX (PB f objs) es := by
  have hpl := pairsOf_length (f := f) h
  obtain ⟨es, e1, e2, e3, e4⟩ := collect_eq (f := f) (l := pairsOf f objs) (by omega)
  refine ⟨es, ?_, e2.congr fun k s => pairsOf_mem, by omega, fun e he => by have := e4 e he; omega⟩
  unfold index_Build
  rw [pairs_eq h (by omega), Option.bind_some, e1, Option.bind_some]
theorem GX.uniq {P : index_Key → List UInt8 → Prop} {es es' : List index_Entry} (h : GX P es) (h' : GX P es') : es = es' := h.ix.uniq h'.ix
end Go.Proofs.YtpfgdjfiimknlaaGreat
set_option linter.unusedVariables false
set_option linter.unusedSimpArgs false
namespace Go.Proofs.YtpfgdjfiimknlaaGreat
open Go Go.Proofs.YtpfgdjfiimknlaaGreatL
theorem Compare_eq (a b : index_Key) : index_Compare a b = some (keyCmp a b) := by
  unfold index_Compare
  rw [compare_eq, Option.bind_some, compare64_eq, Option.bind_some, compareS_eq, Option.bind_some, or_eq, Option.bind_some]
  rfl
theorem cmpI_swap (x y : Int) : cmpI y x = - cmpI x y := by
  unfold cmpI
  split <;> split <;> omega
theorem cmpS_swap (x y : List UInt8) : cmpS y x = - cmpS x y := by
  unfold cmpS
  cases h1 : Op.bytesLess x y with
  | true => rw [bl_asymm h1]; rfl
  | false => cases h2 : Op.bytesLess y x <;> rfl
theorem keyCmp_swap (a b : index_Key) : keyCmp b a = - keyCmp a b := by
  unfold keyCmp
  rw [cmpI_swap a.f_Type, cmpI_swap a.N, cmpS_swap a.S]
  by_cases h1 : cmpI a.f_Type b.f_Type = 0
  · by_cases h2 : cmpI a.N b.N = 0
    · simp [h1, h2]
    · simp [h1, h2]
  · simp [h1]
theorem keyCmp_gt (a b : index_Key) : 0 < keyCmp a b ↔ keyLt b a := by
  rw [← keyCmp_lt, keyCmp_swap b a]
  omega
theorem keyCmp_le (a b : index_Key) : keyCmp a b ≤ 0 ↔ ¬ keyLt b a := by
  rw [← keyCmp_gt]
  omega
theorem keyCmp_zero (a b : index_Key) : keyCmp a b = 0 ↔ a = b := by
  constructor
  · intro h
    refine key_tri ?_ ?_
    · rw [← keyCmp_lt]; omega
    · rw [← keyCmp_gt]; omega
  · rintro rfl
    have := keyCmp_swap a a
    omega
theorem keyCmp_vals (a b : index_Key) : keyCmp a b = -1 ∨ keyCmp a b = 0 ∨ keyCmp a b = 1 := by
  have hI : ∀ x y : Int, cmpI x y = -1 ∨ cmpI x y = 0 ∨ cmpI x y = 1 := fun x y => by
    unfold cmpI; split
    · exact .inl rfl
    · split
      · exact .inr (.inr rfl)
      · exact .inr (.inl rfl)
  unfold keyCmp
  split
  · exact hI _ _
  · split
    · exact hI _ _
    · unfold cmpS
      split
      · exact .inl rfl
      · split
        · exact .inr (.inr rfl)
        · exact .inr (.inl rfl)
theorem rCompare_eq (a b : index_Key) : esref32_Compare (kc a) (kc b) = some (keyCmp a b) := by
  have hj : ∀ c : Bool, (c = true ↔ keyLt a b) → esref32_Compare.j1 (kc a) (kc b) c = some (keyCmp a b) := by
    intro c hc
    unfold esref32_Compare.j1
    have hv := keyCmp_vals a b
    cases c with
    | true =>
      have := (keyCmp_lt a b).2 (hc.1 rfl)
      rw [if_pos rfl]
      congr 1
      omega
    | false =>
      have hn : ¬ keyCmp a b < 0 := fun h => by
        have := hc.2 ((keyCmp_lt a b).1 h)
        cases this
      rw [if_neg (by simp)]
      by_cases he : a = b
      · subst he
        rw [if_pos (by simp), (keyCmp_zero a a).2 rfl]
      · rw [if_neg (by
          rw [decide_eq_true_eq]
          exact fun h => he (kc_inj h))]
        have : keyCmp a b ≠ 0 := fun h => he ((keyCmp_zero a b).1 h)
        congr 1
        omega
  unfold esref32_Compare
  show (if decide (a.f_Type < b.f_Type) = true then esref32_Compare.j1 (kc a) (kc b) true else if (a.f_Type == b.f_Type) = true then (if decide (a.N < b.N) = true then esref32_Compare.j1 (kc a) (kc b) true else if (a.N == b.N) = true then esref32_Compare.j1 (kc a) (kc b) (Op.bytesLess a.S b.S) else esref32_Compare.j1 (kc a) (kc b) false) else esref32_Compare.j1 (kc a) (kc b) false) = _
  by_cases h1 : a.f_Type < b.f_Type
  · rw [if_pos (by simpa using h1)]
    exact hj true (by simp [keyLt, h1])
  · rw [if_neg (by simpa using h1)]
    by_cases h2 : a.f_Type = b.f_Type
    · rw [if_pos (by simpa using h2)]
      by_cases h3 : a.N < b.N
      · rw [if_pos (by simpa using h3)]
        exact hj true (by simp [keyLt, h2, h3])
      · rw [if_neg (by simpa using h3)]
        by_cases h4 : a.N = b.N
        · rw [if_pos (by simpa using h4)]
          exact hj _ (by simp [keyLt, h2, h4])
        · rw [if_neg (by simpa using h4)]
          exact hj false (by simp [keyLt, h2, h3, h4])
    · rw [if_neg (by simpa using h2)]
      exact hj false (by simp [keyLt, h1, h2])
theorem eqloop {α β : Type} [DecidableEq β] {step : Int → Option (Int ⊕ (Unit ⊕ Bool))} (c : α → β) (xs : List α) (ys : List β) (hl : xs.length = ys.length)
    (hs : ∀ (k : Nat) (h : k < xs.length), step (k : Int) = if c xs[k] = ys[k]'(by omega) then some (.inl ((k + 1 : Nat) : Int)) else some (.inr (.inr false))) (he : step (xs.length : Int) = some (.inr (.inl ()))) :
    loopO step 0 = some (if xs.map c = ys then .inl () else .inr false) := by
  have : ∀ m k, k + m = xs.length → loopO step (k : Int) = some (if (xs.drop k).map c = ys.drop k then .inl () else .inr false) := by
    intro m
    induction m with
    | zero =>
      intro k hk
      have hk : k = xs.length := by omega
      subst hk
      rw [loopO_done he, List.drop_length, hl, List.drop_length]
      rfl
    | succ m ih =>
      intro k hk
      have hk' : k < xs.length := by omega
      rw [List.drop_eq_getElem_cons hk', List.drop_eq_getElem_cons (show k < ys.length by omega), List.map_cons]
      have h1 := hs k hk'
      by_cases hc : c xs[k] = ys[k]'(by omega)
      · rw [if_pos hc] at h1
        rw [loopO_next h1, ih (k + 1) (by omega), hc]
        simp only [List.cons.injEq, true_and]
      · rw [if_neg hc] at h1
        rw [loopO_done h1, if_neg (fun h => hc (List.cons.inj h).1)]
  have h := this xs.length 0 (by omega)
  rw [List.drop_zero, List.drop_zero] at h
  exact h
theorem rstrings_eq {a b : List (List UInt8)} (hl : a.length ≤ 4611686018427387904) : esref32_EqualStrings a b = some (decide (a = b)) := by
  unfold esref32_EqualStrings
  by_cases h : a.length = b.length
  · rw [if_neg (by simp [h])]
    have key : loopO (esref32_EqualStrings.l1 a b) 0 = some (if a.map (fun x => x) = b then .inl () else .inr false) := by
      refine eqloop (fun x => x) a b h (fun k hk => ?_) ?_
      · unfold esref32_EqualStrings.l1
        simp only [lt_of_len hk, if_true, idx_nat hk, idx_nat (show k < b.length by omega), Option.bind_some]
        by_cases he : a[k] = b[k]'(by omega)
        · rw [if_neg (by simpa using he), if_pos he, letV_of, wcast hk (by omega)]
        · rw [if_pos (by simpa using he), if_neg he]
      · unfold esref32_EqualStrings.l1
        simp only [not_lt_len, Bool.false_eq_true, if_false]
    rw [key, Option.bind_some, List.map_id']
    by_cases he : a = b
    · rw [if_pos he]; simp [he, esref32_EqualStrings.j1]
    · rw [if_neg he]; simp [he]
  · rw [if_pos (by simp; omega)]
    have : a ≠ b := fun e => h (by rw [e])
    simp [this]
def ke (e : index_Entry) : elasticstoreref32_Entry := ⟨kc e.Key, e.Objects⟩
theorem entries_eq {es : List index_Entry} (hl : es.length ≤ 1000000) : eslaw32_entries es = some (es.map ke) := by
  unfold eslaw32_entries
  have := loopO_up (step := eslaw32_entries.l1 es) (fun k => ((es.take k).map ke, (k : Int))) es.length (b := es.map ke) (fun k hk => ?_) ?_
  · have this : loopO (eslaw32_entries.l1 es) ([], 0) = some (es.map ke) := this
    rw [this]
    rfl
  · unfold eslaw32_entries.l1
    simp only [lt_of_len hk, if_true, idx_nat hk, Option.bind_some, eslaw32_convert]
    rw [app_of (by simp only [List.length_map, List.length_take, List.length_singleton]; omega), Option.bind_some, letV_of, wcast hk (by omega), take_snoc hk, List.map_append]
    rfl
  · unfold eslaw32_entries.l1
    simp only [not_lt_len, Bool.false_eq_true, if_false, List.take_length]
end Go.Proofs.YtpfgdjfiimknlaaGreat
set_option linter.unusedVariables false
set_option linter.unusedSimpArgs false
namespace Go.Proofs.YtpfgdjfiimknlaaGreat
open Go Go.Proofs.YtpfgdjfiimknlaaGreatL
end Go.Proofs.YtpfgdjfiimknlaaGreat
set_option linter.unusedVariables false
set_option linter.unusedSimpArgs false
namespace Go.Proofs.YtpfgdjfiimknlaaGreat
open Go Go.Proofs.YtpfgdjfiimknlaaGreatL
theorem Index_ex (n k : Int) (h1 : 1 ≤ k) (h2 : k ≤ 4611686018427387904) : ∃ d, eslaw00_Index n k = some d ∧ 0 ≤ d ∧ d < k := by
  unfold eslaw00_Index
  rw [if_neg (by simp; omega), if_pos (by omega)]
  have e1 : Int.tmod n k < k := Int.tmod_lt_of_pos _ (by omega)
  have e2 : -k < Int.tmod n k := by
    have : Int.tmod (-n) k < k := Int.tmod_lt_of_pos _ (by omega)
    rw [Int.neg_tmod] at this
    omega
  simp only [letV_of]
  rw [w64 (by omega) (by omega), if_pos (by omega)]
  exact ⟨_, rfl, Int.tmod_nonneg _ (by omega), Int.tmod_lt_of_pos _ (by omega)⟩
theorem Digit_ex (n b : Int) (i : Nat) (h1 : 2 ≤ b) (h2 : b ≤ 16) (hi : i ≤ 100000) : ∃ d, eslaw00_Digit n b (i : Int) = some d ∧ 0 ≤ d ∧ d < b := by
  obtain ⟨x, hx, hx0, hx1⟩ := Index_ex n 1099511627776 (by decide) (by decide)
  unfold eslaw00_Digit
  rw [hx]
  simp only [Option.bind_some]
  have key : ∃ r, loopO (eslaw00_Digit.l1 b (i : Int)) (x, 0) = some r ∧ 0 ≤ r := by
    refine loopO_inv (fun k s => ∃ y : Int, s = (y, (k : Int)) ∧ 0 ≤ y ∧ y < 1099511627776) i ⟨x, rfl, hx0, hx1⟩ (fun k s hk hI => ?_) (fun s hI => ?_)
    · obtain ⟨y, rfl, h3, h4⟩ := hI
      simp only [eslaw00_Digit.l1]
      rw [if_pos (by simpa using hk), if_pos (by omega)]
      have h5 : 0 ≤ Int.tdiv y b := Int.tdiv_nonneg h3 (by omega)
      have h6 : Int.tdiv y b ≤ y := by
        rw [Int.tdiv_eq_ediv_of_nonneg h3]
        exact Int.ediv_le_self _ h3
      simp only [letV_of]
      rw [w64 (x := Int.tdiv y b) (by omega) (by omega), wcast hk (by omega)]
      exact ⟨_, rfl, _, rfl, h5, by omega⟩
    · obtain ⟨y, rfl, h3, h4⟩ := hI
      simp only [eslaw00_Digit.l1]
      rw [if_neg (by simp)]
      exact ⟨_, rfl, h3⟩
  obtain ⟨r, hr, hr0⟩ := key
  rw [hr]
  simp only [Option.bind_some, eslaw00_Digit.j1]
  rw [if_pos (by omega)]
  exact ⟨_, rfl, Int.tmod_nonneg _ hr0, Int.tmod_lt_of_pos _ (by omega)⟩
theorem name_ex (d : Int) : ∃ s, eslaw00_name d = some s ∧ s.length ≤ 2 ∧ s ≠ [] := by
  unfold eslaw00_name
  obtain ⟨x, hx, h0, h1⟩ := Index_ex d 4 (by decide) (by decide)
  rw [hx, Option.bind_some]
  have : x = 0 ∨ x = 1 ∨ x = 2 ∨ x = 3 := by omega
  rcases this with rfl | rfl | rfl | rfl
  · exact ⟨[97], rfl, by decide, by decide⟩
  · exact ⟨[98], rfl, by decide, by decide⟩
  · exact ⟨[99], rfl, by decide, by decide⟩
  · exact ⟨[120, 49], rfl, by decide, by decide⟩
end Go.Proofs.YtpfgdjfiimknlaaGreat
set_option linter.unusedVariables false
set_option linter.unusedSimpArgs false
namespace Go.Proofs.YtpfgdjfiimknlaaGreat
open Go Go.Proofs.YtpfgdjfiimknlaaGreatL
theorem Effect_ex (n : Int) (b : Bool) : ∃ e, eslaw00_Effect n b = some e ∧ EF e ∧ (b = false → e.Kind ≠ 1) := by
  unfold eslaw00_Effect
  obtain ⟨d1, e1, _⟩ := Digit_ex n 4 1 (by decide) (by decide) (by decide)
  obtain ⟨s1, f1, l1, _⟩ := name_ex d1
  obtain ⟨d2, e2, _⟩ := Digit_ex n 4 2 (by decide) (by decide) (by decide)
  obtain ⟨s2, f2, l2, _⟩ := name_ex d2
  obtain ⟨d3, e3, _⟩ := Digit_ex n 16 3 (by decide) (by decide) (by decide)
  obtain ⟨d5, e5, _⟩ := Digit_ex n 4 5 (by decide) (by decide) (by decide)
  obtain ⟨s5, f5, l5, _⟩ := name_ex d5
  obtain ⟨d0, e0, _⟩ := Digit_ex n 4 0 (by decide) (by decide) (by decide)
  have e1 : eslaw00_Digit n 4 1 = some d1 := e1
  have e2 : eslaw00_Digit n 4 2 = some d2 := e2
  have e3 : eslaw00_Digit n 16 3 = some d3 := e3
  have e5 : eslaw00_Digit n 4 5 = some d5 := e5
  have e0 : eslaw00_Digit n 4 0 = some d0 := e0
  simp only [e1, f1, e2, f2, e3, e5, f5, e0, Option.bind_some, letV_of, eslaw00_Effect.j1]
  have m1 : s1.length ≤ 1000 := by omega
  have m2 : s2.length ≤ 1000 := by omega
  have m5 : s5.length ≤ 1000 := by omega
  cases b with
  | true => exact ⟨_, rfl, ⟨m1, m2, m5⟩, by simp⟩
  | false =>
    simp only [Bool.false_eq_true, if_false]
    split
    · exact ⟨_, rfl, ⟨m1, m2, by simp⟩, by simp⟩
    · split
      · exact ⟨_, rfl, ⟨m1, m2, by simp⟩, by simp⟩
      · split
        · exact ⟨_, rfl, ⟨m1, m2, m5⟩, by simp⟩
        · exact ⟨_, rfl, ⟨m1, m2, by simp⟩, by simp⟩
structure UOK (u : api_Update) : Prop where
  len : u.Effects.length ≤ 4
  ef : ∀ e ∈ u.Effects, EF e
  one : u.Effects.length ≤ 1 ∨ ∀ e ∈ u.Effects, e.Kind ≠ 1
theorem Update_ex (c s n : Int) : ∃ u, eslaw00_Update c s n = some u ∧ u.Client = c ∧ u.Seq = s ∧ UOK u := by
  unfold eslaw00_Update
  obtain ⟨d8, e8, _⟩ := Digit_ex n 3 8 (by decide) (by decide) (by decide)
  obtain ⟨d4, e4, _⟩ := Digit_ex n 16 4 (by decide) (by decide) (by decide)
  obtain ⟨ef, hef, hE, _⟩ := Effect_ex n true
  have e8 : eslaw00_Digit n 3 8 = some d8 := e8
  have e4 : eslaw00_Digit n 16 4 = some d4 := e4
  simp only [e8, Option.bind_some]
  split
  · simp only [e4, hef, Option.bind_some]
    refine ⟨_, rfl, rfl, rfl, ⟨by simp, fun e he => ?_, .inl (by simp)⟩⟩
    simp at he
    subst he
    exact hE
  · obtain ⟨d9, e9, h90, h91⟩ := Digit_ex n 3 9 (by decide) (by decide) (by decide)
    have e9 : eslaw00_Digit n 3 9 = some d9 := e9
    have key : ∃ l, loopO (eslaw00_Update.l1 n) (0, []) = some l ∧ (l.length ≤ 4 ∧ ∀ e ∈ l, EF e ∧ e.Kind ≠ 1) := by
      refine loopO_mu (fun s : Int × List api_Effect => 0 ≤ s.1 ∧ s.1 ≤ 3 ∧ s.2.length ≤ s.1.toNat ∧ ∀ e ∈ s.2, EF e ∧ e.Kind ≠ 1) (fun s => (4 - s.1).toNat) ⟨by decide, by decide, by simp, by simp⟩ ?_
      rintro ⟨i, l⟩ ⟨h0, h1, h2, h3⟩
      simp only at h0 h1 h2 h3
      unfold eslaw00_Update.l1
      simp only [e9, Option.bind_some]
      by_cases hc : i ≤ d9
      · rw [if_pos (by simpa using hc)]
        obtain ⟨x, hx, hx0, hx1⟩ := Index_ex n 1099511627776 (by decide) (by decide)
        simp only [hx, Option.bind_some, letV_of]
        rw [w64 (x := i + 1) (by omega) (by omega), if_pos (by omega)]
        obtain ⟨e, he, hE, hk⟩ := Effect_ex (IntKind.i64.wrap (Int.tdiv x (i + 1))) false
        rw [he, Option.bind_some, app_of (by simp only [List.length_singleton]; omega), Option.bind_some]
        refine .inl ⟨_, rfl, ⟨by omega, by omega, ?_, fun q hq => ?_⟩, by simp only; omega⟩
        · simp only [List.length_append, List.length_singleton]; omega
        · rcases List.mem_append.1 hq with hq | hq
          · exact h3 q hq
          · simp at hq; subst hq; exact ⟨hE, hk rfl⟩
      · rw [if_neg (by simpa using hc)]
        exact .inr ⟨l, rfl, by omega, h3⟩
    obtain ⟨l, hl, h1, h2⟩ := key
    rw [hl, Option.bind_some]
    exact ⟨_, rfl, rfl, rfl, ⟨h1, fun e he => (h2 e he).1, .inr fun e he => (h2 e he).2⟩⟩
def ult (a b : api_Update) : Prop := a.Client < b.Client ∨ a.Client = b.Client ∧ a.Seq < b.Seq
structure US (c q : Int) (s : List api_Update) : Prop where
  ok : ∀ u ∈ s, UOK u
  cl : ∀ u ∈ s, 101 ≤ u.Client ∧ (u.Client < 101 + c ∨ u.Client = 101 + c ∧ u.Seq ≤ q)
  sq : ∀ u ∈ s, 1 ≤ u.Seq ∧ u.Seq ≤ 8
  asc : s.Pairwise ult
  len : (s.length : Int) ≤ 8 * c + q
theorem Updates_ex (l : List Int) : ∃ s, eslaw00_Updates l = some s ∧ US 3 0 s := by
  unfold eslaw00_Updates
  have key : ∃ s, loopO (eslaw00_Updates.l2 l) ([], 0) = some s ∧ US 3 0 s := by
    refine loopO_inv (I := fun k s => s.2 = (k : Int) ∧ US (k : Int) 0 s.1) 3 ⟨rfl, ⟨by simp, by simp, by simp, List.Pairwise.nil, by simp⟩⟩ ?_ ?_
    · rintro k ⟨s, c⟩ hk ⟨hc, hU⟩
      simp only at hc hU
      subst hc
      unfold eslaw00_Updates.l2
      simp only
      rw [if_pos (by rw [decide_eq_true_eq]; omega)]
      have inner : ∃ s', loopO (eslaw00_Updates.l1 l (k : Int)) (s, 0, 0) = some s' ∧ US ((k : Int) + 1) 0 s' := by
        refine loopO_mu (fun t : List api_Update × Int × Int => 0 ≤ t.2.2 ∧ t.2.2 ≤ 24 ∧ 0 ≤ t.2.1 ∧ t.2.1 ≤ 8 ∧ US (k : Int) t.2.1 t.1) (fun t => (25 - t.2.2).toNat) ⟨Int.le_refl 0, (by decide : (0 : Int) ≤ 24), Int.le_refl 0, (by decide : (0 : Int) ≤ 8), hU⟩ ?_
        rintro ⟨s, q, i⟩ ⟨h0, h1, h2, h3, hU⟩
        simp only at h0 h1 h2 h3 hU
        have stop : US ((k : Int) + 1) 0 s := ⟨hU.ok, fun u hu => ⟨(hU.cl u hu).1, .inl (by rcases (hU.cl u hu).2 with h | h <;> omega)⟩, hU.sq, hU.asc, by have := hU.len; omega⟩
        unfold eslaw00_Updates.l1
        simp only
        have next : ∀ (s' : List api_Update) (q' : Int), 0 ≤ q' → q' ≤ 8 → US (k : Int) q' s' → i < 24 → (∃ t, eslaw00_Updates.j3 i s' q' = some (.inl t) ∧ (0 ≤ t.2.2 ∧ t.2.2 ≤ 24 ∧ 0 ≤ t.2.1 ∧ t.2.1 ≤ 8 ∧ US (k : Int) t.2.1 t.1) ∧ (25 - t.2.2).toNat < (25 - i).toNat) := by
          intro s' q' hq0 hq1 hU' hi
          unfold eslaw00_Updates.j3
          rw [letV_of, w64 (x := i + 1) (by omega) (by omega)]
          exact ⟨_, rfl, ⟨by simp only; omega, by simp only; omega, hq0, hq1, hU'⟩, by simp only; omega⟩
        by_cases hi1 : i < (l.length : Int)
        · rw [if_pos (by simpa using hi1)]
          by_cases hi2 : i < 24
          · rw [show decide (i < 24) = true by simpa using hi2]
            unfold eslaw00_Updates.j5
            rw [if_pos rfl]
            obtain ⟨j, rfl⟩ : ∃ j : Nat, i = j := ⟨i.toNat, by omega⟩
            have hj : j < l.length := by omega
            rw [idx_nat hj, Option.bind_some]
            obtain ⟨d, hd, hd0, hd1⟩ := Digit_ex l[j] 3 0 (by decide) (by decide) (by decide)
            have hd : eslaw00_Digit l[j] 3 0 = some d := hd
            rw [hd, Option.bind_some]
            have skip := next s q h2 h3 hU hi2
            have j4f : eslaw00_Updates.j4 l (k : Int) s q (j : Int) false = eslaw00_Updates.j3 (j : Int) s q := by
              unfold eslaw00_Updates.j4
              rw [if_neg (by simp)]
            split
            · by_cases hq : q < 8
              · rw [show decide (q < 8) = true by simpa using hq]
                unfold eslaw00_Updates.j4
                rw [if_pos rfl, letV_of, letV_of, idx_nat hj, Option.bind_some]
                obtain ⟨x, hx, hx0, hx1⟩ := Index_ex l[j] 1099511627776 (by decide) (by decide)
                rw [hx, Option.bind_some, letV_of]
                rw [w64 (x := 101 + (k : Int)) (by omega) (by omega), w64 (x := q + 1) (by omega) (by omega)]
                obtain ⟨u, hu, huc, hus, hok⟩ := Update_ex (101 + (k : Int)) (q + 1) (IntKind.i64.wrap (Int.tdiv x 3))
                have hlen := hU.len
                rw [hu, Option.bind_some, app_of (by simp only [List.length_singleton]; omega), Option.bind_some]
                refine .inl (next _ (q + 1) (by omega) (by omega) ?_ hi2)
                have eu : (⟨u.Client, u.Seq, u.Tag, u.Effects⟩ : api_Update) = u := rfl
                rw [eu]
                refine ⟨fun v hv => ?_, fun v hv => ?_, fun v hv => ?_, ?_, by simp only [List.length_append, List.length_singleton]; omega⟩
                · rcases List.mem_append.1 hv with hv | hv
                  · exact hU.ok v hv
                  · simp at hv; subst hv; exact hok
                · rcases List.mem_append.1 hv with hv | hv
                  · obtain ⟨a, b⟩ := hU.cl v hv
                    exact ⟨a, by rcases b with b | b <;> omega⟩
                  · simp at hv; subst hv; rw [huc, hus]; omega
                · rcases List.mem_append.1 hv with hv | hv
                  · exact hU.sq v hv
                  · simp at hv; subst hv; rw [hus]; omega
                · rw [List.pairwise_append]
                  refine ⟨hU.asc, List.pairwise_singleton _ _, fun a ha b hb => ?_⟩
                  simp at hb; subst hb
                  unfold ult
                  rw [huc, hus]
                  rcases (hU.cl a ha).2 with h | h <;> omega
              · rw [show decide (q < 8) = false by simpa using hq, j4f]
                exact .inl skip
            · rw [j4f]
              exact .inl skip
          · rw [show decide (i < 24) = false by simpa using hi2]
            exact .inr ⟨s, rfl, stop⟩
        · rw [if_neg (by simpa using hi1)]
          exact .inr ⟨s, rfl, stop⟩
      obtain ⟨s', e1, e2⟩ := inner
      rw [e1, Option.bind_some]
      unfold eslaw00_Updates.j2
      rw [letV_of, w64n (by omega)]
      refine ⟨_, rfl, rfl, ?_⟩
      have : ((k + 1 : Nat) : Int) = (k : Int) + 1 := by omega
      rw [this]
      exact e2
    · rintro ⟨s, c⟩ ⟨hc, hU⟩
      simp only at hc hU
      subst hc
      exact ⟨s, rfl, hU⟩
  obtain ⟨s, e1, e2⟩ := key
  rw [e1]
  exact ⟨s, rfl, e2⟩
theorem US_effN {c q : Int} {s : List api_Update} (h : US c q s) : effN s ≤ 4 * s.length := by
  have : ∀ l : List api_Update, (∀ u ∈ l, UOK u) → effN l ≤ 4 * l.length := by
    intro l
    induction l with
    | nil => intro _; exact Nat.zero_le _
    | cons u l ih =>
      intro h
      have h1 := (h u (by simp)).len
      have h2 := ih fun v hv => h v (by simp [hv])
      unfold effN at h2 ⊢
      rw [List.map_cons, List.sum_cons, List.length_cons]
      omega
  exact this s h.ok
end Go.Proofs.YtpfgdjfiimknlaaGreat
set_option linter.unusedVariables false
set_option linter.unusedSimpArgs false
namespace Go.Proofs.YtpfgdjfiimknlaaGreat
open Go Go.Proofs.YtpfgdjfiimknlaaGreatL
theorem mem_insS : ∀ {l : List (List UInt8)} {s x : List UInt8}, x ∈ insS l s ↔ x = s ∨ x ∈ l
  | [], s, x => by simp [insS]
  | a :: l, s, x => by
    unfold insS
    split
    · rw [List.mem_cons, mem_insS, List.mem_cons]
      constructor
      · rintro (h | h | h)
        · exact .inr (.inl h)
        · exact .inl h
        · exact .inr (.inr h)
      · rintro (h | h | h)
        · exact .inr (.inl h)
        · exact .inl h
        · exact .inr (.inr h)
    · split
      · rename_i he
        have he : a = s := by simpa using he
        constructor
        · exact .inr
        · rintro (h | h)
          · rw [h, he]; simp
          · exact h
      · rw [List.mem_cons]
theorem rInsert_eq {x : List (List UInt8)} {s : List UInt8} (ha : Asc x) (hl : x.length ≤ 1000000000) : esref32_Insert x s = some (insS x s) := by
  unfold esref32_Insert
  have hp := posS_le x s
  obtain ⟨p, hpe⟩ : ∃ p, p = posS x s := ⟨_, rfl⟩
  have gD : ∀ k (h : k < x.length), x.getD k s = x[k] := fun k h => by simp [h]
  have key : loopO (esref32_Insert.l1 x s) 0 = some (p : Int) := by
    have := loopO_up (step := esref32_Insert.l1 x s) (fun k => (k : Int)) p (b := (p : Int)) (fun k hk => ?_) ?_
    · exact this
    · have hkx : k < x.length := by omega
      have h1 := posS_lt x s k (by omega)
      rw [gD k hkx] at h1
      unfold esref32_Insert.l1
      simp only [lt_of_len hkx, if_true, idx_nat hkx, Option.bind_some, h1]
      unfold esref32_Insert.j4
      rw [if_pos rfl, letV_of, wcast hkx (by omega)]
    · unfold esref32_Insert.l1
      by_cases hpx : p < x.length
      · have h1 := posS_ge x s ha p (by omega)
        rw [gD p hpx] at h1
        simp only [lt_of_len hpx, if_true, idx_nat hpx, Option.bind_some, h1]
        unfold esref32_Insert.j4
        rw [if_neg (by simp)]
      · rw [if_neg (by simp; omega)]
        unfold esref32_Insert.j4
        rw [if_neg (by simp)]
  rw [key, Option.bind_some, insS_pos, ← hpe]
  have no : esref32_Insert.j2 x s (p : Int) false = some (x.take p ++ s :: x.drop p) := by
    unfold esref32_Insert.j2
    rw [if_neg (by simp), cut_of (by omega) (by omega) (by omega), Option.bind_some]
    simp only [Int.toNat_zero, List.drop_zero, Int.toNat_natCast]
    have hlt : (x.take p).length ≤ x.length := by rw [List.length_take]; omega
    rw [app_of (by rw [List.length_nil]; omega), Option.bind_some, List.nil_append, app_of (by rw [List.length_singleton]; omega), Option.bind_some, cut_of (by omega) (by omega) (by omega), Option.bind_some]
    simp only [Int.toNat_natCast, List.take_length]
    rw [app_of (by simp only [List.length_append, List.length_singleton, List.length_drop]; omega), Option.bind_some]
    unfold esref32_Insert.j1
    rw [List.append_assoc]
    rfl
  unfold esref32_Insert.j3
  by_cases hpx : p < x.length
  · rw [if_pos (by simpa using hpx), idx_nat hpx, Option.bind_some]
    by_cases he : x[p] = s
    · rw [if_pos ⟨hpx, by rw [gD p hpx]; exact he⟩, show (x[p] == s) = true by simp [he]]
      unfold esref32_Insert.j2
      rw [if_pos rfl, app_of (by rw [List.length_nil]; omega), Option.bind_some, List.nil_append]
    · rw [if_neg (fun h => he (by rw [← gD p hpx]; exact h.2)), show (x[p] == s) = false by simpa using he, no]
  · rw [if_neg (by simpa using hpx), if_neg (fun h => hpx h.1), no]
structure RG (es : List index_Entry) (lo hi : index_Key) (r : List (List UInt8)) : Prop where
  asc : Asc r
  len : r.length ≤ 100000000
  mem : ∀ x, x ∈ r ↔ ∃ e ∈ es, ¬ keyLt e.Key lo ∧ ¬ keyLt hi e.Key ∧ x ∈ e.Objects
theorem RG.uniq {es : List index_Entry} {lo hi : index_Key} {r r' : List (List UInt8)} (h : RG es lo hi r) (h' : RG es lo hi r') : r = r' := ascS_ext h.asc h'.asc fun x => by rw [h.mem, h'.mem]
structure EB (es : List index_Entry) : Prop where
  len : es.length ≤ 10000
  olen : ∀ e ∈ es, e.Objects.length ≤ 10000
theorem GX.eb {P : index_Key → List UInt8 → Prop} {es : List index_Entry} (h : GX P es) : EB es := ⟨h.len, h.olen⟩
theorem Range_eq {f : schema_Field} {es : List index_Entry} (hb : EB es) (lo hi : index_Key) : ∃ r, index_Range ⟨f, es⟩ lo hi = some r ∧ RG es lo hi r := by
  unfold index_Range
  have hlen := hb.len
  have key : ∃ b : List (List UInt8), loopO (index_Range.l1 ⟨f, es⟩ lo hi) ([], 0) = some b ∧ b.length ≤ 100000000 ∧ ∀ x, x ∈ b ↔ ∃ e ∈ es, ¬ keyLt e.Key lo ∧ ¬ keyLt hi e.Key ∧ x ∈ e.Objects := by
    refine loopO_inv (fun n s => s.2 = (n : Int) ∧ s.1.length ≤ 10000 * n ∧ ∀ x, x ∈ s.1 ↔ ∃ e ∈ es.take n, ¬ keyLt e.Key lo ∧ ¬ keyLt hi e.Key ∧ x ∈ e.Objects) es.length ⟨rfl, Nat.le_refl _, by simp⟩ ?_ ?_
    · rintro n ⟨r, i⟩ hn ⟨hi', h1, h2⟩
      simp only at hi' h1 h2
      subst hi'
      have ho := hb.olen _ (List.getElem_mem hn)
      unfold index_Range.l1
      simp only [lt_of_len hn, if_true, idx_nat hn, Option.bind_some, Compare_eq]
      have tk : ∀ x, (∃ e ∈ es.take (n + 1), ¬ keyLt e.Key lo ∧ ¬ keyLt hi e.Key ∧ x ∈ e.Objects) ↔ (x ∈ r ∨ (¬ keyLt es[n].Key lo ∧ ¬ keyLt hi es[n].Key ∧ x ∈ es[n].Objects)) := by
        intro x
        rw [take_snoc hn, h2]
        constructor
        · rintro ⟨e, he, h⟩
          rcases List.mem_append.1 he with he | he
          · exact .inl ⟨e, he, h⟩
          · have : e = es[n] := by simpa using he
            rw [this] at h
            exact .inr h
        · rintro (⟨e, he, h⟩ | h)
          · exact ⟨e, List.mem_append.2 (.inl he), h⟩
          · exact ⟨es[n], List.mem_append.2 (.inr (by simp)), h⟩
      have skip : (¬ (¬ keyLt es[n].Key lo ∧ ¬ keyLt hi es[n].Key)) → ∃ s', index_Range.j3 r (n : Int) es[n] false = some (.inl s') ∧ s'.2 = ((n + 1 : Nat) : Int) ∧ s'.1.length ≤ 10000 * (n + 1) ∧ ∀ x, x ∈ s'.1 ↔ ∃ e ∈ es.take (n + 1), ¬ keyLt e.Key lo ∧ ¬ keyLt hi e.Key ∧ x ∈ e.Objects := by
        intro hc
        unfold index_Range.j3 index_Range.j2
        rw [if_neg (by simp), letV_of, wcast hn (by omega)]
        refine ⟨_, rfl, rfl, by simp only; omega, fun x => ?_⟩
        rw [tk]
        constructor
        · exact .inl
        · rintro (h | h)
          · exact h
          · exact absurd ⟨h.1, h.2.1⟩ hc
      by_cases c1 : keyLt es[n].Key lo
      · rw [if_neg (by rw [decide_eq_true_eq, keyCmp_le]; exact fun h => h c1)]
        exact skip fun h => h.1 c1
      · rw [if_pos (by rw [decide_eq_true_eq, keyCmp_le]; exact c1)]
        by_cases c2 : keyLt hi es[n].Key
        · rw [decide_eq_false (by rw [keyCmp_le]; exact fun h => h c2)]
          exact skip fun h => h.2 c2
        · rw [decide_eq_true (by rw [keyCmp_le]; exact c2)]
          unfold index_Range.j3 index_Range.j2
          rw [if_pos rfl, app_of (by omega), Option.bind_some, letV_of, wcast hn (by omega)]
          refine ⟨_, rfl, rfl, by simp only [List.length_append]; omega, fun x => ?_⟩
          rw [tk, List.mem_append]
          constructor
          · rintro (h | h)
            · exact .inl h
            · exact .inr ⟨c1, c2, h⟩
          · rintro (h | h)
            · exact .inl h
            · exact .inr h.2.2
    · rintro ⟨r, i⟩ ⟨hi', h1, h2⟩
      simp only at hi' h1 h2
      subst hi'
      unfold index_Range.l1
      simp only [not_lt_len, Bool.false_eq_true, if_false]
      rw [List.take_length] at h2
      exact ⟨r, rfl, by omega, h2⟩
  obtain ⟨b, b1, b2, b3⟩ := key
  rw [b1, Option.bind_some]
  unfold index_Range.j1
  rw [ascending_eq (by omega), Option.bind_some]
  exact ⟨_, rfl, ascL_asc b, by have := ascL_length b; omega, fun x => by rw [ascL_mem, b3]⟩
theorem rRange_eq {es : List index_Entry} (hb : EB es) (lo hi : index_Key) : ∃ r, esref32_Range (es.map ke) (kc lo) (kc hi) = some r ∧ RG es lo hi r := by
  unfold esref32_Range
  have hlen := hb.len
  have elen : (es.map ke).length = es.length := List.length_map _
  have key : ∃ b : List (List UInt8), loopO (esref32_Range.l2 (es.map ke) (kc lo) (kc hi)) ([], 0) = some b ∧ RG es lo hi b := by
    refine loopO_inv (fun n s => s.2 = (n : Int) ∧ s.1.length ≤ 10000 * n ∧ Asc s.1 ∧ ∀ x, x ∈ s.1 ↔ ∃ e ∈ es.take n, ¬ keyLt e.Key lo ∧ ¬ keyLt hi e.Key ∧ x ∈ e.Objects) es.length ⟨rfl, Nat.le_refl _, .nil, by simp⟩ ?_ ?_
    · rintro n ⟨r, i⟩ hn ⟨hi', h1, ha, h2⟩
      simp only at hi' h1 h2 ha
      subst hi'
      have ho := hb.olen _ (List.getElem_mem hn)
      have hnm : n < (es.map ke).length := by omega
      have egt : (es.map ke)[n] = ke es[n] := List.getElem_map _
      have tk : ∀ x, (∃ e ∈ es.take (n + 1), ¬ keyLt e.Key lo ∧ ¬ keyLt hi e.Key ∧ x ∈ e.Objects) ↔ (x ∈ r ∨ (¬ keyLt es[n].Key lo ∧ ¬ keyLt hi es[n].Key ∧ x ∈ es[n].Objects)) := by
        intro x
        rw [take_snoc hn, h2]
        constructor
        · rintro ⟨e, he, h⟩
          rcases List.mem_append.1 he with he | he
          · exact .inl ⟨e, he, h⟩
          · have : e = es[n] := by simpa using he
            rw [this] at h
            exact .inr h
        · rintro (⟨e, he, h⟩ | h)
          · exact ⟨e, List.mem_append.2 (.inl he), h⟩
          · exact ⟨es[n], List.mem_append.2 (.inr (by simp)), h⟩
      unfold esref32_Range.l2
      simp only [lt_of_len hnm, if_true, idx_nat hnm, Option.bind_some, egt]
      rw [show (ke es[n]).Key = kc es[n].Key from rfl, rCompare_eq, Option.bind_some]
      have skip : (¬ (¬ keyLt es[n].Key lo ∧ ¬ keyLt hi es[n].Key)) → ∃ s', esref32_Range.j3 (es.map ke) r (n : Int) true = some (.inl s') ∧ s'.2 = ((n + 1 : Nat) : Int) ∧ s'.1.length ≤ 10000 * (n + 1) ∧ Asc s'.1 ∧ ∀ x, x ∈ s'.1 ↔ ∃ e ∈ es.take (n + 1), ¬ keyLt e.Key lo ∧ ¬ keyLt hi e.Key ∧ x ∈ e.Objects := by
        intro hc
        unfold esref32_Range.j3 esref32_Range.j2
        rw [if_pos rfl, letV_of, wcast hn (by omega)]
        refine ⟨_, rfl, rfl, by simp only; omega, ha, fun x => ?_⟩
        rw [tk]
        constructor
        · exact .inl
        · rintro (h | h)
          · exact h
          · exact absurd ⟨h.1, h.2.1⟩ hc
      by_cases c1 : keyLt es[n].Key lo
      · rw [if_pos (by rw [decide_eq_true_eq, keyCmp_lt]; exact c1)]
        exact skip fun h => h.1 c1
      · rw [if_neg (by rw [decide_eq_true_eq, keyCmp_lt]; exact c1), rCompare_eq, Option.bind_some]
        by_cases c2 : keyLt hi es[n].Key
        · rw [decide_eq_true (by rw [keyCmp_gt]; exact c2)]
          exact skip fun h => h.2 c2
        · rw [decide_eq_false (by rw [keyCmp_gt]; exact c2)]
          unfold esref32_Range.j3
          rw [if_neg (by simp)]
          have inner : ∃ b : List (List UInt8), loopO (esref32_Range.l1 (es.map ke) (n : Int)) (r, 0) = some b ∧ b.length ≤ 10000 * n + es[n].Objects.length ∧ Asc b ∧ ∀ x, x ∈ b ↔ (x ∈ r ∨ x ∈ es[n].Objects) := by
            refine loopO_inv (fun q s => s.2 = (q : Int) ∧ s.1.length ≤ 10000 * n + q ∧ Asc s.1 ∧ ∀ x, x ∈ s.1 ↔ (x ∈ r ∨ x ∈ es[n].Objects.take q)) es[n].Objects.length ⟨rfl, h1, ha, by simp⟩ ?_ ?_
            · rintro q ⟨b, i⟩ hq ⟨hi', g1, g2, g3⟩
              simp only at hi' g1 g2 g3
              subst hi'
              unfold esref32_Range.l1
              simp only
              rw [idx_nat hnm, Option.bind_some, egt]
              simp only [show (ke es[n]).Objects = es[n].Objects from rfl, lt_of_len hq, if_true, idx_nat hq, Option.bind_some]
              rw [rInsert_eq g2 (by omega), Option.bind_some, letV_of, wcast hq (by omega)]
              refine ⟨_, rfl, rfl, ?_, insS_asc g2, fun x => ?_⟩
              · have := insS_length b es[n].Objects[q]
                simp only
                omega
              · rw [mem_insS, g3, take_snoc hq, List.mem_append, List.mem_singleton]
                constructor
                · rintro (h | h | h)
                  · exact .inr (.inr h)
                  · exact .inl h
                  · exact .inr (.inl h)
                · rintro (h | h | h)
                  · exact .inr (.inl h)
                  · exact .inr (.inr h)
                  · exact .inl h
            · rintro ⟨b, i⟩ ⟨hi', g1, g2, g3⟩
              simp only at hi' g1 g2 g3
              subst hi'
              unfold esref32_Range.l1
              simp only
              rw [idx_nat hnm, Option.bind_some, egt]
              simp only [show (ke es[n]).Objects = es[n].Objects from rfl, not_lt_len, Bool.false_eq_true, if_false]
              rw [List.take_length] at g3
              exact ⟨b, rfl, g1, g2, g3⟩
          obtain ⟨b, b1, b2, b3, b4⟩ := inner
          rw [b1, Option.bind_some]
          unfold esref32_Range.j2
          rw [letV_of, wcast hn (by omega)]
          refine ⟨_, rfl, rfl, by simp only; omega, b3, fun x => ?_⟩
          rw [tk, b4]
          constructor
          · rintro (h | h)
            · exact .inl h
            · exact .inr ⟨c1, c2, h⟩
          · rintro (h | h)
            · exact .inl h
            · exact .inr h.2.2
    · rintro ⟨r, i⟩ ⟨hi', h1, ha, h2⟩
      simp only at hi' h1 h2 ha
      subst hi'
      unfold esref32_Range.l2
      simp only
      rw [elen]
      simp only [not_lt_len, Bool.false_eq_true, if_false]
      rw [List.take_length] at h2
      exact ⟨r, rfl, ha, by omega, h2⟩
  obtain ⟨b, b1, b2⟩ := key
  rw [b1, Option.bind_some]
  exact ⟨b, rfl, b2⟩
theorem Lookup_eq {f : schema_Field} {es : List index_Entry} (hb : EB es) (k : index_Key) : ∃ r, index_Lookup ⟨f, es⟩ k = some r ∧ RG es k k r := by
  unfold index_Lookup
  obtain ⟨r, h1, h2⟩ := Range_eq (f := f) hb k k
  rw [h1, Option.bind_some]
  exact ⟨r, rfl, h2⟩
theorem RG.look {es : List index_Entry} {k : index_Key} {r : List (List UInt8)} (h : RG es k k r) (x : List UInt8) : x ∈ r ↔ ∃ e ∈ es, e.Key = k ∧ x ∈ e.Objects := by
  rw [h.mem]
  constructor
  · rintro ⟨e, he, h1, h2, h3⟩
    exact ⟨e, he, key_tri h1 h2, h3⟩
  · rintro ⟨e, he, rfl, h3⟩
    exact ⟨e, he, keyLt_irrefl _, keyLt_irrefl _, h3⟩
theorem idx_ex {α : Type} {l : List α} {d : Int} (h0 : 0 ≤ d) (h1 : d < l.length) : ∃ x, idx l d = some x := by
  obtain ⟨k, rfl⟩ : ∃ k : Nat, d = k := ⟨d.toNat, by omega⟩
  exact ⟨_, idx_nat (show k < l.length by omega)⟩
theorem field_ex (n : Int) : ∃ f, eslaw32_field n = some f := by
  unfold eslaw32_field
  obtain ⟨d, e1, a1, a2⟩ := Digit_ex n 5 0 (by decide) (by decide) (by decide)
  have e1 : eslaw00_Digit n 5 0 = some d := e1
  rw [e1, Option.bind_some]
  obtain ⟨x, e2⟩ := idx_ex (l := ([([97] : List UInt8), ([98] : List UInt8), ([99] : List UInt8), ([120, 49] : List UInt8), ([110, 111, 110, 101] : List UInt8)])) a1 (by simpa using a2)
  rw [e2, Option.bind_some]
  obtain ⟨d2, e3, b1, b2⟩ := Digit_ex n 5 1 (by decide) (by decide) (by decide)
  have e3 : eslaw00_Digit n 5 1 = some d2 := e3
  rw [e3, Option.bind_some, letV_of]
  obtain ⟨d3, e4, c1, c2⟩ := Digit_ex n 3 4 (by decide) (by decide) (by decide)
  have e4 : eslaw00_Digit n 3 4 = some d3 := e4
  rw [e4, Option.bind_some]
  obtain ⟨d5, e7, g1, g2⟩ := Digit_ex n 2 8 (by decide) (by decide) (by decide)
  have e7 : eslaw00_Digit n 2 8 = some d5 := e7
  have j2 : ∀ y, ∃ f, eslaw32_field.j2 n x y = some f := by
    intro y
    unfold eslaw32_field.j2
    split
    · rw [e7, Option.bind_some, letV_of]
      exact ⟨_, rfl⟩
    · exact ⟨_, rfl⟩
  split
  · obtain ⟨d4, e5, f1, f2⟩ := Digit_ex n 2 6 (by decide) (by decide) (by decide)
    have e5 : eslaw00_Digit n 2 6 = some d4 := e5
    rw [e5, Option.bind_some]
    obtain ⟨y, e6⟩ := idx_ex (l := [(1 : Int), 4]) f1 (by simpa using f2)
    rw [e6, Option.bind_some]
    exact j2 y
  · exact j2 _
theorem key_ex (n : Int) : ∃ k, eslaw32_key n = some k := by
  unfold eslaw32_key
  obtain ⟨d, e1, _, _⟩ := Index_ex n 2 (by decide) (by decide)
  rw [e1, Option.bind_some]
  split
  · rw [letV_of]
    obtain ⟨d2, e2, _, _⟩ := Index_ex (IntKind.i64.wrap (Int.tdiv n 2)) 20 (by decide) (by decide)
    rw [e2, Option.bind_some]
    exact ⟨_, rfl⟩
  · rw [letV_of]
    obtain ⟨d2, e2, a1, a2⟩ := Index_ex (IntKind.i64.wrap (Int.tdiv n 2)) 6 (by decide) (by decide)
    rw [e2, Option.bind_some]
    obtain ⟨y, e6⟩ := idx_ex (l := ([([] : List UInt8), ([97] : List UInt8), ([98] : List UInt8), ([99] : List UInt8), ([120, 49] : List UInt8), ([122, 122] : List UInt8)])) a1 (by simpa using a2)
    rw [e6, Option.bind_some]
    exact ⟨_, rfl⟩
end Go.Proofs.YtpfgdjfiimknlaaGreat
set_option linter.unusedVariables false
namespace Go.Proofs.YtpfgdjfiimknlaaGreat
open Go Go.Proofs.YtpfgdjfiimknlaaGreatL
theorem made_fold {s : List api_Update} (h : US 3 0 s) : fold_Fold s = some ⟨foldT s []⟩ ∧ GD 100 (foldT s []) := by
  have h1 := h.len
  have h2 := US_effN h
  obtain ⟨a, b⟩ := Fold_eq (s := s) (fun u hu => (h.ok u hu).ef) (by omega) (by omega)
  exact ⟨a, b.mono (by omega)⟩
end Go.Proofs.YtpfgdjfiimknlaaGreat
set_option linter.unusedVariables false
set_option linter.unusedSimpArgs false
namespace Go.Proofs.YtpfgdjfiimknlaaGreat
open Go Go.Proofs.YtpfgdjfiimknlaaGreatL
abbrev wOwn : List UInt8 := [111, 119, 110, 101, 114]
abbrev wAnn : List UInt8 := [97, 110, 110]
abbrev wBob : List UInt8 := [98, 111, 98]
def wE (o s : List UInt8) : api_Effect := ⟨1, o, wOwn, 0, s⟩
def wFl (c : Int) (s : List UInt8) : fold_Field := ⟨wOwn, ⟨true, 0, c, 1, 0, s⟩, false, 0, 0, [], false⟩
def wT3 : List fold_Object := [⟨[97], [wFl 102 wAnn]⟩, ⟨[98], [wFl 101 wAnn]⟩, ⟨[99], [wFl 103 wBob]⟩]
def wX : List index_Entry := [⟨⟨2, 0, wAnn⟩, [[97], [98]]⟩, ⟨⟨2, 0, wBob⟩, [[99]]⟩]
def wF : schema_Field := ⟨wOwn, 1, 2, 0⟩
theorem wE_ef (c : Int) {o s : List UInt8} (h1 : o.length ≤ 1000) (h2 : s.length ≤ 1000) : ∀ e ∈ (⟨c, 1, 0, [wE o s]⟩ : api_Update).Effects, EF e := by
  intro e he
  have : e = wE o s := by simpa using he
  subst this
  exact ⟨h1, by show wOwn.length ≤ 1000; decide, h2⟩
theorem w_store : loopO eslaw32_awake.l1 (0, []) = some wT3 ∧ GD 100 wT3 := by
  obtain ⟨a1, g1⟩ := Apply_eq (n := 0) (t := ⟨[]⟩) (u := ⟨101, 1, 0, [wE [98] wAnn]⟩) (GD_nil 0) (wE_ef 101 (by decide) (by decide)) (by decide)
  obtain ⟨a2, g2⟩ := Apply_eq (t := ⟨appT ⟨101, 1, 0, [wE [98] wAnn]⟩ []⟩) (u := ⟨102, 1, 0, [wE [97] wAnn]⟩) g1 (wE_ef 102 (by decide) (by decide)) (by decide)
  obtain ⟨a3, g3⟩ := Apply_eq (t := ⟨appT ⟨102, 1, 0, [wE [97] wAnn]⟩ (appT ⟨101, 1, 0, [wE [98] wAnn]⟩ [])⟩) (u := ⟨103, 1, 0, [wE [99] wBob]⟩) g2 (wE_ef 103 (by decide) (by decide)) (by decide)
  have ew : appT ⟨103, 1, 0, [wE [99] wBob]⟩ (appT ⟨102, 1, 0, [wE [97] wAnn]⟩ (appT ⟨101, 1, 0, [wE [98] wAnn]⟩ [])) = wT3 := by decide
  have ew' : appT ⟨103, 1, 0, [wE [99] wBob]⟩ (⟨appT ⟨102, 1, 0, [wE [97] wAnn]⟩ (appT ⟨101, 1, 0, [wE [98] wAnn]⟩ [])⟩ : fold_Store).Objects = wT3 := ew
  rw [ew'] at a3 g3
  refine ⟨?_, g3.mono (by decide)⟩
  rw [loopO_next (s' := (1, appT ⟨101, 1, 0, [wE [98] wAnn]⟩ [])), loopO_next (s' := (2, appT ⟨102, 1, 0, [wE [97] wAnn]⟩ (appT ⟨101, 1, 0, [wE [98] wAnn]⟩ []))), loopO_next (s' := (3, wT3)), loopO_done (b := wT3)]
  · rfl
  · unfold eslaw32_awake.l1
    simp only
    rw [if_pos (by decide), show idx [([98] : List UInt8), ([97] : List UInt8), ([99] : List UInt8)] 2 = some [99] from rfl, Option.bind_some, letV_of, show IntKind.i64.wrap (101 + 2) = 103 from rfl, show idx [([97, 110, 110] : List UInt8), ([97, 110, 110] : List UInt8), ([98, 111, 98] : List UInt8)] 2 = some wBob from rfl, Option.bind_some]
    show (fold_Apply ⟨appT ⟨102, 1, 0, [wE [97] wAnn]⟩ (appT ⟨101, 1, 0, [wE [98] wAnn]⟩ [])⟩ ⟨103, 1, 0, [wE [99] wBob]⟩).bind _ = _
    rw [a3]
    rfl
  · unfold eslaw32_awake.l1
    simp only
    rw [if_pos (by decide), show idx [([98] : List UInt8), ([97] : List UInt8), ([99] : List UInt8)] 1 = some [97] from rfl, Option.bind_some, letV_of, show IntKind.i64.wrap (101 + 1) = 102 from rfl, show idx [([97, 110, 110] : List UInt8), ([97, 110, 110] : List UInt8), ([98, 111, 98] : List UInt8)] 1 = some wAnn from rfl, Option.bind_some]
    show (fold_Apply ⟨appT ⟨101, 1, 0, [wE [98] wAnn]⟩ []⟩ ⟨102, 1, 0, [wE [97] wAnn]⟩).bind _ = _
    rw [a2]
    rfl
  · unfold eslaw32_awake.l1
    simp only
    rw [if_pos (by decide), show idx [([98] : List UInt8), ([97] : List UInt8), ([99] : List UInt8)] 0 = some [98] from rfl, Option.bind_some, letV_of, show IntKind.i64.wrap (101 + 0) = 101 from rfl, show idx [([97, 110, 110] : List UInt8), ([97, 110, 110] : List UInt8), ([98, 111, 98] : List UInt8)] 0 = some wAnn from rfl, Option.bind_some]
    show (fold_Apply ⟨[]⟩ ⟨101, 1, 0, [wE [98] wAnn]⟩).bind _ = _
    rw [a1]
    rfl
theorem wk1 : keysOf wF ⟨[97], [wFl 102 wAnn]⟩ = [⟨2, 0, wAnn⟩] := by decide
theorem wk2 : keysOf wF ⟨[98], [wFl 101 wAnn]⟩ = [⟨2, 0, wAnn⟩] := by decide
theorem wk3 : keysOf wF ⟨[99], [wFl 103 wBob]⟩ = [⟨2, 0, wBob⟩] := by decide
theorem wX_ix : IsIx (PB wF wT3) wX := by
  refine ⟨?_, ?_, ?_, fun k s => ?_⟩
  · unfold wX
    refine List.pairwise_cons.2 ⟨fun b hb => ?_, List.pairwise_singleton _ _⟩
    have : b = ⟨⟨2, 0, wBob⟩, [[99]]⟩ := by simpa using hb
    subst this
    exact .inr ⟨rfl, .inr ⟨rfl, by decide⟩⟩
  · intro e he
    have : e = ⟨⟨2, 0, wAnn⟩, [[97], [98]]⟩ ∨ e = ⟨⟨2, 0, wBob⟩, [[99]]⟩ := by simpa [wX] using he
    rcases this with rfl | rfl
    · show List.Pairwise _ _
      refine List.pairwise_cons.2 ⟨fun b hb => ?_, List.pairwise_singleton _ _⟩
      have : b = [98] := by simpa using hb
      subst this
      decide
    · exact List.pairwise_singleton _ _
  · intro e he
    have : e = ⟨⟨2, 0, wAnn⟩, [[97], [98]]⟩ ∨ e = ⟨⟨2, 0, wBob⟩, [[99]]⟩ := by simpa [wX] using he
    rcases this with rfl | rfl <;> simp
  · constructor
    · rintro ⟨e, he, rfl, hs⟩
      have : e = ⟨⟨2, 0, wAnn⟩, [[97], [98]]⟩ ∨ e = ⟨⟨2, 0, wBob⟩, [[99]]⟩ := by simpa [wX] using he
      rcases this with rfl | rfl
      · have : s = [97] ∨ s = [98] := by simpa using hs
        rcases this with rfl | rfl
        · exact ⟨⟨[97], [wFl 102 wAnn]⟩, by simp [wT3], rfl, by rw [wk1]; simp⟩
        · exact ⟨⟨[98], [wFl 101 wAnn]⟩, by simp [wT3], rfl, by rw [wk2]; simp⟩
      · have : s = [99] := by simpa using hs
        subst this
        exact ⟨⟨[99], [wFl 103 wBob]⟩, by simp [wT3], rfl, by rw [wk3]; simp⟩
    · rintro ⟨o, ho, rfl, hk⟩
      have : o = ⟨[97], [wFl 102 wAnn]⟩ ∨ o = ⟨[98], [wFl 101 wAnn]⟩ ∨ o = ⟨[99], [wFl 103 wBob]⟩ := by simpa [wT3] using ho
      rcases this with rfl | rfl | rfl
      · rw [wk1] at hk
        have : k = ⟨2, 0, wAnn⟩ := by simpa using hk
        subst this
        exact ⟨⟨⟨2, 0, wAnn⟩, [[97], [98]]⟩, by simp [wX], rfl, by simp⟩
      · rw [wk2] at hk
        have : k = ⟨2, 0, wAnn⟩ := by simpa using hk
        subst this
        exact ⟨⟨⟨2, 0, wAnn⟩, [[97], [98]]⟩, by simp [wX], rfl, by simp⟩
      · rw [wk3] at hk
        have : k = ⟨2, 0, wBob⟩ := by simpa using hk
        subst this
        exact ⟨⟨⟨2, 0, wBob⟩, [[99]]⟩, by simp [wX], rfl, by simp⟩
theorem wX_mem {e : index_Entry} : e ∈ wX ↔ e = ⟨⟨2, 0, wAnn⟩, [[97], [98]]⟩ ∨ e = ⟨⟨2, 0, wBob⟩, [[99]]⟩ := by simp [wX]
theorem awake_true : eslaw32_awake = some true := by
  unfold eslaw32_awake
  obtain ⟨e1, g⟩ := w_store
  obtain ⟨es, e2, x2⟩ := Build_eq wF (objs := wT3) g.go (by decide)
  have : es = wX := x2.ix.uniq wX_ix
  subst this
  have e2 : index_Build (⟨([111, 119, 110, 101, 114] : List UInt8), 1, 2, 0⟩ : schema_Field) (⟨wT3⟩ : fold_Store) = some ⟨wF, wX⟩ := e2
  rw [e1, Option.bind_some]
  unfold eslaw32_awake.j2
  rw [e2, Option.bind_some]
  obtain ⟨r1, e3, x3⟩ := Lookup_eq (f := wF) x2.eb ⟨2, 0, wAnn⟩
  have h1 : r1 = [[97], [98]] := by
    refine ascS_ext x3.asc (List.pairwise_cons.2 ⟨fun b hb => ?_, List.pairwise_singleton _ _⟩) fun x => ?_
    · have : b = [98] := by simpa using hb
      subst this
      decide
    · rw [x3.look]
      constructor
      · rintro ⟨e, he, hk, hx⟩
        rcases wX_mem.1 he with rfl | rfl
        · exact hx
        · exact absurd hk (by decide)
      · exact fun hx => ⟨_, wX_mem.2 (.inl rfl), rfl, hx⟩
  subst h1
  have e3 : index_Lookup ⟨wF, wX⟩ (⟨2, 0, ([97, 110, 110] : List UInt8)⟩ : index_Key) = some [[97], [98]] := e3
  rw [e3, Option.bind_some]
  obtain ⟨r2, e4, x4⟩ := Range_eq (f := wF) x2.eb ⟨2, 0, [98]⟩ ⟨2, 0, [99]⟩
  have kl : ∀ a b : List UInt8, keyLt ⟨2, 0, a⟩ ⟨2, 0, b⟩ ↔ Op.bytesLess a b = true := fun a b => by simp [keyLt]
  have h2 : r2 = [[99]] := by
    refine ascS_ext x4.asc (List.pairwise_singleton _ _) fun x => ?_
    rw [x4.mem]
    constructor
    · rintro ⟨e, he, h1, h2, hx⟩
      rcases wX_mem.1 he with rfl | rfl
      · exact absurd ((kl wAnn [98]).2 (by decide)) h1
      · exact hx
    · exact fun hx => ⟨_, wX_mem.2 (.inr rfl), fun h => absurd ((kl wBob [98]).1 h) (by decide), fun h => absurd ((kl [99] wBob).1 h) (by decide), hx⟩
  subst h2
  rw [e4, Option.bind_some]
  obtain ⟨r3, e5, x5⟩ := Lookup_eq (f := wF) x2.eb ⟨0, 0, []⟩
  have h3 : r3 = [] := by
    refine ascS_ext x5.asc .nil fun x => ?_
    rw [x5.look]
    constructor
    · rintro ⟨e, he, hk, hx⟩
      rcases wX_mem.1 he with rfl | rfl
      · exact absurd hk (by decide)
      · exact absurd hk (by decide)
    · intro hx
      simp at hx
  subst h3
  rw [if_pos (by decide), if_pos (by decide), show idx [([97] : List UInt8), [98]] 0 = some [97] from rfl, Option.bind_some, if_pos (by decide), show idx [([97] : List UInt8), [98]] 1 = some [98] from rfl, Option.bind_some, if_pos (by decide), if_pos (by decide), show idx [([99] : List UInt8)] 0 = some [99] from rfl, Option.bind_some, if_pos (by decide), e5, Option.bind_some]
  rfl
end Go.Proofs.YtpfgdjfiimknlaaGreat
set_option linter.unusedVariables false
set_option linter.unusedSimpArgs false
namespace Go.Proofs.YtpfgdjfiimknlaaGreat
open Go Go.Proofs.YtpfgdjfiimknlaaGreatL
theorem rstrings_self {l : List (List UInt8)} (h : l.length ≤ 100000000) : esref32_EqualStrings l l = some true := by
  rw [rstrings_eq (by omega)]
  simp
theorem indexQueries_true (x1 : List Int) (x4 x5 x6 : Int) (x7 : index_Key) : eslaw32_IndexQueries x1 x4 x5 x6 x7 = some true := by
  unfold eslaw32_IndexQueries
  split
  · rw [awake_true]; rfl
  obtain ⟨f, e4⟩ := field_ex x4
  obtain ⟨s, e1, h1⟩ := Updates_ex x1
  obtain ⟨e3, g⟩ := made_fold h1
  rw [e4, Option.bind_some, e1, Option.bind_some, e3, Option.bind_some]
  obtain ⟨T, hT⟩ : ∃ T, T = foldT s [] := ⟨_, rfl⟩
  rw [← hT] at g ⊢
  have hlen := g.len
  obtain ⟨es, b1, b2⟩ := Build_eq f g.go hlen
  have hel := b2.len
  rw [b1, Option.bind_some, entries_eq (show (⟨f, es⟩ : index_Index).Entries.length ≤ 1000000 by show es.length ≤ _; omega), Option.bind_some]
  obtain ⟨k5, e5⟩ := key_ex x5
  obtain ⟨k6, e6⟩ := key_ex x6
  rw [e5, Option.bind_some, e6, Option.bind_some]
  obtain ⟨ks, hks⟩ : ∃ ks, ks = [k5, k6, x7] := ⟨_, rfl⟩
  have hkl : ks.length = 3 := by rw [hks]; rfl
  have key : loopO (eslaw32_IndexQueries.l1 x5 x7 ⟨f, es⟩ (es.map ke) k5 k6) ((0 : Nat) : Int) = some (.inl ()) := by
    refine loopO_up (fun k => (k : Int)) ks.length (fun k hk => ?_) ?_
    · unfold eslaw32_IndexQueries.l1
      rw [← hks]
      simp only [lt_of_len hk, if_true, idx_nat hk, Option.bind_some]
      obtain ⟨q, hq⟩ : ∃ q, q = ks[k] := ⟨_, rfl⟩
      rw [← hq]
      obtain ⟨r1, p1, p2⟩ := Lookup_eq (f := f) b2.eb q
      obtain ⟨r2, p3, p4⟩ := rRange_eq b2.eb q q
      have : r2 = r1 := p4.uniq p2
      subst this
      obtain ⟨r3, p5, p6⟩ := Range_eq (f := f) b2.eb k5 q
      obtain ⟨r4, p7, p8⟩ := rRange_eq b2.eb k5 q
      have : r4 = r3 := p8.uniq p6
      subst this
      have cv : ∀ k, eslaw32_convert k = some (kc k) := fun _ => rfl
      rw [p1, Option.bind_some, cv, Option.bind_some, Option.bind_some, p3, Option.bind_some, rstrings_self p2.len, Option.bind_some, if_neg (by simp), e5, Option.bind_some, p5, Option.bind_some, Option.bind_some, cv, Option.bind_some, Option.bind_some, p7, Option.bind_some, rstrings_self p6.len, Option.bind_some]
      unfold eslaw32_IndexQueries.j2
      rw [if_neg (by simp), letV_of, wcast hk (by omega)]
    · unfold eslaw32_IndexQueries.l1
      rw [← hks]
      simp only [not_lt_len, Bool.false_eq_true, if_false]
  have key : loopO (eslaw32_IndexQueries.l1 x5 x7 ⟨f, es⟩ (es.map ke) k5 k6) 0 = some (.inl ()) := key
  rw [show (⟨f, es⟩ : index_Index).Entries = es from rfl, key, Option.bind_some]
  show eslaw32_IndexQueries.j1 = _
  unfold eslaw32_IndexQueries.j1
  rw [awake_true]
  rfl
end Go.Proofs.YtpfgdjfiimknlaaGreat
