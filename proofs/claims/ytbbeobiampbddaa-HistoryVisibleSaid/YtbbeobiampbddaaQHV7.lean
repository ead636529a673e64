/- What the row leans on, as few texts. -/
import Derived.Test.YtbbeobiampbddaaQHV1
import Derived.Test.YtbbeobiampbddaaQHV6
import Derived.Test.YtbbeobiampbddaaQHV2
import Derived.Test.YtbbeobiampbddaaQHV0
set_option linter.unusedVariables false
set_option linter.unusedSimpArgs false
namespace Go.Proofs.Ytbbeobiampbddaa
open Go Go.Proofs.YtbbeobiampbddaaL
section
variable {α : Type} (key : α → List UInt8)
abbrev SA (l : List α) : Prop := l.Pairwise fun a b => Op.bytesLess (key a) (key b) = true
def upd (k : List UInt8) (g : Option α → α) : List α → List α
  | [] => [g none]
  | a :: l => if Op.bytesLess (key a) k then a :: upd k g l else if key a == k then g (some a) :: l else g none :: a :: l
def get (l : List α) (k : List UInt8) : Option α := l.find? fun a => key a == k
variable {key}
theorem get_nil (k : List UInt8) : get key [] k = none := rfl
theorem get_cons (a : α) (l : List α) (k : List UInt8) : get key (a :: l) k = if key a = k then some a else get key l k := by
  unfold get
  rw [List.find?_cons]
  by_cases h : key a = k
  · rw [if_pos h, show (key a == k) = true by simp [h]]
  · rw [if_neg h, show (key a == k) = false by simp [h]]
theorem get_key {l : List α} {k : List UInt8} {a : α} (h : get key l k = some a) : key a = k := by
  unfold get at h
  simpa using List.find?_some h
theorem get_mem {l : List α} {k : List UInt8} {a : α} (h : get key l k = some a) : a ∈ l := List.mem_of_find?_eq_some h
theorem get_none_of {l : List α} {k : List UInt8} (h : ∀ a ∈ l, key a ≠ k) : get key l k = none := by
  unfold get
  rw [List.find?_eq_none]
  intro a ha
  simpa using h a ha
theorem get_some_iff {l : List α} {k : List UInt8} : (get key l k).isSome = true ↔ ∃ a ∈ l, key a = k := by
  unfold get
  rw [List.find?_isSome]
  simp
theorem SA_lt {a : α} {l : List α} (h : SA key (a :: l)) : ∀ b ∈ l, Op.bytesLess (key a) (key b) = true := (List.pairwise_cons.1 h).1
theorem SA_ne {a : α} {l : List α} (h : SA key (a :: l)) : ∀ b ∈ l, key b ≠ key a := fun b hb e => by
  have := SA_lt h b hb
  rw [e, bl_irrefl] at this
  cases this
theorem get_mem_self {l : List α} (h : SA key l) {a : α} (ha : a ∈ l) : get key l (key a) = some a := by
  induction l with
  | nil => simp at ha
  | cons b l ih =>
    rw [get_cons]
    rcases List.mem_cons.1 ha with rfl | ha
    · rw [if_pos rfl]
    · rw [if_neg (fun e => SA_ne h a ha e.symm), ih (List.pairwise_cons.1 h).2 ha]
theorem get_below {a : α} {l : List α} (h : SA key (a :: l)) {k : List UInt8} (hk : Op.bytesLess k (key a) = true) : get key (a :: l) k = none := get_none_of fun b hb => by
  rcases List.mem_cons.1 hb with rfl | hb
  · intro e; rw [e, bl_irrefl] at hk; cases hk
  · intro e
    have := bl_trans hk (SA_lt h b hb)
    rw [e, bl_irrefl] at this
    cases this
theorem get_upd {k : List UInt8} {g : Option α → α} (hg : ∀ o, (∀ a, o = some a → key a = k) → key (g o) = k) (k' : List UInt8) : ∀ {l : List α}, SA key l → get key (upd key k g l) k' = if k' = k then some (g (get key l k)) else get key l k'
  | [], _ => by
    unfold upd
    have e : key (g none) = k := hg none (by simp)
    rw [get_cons, e, get_nil]
    by_cases h : k' = k
    · rw [if_pos h.symm, if_pos h, get_nil]
    · rw [if_neg (fun e => h e.symm), if_neg h]
  | a :: l, hl => by
    have hl' := (List.pairwise_cons.1 hl).2
    unfold upd
    cases h1 : Op.bytesLess (key a) k with
    | true =>
      rw [if_pos rfl, get_cons, get_upd hg k' hl']
      have hne : key a ≠ k := fun e => by rw [e, bl_irrefl] at h1; cases h1
      by_cases h : k' = k
      · rw [if_neg (by rw [h]; exact hne), if_pos h, if_pos h, get_cons, if_neg hne]
      · rw [if_neg h, if_neg h, get_cons]
    | false =>
      rw [if_neg (by simp)]
      by_cases h2 : key a = k
      · rw [if_pos (by simp [h2]), get_cons, hg (some a) (by simp [h2]), get_cons, if_pos h2]
        by_cases h : k' = k
        · rw [if_pos h.symm, if_pos h]
        · rw [if_neg (fun e => h e.symm), if_neg h, get_cons, if_neg (by rw [h2]; exact fun e => h e.symm)]
      · rw [if_neg (by simpa using h2), get_cons, hg none (by simp)]
        have h3 : Op.bytesLess k (key a) = true := by
          cases h4 : Op.bytesLess k (key a) with
          | true => rfl
          | false => exact absurd (bl_tri h1 h4) h2
        by_cases h : k' = k
        · rw [if_pos h.symm, if_pos h, get_below hl h3]
        · rw [if_neg (fun e => h e.symm), if_neg h]
theorem mem_upd {k : List UInt8} {g : Option α → α} : ∀ {l : List α}, SA key l → ∀ x ∈ upd key k g l, x ∈ l ∨ x = g (get key l k)
  | [], _, x, hx => by
    unfold upd at hx
    simp at hx
    exact .inr hx
  | a :: l, hl, x, hx => by
    have hl' := (List.pairwise_cons.1 hl).2
    unfold upd at hx
    cases h1 : Op.bytesLess (key a) k with
    | true =>
      rw [h1, if_pos rfl] at hx
      have hne : key a ≠ k := fun e => by rw [e, bl_irrefl] at h1; cases h1
      rcases List.mem_cons.1 hx with rfl | hx
      · exact .inl (by simp)
      · rw [get_cons, if_neg hne]
        rcases mem_upd hl' x hx with h | h
        · exact .inl (by simp [h])
        · exact .inr h
    | false =>
      rw [h1, if_neg (by simp)] at hx
      by_cases h2 : key a = k
      · rw [if_pos (by simp [h2])] at hx
        rw [get_cons, if_pos h2]
        rcases List.mem_cons.1 hx with h | h
        · exact .inr h
        · exact .inl (by simp [h])
      · rw [if_neg (by simpa using h2)] at hx
        have h3 : Op.bytesLess k (key a) = true := by
          cases h4 : Op.bytesLess k (key a) with
          | true => rfl
          | false => exact absurd (bl_tri h1 h4) h2
        rw [get_below hl h3]
        rcases List.mem_cons.1 hx with h | h
        · exact .inr h
        · exact .inl h
theorem SA_upd {k : List UInt8} {g : Option α → α} (hg : ∀ o, (∀ a, o = some a → key a = k) → key (g o) = k) : ∀ {l : List α}, SA key l → SA key (upd key k g l)
  | [], _ => by unfold upd; exact List.pairwise_singleton _ _
  | a :: l, hl => by
    have hl' := (List.pairwise_cons.1 hl).2
    unfold upd
    cases h1 : Op.bytesLess (key a) k with
    | true =>
      rw [if_pos rfl]
      refine List.pairwise_cons.2 ⟨fun x hx => ?_, SA_upd hg hl'⟩
      rcases mem_upd hl' x hx with h | h
      · exact SA_lt hl x h
      · rw [h, hg _ fun b hb => get_key hb]; exact h1
    | false =>
      rw [if_neg (by simp)]
      by_cases h2 : key a = k
      · rw [if_pos (by simp [h2])]
        refine List.pairwise_cons.2 ⟨fun x hx => ?_, hl'⟩
        rw [hg (some a) (by simp [h2]), ← h2]
        exact SA_lt hl x hx
      · rw [if_neg (by simpa using h2)]
        have h3 : Op.bytesLess k (key a) = true := by
          cases h4 : Op.bytesLess k (key a) with
          | true => rfl
          | false => exact absurd (bl_tri h1 h4) h2
        refine List.pairwise_cons.2 ⟨fun x hx => ?_, hl⟩
        rw [hg none (by simp)]
        rcases List.mem_cons.1 hx with rfl | hx
        · exact h3
        · exact bl_trans h3 (SA_lt hl x hx)
theorem SA_ext : ∀ {l l' : List α}, SA key l → SA key l' → (∀ k, get key l k = get key l' k) → l = l'
  | [], [], _, _, _ => rfl
  | [], b :: l', _, _, h => by
    have := h (key b)
    rw [get_nil, get_cons, if_pos rfl] at this
    cases this
  | a :: l, [], _, _, h => by
    have := h (key a)
    rw [get_nil, get_cons, if_pos rfl] at this
    cases this
  | a :: l, b :: l', hl, hl', h => by
    have hab : key a = key b := by
      refine bl_tri ?_ ?_
      · cases hk : Op.bytesLess (key a) (key b) with
        | false => rfl
        | true =>
          have := h (key a)
          rw [get_below hl' hk, get_cons, if_pos rfl] at this
          cases this
      · cases hk : Op.bytesLess (key b) (key a) with
        | false => rfl
        | true =>
          have := h (key b)
          rw [get_below hl hk, get_cons, if_pos rfl] at this
          cases this
    have e1 : a = b := by
      have := h (key a)
      rw [get_cons, if_pos rfl, get_cons, if_pos hab.symm] at this
      exact Option.some.inj this
    subst e1
    have : l = l' := by
      refine SA_ext (List.pairwise_cons.1 hl).2 (List.pairwise_cons.1 hl').2 fun k => ?_
      by_cases hk : key a = k
      · rw [← hk, get_none_of (SA_ne hl), get_none_of (SA_ne hl')]
      · have := h k
        rw [get_cons, if_neg hk, get_cons, if_neg hk] at this
        exact this
    rw [this]
theorem upd_congr {k : List UInt8} {g g' : Option α → α} (hg : ∀ o, (∀ a, o = some a → key a = k) → key (g o) = k) {l : List α} (hl : SA key l) (h : g (get key l k) = g' (get key l k)) (hg' : ∀ o, (∀ a, o = some a → key a = k) → key (g' o) = k) : upd key k g l = upd key k g' l := by
  refine SA_ext (SA_upd hg hl) (SA_upd hg' hl) fun q => ?_
  rw [get_upd hg q hl, get_upd hg' q hl, h]
end
section
variable {β : Type}
theorem skeys_of {m : List (List UInt8 × β)} (h1 : ∀ x ∈ m, x.1.length ≤ 1000000) (h2 : m.length ≤ 1000000) : skeys m = some ((m.map (·.1)).mergeSort fun a b => decide (a ≤ b)) := by
  unfold skeys
  rw [if_pos ⟨fun x hx => Nat.le_trans (h1 x hx) (by decide), by omega⟩]
theorem sorted_asc {l : List (List UInt8)} (h : l.Nodup) : Asc (l.mergeSort fun a b => decide (a ≤ b)) := by
  have tr : ∀ a b c : List UInt8, (decide (a ≤ b)) = true → (decide (b ≤ c)) = true → (decide (a ≤ c)) = true := fun a b c h1 h2 => by simp only [decide_eq_true_eq] at *; exact List.le_trans h1 h2
  have to : ∀ a b : List UInt8, ((decide (a ≤ b)) || (decide (b ≤ a))) = true := fun a b => by simp only [Bool.or_eq_true, decide_eq_true_eq]; exact List.le_total a b
  have h1 := List.pairwise_mergeSort tr to l
  have h2 : (l.mergeSort fun a b => decide (a ≤ b)).Nodup := (List.mergeSort_perm l _).nodup_iff.2 h
  refine (h1.and h2).imp fun {a b} hab => ?_
  obtain ⟨h3, h4⟩ := hab
  rw [Go.Proofs.bytesLess_eq, decide_eq_true_eq]
  rw [decide_eq_true_eq] at h3
  refine Decidable.byContradiction fun h => ?_
  exact h4 (List.le_antisymm h3 h)
end
end Go.Proofs.Ytbbeobiampbddaa

set_option linter.unusedVariables false
set_option linter.unusedSimpArgs false
namespace Go.Proofs.Ytbbeobiampbddaa
open Go Go.Proofs.YtbbeobiampbddaaL
abbrev FN_ : fold_Field → List UInt8 := fold_Field.Name
abbrev ON_ : fold_Object → List UInt8 := fold_Object.Name
abbrev srtN (l : List (List UInt8)) : List (List UInt8) := l.mergeSort fun a b => decide (a ≤ b)
def canonF (fs : List fold_Field) : List fold_Field := (srtN (fs.map (·.Name))).map fun n => (get FN_ fs n).getD fold_zero
def canonB (x : fold_B) : List fold_Object := (srtN (x.map (·.1))).map fun n => ⟨n, canonF ((x.lookup n).getD [])⟩
theorem loop_app {γ δ : Type} {b : Nat} {ns : List γ} {step : (Int × List δ) → Option ((Int × List δ) ⊕ List δ)} (F : γ → δ)
    (hs : ∀ (k : Nat) (hk : k < ns.length) (out : List δ), step ((k : Int), out) = (app b out [F ns[k]]).bind fun out' => letV (IntKind.i64.wrap ((k : Int) + 1)) fun j => some (.inl (j, out')))
    (he : ∀ out : List δ, step ((ns.length : Int), out) = some (.inr out)) (hb : ns.length * b ≤ 140737488355328) (hn : ns.length ≤ 4611686018427387904) : loopO step (0, []) = some (ns.map F) := by
  have := loopO_up (step := step) (fun k => ((k : Int), (ns.take k).map F)) ns.length (b := ns.map F) (fun k hk => ?_) ?_
  · simpa using this
  · show step ((k : Int), (ns.take k).map F) = _
    rw [hs k hk, app_of (by
      have e : ((ns.take k).map F).length + [F ns[k]].length ≤ ns.length := by simp; omega
      exact Nat.le_trans (Nat.mul_le_mul_right b e) hb)]
    show letV _ _ = _
    rw [letV, wcast hk hn, take_snoc hk, List.map_append]
    rfl
  · show step ((ns.length : Int), (ns.take ns.length).map F) = _
    rw [he, List.take_length]
theorem get_map {α : Type} {key : α → List UInt8} {F : List UInt8 → α} : ∀ {ns : List (List UInt8)}, (∀ n ∈ ns, key (F n) = n) → ∀ k, get key (ns.map F) k = if k ∈ ns then some (F k) else none
  | [], _, k => by simp [get]
  | n :: ns, h, k => by
    rw [List.map_cons, get_cons, h n (by simp), get_map (fun m hm => h m (by simp [hm]))]
    by_cases hk : n = k
    · rw [if_pos hk, if_pos (by simp [hk]), hk]
    · rw [if_neg hk]
      by_cases hm : k ∈ ns
      · rw [if_pos hm, if_pos (by simp [hm])]
      · rw [if_neg hm, if_neg (by simp only [List.mem_cons, not_or]; exact ⟨fun e => hk e.symm, hm⟩)]
theorem SA_map {α : Type} {key : α → List UInt8} {F : List UInt8 → α} {ns : List (List UInt8)} (ha : Asc ns) (h : ∀ n ∈ ns, key (F n) = n) : SA key (ns.map F) := by
  refine List.pairwise_map.2 (ha.imp_of_mem fun {a b} ha hb hab => ?_)
  rw [h a ha, h b hb]
  exact hab
theorem mem_srt {l : List (List UInt8)} {k : List UInt8} : k ∈ srtN l ↔ k ∈ l := (List.mergeSort_perm l _).mem_iff
theorem get_names {fs : List fold_Field} {k : List UInt8} : k ∈ fs.map (·.Name) ↔ (get FN_ fs k).isSome = true := by
  rw [get_some_iff, List.mem_map]
theorem canonF_name (fs : List fold_Field) : ∀ n ∈ srtN (fs.map (·.Name)), FN_ ((get FN_ fs n).getD fold_zero) = n := by
  intro n hn
  rw [mem_srt, get_names] at hn
  cases h : get FN_ fs n with
  | none => rw [h] at hn; cases hn
  | some y => exact get_key h
theorem get_canonF (fs : List fold_Field) (k : List UInt8) : get FN_ (canonF fs) k = get FN_ fs k := by
  unfold canonF
  rw [get_map (canonF_name fs)]
  by_cases h : k ∈ srtN (fs.map (·.Name))
  · rw [if_pos h]
    rw [mem_srt, get_names] at h
    cases hg : get FN_ fs k with
    | none => rw [hg] at h; cases h
    | some y => rfl
  · rw [if_neg h]
    rw [mem_srt, get_names] at h
    cases hg : get FN_ fs k with
    | none => rfl
    | some y => rw [hg] at h; simp at h
theorem SA_canonF {fs : List fold_Field} (h : (fs.map (·.Name)).Nodup) : SA FN_ (canonF fs) := SA_map (sorted_asc h) (canonF_name fs)
theorem get_canonB (x : fold_B) (k : List UInt8) : get ON_ (canonB x) k = (x.lookup k).map fun fs => ⟨k, canonF fs⟩ := by
  unfold canonB
  rw [get_map (fun n _ => rfl)]
  have hm : k ∈ x.map (·.1) ↔ (x.lookup k).isSome = true := by
    induction x with
    | nil => simp
    | cons a x ih =>
      rw [List.map_cons, List.mem_cons, List.lookup_cons]
      cases hk : k == a.1 with
      | true => have : k = a.1 := by simpa using hk
                simp [this]
      | false =>
        have : k ≠ a.1 := by simpa using hk
        simp only [this, false_or]
        exact ih
  by_cases h : k ∈ srtN (x.map (·.1))
  · rw [if_pos h]
    rw [mem_srt, hm] at h
    cases hg : x.lookup k with
    | none => rw [hg] at h; cases h
    | some y => rfl
  · rw [if_neg h]
    rw [mem_srt, hm] at h
    cases hg : x.lookup k with
    | none => rfl
    | some y => rw [hg] at h; simp at h
theorem SA_canonB {x : fold_B} (h : (x.map (·.1)).Nodup) : SA ON_ (canonB x) := SA_map (sorted_asc h) (fun n _ => rfl)
structure GF (n : Nat) (y : fold_Field) : Prop where
  name : y.Name.length ≤ 1000
  asc : Asc y.Elems
  len : y.Elems.length ≤ n
  els : ∀ s ∈ y.Elems, s.length ≤ 1000
  reg : y.Register.S.length ≤ 1000
structure BI (n : Nat) (x : fold_B) : Prop where
  keys : (x.map (·.1)).Nodup
  len : x.length ≤ n
  name : ∀ o ∈ x, o.1.length ≤ 1000
  ne : ∀ o ∈ x, o.2 ≠ []
  names : ∀ o ∈ x, (o.2.map (·.Name)).Nodup
  flen : ∀ o ∈ x, o.2.length ≤ n
  good : ∀ o ∈ x, ∀ y ∈ o.2, GF n y
theorem lookup_mem {β : Type} {x : List (List UInt8 × β)} {k : List UInt8} {b : β} (h : x.lookup k = some b) : (k, b) ∈ x := by
  induction x with
  | nil => cases h
  | cons a x ih =>
    rw [List.lookup_cons] at h
    cases hk : k == a.1 with
    | true =>
      rw [hk] at h
      have e : k = a.1 := by simpa using hk
      have : a = (k, b) := by rw [e]; exact Prod.ext rfl (Option.some.inj h)
      rw [this]; simp
    | false => rw [hk] at h; exact List.mem_cons_of_mem _ (ih h)
theorem lookup_fields (fs : List fold_Field) (k : List UInt8) : (fs.map fun y => (y.Name, y)).lookup k = get FN_ fs k := by
  induction fs with
  | nil => rfl
  | cons a fs ih =>
    rw [List.map_cons, List.lookup_cons, get_cons]
    by_cases h : a.Name = k
    · rw [if_pos h, show (k == a.Name) = true by simp [h]]
    · rw [if_neg h, show (k == a.Name) = false by simpa using fun e => h e.symm]
      exact ih
theorem lookup_frz (x : fold_B) (k : List UInt8) : (fold_frz x).lookup k = (x.lookup k).map fun fs => fs.map fun y => (y.Name, y) := by
  induction x with
  | nil => rfl
  | cons a x ih =>
    unfold fold_frz at ih ⊢
    rw [List.map_cons, List.lookup_cons, List.lookup_cons]
    cases h : k == a.1 with
    | true => rfl
    | false => exact ih
theorem fold_store_eq {n : Nat} {x : fold_B} (h : BI n x) (hn : n ≤ 1000000) : fold_store (fold_frz x) = some ⟨canonB x⟩ := by
  unfold fold_store
  have e1 : skeys (fold_frz x) = some (srtN (x.map (·.1))) := by
    have e0 : (fold_frz x).map (·.1) = x.map (·.1) := by
      unfold fold_frz
      rw [List.map_map]
      rfl
    rw [skeys_of (m := fold_frz x), e0]
    · intro y hy
      unfold fold_frz at hy
      obtain ⟨o, ho, rfl⟩ := List.mem_map.1 hy
      have := h.name o ho
      show o.1.length ≤ _
      omega
    · have := h.len
      unfold fold_frz
      rw [List.length_map]
      omega
  rw [e1, Option.bind_some]
  have hlen : (srtN (x.map (·.1))).length ≤ n := by rw [List.length_mergeSort, List.length_map]; exact h.len
  rw [loop_app (b := 40) (ns := srtN (x.map (·.1))) (fun n => (⟨n, canonF ((x.lookup n).getD [])⟩ : fold_Object)) ?_ ?_ (by omega) (by omega)]
  · rfl
  · intro k hk out
    unfold fold_store.l2
    simp only [lt_of_len hk, if_true, idx_nat hk, Option.bind_some]
    have hmem : (srtN (x.map (·.1)))[k] ∈ x.map (·.1) := mem_srt.1 (List.getElem_mem hk)
    obtain ⟨nm, hnm⟩ : ∃ nm, nm = (srtN (x.map (·.1)))[k] := ⟨_, rfl⟩
    rw [← hnm] at hmem ⊢
    obtain ⟨o, ho, he⟩ := List.mem_map.1 hmem
    have hfs : ∃ fs, x.lookup nm = some fs := by
      cases hl : x.lookup nm with
      | some fs => exact ⟨fs, rfl⟩
      | none =>
        exfalso
        clear hnm hmem hk out h hlen e1 hn
        induction x with
        | nil => simp at ho
        | cons a x ih =>
          rw [List.lookup_cons] at hl
          cases hk : nm == a.1 with
          | true => rw [hk] at hl; cases hl
          | false =>
            rw [hk] at hl
            rcases List.mem_cons.1 ho with rfl | ho
            · rw [he] at hk; simp at hk
            · exact ih ho hl
    obtain ⟨fs, hfs⟩ := hfs
    have hm := lookup_mem hfs
    have hfl : fs.length ≤ n := h.flen _ hm
    rw [lookup_frz, hfs]
    show ((skeys (fs.map fun y => (y.Name, y))).bind _) = _
    have e2 : skeys (fs.map fun y => (y.Name, y)) = some (srtN (fs.map (·.Name))) := by
      rw [skeys_of]
      · rw [List.map_map]; rfl
      · intro y hy
        obtain ⟨z, hz, rfl⟩ := List.mem_map.1 hy
        have := (h.good _ hm z hz).name
        show z.Name.length ≤ _
        omega
      · rw [List.length_map]; omega
    rw [e2, Option.bind_some]
    have hl2 : (srtN (fs.map (·.Name))).length ≤ n := by rw [List.length_mergeSort, List.length_map]; exact hfl
    rw [loop_app (b := 128) (ns := srtN (fs.map (·.Name))) (fun n => (get FN_ fs n).getD fold_zero) ?_ ?_ (by omega) (by omega)]
    · rfl
    · intro k hk out
      unfold fold_store.l1
      simp only [lt_of_len hk, if_true, idx_nat hk, Option.bind_some]
      show ((app 128 out [(((fs.map fun y => (y.Name, y)).lookup _).getD fold_zero)]).bind _) = _
      rw [lookup_fields]
    · intro out
      unfold fold_store.l1
      simp only [not_lt_len, Bool.false_eq_true, if_false]
  · intro out
    unfold fold_store.l2
    simp only [not_lt_len, Bool.false_eq_true, if_false]
end Go.Proofs.Ytbbeobiampbddaa

set_option linter.unusedVariables false
set_option linter.unusedSimpArgs false
namespace Go.Proofs.Ytbbeobiampbddaa
open Go Go.Proofs.YtbbeobiampbddaaL
def newerS (u : api_Update) (r : fold_Register) : Bool := !r.Set || decide (r.Tag < u.Tag ∨ r.Tag = u.Tag ∧ (r.Client < u.Client ∨ r.Client = u.Client ∧ r.Seq < u.Seq))
theorem compare_eq (a b : Int) : cmp_Compare_int a b = some (cmpI a b) := by
  unfold cmp_Compare_int cmp_isNaN_int cmpI
  simp only [Option.bind_some, bne_self_eq_false, Bool.false_eq_true, if_false]
  by_cases h1 : a < b
  · simp [h1]
  · by_cases h2 : b < a <;> simp [h1, h2]
theorem or_eq (a b c : Int) : cmp_Or_int [a, b, c] = some (if a ≠ 0 then a else if b ≠ 0 then b else c) := by
  unfold cmp_Or_int
  have e : loopO (cmp_Or_int.l1 [a, b, c]) 0 = some (if a ≠ 0 then .inr a else if b ≠ 0 then .inr b else if c ≠ 0 then .inr c else .inl ()) := by
    by_cases ha : a = 0
    · rw [loopO_next (s' := 1) (by unfold cmp_Or_int.l1; simp [idx, ha, letV, w64])]
      by_cases hb : b = 0
      · rw [loopO_next (s' := 2) (by unfold cmp_Or_int.l1; simp [idx, hb, letV, w64])]
        by_cases hc : c = 0
        · rw [loopO_next (s' := 3) (by unfold cmp_Or_int.l1; simp [idx, hc, letV, w64]), loopO_done (b := .inl ()) (by unfold cmp_Or_int.l1; simp)]
          simp [ha, hb, hc]
        · rw [loopO_done (b := .inr c) (by unfold cmp_Or_int.l1; simp [idx, hc])]
          simp [ha, hb, hc]
      · rw [loopO_done (b := .inr b) (by unfold cmp_Or_int.l1; simp [idx, hb])]
        simp [ha, hb]
    · rw [loopO_done (b := .inr a) (by unfold cmp_Or_int.l1; simp [idx, ha])]
      simp [ha]
  rw [e, Option.bind_some]
  by_cases ha : a = 0
  · by_cases hb : b = 0
    · by_cases hc : c = 0
      · simp [ha, hb, hc, cmp_Or_int.j1]
      · simp [ha, hb, hc]
    · simp [ha, hb]
  · simp [ha]
theorem cmp_lex (a b c d e f : Int) : (0 < (if cmpI a b ≠ 0 then cmpI a b else if cmpI c d ≠ 0 then cmpI c d else cmpI e f)) ↔ (b < a ∨ b = a ∧ (d < c ∨ d = c ∧ f < e)) := by
  unfold cmpI
  grind
theorem newer_eq (u : api_Update) (r : fold_Register) : fold_newer u r = some (newerS u r) := by
  unfold fold_newer newerS
  cases r.Set with
  | false => rfl
  | true =>
    simp only [Bool.not_true, Bool.false_eq_true, if_false, compare_eq, Option.bind_some, or_eq, fold_newer.j1, Bool.false_or]
    congr 1
    rw [Bool.eq_iff_iff, decide_eq_true_eq, decide_eq_true_eq]
    exact cmp_lex _ _ _ _ _ _
def updF (u : api_Update) (e : api_Effect) (f : fold_Field) : fold_Field :=
  if e.Kind = 1 then (if newerS u f.Register then { f with Register := ⟨true, u.Tag, u.Client, u.Seq, e.N, e.S⟩ } else f) else
  if e.Kind = 2 then (if !f.HasMax || decide (f.Max < e.N) then { f with HasMax := true, Max := e.N } else f) else
  if e.Kind = 3 then { f with Sum := IntKind.i64.wrap (f.Sum + e.N) } else
  if e.Kind = 4 then { f with Elems := insS f.Elems e.S } else
  if e.Kind = 5 then { f with Flag := true } else f
theorem fold_upd_eq {n : Nat} {u : api_Update} {e : api_Effect} {f : fold_Field} (h : GF n f) (hn : n ≤ 1000000) : fold_upd u e f = some (updF u e f) := by
  unfold fold_upd updF
  by_cases h1 : e.Kind = 1
  · simp only [h1, beq_self_eq_true, if_true, newer_eq, Option.bind_some]
    cases newerS u f.Register <;> rfl
  · rw [if_neg (by simpa using h1), if_neg h1]
    by_cases h2 : e.Kind = 2
    · simp only [h2, beq_self_eq_true, if_true]
      cases f.HasMax with
      | false => rfl
      | true =>
        simp only [Bool.not_true, Bool.false_or, Bool.false_eq_true, if_false]
        cases decide (f.Max < e.N) <;> rfl
    · rw [if_neg (by simpa using h2), if_neg h2]
      by_cases h3 : e.Kind = 3
      · simp only [h3, beq_self_eq_true, if_true]
      · rw [if_neg (by simpa using h3), if_neg h3]
        by_cases h4 : e.Kind = 4
        · simp only [h4, beq_self_eq_true, if_true, insO]
          rw [if_pos ⟨h.asc, by have := h.len; omega⟩]
          rfl
        · rw [if_neg (by simpa using h4), if_neg h4]
          by_cases h5 : e.Kind = 5
          · simp only [h5, beq_self_eq_true, if_true]
          · rw [if_neg (by simpa using h5), if_neg h5]
theorem insS_mem : ∀ {l : List (List UInt8)} {s x : List UInt8}, x ∈ insS l s → x = s ∨ x ∈ l
  | [], s, x, h => by simp [insS] at h; exact .inl h
  | a :: l, s, x, h => by
    unfold insS at h
    split at h
    · rcases List.mem_cons.1 h with rfl | h
      · exact .inr (by simp)
      · rcases insS_mem h with h | h
        · exact .inl h
        · exact .inr (by simp [h])
    · split at h
      · exact .inr h
      · rcases List.mem_cons.1 h with rfl | h
        · exact .inl rfl
        · exact .inr h
theorem insS_asc : ∀ {l : List (List UInt8)} {s : List UInt8}, Asc l → Asc (insS l s)
  | [], s, _ => by unfold insS; exact List.pairwise_singleton _ _
  | a :: l, s, h => by
    have h1 := (List.pairwise_cons.1 h).1
    have h2 := (List.pairwise_cons.1 h).2
    unfold insS
    cases hc : Op.bytesLess a s with
    | true =>
      rw [if_pos rfl]
      refine List.pairwise_cons.2 ⟨fun x hx => ?_, insS_asc h2⟩
      rcases insS_mem hx with rfl | hx
      · exact hc
      · exact h1 x hx
    | false =>
      rw [if_neg (by simp)]
      by_cases he : a = s
      · rw [if_pos (by simp [he])]; exact h
      · rw [if_neg (by simpa using he)]
        have hs : Op.bytesLess s a = true := by
          cases hk : Op.bytesLess s a with
          | true => rfl
          | false => exact absurd (bl_tri hc hk) he
        refine List.pairwise_cons.2 ⟨fun x hx => ?_, h⟩
        rcases List.mem_cons.1 hx with rfl | hx
        · exact hs
        · exact bl_trans hs (h1 x hx)
theorem insS_length : ∀ (l : List (List UInt8)) (s : List UInt8), (insS l s).length ≤ l.length + 1
  | [], s => by simp [insS]
  | a :: l, s => by
    unfold insS
    have := insS_length l s
    split
    · simp only [List.length_cons]; omega
    · split <;> simp
theorem updF_name (u : api_Update) (e : api_Effect) (f : fold_Field) : (updF u e f).Name = f.Name := by
  unfold updF
  repeat' split
  all_goals rfl
structure EF (e : api_Effect) : Prop where
  obj : e.Object.length ≤ 1000
  fld : e.Field.length ≤ 1000
  str : e.S.length ≤ 1000
theorem GF.mono {n m : Nat} {y : fold_Field} (h : GF n y) (hm : n ≤ m) : GF m y := ⟨h.name, h.asc, Nat.le_trans h.len hm, h.els, h.reg⟩
theorem GF_upd {n : Nat} {u : api_Update} {e : api_Effect} {f : fold_Field} (h : GF n f) (he : EF e) : GF (n + 1) (updF u e f) := by
  have hm : GF (n + 1) f := h.mono (by omega)
  unfold updF
  split
  · split
    · exact ⟨hm.name, hm.asc, hm.len, hm.els, he.str⟩
    · exact hm
  · split
    · split
      · exact ⟨hm.name, hm.asc, hm.len, hm.els, hm.reg⟩
      · exact hm
    · split
      · exact ⟨hm.name, hm.asc, hm.len, hm.els, hm.reg⟩
      · split
        · refine ⟨hm.name, insS_asc h.asc, Nat.le_trans (insS_length _ _) (by have := h.len; omega), fun s hs => ?_, hm.reg⟩
          rcases insS_mem hs with rfl | hs
          · exact he.str
          · exact h.els s hs
        · split
          · exact ⟨hm.name, hm.asc, hm.len, hm.els, hm.reg⟩
          · exact hm
theorem GF_named {n : Nat} {f : fold_Field} (h : GF n f) {k : List UInt8} (hk : k.length ≤ 1000) : GF n { f with Name := k } := ⟨hk, h.asc, h.len, h.els, h.reg⟩
theorem GF_zero (n : Nat) : GF n fold_zero := ⟨by decide, List.Pairwise.nil, Nat.zero_le _, fun s hs => by simp [fold_zero] at hs, by decide⟩
def inObj (k f : List UInt8) (h : Option fold_Field → fold_Field) : Option fold_Object → fold_Object := fun o => ⟨k, upd FN_ f h ((o.map (·.Fields)).getD [])⟩
theorem inObj_key (k f : List UInt8) (h : Option fold_Field → fold_Field) : ∀ o, (∀ a, o = some a → ON_ a = k) → ON_ (inObj k f h o) = k := fun _ _ => rfl
def inFld (u : api_Update) (e : api_Effect) : Option fold_Field → fold_Field := fun y => updF u e { y.getD fold_zero with Name := e.Field }
theorem inFld_key (u : api_Update) (e : api_Effect) : ∀ o, (∀ a, o = some a → FN_ a = e.Field) → FN_ (inFld u e o) = e.Field := fun _ _ => updF_name _ _ _
def effT (u : api_Update) (objs : List fold_Object) (e : api_Effect) : List fold_Object := upd ON_ e.Object (inObj e.Object e.Field (inFld u e)) objs
theorem get_fput {y : fold_Field} {k : List UInt8} : ∀ {fs : List fold_Field}, get FN_ (fput fold_Field.Name y fs) k = if k = y.Name then some y else get FN_ fs k
  | [] => by
    unfold fput
    rw [get_cons, get_nil]
    by_cases h : y.Name = k
    · rw [if_pos h, if_pos h.symm]
    · rw [if_neg h, if_neg (fun e => h e.symm)]
  | a :: fs => by
    unfold fput
    by_cases h : y.Name = a.Name
    · rw [if_pos (by simp [h]), get_cons, get_cons]
      by_cases hk : y.Name = k
      · rw [if_pos hk, if_pos hk.symm]
      · rw [if_neg hk, if_neg (fun e => hk e.symm), if_neg (by show ¬ a.Name = k; rw [← h]; exact hk)]
    · rw [if_neg (by simpa using h), get_cons, get_cons, get_fput]
      by_cases hk : a.Name = k
      · rw [if_pos hk, if_neg (by rw [← hk]; exact fun e => h e.symm), if_pos hk]
      · rw [if_neg hk, if_neg hk]
theorem fput_mem {y z : fold_Field} : ∀ {fs : List fold_Field}, z ∈ fput fold_Field.Name y fs → z = y ∨ z ∈ fs
  | [], h => by simp [fput] at h; exact .inl h
  | a :: fs, h => by
    unfold fput at h
    split at h
    · rcases List.mem_cons.1 h with h | h
      · exact .inl h
      · exact .inr (by simp [h])
    · rcases List.mem_cons.1 h with h | h
      · exact .inr (by simp [h])
      · rcases fput_mem h with h | h
        · exact .inl h
        · exact .inr (by simp [h])
theorem fput_names {y : fold_Field} : ∀ {fs : List fold_Field}, (fs.map (·.Name)).Nodup → ((fput fold_Field.Name y fs).map (·.Name)).Nodup
  | [], _ => by simp [fput]
  | a :: fs, h => by
    rw [List.map_cons, List.nodup_cons] at h
    unfold fput
    by_cases hk : y.Name = a.Name
    · rw [if_pos (by simp [hk]), List.map_cons, List.nodup_cons, hk]
      exact h
    · rw [if_neg (by simpa using hk), List.map_cons, List.nodup_cons]
      refine ⟨fun hm => ?_, fput_names h.2⟩
      obtain ⟨z, hz, he⟩ := List.mem_map.1 hm
      rcases fput_mem hz with rfl | hz
      · exact hk he
      · exact h.1 (List.mem_map.2 ⟨z, hz, he⟩)
theorem fput_length {y : fold_Field} : ∀ fs : List fold_Field, (fput fold_Field.Name y fs).length ≤ fs.length + 1
  | [] => by simp [fput]
  | a :: fs => by
    unfold fput
    have := fput_length (y := y) fs
    split
    · simp
    · simp only [List.length_cons]; omega
theorem fput_ne {y : fold_Field} (fs : List fold_Field) : fput fold_Field.Name y fs ≠ [] := by
  cases fs with
  | nil => simp [fput]
  | cons a fs => unfold fput; split <;> simp
theorem with_lookup (x : fold_B) (k q : List UInt8) : (fold_with x k).lookup q = if q = k then some ((x.lookup k).getD []) else x.lookup q := by
  unfold fold_with
  cases h : x.lookup k with
  | some fs =>
    simp only [Option.isNone_some, Bool.false_eq_true, if_false, Option.getD_some]
    by_cases hq : q = k
    · rw [if_pos hq, hq, h]
    · rw [if_neg hq]
  | none =>
    simp only [Option.isNone_none, if_true, Option.getD_none]
    revert h
    induction x with
    | nil =>
      intro h
      rw [List.nil_append, List.lookup_cons]
      by_cases hq : q = k
      · rw [if_pos hq, show (q == k) = true by simp [hq]]
      · rw [if_neg hq, show (q == k) = false by simp [hq]]
    | cons a x ih =>
      intro h
      rw [List.lookup_cons] at h
      rw [List.cons_append, List.lookup_cons, List.lookup_cons]
      cases hk : k == a.1 with
      | true => rw [hk] at h; cases h
      | false =>
        rw [hk] at h
        cases hq : q == a.1 with
        | true =>
          have e1 : q = a.1 := by simpa using hq
          have e2 : q ≠ k := fun e => by rw [← e, hq] at hk; cases hk
          rw [if_neg e2]
        | false => exact ih h
theorem set_lookup (x : fold_B) (k q : List UInt8) (y : fold_Field) : (fold_set (fold_with x k) k y).lookup q = if q = k then some (fput fold_Field.Name y ((x.lookup k).getD [])) else x.lookup q := by
  unfold fold_set
  rw [mset_lookup, with_lookup, with_lookup, if_pos rfl]
  by_cases hq : q = k
  · simp [hq]
  · simp [hq]
theorem nodup_lookup {β : Type} : ∀ {x : List (List UInt8 × β)}, (x.map (·.1)).Nodup → ∀ o ∈ x, x.lookup o.1 = some o.2
  | [], _, o, h => by simp at h
  | a :: x, hn, o, h => by
    rw [List.map_cons, List.nodup_cons] at hn
    rw [List.lookup_cons]
    rcases List.mem_cons.1 h with rfl | h
    · simp
    · have : (o.1 == a.1) = false := by
        rw [beq_eq_false_iff_ne]
        exact fun e => hn.1 (List.mem_map.2 ⟨o, h, e⟩)
      rw [this]
      exact nodup_lookup hn.2 o h
theorem set_keys (x : fold_B) (k : List UInt8) (y : fold_Field) (h : (x.map (·.1)).Nodup) : ((fold_set (fold_with x k) k y).map (·.1)).Nodup := by
  have h2 : ((fold_with x k).map (·.1)).Nodup := by
    unfold fold_with
    cases hl : x.lookup k with
    | some fs => simpa using h
    | none =>
      simp only [Option.isNone_none, if_true, List.map_append, List.map_cons, List.map_nil]
      rw [List.nodup_append]
      refine ⟨h, by simp, fun a ha b hb e => ?_⟩
      simp at hb
      subst hb
      subst e
      obtain ⟨o, ho, he⟩ := List.mem_map.1 ha
      have := nodup_lookup h o ho
      rw [he, hl] at this
      cases this
  exact (mset_keys k _ _ h2).1
theorem set_length (x : fold_B) (k : List UInt8) (y : fold_Field) : (fold_set (fold_with x k) k y).length ≤ x.length + 1 := by
  unfold fold_set fold_with
  cases hl : x.lookup k with
  | none =>
    simp only [Option.isNone_none, if_true]
    have : ∀ (l : fold_B) (v : List fold_Field) (v' : List fold_Field), (mset (l ++ [(k, v)]) k v').length ≤ l.length + 1 := by
      intro l v v'
      induction l with
      | nil => simp [mset]
      | cons a l ih =>
        rw [List.cons_append, mset]
        split
        · simp
        · simp only [List.length_cons]; omega
    exact this x _ _
  | some fs =>
    simp only [Option.isNone_some, Bool.false_eq_true, if_false]
    exact mset_length _ _ _
theorem canon_set {x : fold_B} {k : List UInt8} {y : fold_Field} (hk : (x.map (·.1)).Nodup) (hn : ∀ o ∈ x, (o.2.map (·.Name)).Nodup) :
    canonB (fold_set (fold_with x k) k y) = upd ON_ k (inObj k y.Name fun _ => y) (canonB x) := by
  refine SA_ext (SA_canonB (set_keys x k y hk)) (SA_upd (inObj_key k y.Name fun _ => y) (SA_canonB hk)) fun q => ?_
  rw [get_upd (inObj_key k y.Name fun _ => y) q (SA_canonB hk), get_canonB, get_canonB, get_canonB, set_lookup]
  by_cases hq : q = k
  · rw [if_pos hq, if_pos hq, hq]
    show some (⟨k, canonF (fput fold_Field.Name y ((x.lookup k).getD []))⟩ : fold_Object) = some (⟨k, _⟩ : fold_Object)
    congr 2
    have hnn : (((x.lookup k).getD []).map (·.Name)).Nodup := by
      cases hl : x.lookup k with
      | none => simp
      | some fs => exact hn _ (lookup_mem hl)
    have e : (((x.lookup k).map fun fs => (⟨k, canonF fs⟩ : fold_Object)).map (·.Fields)).getD [] = canonF ((x.lookup k).getD []) := by
      cases x.lookup k with
      | none => simp [canonF, srtN]
      | some fs => rfl
    rw [e]
    refine SA_ext (SA_canonF (fput_names hnn)) (SA_upd (fun o _ => rfl) (SA_canonF hnn)) fun p => ?_
    rw [get_upd (fun o _ => rfl) p (SA_canonF hnn), get_canonF, get_canonF, get_fput]
  · rw [if_neg hq, if_neg hq]
theorem find_get {fs : List fold_Field} {f : List UInt8} : fs.find? (fun q => f == q.Name) = get FN_ fs f := by
  unfold get
  congr 1
  funext q
  rw [Bool.eq_iff_iff, beq_iff_eq, beq_iff_eq]
  exact eq_comm
theorem eff_eq {n : Nat} {u : api_Update} {x : fold_B} {e : api_Effect} (h : BI n x) (he : EF e) (hn : n ≤ 1000000) :
    ∃ x', fold_eff u x e = some x' ∧ BI (n + 1) x' ∧ canonB x' = effT u (canonB x) e := by
  unfold fold_eff
  have hat : fold_at (fold_with x e.Object) e.Object e.Field = (get FN_ ((x.lookup e.Object).getD []) e.Field).getD fold_zero := by
    unfold fold_at
    rw [with_lookup, if_pos rfl, Option.getD_some, find_get]
  rw [hat]
  obtain ⟨y0, hy0⟩ : ∃ y0, y0 = (get FN_ ((x.lookup e.Object).getD []) e.Field).getD fold_zero := ⟨_, rfl⟩
  rw [← hy0]
  have hg0 : GF n y0 := by
    rw [hy0]
    cases hl : x.lookup e.Object with
    | none => exact GF_zero n
    | some fs =>
      cases hg : get FN_ fs e.Field with
      | none => simp only [Option.getD_some, hg]; exact GF_zero n
      | some y => simp only [Option.getD_some, hg]; exact h.good _ (lookup_mem hl) y (get_mem hg)
  have hg1 : GF n { y0 with Name := e.Field } := GF_named hg0 he.fld
  rw [fold_upd_eq hg1 hn, Option.bind_some]
  obtain ⟨y1, hy1⟩ : ∃ y1, y1 = updF u e { y0 with Name := e.Field } := ⟨_, rfl⟩
  rw [← hy1]
  have hg2 : GF (n + 1) y1 := by rw [hy1]; exact GF_upd hg1 he
  have hn1 : y1.Name = e.Field := by rw [hy1, updF_name]
  refine ⟨_, rfl, ?_, ?_⟩
  · have hmem : ∀ o ∈ fold_set (fold_with x e.Object) e.Object y1, o = (e.Object, fput fold_Field.Name y1 ((x.lookup e.Object).getD [])) ∨ o ∈ x := by
      intro o ho
      have hl := nodup_lookup (set_keys x e.Object y1 h.keys) o ho
      rw [set_lookup] at hl
      by_cases hq : o.1 = e.Object
      · rw [if_pos hq] at hl
        exact .inl (Prod.ext hq (Option.some.inj hl).symm)
      · rw [if_neg hq] at hl
        exact .inr (lookup_mem hl)
    have hin : ∀ o, o = (e.Object, fput fold_Field.Name y1 ((x.lookup e.Object).getD [])) ∨ o ∈ x → o.1.length ≤ 1000 ∧ o.2 ≠ [] ∧ (o.2.map (·.Name)).Nodup ∧ o.2.length ≤ n + 1 ∧ ∀ y ∈ o.2, GF (n + 1) y := by
      rintro o (rfl | ho)
      · refine ⟨he.obj, fput_ne _, fput_names ?_, ?_, fun y hy => ?_⟩
        · cases hl : x.lookup e.Object with
          | none => simp
          | some fs => exact h.names _ (lookup_mem hl)
        · refine Nat.le_trans (fput_length _) ?_
          cases hl : x.lookup e.Object with
          | none => simp
          | some fs => have := h.flen _ (lookup_mem hl); simpa using this
        · rcases fput_mem hy with rfl | hy
          · exact hg2
          · cases hl : x.lookup e.Object with
            | none => rw [hl] at hy; simp at hy
            | some fs => rw [hl] at hy; exact (h.good _ (lookup_mem hl) y hy).mono (by omega)
      · exact ⟨h.name o ho, h.ne o ho, h.names o ho, by have := h.flen o ho; omega, fun y hy => (h.good o ho y hy).mono (by omega)⟩
    exact ⟨set_keys x e.Object y1 h.keys, Nat.le_trans (set_length _ _ _) (by have := h.len; omega), fun o ho => (hin o (hmem o ho)).1, fun o ho => (hin o (hmem o ho)).2.1, fun o ho => (hin o (hmem o ho)).2.2.1, fun o ho => (hin o (hmem o ho)).2.2.2.1, fun o ho => (hin o (hmem o ho)).2.2.2.2⟩
  · rw [canon_set h.keys h.names]
    unfold effT
    refine upd_congr (inObj_key _ _ _) (SA_canonB h.keys) ?_ (inObj_key _ _ _)
    rw [get_canonB]
    unfold inObj
    have e1 : (((x.lookup e.Object).map fun fs => (⟨e.Object, canonF fs⟩ : fold_Object)).map (·.Fields)).getD [] = canonF ((x.lookup e.Object).getD []) := by
      cases x.lookup e.Object with
      | none => simp [canonF, srtN]
      | some fs => rfl
    have hnn : (((x.lookup e.Object).getD []).map (·.Name)).Nodup := by
      cases hl : x.lookup e.Object with
      | none => simp
      | some fs => exact h.names _ (lookup_mem hl)
    simp only [e1]
    congr 1
    rw [hn1]
    refine upd_congr (g := fun _ => y1) (g' := inFld u e) (fun o _ => hn1) (SA_canonF hnn) ?_ (inFld_key u e)
    rw [get_canonF]
    unfold inFld
    rw [← hy0]
    exact hy1
end Go.Proofs.Ytbbeobiampbddaa

set_option linter.unusedVariables false
set_option linter.unusedSimpArgs false
namespace Go.Proofs.Ytbbeobiampbddaa
open Go Go.Proofs.YtbbeobiampbddaaL
structure GD (n : Nat) (objs : List fold_Object) : Prop where
  asc : SA ON_ objs
  len : objs.length ≤ n
  name : ∀ o ∈ objs, o.Name.length ≤ 1000
  ne : ∀ o ∈ objs, o.Fields ≠ []
  fasc : ∀ o ∈ objs, SA FN_ o.Fields
  flen : ∀ o ∈ objs, o.Fields.length ≤ n
  good : ∀ o ∈ objs, ∀ y ∈ o.Fields, GF n y
theorem GD.mono {n m : Nat} {objs : List fold_Object} (h : GD n objs) (hm : n ≤ m) : GD m objs :=
  ⟨h.asc, Nat.le_trans h.len hm, h.name, h.ne, h.fasc, fun o ho => Nat.le_trans (h.flen o ho) hm, fun o ho y hy => (h.good o ho y hy).mono hm⟩
theorem GD_nil (n : Nat) : GD n [] := ⟨List.Pairwise.nil, Nat.zero_le _, by simp, by simp, by simp, by simp, by simp⟩
def appT (u : api_Update) (objs : List fold_Object) : List fold_Object := u.Effects.foldl (effT u) objs
def foldT (s : List api_Update) (objs : List fold_Object) : List fold_Object := s.foldl (fun o u => appT u o) objs
theorem apply_ex {u : api_Update} {n : Nat} {x : fold_B} (h : BI n x) (he : ∀ e ∈ u.Effects, EF e) (hn : n + u.Effects.length ≤ 1000000) :
    ∃ x', fold_apply u x = some x' ∧ BI (n + u.Effects.length) x' ∧ canonB x' = appT u (canonB x) := by
  unfold fold_apply
  refine loopO_inv (I := fun k s => s.1 = (k : Int) ∧ BI (n + k) s.2 ∧ canonB s.2 = (u.Effects.take k).foldl (effT u) (canonB x)) u.Effects.length ⟨rfl, h, rfl⟩ ?_ ?_
  · rintro k ⟨i, y⟩ hk ⟨hi, h1, h2⟩
    simp only at hi h1 h2
    subst hi
    obtain ⟨x', e1, e2, e3⟩ := eff_eq (u := u) h1 (he _ (List.getElem_mem hk)) (by omega)
    refine ⟨(((k + 1 : Nat) : Int), x'), ?_, rfl, e2, ?_⟩
    · unfold fold_apply.l1
      simp only [lt_of_len hk, if_true, idx_nat hk, Option.bind_some, e1, letV, wcast hk (by omega)]
    · rw [take_snoc hk, List.foldl_append, ← h2, e3]
      rfl
  · rintro ⟨i, y⟩ ⟨hi, h1, h2⟩
    simp only at hi h1 h2
    subst hi
    rw [List.take_length] at h2
    refine ⟨y, ?_, h1, h2⟩
    unfold fold_apply.l1
    simp only [not_lt_len, Bool.false_eq_true, if_false]
theorem clone_eq {l : List (List UInt8)} (h : l.length ≤ 1000000) : slices_Clone_string l = some l := by
  unfold slices_Clone_string
  rw [app_of (by simp; omega)]
  rfl
theorem names_ne {α : Type} {key : α → List UInt8} {l : List α} (h : SA key l) : (l.map key).Nodup := by
  refine List.pairwise_map.2 (h.imp fun {a b} hab e => ?_)
  rw [e, bl_irrefl] at hab
  cases hab
def loaded (objs : List fold_Object) : fold_B := objs.map fun o => (o.Name, o.Fields)
theorem load_fields {n : Nat} {o : fold_Object} (h1 : SA FN_ o.Fields) (h2 : o.Fields.length ≤ n) (h3 : ∀ y ∈ o.Fields, GF n y) (hn : n ≤ 1000000) : loopO (fold_load.l1 o) (0, []) = some o.Fields := by
  have := loopO_up (step := fold_load.l1 o) (fun k => ((k : Int), o.Fields.take k)) o.Fields.length (b := o.Fields) (fun k hk => ?_) ?_
  · exact this
  · have hg := h3 _ (List.getElem_mem hk)
    unfold fold_load.l1
    simp only [lt_of_len hk, if_true, idx_nat hk, Option.bind_some]
    rw [clone_eq (by have := hg.len; omega), Option.bind_some, letV, wcast hk (by omega)]
    have e : fput fold_Field.Name o.Fields[k] (o.Fields.take k) = o.Fields.take (k + 1) := by
      rw [take_snoc hk, fput_none]
      rw [List.find?_eq_none]
      intro y hy
      obtain ⟨j, hj, rfl⟩ := List.getElem_of_mem hy
      rw [List.length_take] at hj
      have := List.pairwise_iff_getElem.1 h1 j k (by omega) hk (by omega)
      rw [List.getElem_take]
      intro he
      have he : o.Fields[k].Name = (o.Fields[j]'(by omega)).Name := by simpa using he
      have this : Op.bytesLess (o.Fields[j]'(by omega)).Name o.Fields[k].Name = true := this
      rw [he, bl_irrefl] at this
      cases this
    rw [show ({ o.Fields[k] with Elems := o.Fields[k].Elems } : fold_Field) = o.Fields[k] from rfl, e]
  · unfold fold_load.l1
    simp only [not_lt_len, Bool.false_eq_true, if_false, List.take_length]
theorem load_eq {n : Nat} {t : fold_Store} (h : GD n t.Objects) (hn : n ≤ 1000000) : fold_load t = some (loaded t.Objects) := by
  unfold fold_load
  have hlen := h.len
  have := loopO_up (step := fold_load.l2 t) (fun k => ((k : Int), loaded (t.Objects.take k))) t.Objects.length (b := loaded t.Objects) (fun k hk => ?_) ?_
  · exact this
  · have hm := List.getElem_mem hk
    unfold fold_load.l2
    simp only [lt_of_len hk, if_true, idx_nat hk, Option.bind_some]
    rw [load_fields (h.fasc _ hm) (h.flen _ hm) (h.good _ hm) hn, Option.bind_some, letV, wcast hk (by omega)]
    have e : mset (loaded (t.Objects.take k)) t.Objects[k].Name t.Objects[k].Fields = loaded (t.Objects.take (k + 1)) := by
      unfold loaded
      rw [take_snoc hk, List.map_append, mset_none]
      · rfl
      · cases hl : (List.map (fun o : fold_Object => (o.Name, o.Fields)) (List.take k t.Objects)).lookup t.Objects[k].Name with
        | none => rfl
        | some fs =>
          exfalso
          obtain ⟨o, ho, he⟩ := List.mem_map.1 (lookup_mem hl)
          have he : o.Name = t.Objects[k].Name := congrArg Prod.fst he
          obtain ⟨j, hj, rfl⟩ := List.getElem_of_mem ho
          rw [List.length_take] at hj
          have := List.pairwise_iff_getElem.1 h.asc j k (by omega) hk (by omega)
          rw [List.getElem_take] at he
          have this : Op.bytesLess (t.Objects[j]'(by omega)).Name t.Objects[k].Name = true := this
          rw [he, bl_irrefl] at this
          cases this
    rw [e]
  · unfold fold_load.l2
    simp only [not_lt_len, Bool.false_eq_true, if_false, List.take_length]
theorem BI_loaded {n : Nat} {objs : List fold_Object} (h : GD n objs) : BI n (loaded objs) := by
  have hm : ∀ o ∈ loaded objs, ∃ p ∈ objs, o = (p.Name, p.Fields) := fun o ho => by
    obtain ⟨p, hp, rfl⟩ := List.mem_map.1 ho
    exact ⟨p, hp, rfl⟩
  refine ⟨?_, by unfold loaded; rw [List.length_map]; exact h.len, fun o ho => ?_, fun o ho => ?_, fun o ho => ?_, fun o ho => ?_, fun o ho => ?_⟩
  · unfold loaded
    rw [List.map_map]
    exact names_ne h.asc
  all_goals obtain ⟨p, hp, rfl⟩ := hm o ho
  · exact h.name p hp
  · exact h.ne p hp
  · exact names_ne (h.fasc p hp)
  · exact h.flen p hp
  · exact h.good p hp
theorem canonF_self {fs : List fold_Field} (h : SA FN_ fs) : canonF fs = fs := SA_ext (SA_canonF (names_ne h)) h fun k => get_canonF fs k
theorem loaded_lookup (objs : List fold_Object) (k : List UInt8) : (loaded objs).lookup k = (get ON_ objs k).map (·.Fields) := by
  induction objs with
  | nil => rfl
  | cons a objs ih =>
    unfold loaded at ih ⊢
    rw [List.map_cons, List.lookup_cons, get_cons]
    by_cases h : ON_ a = k
    · rw [if_pos h, show (k == a.Name) = true by rw [← h]; simp]
      rfl
    · rw [if_neg h, show (k == a.Name) = false by rw [beq_eq_false_iff_ne]; exact fun e => h e.symm]
      exact ih
theorem canon_loaded {n : Nat} {objs : List fold_Object} (h : GD n objs) : canonB (loaded objs) = objs := by
  refine SA_ext (SA_canonB (BI_loaded h).keys) h.asc fun k => ?_
  rw [get_canonB, loaded_lookup]
  cases hg : get ON_ objs k with
  | none => rfl
  | some o =>
    show some (⟨k, canonF o.Fields⟩ : fold_Object) = some o
    rw [canonF_self (h.fasc o (get_mem hg)), ← get_key hg]
theorem canonF_mem {fs : List fold_Field} {y : fold_Field} (h : y ∈ canonF fs) : y ∈ fs := by
  unfold canonF at h
  obtain ⟨n, hn, rfl⟩ := List.mem_map.1 h
  rw [mem_srt, get_names] at hn
  cases hg : get FN_ fs n with
  | none => rw [hg] at hn; cases hn
  | some y => exact get_mem hg
theorem GD_canon {n : Nat} {x : fold_B} (h : BI n x) : GD n (canonB x) := by
  have hm : ∀ o ∈ canonB x, ∃ fs, (o.Name, fs) ∈ x ∧ o.Fields = canonF fs := by
    intro o ho
    have hg := get_mem_self (SA_canonB h.keys) ho
    rw [get_canonB] at hg
    cases hl : x.lookup (ON_ o) with
    | none => rw [hl] at hg; cases hg
    | some fs =>
      rw [hl] at hg
      have := Option.some.inj hg
      exact ⟨fs, lookup_mem hl, by rw [← this]⟩
  refine ⟨SA_canonB h.keys, ?_, fun o ho => ?_, fun o ho => ?_, fun o ho => ?_, fun o ho => ?_, fun o ho y hy => ?_⟩
  · unfold canonB
    rw [List.length_map, List.length_mergeSort, List.length_map]
    exact h.len
  all_goals obtain ⟨fs, h1, h2⟩ := hm o ho
  · exact h.name _ h1
  · rw [h2]
    intro he
    have := congrArg List.length he
    unfold canonF at this
    rw [List.length_map, List.length_mergeSort, List.length_map] at this
    exact h.ne _ h1 (List.length_eq_zero_iff.1 this)
  · rw [h2]; exact SA_canonF (h.names _ h1)
  · rw [h2]
    unfold canonF
    rw [List.length_map, List.length_mergeSort, List.length_map]
    exact h.flen _ h1
  · rw [h2] at hy
    exact h.good _ h1 y (canonF_mem hy)
theorem Apply_eq {n : Nat} {t : fold_Store} {u : api_Update} (h : GD n t.Objects) (he : ∀ e ∈ u.Effects, EF e) (hn : n + u.Effects.length ≤ 1000000) :
    fold_Apply t u = some ⟨appT u t.Objects⟩ ∧ GD (n + u.Effects.length) (appT u t.Objects) := by
  unfold fold_Apply
  obtain ⟨x', e1, e2, e3⟩ := apply_ex (u := u) (BI_loaded h) he hn
  rw [canon_loaded h] at e3
  rw [load_eq h (by omega), Option.bind_some, e1, Option.bind_some, fold_store_eq e2 hn, e3]
  exact ⟨rfl, e3 ▸ GD_canon e2⟩
end Go.Proofs.Ytbbeobiampbddaa

set_option linter.unusedVariables false
namespace Go.Proofs.Ytbbeobiampbddaa
open Go Go.Proofs.YtbbeobiampbddaaL
theorem effect_eq (e : api_Effect) : update_ValidateEffect e = esref14_ValidateEffect e := by
  obtain ⟨k, o, f, n, s⟩ := e
  simp only [update_ValidateEffect, update_ValidateEffect.j7, update_ValidateEffect.j6, update_ValidateEffect.j5, update_ValidateEffect.j4, update_ValidateEffect.j3, update_ValidateEffect.j2, update_ValidateEffect.j1, update_empty,
    esref14_ValidateEffect, esref14_ValidateEffect.j6, esref14_ValidateEffect.j5, esref14_ValidateEffect.j4, esref14_ValidateEffect.j3, esref14_ValidateEffect.j2, esref14_ValidateEffect.j1, Option.bind_some]
  by_cases h1 : k < 1
  · simp [h1]
  by_cases h2 : 5 < k
  · simp [h1, h2]
  simp only [decide_eq_false h1, decide_eq_false h2, Bool.false_eq_true, if_false]
  have e1 : (o == ([] : List UInt8)) = decide (o = []) := by cases o <;> rfl
  have e2 : (f == ([] : List UInt8)) = decide (f = []) := by cases f <;> rfl
  rw [e1, e2]
  generalize decide (o = []) = b1
  generalize decide (f = []) = b2
  generalize decide ((16 : Int) < (o.length : Int)) = c1
  generalize decide ((16 : Int) < (f.length : Int)) = c2
  generalize decide ((32 : Int) < (s.length : Int)) = c3
  generalize decide (n < -1000000) = n1
  generalize decide (1000000 < n) = n2
  generalize (n != 0) = n0
  generalize (s != ([] : List UInt8)) = s0
  have : k = 1 ∨ k = 2 ∨ k = 3 ∨ k = 4 ∨ k = 5 := by omega
  rcases this with rfl | rfl | rfl | rfl | rfl <;> cases b1 <;> cases b2 <;> cases c1 <;> cases c2 <;> cases c3 <;> first | rfl | (cases n1 <;> cases n2 <;> cases n0 <;> cases s0 <;> rfl)
theorem isSome_ite {α : Type} {c : Prop} [Decidable c] {a b : Option α} (h1 : a.isSome = true) (h2 : b.isSome = true) : (if c then a else b).isSome = true := by
  split
  · exact h1
  · exact h2
theorem effect_some (e : api_Effect) : ∃ r, esref14_ValidateEffect e = some r := by
  refine Option.isSome_iff_exists.1 ?_
  simp only [esref14_ValidateEffect, esref14_ValidateEffect.j6, esref14_ValidateEffect.j5, esref14_ValidateEffect.j4, esref14_ValidateEffect.j3, esref14_ValidateEffect.j2, esref14_ValidateEffect.j1]
  repeat' (first | exact rfl | refine isSome_ite ?_ ?_)
def comm (l : List api_Effect) : Bool := l.all fun e => e.Kind != 1
theorem Commutes_eq (u : api_Update) (h : u.Effects.length ≤ 4) : update_Commutes u = some (comm u.Effects) := by
  unfold update_Commutes slices_ContainsFunc_Effect slices_IndexFunc_Effect
  obtain ⟨b, hb, hq⟩ : ∃ b, loopO (slices_IndexFunc_Effect.l1 u.Effects fun p => update_Commutes_1 p) (0 : Int) = some b ∧ (fun b => match b with | .inl _ => comm u.Effects = true | .inr j => 0 ≤ j ∧ comm u.Effects = false) b := by
    refine loopO_ex (fun k s => s = (k : Int) ∧ ∀ e ∈ u.Effects.take k, (e.Kind != 1) = true) u.Effects.length ⟨rfl, by simp⟩ (fun k s hk hI => ?_) (fun s hI => ?_)
    · obtain ⟨rfl, hI⟩ := hI
      unfold slices_IndexFunc_Effect.l1
      simp only [lt_of_len hk, if_true, idx_nat hk, Option.bind_some, update_Commutes_1]
      cases hc : (u.Effects[k].Kind == 1) with
      | true =>
        refine .inr ⟨_, rfl, by show (0 : Int) ≤ (k : Int); omega, ?_⟩
        unfold comm
        rw [List.all_eq_false]
        exact ⟨_, List.getElem_mem hk, by simp [bne, hc]⟩
      | false =>
        refine .inl ⟨((k + 1 : Nat) : Int), by simp only [Bool.false_eq_true, if_false, letV_of, wcast hk (by omega)], rfl, fun e he => ?_⟩
        rw [take_snoc hk] at he
        rcases List.mem_append.1 he with he | he
        · exact hI e he
        · simp at he; subst he; simp [bne, hc]
    · obtain ⟨rfl, hI⟩ := hI
      unfold slices_IndexFunc_Effect.l1
      refine ⟨.inl (), by simp only [not_lt_len, Bool.false_eq_true, if_false], ?_⟩
      show comm u.Effects = true
      rw [List.take_length] at hI
      unfold comm
      rw [List.all_eq_true]
      exact hI
  rw [hb]
  clear hb
  cases b with
  | inl x => rw [show comm u.Effects = true from hq]; rfl
  | inr j => obtain ⟨h0, h1⟩ := hq; rw [h1]; simp [h0]
theorem refCommutes_eq (u : api_Update) (h : u.Effects.length ≤ 4) : esref14_Commutes u = some (comm u.Effects) := by
  unfold esref14_Commutes
  obtain ⟨b, hb, hq⟩ : ∃ b, loopO (esref14_Commutes.l1 u) (0 : Int) = some b ∧ (fun b => match b with | .inl _ => comm u.Effects = true | .inr j => j = false ∧ comm u.Effects = false) b := by
    refine loopO_ex (fun k s => s = (k : Int) ∧ ∀ e ∈ u.Effects.take k, (e.Kind != 1) = true) u.Effects.length ⟨rfl, by simp⟩ (fun k s hk hI => ?_) (fun s hI => ?_)
    · obtain ⟨rfl, hI⟩ := hI
      unfold esref14_Commutes.l1
      simp only [lt_of_len hk, if_true, idx_nat hk, Option.bind_some]
      cases hc : (u.Effects[k].Kind == 1) with
      | true =>
        refine .inr ⟨_, rfl, rfl, ?_⟩
        unfold comm
        rw [List.all_eq_false]
        exact ⟨_, List.getElem_mem hk, by simp [bne, hc]⟩
      | false =>
        refine .inl ⟨((k + 1 : Nat) : Int), by simp only [Bool.false_eq_true, if_false, letV_of, wcast hk (by omega)], rfl, fun e he => ?_⟩
        rw [take_snoc hk] at he
        rcases List.mem_append.1 he with he | he
        · exact hI e he
        · simp at he; subst he; simp [bne, hc]
    · obtain ⟨rfl, hI⟩ := hI
      unfold esref14_Commutes.l1
      refine ⟨.inl (), by simp only [not_lt_len, Bool.false_eq_true, if_false], ?_⟩
      show comm u.Effects = true
      rw [List.take_length] at hI
      unfold comm
      rw [List.all_eq_true]
      exact hI
  rw [hb]
  clear hb
  cases b with
  | inl x => rw [show comm u.Effects = true from hq]; rfl
  | inr j => obtain ⟨h0, h1⟩ := hq; rw [h1]; simp [h0]
theorem effloop_eq (u : api_Update) : loopO (update_Validate.l1 u) 0 = loopO (esref14_ValidateUpdate.l1 u) 0 := by
  refine loopO_congr (fun s => ?_) 0
  unfold update_Validate.l1 esref14_ValidateUpdate.l1
  simp only [effect_eq]
theorem effloop_some (u : api_Update) (h : u.Effects.length ≤ 4) : ∃ b, loopO (esref14_ValidateUpdate.l1 u) 0 = some b := by
  obtain ⟨b, hb, _⟩ : ∃ b, loopO (esref14_ValidateUpdate.l1 u) (0 : Int) = some b ∧ (fun _ => True) b := by
    refine loopO_ex (fun k s => s = (k : Int)) u.Effects.length rfl (fun k s hk hI => ?_) (fun s hI => ?_)
    · subst hI
      unfold esref14_ValidateUpdate.l1
      obtain ⟨r, hr⟩ := effect_some u.Effects[k]
      simp only [lt_of_len hk, if_true, idx_nat hk, Option.bind_some, hr]
      cases hc : (r != 0) with
      | true => exact .inr ⟨_, rfl, trivial⟩
      | false => exact .inl ⟨((k + 1 : Nat) : Int), by simp only [Bool.false_eq_true, if_false, letV_of, wcast hk (by omega)], rfl⟩
    · subst hI
      unfold esref14_ValidateUpdate.l1
      exact ⟨.inl (), by simp only [not_lt_len, Bool.false_eq_true, if_false], trivial⟩
  exact ⟨b, hb⟩
theorem upd_eq (es : List api_Effect) : update_Validate ⟨101, 1, 0, es⟩ = esref14_ValidateUpdate ⟨101, 1, 0, es⟩ ∧ ∃ r, esref14_ValidateUpdate ⟨101, 1, 0, es⟩ = some r := by
  have h1 : update_Validate ⟨101, 1, 0, es⟩ = update_Validate.j3 ⟨101, 1, 0, es⟩ false := by
    simp [update_Validate, update_Validate.j4]
  have h2 : esref14_ValidateUpdate ⟨101, 1, 0, es⟩ = esref14_ValidateUpdate.j3 ⟨101, 1, 0, es⟩ false := by
    simp [esref14_ValidateUpdate, esref06_Client, esref06_Client.j1]
  rw [h1, h2]
  unfold update_Validate.j3 esref14_ValidateUpdate.j3
  simp only [Bool.false_eq_true, if_false]
  cases hz : (((es.length : Nat) : Int) == 0) with
  | true => exact ⟨rfl, _, rfl⟩
  | false =>
    simp only [Bool.false_eq_true, if_false]
    by_cases h4 : 4 < ((es.length : Nat) : Int)
    · rw [decide_eq_true h4]; exact ⟨rfl, _, rfl⟩
    · rw [decide_eq_false h4]
      simp only [Bool.false_eq_true, if_false]
      have hl : (⟨101, 1, 0, es⟩ : api_Update).Effects.length ≤ 4 := by show es.length ≤ 4; omega
      rw [effloop_eq]
      obtain ⟨b, hb⟩ := effloop_some ⟨101, 1, 0, es⟩ hl
      rw [hb]
      cases b with
      | inr x => exact ⟨rfl, _, rfl⟩
      | inl x =>
        simp only [Option.bind_some, update_Validate.j2, esref14_ValidateUpdate.j2, Commutes_eq _ hl, refCommutes_eq _ hl, update_Validate.j1, esref14_ValidateUpdate.j1]
        cases comm es <;> cases decide (1 < ((es.length : Nat) : Int)) <;> exact ⟨rfl, _, rfl⟩
theorem contents_eq (o : history_Operation) : history_contents o = esref39_content o ∧ ∃ r, esref39_content o = some r := by
  unfold history_contents esref39_content
  obtain ⟨h1, r, h2⟩ := upd_eq o.Effects
  rw [h1, h2]
  simp only [Option.bind_some, history_contents.j1, history_contents.j2, esref39_content.j1, esref39_content.j2]
  refine ⟨trivial, Option.isSome_iff_exists.1 ?_⟩
  repeat' (first | exact rfl | refine isSome_ite ?_ ?_)
theorem valid_some (o : history_Operation) : ∃ r, esref39_validOperation o = some r := by
  refine Option.isSome_iff_exists.1 ?_
  simp only [esref39_validOperation, esref39_validOperation.j2, esref39_validOperation.j1, esref06_Client, esref06_Client.j1]
  split <;> simp only [Option.bind_some] <;> repeat' (first | exact rfl | refine isSome_ite ?_ ?_)
end Go.Proofs.Ytbbeobiampbddaa

set_option linter.unusedVariables false
namespace Go.Proofs.Ytbbeobiampbddaa
open Go Go.Proofs.YtbbeobiampbddaaL
noncomputable def vErr (o : history_Operation) : Int := (esref39_validOperation o).getD 0
noncomputable def cErr (o : history_Operation) : Int := (esref39_content o).getD 0
theorem vErr_eq (o : history_Operation) : esref39_validOperation o = some (vErr o) := by
  obtain ⟨r, hr⟩ := valid_some o
  unfold vErr; rw [hr]; rfl
theorem cErr_eq (o : history_Operation) : esref39_content o = some (cErr o) := by
  obtain ⟨_, r, hr⟩ := contents_eq o
  unfold cErr; rw [hr]; rfl
theorem contents_c (o : history_Operation) : history_contents o = some (cErr o) := by rw [(contents_eq o).1, cErr_eq]
def lastCall : List history_Operation → Int
  | [] => 0
  | [o] => o.Call
  | _ :: l => lastCall l
theorem lastCall_snoc : ∀ (l : List history_Operation) (o : history_Operation), lastCall (l ++ [o]) = o.Call
  | [], o => rfl
  | [a], o => rfl
  | a :: b :: l, o => by
    show lastCall (b :: l ++ [o]) = o.Call
    exact lastCall_snoc (b :: l) o
def dupB (prev : List history_Operation) (o : history_Operation) : Bool := prev.any fun k => o.Call == k.Return || (o.Return != 0 && (o.Return == k.Call || o.Return == k.Return))
def stB (prev : List history_Operation) (o : history_Operation) : Bool := prev.any fun k => k.Process == o.Process && decide (o.Call < k.Return)
noncomputable def opErr (prev : List history_Operation) (o : history_Operation) : Int :=
  if vErr o ≠ 0 then vErr o else if decide (0 < prev.length) && decide (o.Call ≤ lastCall prev) then 7 else if cErr o ≠ 0 then cErr o else if dupB prev o then 5 else if stB prev o then 17 else 0
noncomputable def valL : List history_Operation → List history_Operation → Int
  | _, [] => 0
  | prev, o :: l => if opErr prev o ≠ 0 then opErr prev o else valL (prev ++ [o]) l
theorem take_drop_step {xs : List history_Operation} {k : Nat} (hk : k < xs.length) (h : valL [] xs = valL (xs.take k) (xs.drop k)) :
    (opErr (xs.take k) xs[k] ≠ 0 → valL [] xs = opErr (xs.take k) xs[k]) ∧ (opErr (xs.take k) xs[k] = 0 → valL [] xs = valL (xs.take (k + 1)) (xs.drop (k + 1))) := by
  rw [List.drop_eq_getElem_cons hk, valL] at h
  constructor
  · intro hn
    rw [h, if_pos hn]
  · intro hz
    rw [h, if_neg (by simp [hz]), take_snoc hk]
theorem lastCall_take {xs : List history_Operation} {k : Nat} (hk : k < xs.length) : lastCall (xs.take (k + 1)) = xs[k].Call := by
  rw [take_snoc hk, lastCall_snoc]
end Go.Proofs.Ytbbeobiampbddaa

set_option linter.unusedVariables false
namespace Go.Proofs.Ytbbeobiampbddaa
open Go Go.Proofs.YtbbeobiampbddaaL
structure VI (prev : List history_Operation) (last : Int) (ev : List (Int × Bool)) (rt : List (Int × Int)) : Prop where
  la : last = lastCall prev
  ord : ∀ o ∈ prev, 1 ≤ o.Call ∧ o.Call ≤ last ∧ (o.Return ≠ 0 → o.Call < o.Return)
  nn : 0 ≤ last
  eve : ∀ e, (ev.lookup e).getD false = true ↔ ∃ o ∈ prev, e = o.Call ∨ (o.Return ≠ 0 ∧ e = o.Return)
  ret : ∀ p c, 0 ≤ c → (c < (rt.lookup p).getD 0 ↔ ∃ o ∈ prev, o.Process = p ∧ c < o.Return)
theorem VI.nil : VI [] 0 [] [] := ⟨rfl, by simp, by omega, by simp, fun p c h => by simp; omega⟩
theorem vErr_zero {o : history_Operation} (h : vErr o = 0) : 1 ≤ o.Call ∧ (o.Return ≠ 0 → o.Call < o.Return) := by
  have h1 := vErr_eq o
  rw [h] at h1
  simp only [esref39_validOperation, esref39_validOperation.j2, esref39_validOperation.j1, esref06_Client, esref06_Client.j1] at h1
  by_cases a1 : 101 ≤ o.Process <;> by_cases a2 : o.Process < 107 <;> by_cases a3 : o.Kind < 1 <;> by_cases a4 : 3 < o.Kind <;> by_cases a5 : o.Call < 1 <;> by_cases a6 : o.Return = 0 <;> by_cases a7 : o.Return ≤ o.Call <;> simp [a1, a2, a3, a4, a5, a6, a7] at h1 <;> constructor <;> omega
theorem VI.next {prev : List history_Operation} {last : Int} {ev : List (Int × Bool)} {rt : List (Int × Int)} (h : VI prev last ev rt) {o : history_Operation} (hv : vErr o = 0) (hl : last < o.Call) {ev' : List (Int × Bool)}
    (he : ev' = if o.Return != 0 then mset (mset ev o.Call true) o.Return true else mset ev o.Call true) :
    VI (prev ++ [o]) o.Call ev' (mset rt o.Process (maxI ((rt.lookup o.Process).getD 0) o.Return)) := by
  obtain ⟨v1, v2⟩ := vErr_zero hv
  refine ⟨(lastCall_snoc _ _).symm, fun q hq => ?_, by omega, fun e => ?_, fun p c hc => ?_⟩
  · rcases List.mem_append.1 hq with hq | hq
    · obtain ⟨a, b, c⟩ := h.ord q hq
      exact ⟨a, by omega, c⟩
    · simp at hq; subst hq; exact ⟨v1, by omega, v2⟩
  · subst he
    have hx : (∃ q ∈ prev ++ [o], e = q.Call ∨ (q.Return ≠ 0 ∧ e = q.Return)) ↔ (∃ q ∈ prev, e = q.Call ∨ (q.Return ≠ 0 ∧ e = q.Return)) ∨ e = o.Call ∨ (o.Return ≠ 0 ∧ e = o.Return) := by
      simp only [List.mem_append, List.mem_singleton, or_and_right, exists_or, exists_eq_left]
    rw [hx, ← h.eve e]
    cases hr : (o.Return != 0) with
    | true =>
      have hr' : o.Return ≠ 0 := by simpa using hr
      simp only [if_true, mset_lookup]
      by_cases e1 : e = o.Return
      · subst e1; simp [hr']
      · have e1' : (e == o.Return) = false := by simpa using e1
        rw [e1']
        by_cases e2 : e = o.Call
        · subst e2; simp
        · have e2' : (e == o.Call) = false := by simpa using e2
          rw [e2']; simp [e1, e2]
    | false =>
      have hr' : o.Return = 0 := by simpa using hr
      simp only [Bool.false_eq_true, if_false, mset_lookup]
      by_cases e2 : e = o.Call
      · subst e2; simp
      · have e2' : (e == o.Call) = false := by simpa using e2
        rw [e2']; simp [e2, hr']
  · have hx : (∃ q ∈ prev ++ [o], q.Process = p ∧ c < q.Return) ↔ (∃ q ∈ prev, q.Process = p ∧ c < q.Return) ∨ (o.Process = p ∧ c < o.Return) := by
      simp only [List.mem_append, List.mem_singleton, or_and_right, exists_or, exists_eq_left]
    rw [hx, ← h.ret p c hc, mset_lookup]
    by_cases e1 : p = o.Process
    · subst e1
      simp only [beq_self_eq_true, if_true, Option.getD_some, true_and]
      unfold maxI
      split <;> omega
    · have e1' : (p == o.Process) = false := by simpa using e1
      rw [e1']
      have : o.Process ≠ p := fun h => e1 h.symm
      simp [this]
theorem dup_iff {prev : List history_Operation} {last : Int} {ev : List (Int × Bool)} {rt : List (Int × Int)} (h : VI prev last ev rt) {o : history_Operation} (hl : last < o.Call) :
    dupB prev o = ((ev.lookup o.Call).getD false || (o.Return != 0 && (ev.lookup o.Return).getD false)) := by
  rw [Bool.eq_iff_iff]
  unfold dupB
  simp only [List.any_eq_true, Bool.or_eq_true, Bool.and_eq_true, h.eve, beq_iff_eq, bne_iff_ne, ne_eq]
  constructor
  · rintro ⟨k, hk, h1 | ⟨h1, h2 | h2⟩⟩
    · refine .inl ⟨k, hk, .inr ⟨fun h0 => ?_, h1⟩⟩
      have := h.nn
      omega
    · exact .inr ⟨h1, k, hk, .inl h2⟩
    · exact .inr ⟨h1, k, hk, .inr ⟨fun h0 => h1 (h2.trans h0), h2⟩⟩
  · rintro (⟨k, hk, h1 | ⟨h1, h2⟩⟩ | ⟨h1, k, hk, h2 | ⟨h2, h3⟩⟩)
    · obtain ⟨a, b, c⟩ := h.ord k hk
      omega
    · exact ⟨k, hk, .inl h2⟩
    · exact ⟨k, hk, .inr ⟨h1, .inl h2⟩⟩
    · exact ⟨k, hk, .inr ⟨h1, .inr h3⟩⟩
theorem st_iff {prev : List history_Operation} {last : Int} {ev : List (Int × Bool)} {rt : List (Int × Int)} (h : VI prev last ev rt) {o : history_Operation} (hl : last < o.Call) :
    stB prev o = decide (o.Call < (rt.lookup o.Process).getD 0) := by
  rw [Bool.eq_iff_iff, decide_eq_true_iff, h.ret _ _ (by have := h.nn; omega)]
  unfold stB
  simp only [List.any_eq_true, Bool.and_eq_true, beq_iff_eq, decide_eq_true_iff]
theorem operation_eq {prev : List history_Operation} {last : Int} {ev : List (Int × Bool)} {rt : List (Int × Int)} (h : VI prev last ev rt) (o : history_Operation) :
    history_validator_operation ⟨last, ev, rt⟩ o = some (opErr prev o, ⟨last, ev, rt⟩) := by
  have hv : ∀ x : Int × history_validator, (if decide (o.Process < 101) = true then history_validator_operation.j4 ⟨last, ev, rt⟩ o true else history_validator_operation.j4 ⟨last, ev, rt⟩ o (decide (107 ≤ o.Process))) = some x ↔
      (if vErr o ≠ 0 then some (vErr o, (⟨last, ev, rt⟩ : history_validator)) else history_validator_operation.j2 ⟨last, ev, rt⟩ o false) = some x := by
    intro x
    have h1 := vErr_eq o
    simp only [esref39_validOperation, esref39_validOperation.j2, esref39_validOperation.j1, esref06_Client, esref06_Client.j1] at h1
    simp only [history_validator_operation.j4, history_validator_operation.j3]
    by_cases a1 : 101 ≤ o.Process <;> by_cases a2 : o.Process < 107 <;> by_cases a3 : o.Kind < 1 <;> by_cases a4 : 3 < o.Kind <;> by_cases a5 : o.Call < 1 <;> by_cases a6 : o.Return = 0 <;> by_cases a7 : o.Return ≤ o.Call <;>
      (have b1 : (o.Process < 101) = ¬ (101 ≤ o.Process) := propext ⟨fun h => by omega, fun h => by omega⟩
       have b2 : (107 ≤ o.Process) = ¬ (o.Process < 107) := propext ⟨fun h => by omega, fun h => by omega⟩
       simp [a1, a2, a3, a4, a5, a6, a7] at h1
       simp [b1, b2, a1, a2, a3, a4, a5, a6, a7, ← h1, history_validator_operation.j2])
  unfold history_validator_operation
  rw [hv]
  unfold opErr
  by_cases h0 : vErr o = 0
  · rw [if_neg (by simp [h0]), if_neg (by simp [h0])]
    unfold history_validator_operation.j2
    obtain ⟨v1, v2⟩ := vErr_zero h0
    have hlt : decide (o.Call ≤ last) = (decide (0 < prev.length) && decide (o.Call ≤ lastCall prev)) := by
      rw [← h.la]
      cases prev with
      | nil =>
        have : last = 0 := h.la
        simp; omega
      | cons q l => simp
    rw [if_neg (by simp), hlt]
    cases hb : (decide (0 < prev.length) && decide (o.Call ≤ lastCall prev)) with
    | true => rfl
    | false =>
      rw [hb] at hlt
      have hl : last < o.Call := by have := of_decide_eq_false hlt; omega
      simp only [Bool.false_eq_true, if_false, contents_c, Option.bind_some]
      by_cases hc : cErr o = 0
      · rw [if_neg (show ¬ ((cErr o != 0) = true) by simp [hc]), if_neg (show ¬ (cErr o ≠ 0) by simp [hc]), dup_iff h hl, st_iff h hl]
        simp only [letV_of, history_validator_operation.j1]
        cases (ev.lookup o.Call).getD false <;> cases o.Return != 0 <;> cases (ev.lookup o.Return).getD false <;> cases decide (o.Call < (rt.lookup o.Process).getD 0) <;> simp
      · rw [if_pos (by simpa using hc), if_pos hc]
  · rw [if_pos h0, if_pos h0]
theorem opErr_zero {prev : List history_Operation} {o : history_Operation} (h : opErr prev o = 0) : vErr o = 0 ∧ (decide (0 < prev.length) && decide (o.Call ≤ lastCall prev)) = false := by
  unfold opErr at h
  by_cases h0 : vErr o = 0
  · refine ⟨h0, ?_⟩
    rw [if_neg (by simp [h0])] at h
    cases hb : (decide (0 < prev.length) && decide (o.Call ≤ lastCall prev)) with
    | false => rfl
    | true => rw [hb, if_pos rfl] at h; cases h
  · rw [if_pos h0] at h; exact absurd h h0
theorem Validate_eq (h : history_History) (hm : h.Operations.length ≤ 1000) : history_Validate h = some (valL [] h.Operations) := by
  unfold history_Validate
  obtain ⟨b, hb, hq⟩ : ∃ b, loopO (history_Validate.l1 h) (0, 0, [], []) = some b ∧ (fun b : Unit ⊕ Int => match b with | .inl _ => valL [] h.Operations = 0 | .inr e => valL [] h.Operations = e) b := by
    refine loopO_ex (fun k (s : Int × Int × (List (Int × Bool)) × (List (Int × Int))) => s.1 = (k : Int) ∧ VI (h.Operations.take k) s.2.1 s.2.2.1 s.2.2.2 ∧ valL [] h.Operations = valL (h.Operations.take k) (h.Operations.drop k)) h.Operations.length ⟨rfl, VI.nil, rfl⟩ (fun k s hk hI => ?_) (fun s hI => ?_)
    · obtain ⟨i, last, ev, rt⟩ := s
      obtain ⟨h1, hV, hI⟩ := hI
      have h1 : i = (k : Int) := h1
      subst h1
      have hV : VI (h.Operations.take k) last ev rt := hV
      obtain ⟨t1, t2⟩ := take_drop_step hk hI
      unfold history_Validate.l1
      simp only [lt_of_len hk, if_true, idx_nat hk, Option.bind_some, operation_eq hV]
      by_cases ho : opErr (h.Operations.take k) h.Operations[k] = 0
      · rw [if_neg (by simp [ho])]
        obtain ⟨z1, z2⟩ := opErr_zero ho
        obtain ⟨v1, v2⟩ := vErr_zero z1
        have hl : last < h.Operations[k].Call := by
          rw [← hV.la] at z2
          rcases Nat.eq_zero_or_pos (h.Operations.take k).length with h0 | h0
          · have : h.Operations.take k = [] := List.length_eq_zero_iff.1 h0
            have hl0 := hV.la
            rw [this] at hl0
            have : last = 0 := hl0
            omega
          · rw [decide_eq_true h0, Bool.true_and] at z2
            have := of_decide_eq_false z2
            omega
        have hn := hV.next z1 hl rfl
        rw [← take_snoc hk] at hn
        refine .inl ⟨(((k + 1 : Nat) : Int), h.Operations[k].Call, _, _), ?_, rfl, hn, t2 ho⟩
        simp only [letV_of, history_Validate.j2, wcast hk (by omega)]
        cases h.Operations[k].Return != 0 <;> rfl
      · rw [if_pos (by simpa using ho)]
        exact .inr ⟨_, rfl, t1 ho⟩
    · obtain ⟨i, last, ev, rt⟩ := s
      obtain ⟨h1, hV, hI⟩ := hI
      have h1 : i = (h.Operations.length : Int) := h1
      subst h1
      unfold history_Validate.l1
      refine ⟨.inl (), by simp only [not_lt_len, Bool.false_eq_true, if_false], ?_⟩
      show valL [] h.Operations = 0
      rw [hI, List.drop_length, valL]
  rw [hb, Option.bind_some]
  cases b with
  | inl x => rw [show valL [] h.Operations = 0 from hq]; rfl
  | inr e => rw [show valL [] h.Operations = e from hq]
end Go.Proofs.Ytbbeobiampbddaa

set_option linter.unusedVariables false
namespace Go.Proofs.Ytbbeobiampbddaa
open Go Go.Proofs.YtbbeobiampbddaaL
def prB (l : List history_Operation) (a b : Int) : Bool := match idx l a, idx l b with
  | some x, some y => x.Return != 0 && decide (x.Return < y.Call)
  | _, _ => false
def coB (l : List history_Operation) (a b : Int) : Bool := (idx l a).isSome && ((idx l b).isSome && (a != b && (!prB l a b && !prB l b a)))
theorem idx_in {α : Type} {l : List α} {a : Int} : (idx l a).isSome = (decide (0 ≤ a) && decide (a < (l.length : Int))) := by
  unfold idx
  split
  · rename_i h
    rw [decide_eq_true h, Bool.true_and, Bool.eq_iff_iff, decide_eq_true_iff]
    simp only [Option.isSome_iff_exists, List.getElem?_eq_some_iff]
    constructor
    · rintro ⟨_, h1, _⟩; omega
    · intro h1; exact ⟨_, by omega, rfl⟩
  · rename_i h; rw [decide_eq_false h]; rfl
theorem inRange_eq (h : history_History) (a : Int) : history_inRange h a = some (idx h.Operations a).isSome := by
  rw [idx_in]
  unfold history_inRange history_inRange.j1
  cases decide (0 ≤ a) <;> rfl
theorem precedes_eq (x y : history_Operation) : history_precedes x y = some (x.Return != 0 && decide (x.Return < y.Call)) := by
  unfold history_precedes history_precedes.j1
  cases x.Return != 0 <;> rfl
theorem Precedes_eq (h : history_History) (a b : Int) : history_Precedes h a b = some (prB h.Operations a b) := by
  unfold history_Precedes prB
  simp only [inRange_eq, Option.bind_some, history_Precedes.j1]
  cases idx h.Operations a with
  | none => rfl
  | some x =>
    cases idx h.Operations b with
    | none => rfl
    | some y => simp [precedes_eq]
theorem Concurrent_eq (h : history_History) (a b : Int) : history_Concurrent h a b = some (coB h.Operations a b) := by
  unfold history_Concurrent coB
  simp only [inRange_eq, Precedes_eq, Option.bind_some, history_Concurrent.j1]
  cases (idx h.Operations a).isSome <;> cases (idx h.Operations b).isSome <;> cases a != b <;> cases prB h.Operations a b <;> rfl
def ofL (p : Int) : Nat → List history_Operation → List Int
  | _, [] => []
  | i, o :: l => if o.Process == p then (i : Int) :: ofL p (i + 1) l else ofL p (i + 1) l
theorem ofL_length (p : Int) : ∀ (i : Nat) (l : List history_Operation), (ofL p i l).length ≤ l.length
  | _, [] => Nat.le_refl _
  | i, o :: l => by
    unfold ofL
    have := ofL_length p (i + 1) l
    split <;> simp <;> omega
theorem ofL_snoc (p : Int) (o : history_Operation) : ∀ (i : Nat) (l : List history_Operation), ofL p i (l ++ [o]) = ofL p i l ++ if o.Process == p then [((i + l.length : Nat) : Int)] else []
  | i, [] => by simp only [List.nil_append, ofL]; split <;> simp
  | i, a :: l => by
    simp only [List.cons_append, ofL, ofL_snoc p o (i + 1) l, List.length_cons]
    rw [show i + 1 + l.length = i + (l.length + 1) by omega]
    split <;> simp
theorem Of_eq (h : history_History) (p : Int) (hm : h.Operations.length ≤ 1000) : history_Of h p = some (ofL p 0 h.Operations) := by
  unfold history_Of
  obtain ⟨b, hb, hq⟩ : ∃ b, loopO (history_Of.l1 h p) ([], 0) = some b ∧ b = ofL p 0 h.Operations := by
    refine loopO_inv (fun k s => s = (ofL p 0 (h.Operations.take k), (k : Int))) h.Operations.length rfl (fun k s hk hI => ?_) (fun s hI => ?_)
    · subst hI
      have hl : (ofL p 0 (h.Operations.take k)).length ≤ k := Nat.le_trans (ofL_length _ _ _) (by rw [List.length_take]; omega)
      unfold history_Of.l1
      simp only [lt_of_len hk, if_true, idx_nat hk, Option.bind_some, history_Of.j2, letV_of, wcast hk (by omega)]
      refine ⟨_, ?_, rfl⟩
      rw [take_snoc hk, ofL_snoc, List.length_take, Nat.min_eq_left (by omega), Nat.zero_add]
      cases h.Operations[k].Process == p with
      | true =>
        rw [if_pos rfl, if_pos rfl, app_of (by simp; omega), Option.bind_some]
      | false => rw [if_neg (by simp), if_neg (by simp), List.append_nil]
    · subst hI
      unfold history_Of.l1
      dsimp only
      exact ⟨_, if_neg (by rw [not_lt_len]; simp), by rw [List.take_length]⟩
  rw [hb, hq]; rfl
def visF (n : List UInt8) (f : fold_Field) : history_Value := ⟨n, f.Name, f.Register.Set, f.Register.N, f.Register.S, f.HasMax, f.Max, f.Sum, f.Elems, f.Flag⟩
def visL (l : List fold_Object) : List history_Value := l.flatMap fun o => o.Fields.map (visF o.Name)
theorem visL_length {n : Nat} : ∀ {l : List fold_Object}, (∀ o ∈ l, o.Fields.length ≤ n) → (visL l).length ≤ l.length * n
  | [], _ => by simp [visL]
  | o :: l, h => by
    have h1 := visL_length (l := l) fun o ho => h o (by simp [ho])
    have h2 := h o (by simp)
    unfold visL at h1 ⊢
    rw [List.flatMap_cons, List.length_append, List.length_map, List.length_cons, Nat.succ_mul]
    omega
theorem Visible_eq {n : Nat} {t : fold_Store} (h : GD n t.Objects) (hn : n ≤ 100000) : history_Visible t = some (visL t.Objects) := by
  unfold history_Visible
  obtain ⟨b, hb, hq⟩ : ∃ b, loopO (history_Visible.l2 t) ([], 0) = some b ∧ b = visL t.Objects := by
    refine loopO_inv (fun k s => s = (visL (t.Objects.take k), (k : Int))) t.Objects.length rfl (fun k s hk hI => ?_) (fun s hI => ?_)
    · subst hI
      have hm := List.getElem_mem hk
      have hlen := h.len
      have hv : (visL (t.Objects.take k)).length ≤ k * n := by
        have := visL_length (n := n) (l := t.Objects.take k) fun o ho => h.flen o (List.mem_of_mem_take ho)
        rw [List.length_take, Nat.min_eq_left (by omega)] at this
        exact this
      have hkn : k * n + n ≤ n * n := by
        have := Nat.mul_le_mul_right n (show k + 1 ≤ n by omega)
        rw [Nat.succ_mul] at this
        exact this
      have hnn : n * n ≤ 100000 * 100000 := Nat.mul_le_mul hn hn
      have hf := h.flen _ hm
      unfold history_Visible.l2
      simp only [lt_of_len hk, if_true, idx_nat hk, Option.bind_some]
      obtain ⟨b, hb, hq⟩ : ∃ b, loopO (history_Visible.l1 t.Objects[k]) (visL (t.Objects.take k), 0) = some b ∧ b = visL (t.Objects.take k) ++ t.Objects[k].Fields.map (visF t.Objects[k].Name) := by
        refine loopO_inv (fun j s => s = (visL (t.Objects.take k) ++ (t.Objects[k].Fields.take j).map (visF t.Objects[k].Name), (j : Int))) t.Objects[k].Fields.length (by simp) (fun j s hj hI => ?_) (fun s hI => ?_)
        · subst hI
          have hy := h.good _ hm _ (List.getElem_mem hj)
          unfold history_Visible.l1
          have hc : slices_Clone_string t.Objects[k].Fields[j].Elems = some t.Objects[k].Fields[j].Elems := clone_eq (by have := hy.len; omega)
          simp only [lt_of_len hj, if_true, idx_nat hj, Option.bind_some, hc, letV_of, wcast hj (by omega)]
          rw [app_of (by simp only [List.length_append, List.length_map, List.length_take, List.length_singleton]; omega), Option.bind_some]
          refine ⟨_, rfl, ?_⟩
          rw [take_snoc hj, List.map_append, ← List.append_assoc]
          rfl
        · subst hI
          unfold history_Visible.l1
          dsimp only
          exact ⟨_, if_neg (by rw [not_lt_len]; simp), by rw [List.take_length]⟩
      rw [hb, hq]
      simp only [Option.bind_some, history_Visible.j2, letV_of, wcast hk (show t.Objects.length ≤ _ by omega)]
      refine ⟨_, rfl, ?_⟩
      rw [take_snoc hk]
      unfold visL
      rw [List.flatMap_append]
      simp
    · subst hI
      unfold history_Visible.l2
      dsimp only
      exact ⟨_, if_neg (by rw [not_lt_len]; simp), by rw [List.take_length]⟩
  rw [hb, hq]; rfl
end Go.Proofs.Ytbbeobiampbddaa

set_option linter.unusedVariables false
namespace Go.Proofs.Ytbbeobiampbddaa
open Go Go.Proofs.YtbbeobiampbddaaL
def RG (a b : history_Operation) : Prop := a.Call < b.Call ∧ a.Return ≠ b.Call ∧ (a.Return ≠ 0 → a.Return ≠ b.Return) ∧ (a.Process = b.Process → a.Return < b.Call)
instance (a b : history_Operation) : Decidable (RG a b) := by unfold RG; exact inferInstance
structure Good (l : List history_Operation) : Prop where
  v : ∀ o ∈ l, vErr o = 0
  c : ∀ o ∈ l, cErr o = 0
  pw : l.Pairwise RG
theorem lastCall_mem : ∀ {l : List history_Operation}, l ≠ [] → ∃ o ∈ l, lastCall l = o.Call
  | [], h => absurd rfl h
  | [a], _ => ⟨a, by simp, rfl⟩
  | a :: b :: l, _ => by
    obtain ⟨o, h1, h2⟩ := lastCall_mem (l := b :: l) (by simp)
    exact ⟨o, by simp at h1 ⊢; exact .inr h1, h2⟩
theorem opErr_good {prev : List history_Operation} {o : history_Operation} (hv : vErr o = 0) (hc : cErr o = 0) (hr : ∀ k ∈ prev, RG k o) : opErr prev o = 0 := by
  obtain ⟨v1, v2⟩ := vErr_zero hv
  unfold opErr
  rw [if_neg (by simp [hv])]
  have h1 : (decide (0 < prev.length) && decide (o.Call ≤ lastCall prev)) = false := by
    cases prev with
    | nil => rfl
    | cons q l =>
      obtain ⟨k, h1, h2⟩ := lastCall_mem (l := q :: l) (by simp)
      have := (hr k h1).1
      rw [Bool.and_eq_false_iff]
      right
      rw [decide_eq_false_iff_not]
      omega
  have h2 : dupB prev o = false := by
    unfold dupB
    rw [List.any_eq_false]
    intro k hk
    obtain ⟨a1, a2, a3, a4⟩ := hr k hk
    simp only [Bool.or_eq_true, Bool.and_eq_true, beq_iff_eq, bne_iff_ne, ne_eq, not_or, not_and]
    refine ⟨fun h => a2 h.symm, fun h0 => ⟨fun h => ?_, fun h => a3 (fun h3 => h0 (h.trans h3)) h.symm⟩⟩
    have := v2 h0
    omega
  have h3 : stB prev o = false := by
    unfold stB
    rw [List.any_eq_false]
    intro k hk
    obtain ⟨a1, a2, a3, a4⟩ := hr k hk
    simp only [Bool.and_eq_true, beq_iff_eq, decide_eq_true_iff, not_and]
    intro h
    have := a4 h
    omega
  rw [h1, if_neg (by simp), if_neg (by simp [hc]), h2, if_neg (by simp), h3, if_neg (by simp)]
theorem valL_good : ∀ {l prev : List history_Operation}, Good (prev ++ l) → valL prev l = 0
  | [], _, _ => rfl
  | o :: l, prev, h => by
    have hz : opErr prev o = 0 := by
      refine opErr_good (h.v o (by simp)) (h.c o (by simp)) fun k hk => ?_
      exact (List.pairwise_append.1 h.pw).2.2 k hk o (by simp)
    unfold valL
    rw [if_neg (by simp [hz])]
    refine valL_good (prev := prev ++ [o]) ?_
    rw [List.append_assoc]
    exact h
theorem Good.val {l : List history_Operation} (h : Good l) : valL [] l = 0 := valL_good h
def opn (c : Int) (o : history_Operation) : Bool := o.Return == 0 || decide (c ≤ o.Return)
def wd : List history_Operation → List history_Operation → Int → Int
  | _, [], m => m
  | prev, o :: l, m => wd (prev ++ [o]) l (maxI m (((prev ++ [o]).filter (opn o.Call)).length : Int))
def enumL : Nat → List history_Operation → List (Int × history_Operation)
  | _, [] => []
  | i, o :: l => ((i : Int), o) :: enumL (i + 1) l
theorem enumL_snoc (o : history_Operation) : ∀ (i : Nat) (l : List history_Operation), enumL i (l ++ [o]) = enumL i l ++ [(((i + l.length : Nat) : Int), o)]
  | i, [] => rfl
  | i, a :: l => by
    simp only [List.cons_append, enumL, enumL_snoc o (i + 1) l, List.length_cons]
    rw [show i + 1 + l.length = i + (l.length + 1) by omega]
theorem enumL_mem {p : Int × history_Operation} : ∀ {i : Nat} {l : List history_Operation}, p ∈ enumL i l → (i : Int) ≤ p.1 ∧ p.1 < ((i + l.length : Nat) : Int) ∧ p.2 ∈ l
  | i, [], h => by simp [enumL] at h
  | i, a :: l, h => by
    rcases List.mem_cons.1 h with rfl | h
    · exact ⟨Int.le_refl _, by simp; omega, by simp⟩
    · obtain ⟨h1, h2, h3⟩ := enumL_mem h
      refine ⟨by omega, ?_, by simp [h3]⟩
      rw [List.length_cons]; omega
theorem enumL_keys : ∀ (i : Nat) (l : List history_Operation), ((enumL i l).map (·.1)).Nodup
  | _, [] => List.nodup_nil
  | i, a :: l => by
    rw [enumL, List.map_cons, List.nodup_cons]
    refine ⟨fun h => ?_, enumL_keys (i + 1) l⟩
    obtain ⟨p, hp, he⟩ := List.mem_map.1 h
    have := (enumL_mem hp).1
    have he : p.1 = (i : Int) := he
    omega
theorem enumL_count (f : history_Operation → Bool) : ∀ (i : Nat) (l : List history_Operation), ((enumL i l).filter fun p => f p.2).length = (l.filter f).length
  | _, [] => rfl
  | i, a :: l => by
    rw [enumL, List.filter_cons, List.filter_cons]
    have := enumL_count f (i + 1) l
    cases f a <;> simp [this]
theorem mdel_filter (k : Int) : ∀ {l : List (Int × history_Operation)}, (l.map (·.1)).Nodup → mdel l k = l.filter fun p => !(p.1 == k)
  | [], _ => rfl
  | p :: l, h => by
    rw [List.map_cons, List.nodup_cons] at h
    rw [mdel, List.filter_cons]
    by_cases e : k = p.1
    · subst e
      have : l.filter (fun q => !(q.1 == p.1)) = l := List.filter_eq_self.2 fun q hq => by
        have : q.1 ≠ p.1 := fun e => h.1 (List.mem_map.2 ⟨q, hq, e⟩)
        simpa using this
      simp [this]
    · have e1 : (k == p.1) = false := by simpa using e
      have e2 : (p.1 == k) = false := by simpa using fun h : p.1 = k => e h.symm
      rw [e1, e2, mdel_filter k h.2]
      simp
theorem dels_filter (f : history_Operation → Bool) : ∀ (τ x : List (Int × history_Operation)), (x.map (·.1)).Nodup →
    τ.foldl (fun s p => if f p.2 then mdel s p.1 else s) x = x.filter fun p => !(τ.any fun q => q.1 == p.1 && f q.2)
  | [], x, _ => by simp [List.filter_eq_self.2]
  | q :: τ, x, h => by
    rw [List.foldl_cons]
    cases hf : f q.2 with
    | false =>
      rw [if_neg (by simp), dels_filter f τ x h]
      refine List.filter_congr fun p _ => ?_
      rw [List.any_cons, hf, Bool.and_false, Bool.false_or]
    | true =>
      rw [if_pos rfl, mdel_filter _ h, dels_filter f τ _ ((List.Sublist.map _ List.filter_sublist).nodup h), List.filter_filter]
      refine List.filter_congr fun p _ => ?_
      rw [List.any_cons, hf, Bool.and_true]
      have : (p.1 == q.1) = (q.1 == p.1) := by rw [Bool.eq_iff_iff, beq_iff_eq, beq_iff_eq]; exact eq_comm
      rw [this]
      cases (q.1 == p.1) <;> simp
theorem dels_perm (f : history_Operation → Bool) {τ x : List (Int × history_Operation)} (h : (x.map (·.1)).Nodup) (hp : τ.Perm x) :
    τ.foldl (fun s p => if f p.2 then mdel s p.1 else s) x = x.filter fun p => !f p.2 := by
  rw [dels_filter f τ x h]
  refine List.filter_congr fun p hpx => ?_
  congr 1
  rw [Bool.eq_iff_iff, List.any_eq_true]
  constructor
  · rintro ⟨q, hq, hb⟩
    simp only [Bool.and_eq_true, beq_iff_eq] at hb
    have hqx := hp.mem_iff.1 hq
    have : q = p := by
      have hn : ∀ {l : List (Int × history_Operation)}, (l.map (·.1)).Nodup → q ∈ l → p ∈ l → q = p := by
        intro l
        induction l with
        | nil => intro _ h; simp at h
        | cons a l ih =>
          intro hn h1 h2
          rw [List.map_cons, List.nodup_cons] at hn
          rcases List.mem_cons.1 h1 with a1 | a1
          · rcases List.mem_cons.1 h2 with a2 | a2
            · rw [a1, a2]
            · exact absurd (List.mem_map.2 ⟨p, a2, by rw [← a1]; exact hb.1.symm⟩) hn.1
          · rcases List.mem_cons.1 h2 with a2 | a2
            · exact absurd (List.mem_map.2 ⟨q, a1, by rw [← a2]; exact hb.1⟩) hn.1
            · exact ih hn.2 a1 a2
      exact hn h hqx hpx
    rw [← this]; exact hb.2
  · intro hf
    exact ⟨p, hp.mem_iff.2 hpx, by simp [hf]⟩
theorem mset_new {k : Int} {y : history_Operation} : ∀ {l : List (Int × history_Operation)}, (∀ p ∈ l, p.1 ≠ k) → mset l k y = l ++ [(k, y)]
  | [], _ => rfl
  | p :: l, h => by
    have e : (k == p.1) = false := by simpa using fun e : k = p.1 => h p (by simp) e.symm
    rw [mset, e, mset_new fun q hq => h q (by simp [hq])]
    rfl
end Go.Proofs.Ytbbeobiampbddaa

set_option linter.unusedVariables false
namespace Go.Proofs.Ytbbeobiampbddaa
open Go Go.Proofs.YtbbeobiampbddaaL
structure WI (l : List history_Operation) (k : Nat) (opn_ : List (Int × history_Operation)) (m lat : Int) (en : Bool) : Prop where
  op : opn_ = (enumL 0 (l.take k)).filter fun p => opn (lastCall (l.take k)) p.2
  mo : wd [] l 0 = wd (l.take k) (l.drop k) m
  la : ∀ o ∈ l.take k, o.Return ≤ lat
  en : en = false → ∀ o ∈ l.take k, o.Return ≠ 0
theorem precB_eq {c : Int} {x o : history_Operation} (h : o.Call = c) : (!(x.Return != 0 && decide (x.Return < o.Call))) = opn c x := by
  subst h
  unfold opn
  rw [Bool.eq_iff_iff]
  simp
theorem j5_eq {m lat : Int} {en : Bool} {k : Nat} {o : history_Operation} {x : List (Int × history_Operation)} (hn : (x.map (·.1)).Nodup) (hk : ∀ p ∈ x, p.1 < (k : Int)) (hk2 : k ≤ 1000) :
    history_Width.j5 m lat en k o x = some (.inl ((x.filter fun p => opn o.Call p.2) ++ [((k : Int), o)], maxI m (((x.filter fun p => opn o.Call p.2) ++ [((k : Int), o)]).length : Int), maxI lat o.Return, en || o.Return == 0, ((k + 1 : Nat) : Int))) := by
  unfold history_Width.j5
  refine permI fun τ hτ => ?_
  have hs : ∀ (p : Int × history_Operation) (s : List (Int × history_Operation)), (fun p : Int × history_Operation => history_Width.l1 o p.1 p.2) p s = some (.inl ((fun p s => if (fun y : history_Operation => y.Return != 0 && decide (y.Return < o.Call)) p.2 then mdel s p.1 else s) p s)) := by
    intro p s
    show history_Width.l1 o p.1 p.2 s = _
    unfold history_Width.l1
    simp only [precedes_eq, Option.bind_some, letV_of]
    by_cases hc : (p.2.Return != 0 && decide (p.2.Return < o.Call)) = true
    · rw [if_pos hc, if_pos hc]
    · rw [if_neg hc, if_neg hc]
  rw [foldO_app hs, Option.bind_some]
  have hd := dels_perm (fun y : history_Operation => y.Return != 0 && decide (y.Return < o.Call)) hn hτ
  dsimp only at hd ⊢
  rw [hd]
  have hf : (x.filter fun p => !(p.2.Return != 0 && decide (p.2.Return < o.Call))) = x.filter fun p => opn o.Call p.2 := List.filter_congr fun p _ => precB_eq rfl
  rw [hf]
  unfold history_Width.j4
  rw [mset_new (k := (k : Int)) (y := o) (l := x.filter fun p => opn o.Call p.2) fun p hp => by have := hk p (List.mem_filter.1 hp).1; omega]
  simp only [letV_of, history_Width.j3, history_Width.j2]
  have hw : IntKind.i64.wrap ((k : Int) + 1) = ((k + 1 : Nat) : Int) := w64n (by omega)
  rw [hw]
  cases en <;> rfl
theorem Width_eq {h : history_History} (hc : h.Operations.Pairwise fun a b => a.Call < b.Call) (hv : ∀ o ∈ h.Operations, o.Return = 0 ∨ o.Call ≤ o.Return) (hm : h.Operations.length ≤ 1000) :
    history_Width h = some (wd [] h.Operations 0) := by
  unfold history_Width
  obtain ⟨b, hb, hq⟩ : ∃ b, loopO (history_Width.l2 h) (([] : List (Int × history_Operation)), 0, 0, false, 0) = some b ∧ b.2 = wd [] h.Operations 0 := by
    refine loopO_inv (fun k (s : List (Int × history_Operation) × Int × Int × Bool × Int) => s.2.2.2.2 = (k : Int) ∧ WI h.Operations k s.1 s.2.1 s.2.2.1 s.2.2.2.1) h.Operations.length ⟨rfl, ⟨rfl, rfl, by simp, by simp⟩⟩ (fun k s hk hI => ?_) (fun s hI => ?_)
    · obtain ⟨x, m, lat, en, i⟩ := s
      obtain ⟨h1, hI⟩ := hI
      have h1 : i = (k : Int) := h1
      subst h1
      have hI : WI h.Operations k x m lat en := hI
      have hmem := List.getElem_mem hk
      have htk : (h.Operations.take k).length = k := by rw [List.length_take]; omega
      have hlt : ∀ o ∈ h.Operations.take k, o.Call < h.Operations[k].Call := by
        intro o ho
        have hc' := hc
        rw [← List.take_append_drop (k + 1) h.Operations, take_snoc hk] at hc'
        exact (List.pairwise_append.1 (List.pairwise_append.1 hc').1).2.2 o ho _ (by simp)
      -- what is left open
      have hfil : ((enumL 0 (h.Operations.take k)).filter fun p => opn h.Operations[k].Call p.2) = x.filter fun p => opn h.Operations[k].Call p.2 := by
        rw [hI.op, List.filter_filter]
        refine List.filter_congr fun p hp => ?_
        cases ho : opn h.Operations[k].Call p.2 with
        | false => rfl
        | true =>
          rw [Bool.true_and]
          have hp2 := (enumL_mem hp).2.2
          have hne : h.Operations.take k ≠ [] := fun e => by rw [e] at hp2; simp at hp2
          obtain ⟨q, hq1, hq2⟩ := lastCall_mem hne
          have := hlt q hq1
          unfold opn at ho ⊢
          rw [Bool.or_eq_true, beq_iff_eq, decide_eq_true_iff] at ho
          symm
          rw [Bool.or_eq_true, beq_iff_eq, decide_eq_true_iff]
          omega
      have hx' : ((enumL 0 (h.Operations.take (k + 1))).filter fun p => opn (lastCall (h.Operations.take (k + 1))) p.2) = (x.filter fun p => opn h.Operations[k].Call p.2) ++ [((k : Int), h.Operations[k])] := by
        rw [lastCall_take hk, take_snoc hk, enumL_snoc, List.filter_append, hfil, htk, Nat.zero_add]
        congr 1
        have : opn h.Operations[k].Call h.Operations[k] = true := by
          unfold opn
          rw [Bool.or_eq_true, beq_iff_eq, decide_eq_true_iff]
          exact hv _ hmem
        rw [List.filter_cons, if_pos this, List.filter_nil]
      have hmo : wd [] h.Operations 0 = wd (h.Operations.take (k + 1)) (h.Operations.drop (k + 1)) (maxI m (((x.filter fun p => opn h.Operations[k].Call p.2) ++ [((k : Int), h.Operations[k])]).length : Int)) := by
        rw [hI.mo, List.drop_eq_getElem_cons hk, wd, ← take_snoc hk, ← hx', lastCall_take hk, enumL_count]
      have hxm : ∀ p ∈ x, p.1 < (k : Int) := by
        intro p hp
        rw [hI.op] at hp
        have := (enumL_mem (List.mem_filter.1 hp).1).2.1
        rw [htk] at this
        omega
      have hxn : (x.map (·.1)).Nodup := by
        rw [hI.op]
        exact (List.Sublist.map _ List.filter_sublist).nodup (enumL_keys _ _)
      have hnext : WI h.Operations (k + 1) ((x.filter fun p => opn h.Operations[k].Call p.2) ++ [((k : Int), h.Operations[k])]) (maxI m (((x.filter fun p => opn h.Operations[k].Call p.2) ++ [((k : Int), h.Operations[k])]).length : Int)) (maxI lat h.Operations[k].Return) (en || h.Operations[k].Return == 0) := by
        refine ⟨hx'.symm, hmo, fun o ho => ?_, fun hen o ho => ?_⟩
        · rw [take_snoc hk] at ho
          rcases List.mem_append.1 ho with ho | ho
          · have := hI.la o ho
            unfold maxI; split <;> omega
          · simp at ho; subst ho
            unfold maxI; split <;> omega
        · rw [Bool.or_eq_false_iff] at hen
          rw [take_snoc hk] at ho
          rcases List.mem_append.1 ho with ho | ho
          · exact hI.en hen.1 o ho
          · simp at ho; subst ho
            simpa using hen.2
      unfold history_Width.l2
      simp only [lt_of_len hk, if_true, idx_nat hk, Option.bind_some]
      have hgo : history_Width.j5 m lat en k h.Operations[k] x = some (.inl ((x.filter fun p => opn h.Operations[k].Call p.2) ++ [((k : Int), h.Operations[k])], maxI m (((x.filter fun p => opn h.Operations[k].Call p.2) ++ [((k : Int), h.Operations[k])]).length : Int), maxI lat h.Operations[k].Return, en || h.Operations[k].Return == 0, ((k + 1 : Nat) : Int))) := j5_eq hxn hxm (by omega)
      cases en with
      | true =>
        rw [if_neg (by simp)]
        unfold history_Width.j6
        rw [if_neg (by simp)]
        exact ⟨_, hgo, rfl, hnext⟩
      | false =>
        rw [if_pos (by simp)]
        unfold history_Width.j6
        by_cases hcl : lat < h.Operations[k].Call
        · rw [if_pos (by simpa using hcl)]
          have hx0 : (x.filter fun p => opn h.Operations[k].Call p.2) = [] := by
            rw [List.filter_eq_nil_iff]
            intro p hp
            rw [hI.op] at hp
            have hp2 := (enumL_mem (List.mem_filter.1 hp).1).2.2
            have h2 := hI.la _ hp2
            have h3 := hI.en rfl _ hp2
            unfold opn
            rw [Bool.or_eq_true, beq_iff_eq, decide_eq_true_iff]
            omega
          rw [hx0] at hnext
          refine ⟨_, j5_eq (x := []) (by simp) (by simp) (by omega), rfl, hnext⟩
        · rw [if_neg (by simpa using hcl)]
          exact ⟨_, hgo, rfl, hnext⟩
    · obtain ⟨x, m, lat, en, i⟩ := s
      obtain ⟨h1, hI⟩ := hI
      have h1 : i = (h.Operations.length : Int) := h1
      subst h1
      unfold history_Width.l2
      dsimp only
      refine ⟨_, if_neg (by rw [not_lt_len]; simp), ?_⟩
      have := hI.mo
      rw [List.drop_length, wd] at this
      exact this.symm
  obtain ⟨b1, b2⟩ := b
  rw [hb, Option.bind_some]
  have hq : b2 = _ := hq
  rw [hq]; rfl
end Go.Proofs.Ytbbeobiampbddaa

set_option linter.unusedVariables false
namespace Go.Proofs.Ytbbeobiampbddaa
open Go Go.Proofs.YtbbeobiampbddaaL
theorem cErr_other {o : history_Operation} (hk : o.Kind ≠ 1) (he : o.Effects = []) (hr : o.Result = []) : cErr o = 0 := by
  have h1 := cErr_eq o
  unfold esref39_content at h1
  rw [he, hr, if_neg (by simpa using hk), if_neg (by simp)] at h1
  simp only [esref39_content.j2, List.length_nil] at h1
  have : some (0 : Int) = some (cErr o) := by
    rw [← h1]
    cases o.Return == 0 <;> rfl
  exact (Option.some.inj this).symm
theorem upd_one {e : api_Effect} (hv : esref14_ValidateEffect e = some 0) : esref14_ValidateUpdate ⟨101, 1, 0, [e]⟩ = some 0 := by
  have h2 : esref14_ValidateUpdate ⟨101, 1, 0, [e]⟩ = esref14_ValidateUpdate.j3 ⟨101, 1, 0, [e]⟩ false := by
    simp [esref14_ValidateUpdate, esref06_Client, esref06_Client.j1]
  rw [h2]
  unfold esref14_ValidateUpdate.j3
  have hl : loopO (esref14_ValidateUpdate.l1 ⟨101, 1, 0, [e]⟩) 0 = some (.inl ()) := by
    have := loopO_up (step := esref14_ValidateUpdate.l1 ⟨101, 1, 0, [e]⟩) (fun k => (k : Int)) 1 (b := .inl ()) (fun k hk => ?_) ?_
    · exact this
    · obtain rfl : k = 0 := by omega
      unfold esref14_ValidateUpdate.l1
      show (if decide ((0 : Int) < 1) = true then _ else _) = _
      rw [if_pos (by decide)]
      show (idx [e] 0).bind _ = _
      rw [idx_zero, Option.bind_some, hv, Option.bind_some, if_neg (by decide)]
      rfl
    · unfold esref14_ValidateUpdate.l1
      show (if decide ((1 : Int) < 1) = true then _ else _) = _
      rw [if_neg (by decide)]
  have hc := refCommutes_eq ⟨101, 1, 0, [e]⟩ (show [e].length ≤ 4 by simp)
  simp only [hl, Option.bind_some, esref14_ValidateUpdate.j2, hc, esref14_ValidateUpdate.j1]
  cases comm [e] <;> simp
theorem cErr_upd {o : history_Operation} {e : api_Effect} (hk : o.Kind = 1) (hr : o.Result = []) (he : o.Effects = [e]) (hv : esref14_ValidateEffect e = some 0) : cErr o = 0 := by
  have h1 := cErr_eq o
  unfold esref39_content at h1
  rw [hk, hr, he, if_pos (by decide), if_neg (by decide), upd_one hv] at h1
  exact (Option.some.inj h1).symm
theorem vErr_ok {o : history_Operation} (h1 : 101 ≤ o.Process) (h2 : o.Process < 107) (h3 : 1 ≤ o.Kind) (h4 : o.Kind ≤ 3) (h5 : 1 ≤ o.Call) (h6 : o.Return = 0 ∨ o.Call < o.Return) : vErr o = 0 := by
  have h := vErr_eq o
  unfold esref39_validOperation at h
  have hc : esref06_Client o.Process = some true := by
    unfold esref06_Client esref06_Client.j1
    rw [if_pos (by simpa using h1), decide_eq_true h2]
  rw [hc, Option.bind_some, if_neg (by simp), if_neg (by simp; omega)] at h
  unfold esref39_validOperation.j2 esref39_validOperation.j1 at h
  rw [if_neg (by simp; omega), if_neg (by simp; omega)] at h
  rcases h6 with h6 | h6
  · rw [h6, if_neg (by simp)] at h
    exact (Option.some.inj h).symm
  · have : (o.Return != 0) = true := by simp; omega
    rw [this, if_pos rfl, decide_eq_false (by omega)] at h
    exact (Option.some.inj h).symm
def befO (e : Int) (o : history_Operation) : history_Operation := ⟨o.Process, o.Kind, o.Effects, [], o.Call, if decide (e ≤ o.Return) then 0 else o.Return⟩
def befL (e : Int) (l : List history_Operation) : List history_Operation := (l.filter fun o => decide (o.Call < e)).map (befO e)
theorem befL_length (e : Int) (l : List history_Operation) : (befL e l).length ≤ l.length := by
  unfold befL
  rw [List.length_map]
  exact List.length_filter_le _ _
theorem befL_snoc (e : Int) (l : List history_Operation) (o : history_Operation) : befL e (l ++ [o]) = befL e l ++ if decide (e ≤ o.Call) then [] else [befO e o] := by
  unfold befL
  rw [List.filter_append, List.map_append, List.filter_cons, List.filter_nil]
  congr 1
  by_cases h : e ≤ o.Call
  · rw [decide_eq_true h, decide_eq_false (by omega), if_pos rfl, if_neg (by simp)]; rfl
  · rw [decide_eq_false h, decide_eq_true (by omega), if_pos rfl, if_neg (by simp)]; rfl
theorem cloneValues_nil : history_cloneValues [] = some [] := by
  unfold history_cloneValues
  rw [loopO_done (b := []) (by unfold history_cloneValues.l1; rfl)]
  rfl
theorem Before_eq {h : history_History} (e : Int) (hr : ∀ o ∈ h.Operations, o.Result = [] ∧ o.Effects.length ≤ 100) (hm : h.Operations.length ≤ 1000) : history_Before h e = some ⟨befL e h.Operations⟩ := by
  unfold history_Before
  obtain ⟨b, hb, hq⟩ : ∃ b, loopO (history_Before.l1 h e) (0, []) = some b ∧ b = befL e h.Operations := by
    refine loopO_inv (fun k s => s = ((k : Int), befL e (h.Operations.take k))) h.Operations.length rfl (fun k s hk hI => ?_) (fun s hI => ?_)
    · subst hI
      obtain ⟨hr1, hr2⟩ := hr _ (List.getElem_mem hk)
      have hl : (befL e (h.Operations.take k)).length ≤ k := Nat.le_trans (befL_length _ _) (by rw [List.length_take]; omega)
      have hcl : slices_Clone_Effect h.Operations[k].Effects = some h.Operations[k].Effects := by
        unfold slices_Clone_Effect
        rw [app_of (by simp; omega)]; rfl
      unfold history_Before.l1
      simp only [lt_of_len hk, if_true, idx_nat hk, Option.bind_some, hcl, history_Before.j4, history_Before.j3, history_Before.j2, letV_of, wcast hk (by omega), hr1, cloneValues_nil]
      refine ⟨_, ?_, rfl⟩
      rw [take_snoc hk, befL_snoc]
      cases decide (e ≤ h.Operations[k].Call) with
      | true => rw [if_pos rfl, if_pos rfl, List.append_nil]
      | false =>
        have ha : ∀ r, app 80 (befL e (h.Operations.take k)) [(⟨h.Operations[k].Process, h.Operations[k].Kind, h.Operations[k].Effects, [], h.Operations[k].Call, r⟩ : history_Operation)] = some (befL e (h.Operations.take k) ++ [⟨h.Operations[k].Process, h.Operations[k].Kind, h.Operations[k].Effects, [], h.Operations[k].Call, r⟩]) := fun r => app_of (by simp; omega)
        simp only [ha, Option.bind_some, ite_self, Bool.false_eq_true, if_false]
        unfold befO
        cases decide (e ≤ h.Operations[k].Return) <;> rfl
    · subst hI
      unfold history_Before.l1
      dsimp only
      exact ⟨_, if_neg (by rw [not_lt_len]; simp), by rw [List.take_length]⟩
  rw [hb, hq]; rfl
def wE : api_Effect := ⟨5, [97], [98], 0, []⟩
def wL : List history_Operation := [⟨101, 1, [wE], [], 1, 4⟩, ⟨102, 3, [], [], 3, 0⟩, ⟨101, 2, [], [], 5, 6⟩]
def wU : api_Update := ⟨101, 1, 0, [wE]⟩
def wO : List fold_Object := [⟨[97], [⟨[98], ⟨false, 0, 0, 0, 0, []⟩, false, 0, 0, [], true⟩]⟩]
theorem wE_ok : esref14_ValidateEffect wE = some 0 := by
  simp [esref14_ValidateEffect, esref14_ValidateEffect.j6, esref14_ValidateEffect.j5, esref14_ValidateEffect.j4, esref14_ValidateEffect.j3, esref14_ValidateEffect.j2, esref14_ValidateEffect.j1, wE]
theorem wL_good : Good wL := by
  refine ⟨fun o ho => ?_, fun o ho => ?_, by decide⟩
  · simp only [wL, List.mem_cons, List.not_mem_nil, or_false] at ho
    rcases ho with rfl | rfl | rfl <;> exact vErr_ok (by decide) (by decide) (by decide) (by decide) (by decide) (by decide)
  · simp only [wL, List.mem_cons, List.not_mem_nil, or_false] at ho
    rcases ho with rfl | rfl | rfl
    · exact cErr_upd rfl rfl rfl wE_ok
    · exact cErr_other (by decide) rfl rfl
    · exact cErr_other (by decide) rfl rfl
theorem awake_true : eslaw38_awake = some true := by
  unfold eslaw38_awake
  have hA := Apply_eq (n := 0) (t := ⟨[]⟩) (u := wU) (GD_nil 0) (by intro e he; simp [wU] at he; subst he; exact ⟨by decide, by decide, by decide⟩) (by decide)
  obtain ⟨e1, g1⟩ := hA
  have ew : appT wU [] = wO := by decide
  rw [ew] at e1 g1
  have e2 := Visible_eq (t := ⟨wO⟩) g1 (by decide)
  have e3 := Validate_eq ⟨wL⟩ (by decide)
  have e3' : valL [] wL = 0 := wL_good.val
  have e4 := Width_eq (h := ⟨wL⟩) (by decide) (by decide) (by decide)
  have e5 := Of_eq ⟨wL⟩ 101 (by decide)
  have e6 := Before_eq (h := ⟨wL⟩) 4 (by decide) (by decide)
  show ((idx wL 0).bind fun x7 => (fold_Apply (⟨[]⟩ : fold_Store) (⟨101, 1, 0, x7.Effects⟩ : api_Update)).bind fun x13 => (history_Visible x13).bind fun x16 => (history_Validate ⟨wL⟩).bind fun x24 =>
    if (x24 == 0) = true then (history_Precedes ⟨wL⟩ 0 2).bind fun x26 => if x26 = true then (history_Precedes ⟨wL⟩ 0 1).bind fun x28 => if (!x28) = true then (history_Concurrent ⟨wL⟩ 1 2).bind fun x30 => if x30 = true then (history_Concurrent ⟨wL⟩ 0 2).bind fun x32 => if (!x32) = true then (history_Width ⟨wL⟩).bind fun x34 => if (x34 == 2) = true then if ((x16.length : Int) == 1) = true then (idx x16 0).bind fun x37 => if x37.Flag = true then (history_Of ⟨wL⟩ 101).bind fun x42 => if ((x42.length : Int) == 2) = true then (history_Before ⟨wL⟩ 4).bind fun x47 => if (((⟨x47.Operations⟩ : history_History).Operations.length : Int) == 2) = true then (history_Before ⟨wL⟩ 4).bind fun x55 => (idx (⟨x55.Operations⟩ : history_History).Operations 0).bind fun x62 => eslaw38_awake.j1 (x62.Return == 0)
      else eslaw38_awake.j1 false else eslaw38_awake.j1 false else eslaw38_awake.j1 false else eslaw38_awake.j1 false else eslaw38_awake.j1 false else eslaw38_awake.j1 false else eslaw38_awake.j1 false else eslaw38_awake.j1 false else eslaw38_awake.j1 false else eslaw38_awake.j1 false) = some true
  rw [show idx wL 0 = some ⟨101, 1, [wE], [], 1, 4⟩ from rfl, Option.bind_some]
  have e1 : fold_Apply (⟨[]⟩ : fold_Store) (⟨101, 1, 0, [wE]⟩ : api_Update) = some ⟨wO⟩ := e1
  have e7 : wd [] wL 0 = 2 := by decide
  have e8 : ofL 101 0 wL = [0, 2] := by decide
  have e9 : befL 4 wL = [⟨101, 1, [wE], [], 1, 0⟩, ⟨102, 3, [], [], 3, 0⟩] := by decide
  have e10 : visL wO = [⟨[97], [98], false, 0, [], false, 0, 0, [], true⟩] := by decide
  have p1 : prB wL 0 2 = true := by decide
  have p2 : prB wL 0 1 = false := by decide
  have p3 : coB wL 1 2 = true := by decide
  have p4 : coB wL 0 2 = false := by decide
  simp only [e1, e2, e3, e3', e4, e5, e6, e7, e8, e9, e10, Precedes_eq, Concurrent_eq, p1, p2, p3, p4, Option.bind_some]
  rfl
end Go.Proofs.Ytbbeobiampbddaa
set_option linter.unusedVariables false
set_option linter.unusedSimpArgs false
namespace Go.Proofs.Ytbbeobiampbddaa
open Go Go.Proofs.YtbbeobiampbddaaL
theorem Index_ex (n k : Int) (h1 : 1 ≤ k) (h2 : k ≤ 4611686018427387904) : ∃ d, eslaw00_Index n k = some d ∧ 0 ≤ d ∧ d < k := by
  unfold eslaw00_Index
  rw [if_neg (by simp; omega), if_pos (by omega)]
  have e1 : Int.tmod n k < k := Int.tmod_lt_of_pos _ (by omega)
  have e2 : -k < Int.tmod n k := by
    have : Int.tmod (-n) k < k := Int.tmod_lt_of_pos _ (by omega)
    rw [Int.neg_tmod] at this
    omega
  simp only [letV_of]
  rw [w64 (by omega) (by omega), if_pos (by omega)]
  exact ⟨_, rfl, Int.tmod_nonneg _ (by omega), Int.tmod_lt_of_pos _ (by omega)⟩
theorem Digit_ex (n b : Int) (i : Nat) (h1 : 2 ≤ b) (h2 : b ≤ 16) (hi : i ≤ 100000) : ∃ d, eslaw00_Digit n b (i : Int) = some d ∧ 0 ≤ d ∧ d < b := by
  obtain ⟨x, hx, hx0, hx1⟩ := Index_ex n 1099511627776 (by decide) (by decide)
  unfold eslaw00_Digit
  rw [hx]
  simp only [Option.bind_some]
  have key : ∃ r, loopO (eslaw00_Digit.l1 b (i : Int)) (x, 0) = some r ∧ 0 ≤ r := by
    refine loopO_inv (fun k s => ∃ y : Int, s = (y, (k : Int)) ∧ 0 ≤ y ∧ y < 1099511627776) i ⟨x, rfl, hx0, hx1⟩ (fun k s hk hI => ?_) (fun s hI => ?_)
    · obtain ⟨y, rfl, h3, h4⟩ := hI
      simp only [eslaw00_Digit.l1]
      rw [if_pos (by simpa using hk), if_pos (by omega)]
      have h5 : 0 ≤ Int.tdiv y b := Int.tdiv_nonneg h3 (by omega)
      have h6 : Int.tdiv y b ≤ y := by
        rw [Int.tdiv_eq_ediv_of_nonneg h3]
        exact Int.ediv_le_self _ h3
      simp only [letV_of]
      rw [w64 (x := Int.tdiv y b) (by omega) (by omega), wcast hk (by omega)]
      exact ⟨_, rfl, _, rfl, h5, by omega⟩
    · obtain ⟨y, rfl, h3, h4⟩ := hI
      simp only [eslaw00_Digit.l1]
      rw [if_neg (by simp)]
      exact ⟨_, rfl, h3⟩
  obtain ⟨r, hr, hr0⟩ := key
  rw [hr]
  simp only [Option.bind_some, eslaw00_Digit.j1]
  rw [if_pos (by omega)]
  exact ⟨_, rfl, Int.tmod_nonneg _ hr0, Int.tmod_lt_of_pos _ (by omega)⟩
theorem name_ex (d : Int) : ∃ s, eslaw00_name d = some s ∧ s.length ≤ 2 ∧ s ≠ [] := by
  unfold eslaw00_name
  obtain ⟨x, hx, h0, h1⟩ := Index_ex d 4 (by decide) (by decide)
  rw [hx, Option.bind_some]
  have : x = 0 ∨ x = 1 ∨ x = 2 ∨ x = 3 := by omega
  rcases this with rfl | rfl | rfl | rfl
  · exact ⟨[97], rfl, by decide, by decide⟩
  · exact ⟨[98], rfl, by decide, by decide⟩
  · exact ⟨[99], rfl, by decide, by decide⟩
  · exact ⟨[120, 49], rfl, by decide, by decide⟩
end Go.Proofs.Ytbbeobiampbddaa

set_option linter.unusedVariables false
namespace Go.Proofs.Ytbbeobiampbddaa
open Go Go.Proofs.YtbbeobiampbddaaL
structure MH (n : Int) (l : List history_Operation) : Prop where
  good : Good l
  res : ∀ o ∈ l, o.Result = [] ∧ o.Effects.length ≤ 100
  ev : ∀ o ∈ l, o.Call ≤ n ∧ o.Return ≤ n
theorem MH.nil : MH 0 [] := ⟨⟨by simp, by simp, List.Pairwise.nil⟩, by simp, by simp⟩
end Go.Proofs.Ytbbeobiampbddaa

set_option linter.unusedVariables false
namespace Go.Proofs.Ytbbeobiampbddaa
open Go Go.Proofs.YtbbeobiampbddaaL
end Go.Proofs.Ytbbeobiampbddaa
set_option linter.unusedVariables false
set_option linter.unusedSimpArgs false
namespace Go.Proofs.Ytbbeobiampbddaa
open Go Go.Proofs.YtbbeobiampbddaaL
def effN (s : List api_Update) : Nat := (s.map fun u => u.Effects.length).sum
theorem Fold_eq {s : List api_Update} (he : ∀ u ∈ s, ∀ e ∈ u.Effects, EF e) (hn : effN s ≤ 1000000) (hl : s.length ≤ 1000000) :
    fold_Fold s = some ⟨foldT s []⟩ ∧ GD (effN s) (foldT s []) := by
  unfold fold_Fold
  have key : ∃ b, loopO (fold_Fold.l1 s) (0, []) = some b ∧ BI (effN s) b ∧ canonB b = foldT s [] := by
    have hsum : ∀ k, k ≤ s.length → effN (s.take k) ≤ effN s := by
      intro k hk
      unfold effN
      have : s.map (fun u => u.Effects.length) = (s.take k).map (fun u => u.Effects.length) ++ (s.drop k).map (fun u => u.Effects.length) := by rw [← List.map_append, List.take_append_drop]
      rw [this, List.sum_append]
      omega
    refine loopO_inv (I := fun k s' => s'.1 = (k : Int) ∧ BI (effN (s.take k)) s'.2 ∧ canonB s'.2 = foldT (s.take k) []) s.length ⟨rfl, ?_, ?_⟩ ?_ ?_
    · exact ⟨List.nodup_nil, Nat.zero_le _, by simp, by simp, by simp, by simp, by simp⟩
    · simp [canonB, srtN, foldT]
    · rintro k ⟨i, y⟩ hk ⟨hi, h1, h2⟩
      simp only at hi h1 h2
      subst hi
      have hs := hsum (k + 1) hk
      have es : effN (s.take (k + 1)) = effN (s.take k) + s[k].Effects.length := by
        unfold effN
        rw [take_snoc hk, List.map_append, List.sum_append]
        simp
      obtain ⟨x', e1, e2, e3⟩ := apply_ex (u := s[k]) h1 (he _ (List.getElem_mem hk)) (by omega)
      refine ⟨(((k + 1 : Nat) : Int), x'), ?_, rfl, by rw [es]; exact e2, ?_⟩
      · unfold fold_Fold.l1
        simp only [lt_of_len hk, if_true, idx_nat hk, Option.bind_some, e1, letV, wcast hk (by omega)]
      · show canonB x' = _
        rw [e3, h2, take_snoc hk]
        unfold foldT
        rw [List.foldl_append]
        rfl
    · rintro ⟨i, y⟩ ⟨hi, h1, h2⟩
      simp only at hi h1 h2
      subst hi
      rw [List.take_length] at h1 h2
      refine ⟨y, ?_, h1, h2⟩
      unfold fold_Fold.l1
      simp only [not_lt_len, Bool.false_eq_true, if_false]
  obtain ⟨b, e1, e2, e3⟩ := key
  rw [e1, Option.bind_some, fold_store_eq e2 hn, e3]
  exact ⟨rfl, e3 ▸ GD_canon e2⟩
end Go.Proofs.Ytbbeobiampbddaa

set_option linter.unusedVariables false
set_option linter.unusedSimpArgs false
namespace Go.Proofs.Ytbbeobiampbddaa
open Go Go.Proofs.YtbbeobiampbddaaL
theorem Effect_ex (n : Int) (b : Bool) : ∃ e, eslaw00_Effect n b = some e ∧ EF e ∧ (b = false → e.Kind ≠ 1) := by
  unfold eslaw00_Effect
  obtain ⟨d1, e1, _⟩ := Digit_ex n 4 1 (by decide) (by decide) (by decide)
  obtain ⟨s1, f1, l1, _⟩ := name_ex d1
  obtain ⟨d2, e2, _⟩ := Digit_ex n 4 2 (by decide) (by decide) (by decide)
  obtain ⟨s2, f2, l2, _⟩ := name_ex d2
  obtain ⟨d3, e3, _⟩ := Digit_ex n 16 3 (by decide) (by decide) (by decide)
  obtain ⟨d5, e5, _⟩ := Digit_ex n 4 5 (by decide) (by decide) (by decide)
  obtain ⟨s5, f5, l5, _⟩ := name_ex d5
  obtain ⟨d0, e0, _⟩ := Digit_ex n 4 0 (by decide) (by decide) (by decide)
  have e1 : eslaw00_Digit n 4 1 = some d1 := e1
  have e2 : eslaw00_Digit n 4 2 = some d2 := e2
  have e3 : eslaw00_Digit n 16 3 = some d3 := e3
  have e5 : eslaw00_Digit n 4 5 = some d5 := e5
  have e0 : eslaw00_Digit n 4 0 = some d0 := e0
  simp only [e1, f1, e2, f2, e3, e5, f5, e0, Option.bind_some, letV_of, eslaw00_Effect.j1]
  have m1 : s1.length ≤ 1000 := by omega
  have m2 : s2.length ≤ 1000 := by omega
  have m5 : s5.length ≤ 1000 := by omega
  cases b with
  | true => exact ⟨_, rfl, ⟨m1, m2, m5⟩, by simp⟩
  | false =>
    simp only [Bool.false_eq_true, if_false]
    split
    · exact ⟨_, rfl, ⟨m1, m2, by simp⟩, by simp⟩
    · split
      · exact ⟨_, rfl, ⟨m1, m2, by simp⟩, by simp⟩
      · split
        · exact ⟨_, rfl, ⟨m1, m2, m5⟩, by simp⟩
        · exact ⟨_, rfl, ⟨m1, m2, by simp⟩, by simp⟩
structure UOK (u : api_Update) : Prop where
  len : u.Effects.length ≤ 4
  ef : ∀ e ∈ u.Effects, EF e
  one : u.Effects.length ≤ 1 ∨ ∀ e ∈ u.Effects, e.Kind ≠ 1
theorem Update_ex (c s n : Int) : ∃ u, eslaw00_Update c s n = some u ∧ u.Client = c ∧ u.Seq = s ∧ UOK u := by
  unfold eslaw00_Update
  obtain ⟨d8, e8, _⟩ := Digit_ex n 3 8 (by decide) (by decide) (by decide)
  obtain ⟨d4, e4, _⟩ := Digit_ex n 16 4 (by decide) (by decide) (by decide)
  obtain ⟨ef, hef, hE, _⟩ := Effect_ex n true
  have e8 : eslaw00_Digit n 3 8 = some d8 := e8
  have e4 : eslaw00_Digit n 16 4 = some d4 := e4
  simp only [e8, Option.bind_some]
  split
  · simp only [e4, hef, Option.bind_some]
    refine ⟨_, rfl, rfl, rfl, ⟨by simp, fun e he => ?_, .inl (by simp)⟩⟩
    simp at he
    subst he
    exact hE
  · obtain ⟨d9, e9, h90, h91⟩ := Digit_ex n 3 9 (by decide) (by decide) (by decide)
    have e9 : eslaw00_Digit n 3 9 = some d9 := e9
    have key : ∃ l, loopO (eslaw00_Update.l1 n) (0, []) = some l ∧ (l.length ≤ 4 ∧ ∀ e ∈ l, EF e ∧ e.Kind ≠ 1) := by
      refine loopO_mu (fun s : Int × List api_Effect => 0 ≤ s.1 ∧ s.1 ≤ 3 ∧ s.2.length ≤ s.1.toNat ∧ ∀ e ∈ s.2, EF e ∧ e.Kind ≠ 1) (fun s => (4 - s.1).toNat) ⟨by decide, by decide, by simp, by simp⟩ ?_
      rintro ⟨i, l⟩ ⟨h0, h1, h2, h3⟩
      simp only at h0 h1 h2 h3
      unfold eslaw00_Update.l1
      simp only [e9, Option.bind_some]
      by_cases hc : i ≤ d9
      · rw [if_pos (by simpa using hc)]
        obtain ⟨x, hx, hx0, hx1⟩ := Index_ex n 1099511627776 (by decide) (by decide)
        simp only [hx, Option.bind_some, letV_of]
        rw [w64 (x := i + 1) (by omega) (by omega), if_pos (by omega)]
        obtain ⟨e, he, hE, hk⟩ := Effect_ex (IntKind.i64.wrap (Int.tdiv x (i + 1))) false
        rw [he, Option.bind_some, app_of (by simp only [List.length_singleton]; omega), Option.bind_some]
        refine .inl ⟨_, rfl, ⟨by omega, by omega, ?_, fun q hq => ?_⟩, by simp only; omega⟩
        · simp only [List.length_append, List.length_singleton]; omega
        · rcases List.mem_append.1 hq with hq | hq
          · exact h3 q hq
          · simp at hq; subst hq; exact ⟨hE, hk rfl⟩
      · rw [if_neg (by simpa using hc)]
        exact .inr ⟨l, rfl, by omega, h3⟩
    obtain ⟨l, hl, h1, h2⟩ := key
    rw [hl, Option.bind_some]
    exact ⟨_, rfl, rfl, rfl, ⟨h1, fun e he => (h2 e he).1, .inr fun e he => (h2 e he).2⟩⟩
def ult (a b : api_Update) : Prop := a.Client < b.Client ∨ a.Client = b.Client ∧ a.Seq < b.Seq
structure US (c q : Int) (s : List api_Update) : Prop where
  ok : ∀ u ∈ s, UOK u
  cl : ∀ u ∈ s, 101 ≤ u.Client ∧ (u.Client < 101 + c ∨ u.Client = 101 + c ∧ u.Seq ≤ q)
  sq : ∀ u ∈ s, 1 ≤ u.Seq ∧ u.Seq ≤ 8
  asc : s.Pairwise ult
  len : (s.length : Int) ≤ 8 * c + q
theorem Updates_ex (l : List Int) : ∃ s, eslaw00_Updates l = some s ∧ US 3 0 s := by
  unfold eslaw00_Updates
  have key : ∃ s, loopO (eslaw00_Updates.l2 l) ([], 0) = some s ∧ US 3 0 s := by
    refine loopO_inv (I := fun k s => s.2 = (k : Int) ∧ US (k : Int) 0 s.1) 3 ⟨rfl, ⟨by simp, by simp, by simp, List.Pairwise.nil, by simp⟩⟩ ?_ ?_
    · rintro k ⟨s, c⟩ hk ⟨hc, hU⟩
      simp only at hc hU
      subst hc
      unfold eslaw00_Updates.l2
      simp only
      rw [if_pos (by rw [decide_eq_true_eq]; omega)]
      have inner : ∃ s', loopO (eslaw00_Updates.l1 l (k : Int)) (s, 0, 0) = some s' ∧ US ((k : Int) + 1) 0 s' := by
        refine loopO_mu (fun t : List api_Update × Int × Int => 0 ≤ t.2.2 ∧ t.2.2 ≤ 24 ∧ 0 ≤ t.2.1 ∧ t.2.1 ≤ 8 ∧ US (k : Int) t.2.1 t.1) (fun t => (25 - t.2.2).toNat) ⟨Int.le_refl 0, (by decide : (0 : Int) ≤ 24), Int.le_refl 0, (by decide : (0 : Int) ≤ 8), hU⟩ ?_
        rintro ⟨s, q, i⟩ ⟨h0, h1, h2, h3, hU⟩
        simp only at h0 h1 h2 h3 hU
        have stop : US ((k : Int) + 1) 0 s := ⟨hU.ok, fun u hu => ⟨(hU.cl u hu).1, .inl (by rcases (hU.cl u hu).2 with h | h <;> omega)⟩, hU.sq, hU.asc, by have := hU.len; omega⟩
        unfold eslaw00_Updates.l1
        simp only
        have next : ∀ (s' : List api_Update) (q' : Int), 0 ≤ q' → q' ≤ 8 → US (k : Int) q' s' → i < 24 → (∃ t, eslaw00_Updates.j3 i s' q' = some (.inl t) ∧ (0 ≤ t.2.2 ∧ t.2.2 ≤ 24 ∧ 0 ≤ t.2.1 ∧ t.2.1 ≤ 8 ∧ US (k : Int) t.2.1 t.1) ∧ (25 - t.2.2).toNat < (25 - i).toNat) := by
          intro s' q' hq0 hq1 hU' hi
          unfold eslaw00_Updates.j3
          rw [letV_of, w64 (x := i + 1) (by omega) (by omega)]
          exact ⟨_, rfl, ⟨by simp only; omega, by simp only; omega, hq0, hq1, hU'⟩, by simp only; omega⟩
        by_cases hi1 : i < (l.length : Int)
        · rw [if_pos (by simpa using hi1)]
          by_cases hi2 : i < 24
          · rw [show decide (i < 24) = true by simpa using hi2]
            unfold eslaw00_Updates.j5
            rw [if_pos rfl]
            obtain ⟨j, rfl⟩ : ∃ j : Nat, i = j := ⟨i.toNat, by omega⟩
            have hj : j < l.length := by omega
            rw [idx_nat hj, Option.bind_some]
            obtain ⟨d, hd, hd0, hd1⟩ := Digit_ex l[j] 3 0 (by decide) (by decide) (by decide)
            have hd : eslaw00_Digit l[j] 3 0 = some d := hd
            rw [hd, Option.bind_some]
            have skip := next s q h2 h3 hU hi2
            have j4f : eslaw00_Updates.j4 l (k : Int) s q (j : Int) false = eslaw00_Updates.j3 (j : Int) s q := by
              unfold eslaw00_Updates.j4
              rw [if_neg (by simp)]
            split
            · by_cases hq : q < 8
              · rw [show decide (q < 8) = true by simpa using hq]
                unfold eslaw00_Updates.j4
                rw [if_pos rfl, letV_of, letV_of, idx_nat hj, Option.bind_some]
                obtain ⟨x, hx, hx0, hx1⟩ := Index_ex l[j] 1099511627776 (by decide) (by decide)
                rw [hx, Option.bind_some, letV_of]
                rw [w64 (x := 101 + (k : Int)) (by omega) (by omega), w64 (x := q + 1) (by omega) (by omega)]
                obtain ⟨u, hu, huc, hus, hok⟩ := Update_ex (101 + (k : Int)) (q + 1) (IntKind.i64.wrap (Int.tdiv x 3))
                have hlen := hU.len
                rw [hu, Option.bind_some, app_of (by simp only [List.length_singleton]; omega), Option.bind_some]
                refine .inl (next _ (q + 1) (by omega) (by omega) ?_ hi2)
                have eu : (⟨u.Client, u.Seq, u.Tag, u.Effects⟩ : api_Update) = u := rfl
                rw [eu]
                refine ⟨fun v hv => ?_, fun v hv => ?_, fun v hv => ?_, ?_, by simp only [List.length_append, List.length_singleton]; omega⟩
                · rcases List.mem_append.1 hv with hv | hv
                  · exact hU.ok v hv
                  · simp at hv; subst hv; exact hok
                · rcases List.mem_append.1 hv with hv | hv
                  · obtain ⟨a, b⟩ := hU.cl v hv
                    exact ⟨a, by rcases b with b | b <;> omega⟩
                  · simp at hv; subst hv; rw [huc, hus]; omega
                · rcases List.mem_append.1 hv with hv | hv
                  · exact hU.sq v hv
                  · simp at hv; subst hv; rw [hus]; omega
                · rw [List.pairwise_append]
                  refine ⟨hU.asc, List.pairwise_singleton _ _, fun a ha b hb => ?_⟩
                  simp at hb; subst hb
                  unfold ult
                  rw [huc, hus]
                  rcases (hU.cl a ha).2 with h | h <;> omega
              · rw [show decide (q < 8) = false by simpa using hq, j4f]
                exact .inl skip
            · rw [j4f]
              exact .inl skip
          · rw [show decide (i < 24) = false by simpa using hi2]
            exact .inr ⟨s, rfl, stop⟩
        · rw [if_neg (by simpa using hi1)]
          exact .inr ⟨s, rfl, stop⟩
      obtain ⟨s', e1, e2⟩ := inner
      rw [e1, Option.bind_some]
      unfold eslaw00_Updates.j2
      rw [letV_of, w64n (by omega)]
      refine ⟨_, rfl, rfl, ?_⟩
      have : ((k + 1 : Nat) : Int) = (k : Int) + 1 := by omega
      rw [this]
      exact e2
    · rintro ⟨s, c⟩ ⟨hc, hU⟩
      simp only at hc hU
      subst hc
      exact ⟨s, rfl, hU⟩
  obtain ⟨s, e1, e2⟩ := key
  rw [e1]
  exact ⟨s, rfl, e2⟩
theorem US_effN {c q : Int} {s : List api_Update} (h : US c q s) : effN s ≤ 4 * s.length := by
  have : ∀ l : List api_Update, (∀ u ∈ l, UOK u) → effN l ≤ 4 * l.length := by
    intro l
    induction l with
    | nil => intro _; exact Nat.zero_le _
    | cons u l ih =>
      intro h
      have h1 := (h u (by simp)).len
      have h2 := ih fun v hv => h v (by simp [hv])
      unfold effN at h2 ⊢
      rw [List.map_cons, List.sum_cons, List.length_cons]
      omega
  exact this s h.ok
theorem US_sub {c q : Int} {s t : List api_Update} (h : US c q s) (ht : t.Sublist s) : US c q t :=
  ⟨fun u hu => h.ok u (ht.subset hu), fun u hu => h.cl u (ht.subset hu), fun u hu => h.sq u (ht.subset hu), h.asc.sublist ht, by have := h.len; have := ht.length_le; omega⟩
theorem Some_ex {s : List api_Update} (h : US 3 0 s) (n : Int) : ∃ p : api_Update → Bool, eslaw00_Some s n = some (s.filter p) := by
  refine ⟨fun u => decide (u.Seq ≤ (eslaw00_Digit n 9 (u.Client - 101)).getD 0), ?_⟩
  obtain ⟨p, hp⟩ : ∃ p : api_Update → Bool, p = fun u => decide (u.Seq ≤ (eslaw00_Digit n 9 (u.Client - 101)).getD 0) := ⟨_, rfl⟩
  rw [← hp]
  unfold eslaw00_Some
  have hlen := h.len
  have := loopO_up (step := eslaw00_Some.l1 s n) (fun k => ((s.take k).filter p, (k : Int))) s.length (b := s.filter p) (fun k hk => ?_) ?_
  · have this : loopO (eslaw00_Some.l1 s n) ([], 0) = some (s.filter p) := this
    rw [this]
    rfl
  · have hm := List.getElem_mem hk
    have hc := h.cl _ hm
    unfold eslaw00_Some.l1
    simp only [lt_of_len hk, if_true, idx_nat hk, Option.bind_some, letV_of]
    rw [w64 (x := s[k].Client - 101) (by omega) (by omega)]
    obtain ⟨d, hd, _⟩ := Digit_ex n 9 (s[k].Client - 101).toNat (by decide) (by decide) (by omega)
    rw [show (((s[k].Client - 101).toNat : Nat) : Int) = s[k].Client - 101 by omega] at hd
    rw [hd, Option.bind_some, take_snoc hk, List.filter_append]
    have ep : p s[k] = decide (s[k].Seq ≤ d) := by rw [hp]; simp only [hd, Option.getD_some]
    have hle : ((s.take k).filter p).length ≤ s.length := Nat.le_trans (List.length_filter_le _ _) (by rw [List.length_take]; omega)
    unfold eslaw00_Some.j2
    by_cases hs : s[k].Seq ≤ d
    · rw [if_pos (by simpa using hs), app_of (by simp only [List.length_singleton]; omega), Option.bind_some, letV_of, wcast hk (by omega)]
      have : [s[k]].filter p = [s[k]] := by rw [List.filter_cons, ep, if_pos (by simpa using hs)]; rfl
      rw [this]
    · rw [if_neg (by simpa using hs), letV_of, wcast hk (by omega)]
      have : [s[k]].filter p = [] := by rw [List.filter_cons, ep, if_neg (by simpa using hs)]; rfl
      rw [this, List.append_nil]
  · unfold eslaw00_Some.l1
    simp only [not_lt_len, Bool.false_eq_true, if_false, List.take_length]
end Go.Proofs.Ytbbeobiampbddaa

set_option linter.unusedVariables false
namespace Go.Proofs.Ytbbeobiampbddaa
open Go Go.Proofs.YtbbeobiampbddaaL
theorem made_fold {s : List api_Update} (h : US 3 0 s) : fold_Fold s = some ⟨foldT s []⟩ ∧ GD 100 (foldT s []) := by
  have h1 := h.len
  have h2 := US_effN h
  obtain ⟨a, b⟩ := Fold_eq (s := s) (fun u hu => (h.ok u hu).ef) (by omega) (by omega)
  exact ⟨a, b.mono (by omega)⟩
end Go.Proofs.Ytbbeobiampbddaa

set_option linter.unusedVariables false
set_option linter.unusedSimpArgs false
namespace Go.Proofs.Ytbbeobiampbddaa
open Go Go.Proofs.YtbbeobiampbddaaL
theorem rFind_eq {n : Nat} {t : fold_Store} (h : GD n t.Objects) (hn : n ≤ 1000000) (k : List UInt8) : esref32_Find t k = some ((get ON_ t.Objects k).getD ⟨k, []⟩) := by
  unfold esref32_Find
  have hlen := h.len
  have key : loopO (esref32_Find.l1 t k) (0, [], []) = some (match get ON_ t.Objects k with | some o => .inr o | none => .inl ([], [])) := by
    have h1 := loopO_runL (step := esref32_Find.l1 t k) (fun i (_ : Unit) => ((i : Int), ([] : List UInt8), ([] : List fold_Field))) (fun _ o (_ : Unit) => if o.Name = k then some (.inr (.inr o)) else some (.inl ())) (fun _ => some (.inl ([], []))) t.Objects (fun i hi _ => ?_) (fun _ => ?_) ()
    · have h2 : ∀ (l : List fold_Object) (i : Nat), runL (fun _ (o : fold_Object) (_ : Unit) => if o.Name = k then some (.inr (.inr o : (List UInt8 × List fold_Field) ⊕ fold_Object)) else some (.inl ())) (fun _ => some (.inl ([], []))) i l () = some (match get ON_ l k with | some o => .inr o | none => .inl ([], [])) := by
        intro l
        induction l with
        | nil => intro i; rfl
        | cons o l ih =>
          intro i
          rw [runL, get_cons]
          by_cases he : o.Name = k
          · rw [if_pos he, if_pos he]
          · rw [if_neg he, if_neg he]
            exact ih _
      rw [← h2 t.Objects 0]
      exact h1
    · unfold esref32_Find.l1
      simp only [lt_of_len hi, if_true, idx_nat hi, Option.bind_some]
      by_cases he : t.Objects[i].Name = k
      · rw [if_pos (by simp [he]), if_pos he]
      · rw [if_neg (by simpa using he), if_neg he, letV, wcast hi (by omega)]
    · unfold esref32_Find.l1
      simp only [not_lt_len, Bool.false_eq_true, if_false]
      rfl
  rw [key, Option.bind_some]
  cases get ON_ t.Objects k with
  | none => rfl
  | some o => rfl
theorem rFieldOf_eq {o : fold_Object} (h1 : o.Fields.length ≤ 1000000) (k : List UInt8) : esref32_FieldOf o k = some ((get FN_ o.Fields k).getD { fold_zero with Name := k }) := by
  unfold esref32_FieldOf
  have key : loopO (esref32_FieldOf.l1 o k) (0, (⟨[], (⟨false, 0, 0, 0, 0, []⟩ : fold_Register), false, 0, 0, [], false⟩ : fold_Field)) = some (match get FN_ o.Fields k with | some y => .inr y | none => .inl ⟨[], ⟨false, 0, 0, 0, 0, []⟩, false, 0, 0, [], false⟩) := by
    have h1 := loopO_runL (step := esref32_FieldOf.l1 o k) (fun i (z : fold_Field) => ((i : Int), z)) (fun _ y (z : fold_Field) => if y.Name = k then some (.inr (.inr y)) else some (.inl z)) (fun z => some (.inl z)) o.Fields (fun i hi z => ?_) (fun z => ?_) ⟨[], ⟨false, 0, 0, 0, 0, []⟩, false, 0, 0, [], false⟩
    · have h2 : ∀ (l : List fold_Field) (i : Nat) (z : fold_Field), runL (fun _ (y : fold_Field) (z : fold_Field) => if y.Name = k then some (.inr (.inr y : fold_Field ⊕ fold_Field)) else some (.inl z)) (fun z => some (.inl z)) i l z = some (match get FN_ l k with | some y => .inr y | none => .inl z) := by
        intro l
        induction l with
        | nil => intro i z; rfl
        | cons o l ih =>
          intro i z
          rw [runL, get_cons]
          by_cases he : o.Name = k
          · rw [if_pos he, if_pos he]
          · rw [if_neg he, if_neg he]
            exact ih _ z
      rw [← h2 o.Fields 0]
      exact h1
    · unfold esref32_FieldOf.l1
      simp only [lt_of_len hi, if_true, idx_nat hi, Option.bind_some]
      by_cases he : o.Fields[i].Name = k
      · rw [if_pos (by simp [he]), if_pos he]
      · rw [if_neg (by simpa using he), if_neg he, letV, wcast hi (by omega)]
    · unfold esref32_FieldOf.l1
      simp only [not_lt_len, Bool.false_eq_true, if_false]
      rfl
  rw [key, Option.bind_some]
  cases get FN_ o.Fields k with
  | none => rfl
  | some o => rfl
end Go.Proofs.Ytbbeobiampbddaa

set_option linter.unusedVariables false
namespace Go.Proofs.Ytbbeobiampbddaa
open Go Go.Proofs.YtbbeobiampbddaaL
abbrev big : Nat := 9223372036854775807
theorem eq_loop {α : Type} [DecidableEq α] {step : Int → Option (Int ⊕ (Unit ⊕ Bool))} {xs ys : List α} (hl : xs.length = ys.length) (hm : xs.length ≤ big)
    (hs : ∀ k, (hk : k < xs.length) → step (k : Int) = if xs[k] = ys[k]'(hl ▸ hk) then some (.inl (IntKind.i64.wrap ((k : Int) + 1))) else some (.inr (.inr false))) (he : step (xs.length : Int) = some (.inr (.inl ()))) :
    loopO step 0 = some (if xs = ys then .inl () else .inr false) := by
  obtain ⟨b, hb, hq⟩ : ∃ b, loopO step (0 : Int) = some b ∧ b = (if xs = ys then .inl () else .inr false) := by
    refine loopO_ex (fun k s => s = (k : Int) ∧ xs.take k = ys.take k) xs.length ⟨rfl, rfl⟩ (fun k s hk hI => ?_) (fun s hI => ?_)
    · obtain ⟨rfl, hI⟩ := hI
      have hk' : k < ys.length := hl ▸ hk
      rw [hs k hk]
      by_cases hc : xs[k] = ys[k]
      · rw [if_pos hc]
        refine .inl ⟨((k + 1 : Nat) : Int), by rw [w64n (by have : big = 9223372036854775807 := rfl; omega)], rfl, ?_⟩
        rw [take_snoc hk, take_snoc hk', hI, hc]
      · rw [if_neg hc]
        refine .inr ⟨_, rfl, ?_⟩
        rw [if_neg]
        intro e
        subst e
        exact hc rfl
    · obtain ⟨rfl, hI⟩ := hI
      refine ⟨_, he, ?_⟩
      rw [List.take_length, hl, List.take_length] at hI
      rw [if_pos hI]
  rw [hb, hq]
theorem len_ne {α : Type} {xs ys : List α} (h : xs.length ≠ ys.length) : ((xs.length : Int) != (ys.length : Int)) = true := by
  simp; omega
theorem eq_fin {α : Type} [DecidableEq α] {step : Int → Option (Int ⊕ (Unit ⊕ Bool))} {xs ys : List α} (h : loopO step 0 = some (if xs = ys then .inl () else .inr false)) :
    ((loopO step 0).bind fun b => match b with | .inl _ => some true | .inr x => some x) = some (decide (xs = ys)) := by
  rw [h]
  by_cases e : xs = ys
  · rw [if_pos e, decide_eq_true e]; rfl
  · rw [if_neg e, decide_eq_false e]; rfl
theorem strings_eq {l m : List (List UInt8)} (h : l.length ≤ big) : slices_Equal_string l m = some (decide (l = m)) := by
  unfold slices_Equal_string
  by_cases hl : l.length = m.length
  · rw [if_neg (by simp [hl])]
    refine eq_fin (eq_loop hl h (fun k hk => ?_) ?_)
    · have hk' : k < m.length := hl ▸ hk
      unfold slices_Equal_string.l1
      simp only [lt_of_len hk, if_true, idx_nat hk, idx_nat hk', Option.bind_some, letV_of]
      by_cases e : l[k] = m[k]
      · rw [if_pos e, if_neg (by simp [e])]
      · rw [if_neg e, if_pos (by simpa using e)]
    · unfold slices_Equal_string.l1
      simp only [not_lt_len, Bool.false_eq_true, if_false]
  · rw [if_pos (len_ne hl), decide_eq_false (fun e => hl (by rw [e]))]
theorem refStrings_eq {l m : List (List UInt8)} (h : l.length ≤ big) : esref32_EqualStrings l m = some (decide (l = m)) := by
  unfold esref32_EqualStrings
  by_cases hl : l.length = m.length
  · rw [if_neg (by simp [hl])]
    refine eq_fin (eq_loop hl h (fun k hk => ?_) ?_)
    · have hk' : k < m.length := hl ▸ hk
      unfold esref32_EqualStrings.l1
      simp only [lt_of_len hk, if_true, idx_nat hk, idx_nat hk', Option.bind_some, letV_of]
      by_cases e : l[k] = m[k]
      · rw [if_pos e, if_neg (by simp [e])]
      · rw [if_neg e, if_pos (by simpa using e)]
    · unfold esref32_EqualStrings.l1
      simp only [not_lt_len, Bool.false_eq_true, if_false]
  · rw [if_pos (len_ne hl), decide_eq_false (fun e => hl (by rw [e]))]
theorem sameValue_eq {x y : history_Value} (h : x.Elems.length ≤ big) : history_sameValue x y = some (decide (x = y)) := by
  obtain ⟨x1, x2, x3, x4, x5, x6, x7, x8, x9, x10⟩ := x
  obtain ⟨y1, y2, y3, y4, y5, y6, y7, y8, y9, y10⟩ := y
  unfold history_sameValue
  simp only [strings_eq (show x9.length ≤ big from h), Option.bind_some, history_sameValue.j1, history_Value.mk.injEq]
  by_cases e1 : x1 = y1 <;> by_cases e2 : x2 = y2 <;> by_cases e3 : x3 = y3 <;> by_cases e4 : x4 = y4 <;> by_cases e5 : x5 = y5 <;> by_cases e6 : x6 = y6 <;> by_cases e7 : x7 = y7 <;> by_cases e8 : x8 = y8 <;> by_cases e9 : x9 = y9 <;> simp [e1, e2, e3, e4, e5, e6, e7, e8, e9]
  cases x10 <;> cases y10 <;> rfl
theorem EqualFunc_eq {l m : List history_Value} (hm : l.length ≤ big) (h : ∀ v ∈ l, v.Elems.length ≤ big) : slices_EqualFunc_Value l m (fun p => history_sameValue p.1 p.2) = some (decide (l = m)) := by
  unfold slices_EqualFunc_Value
  by_cases hl : l.length = m.length
  · rw [if_neg (by simp [hl])]
    refine eq_fin (eq_loop hl hm (fun k hk => ?_) ?_)
    · have hk' : k < m.length := hl ▸ hk
      unfold slices_EqualFunc_Value.l1
      simp only [lt_of_len hk, if_true, idx_nat hk, idx_nat hk', Option.bind_some, letV_of, sameValue_eq (h _ (List.getElem_mem hk))]
      by_cases e : l[k] = m[k]
      · rw [if_pos e, if_neg (by simp [e])]
      · rw [if_neg e, if_pos (by simpa using e)]
    · unfold slices_EqualFunc_Value.l1
      simp only [not_lt_len, Bool.false_eq_true, if_false]
  · rw [if_pos (len_ne hl), decide_eq_false (fun e => hl (by rw [e]))]
theorem SameValues_eq {l m : List history_Value} (hm : l.length ≤ big) (h : ∀ v ∈ l, v.Elems.length ≤ big) : history_SameValues l m = some (decide (l = m)) := by
  unfold history_SameValues
  rw [EqualFunc_eq hm h]; rfl
theorem j3_eq {x y : history_Value} (k : Int) (h : x.Elems.length ≤ big) : esref39_SameValues.j3 k x y = if x = y then some (.inl (IntKind.i64.wrap (k + 1))) else some (.inr (.inr false)) := by
  obtain ⟨x1, x2, x3, x4, x5, x6, x7, x8, x9, x10⟩ := x
  obtain ⟨y1, y2, y3, y4, y5, y6, y7, y8, y9, y10⟩ := y
  unfold esref39_SameValues.j3
  simp only [refStrings_eq (show x9.length ≤ big from h), Option.bind_some, esref39_SameValues.j2, history_Value.mk.injEq, letV_of]
  by_cases e1 : x1 = y1 <;> by_cases e2 : x2 = y2 <;> by_cases e3 : x3 = y3 <;> by_cases e4 : x4 = y4 <;> by_cases e5 : x5 = y5 <;> by_cases e6 : x6 = y6 <;> by_cases e7 : x7 = y7 <;> by_cases e8 : x8 = y8 <;> by_cases e9 : x9 = y9 <;> by_cases e10 : x10 = y10 <;> simp [e1, e2, e3, e4, e5, e6, e7, e8, e9, e10]
theorem refSameValues_eq {l m : List history_Value} (hm : l.length ≤ big) (h : ∀ v ∈ l, v.Elems.length ≤ big) : esref39_SameValues l m = some (decide (l = m)) := by
  unfold esref39_SameValues
  by_cases hl : l.length = m.length
  · rw [if_neg (by simp [hl])]
    refine eq_fin (eq_loop hl hm (fun k hk => ?_) ?_)
    · have hk' : k < m.length := hl ▸ hk
      unfold esref39_SameValues.l1
      simp only [lt_of_len hk, if_true, idx_nat hk, idx_nat hk', Option.bind_some, j3_eq _ (h _ (List.getElem_mem hk))]
    · unfold esref39_SameValues.l1
      simp only [not_lt_len, Bool.false_eq_true, if_false]
  · rw [if_pos (len_ne hl), decide_eq_false (fun e => hl (by rw [e]))]
end Go.Proofs.Ytbbeobiampbddaa

set_option linter.unusedVariables false
namespace Go.Proofs.Ytbbeobiampbddaa
open Go Go.Proofs.YtbbeobiampbddaaL
theorem refVisible_eq {n : Nat} {t : fold_Store} (h : GD n t.Objects) (hn : n ≤ 100000) : esref39_Visible t = some (visL t.Objects) := by
  unfold esref39_Visible
  obtain ⟨b, hb, hq⟩ : ∃ b, loopO (esref39_Visible.l2 t) ([], 0) = some b ∧ b = visL t.Objects := by
    refine loopO_inv (fun k s => s = (visL (t.Objects.take k), (k : Int))) t.Objects.length rfl (fun k s hk hI => ?_) (fun s hI => ?_)
    · subst hI
      have hm := List.getElem_mem hk
      have hlen := h.len
      have hv : (visL (t.Objects.take k)).length ≤ k * n := by
        have := visL_length (n := n) (l := t.Objects.take k) fun o ho => h.flen o (List.mem_of_mem_take ho)
        rw [List.length_take, Nat.min_eq_left (by omega)] at this
        exact this
      have hkn : k * n + n ≤ n * n := by
        have := Nat.mul_le_mul_right n (show k + 1 ≤ n by omega)
        rw [Nat.succ_mul] at this
        exact this
      have hnn : n * n ≤ 100000 * 100000 := Nat.mul_le_mul hn hn
      have hf := h.flen _ hm
      unfold esref39_Visible.l2
      simp only [lt_of_len hk, if_true, idx_nat hk, Option.bind_some]
      obtain ⟨b, hb, hq⟩ : ∃ b, loopO (esref39_Visible.l1 t.Objects[k]) (visL (t.Objects.take k), 0) = some b ∧ b = visL (t.Objects.take k) ++ t.Objects[k].Fields.map (visF t.Objects[k].Name) := by
        refine loopO_inv (fun j s => s = (visL (t.Objects.take k) ++ (t.Objects[k].Fields.take j).map (visF t.Objects[k].Name), (j : Int))) t.Objects[k].Fields.length (by simp) (fun j s hj hI => ?_) (fun s hI => ?_)
        · subst hI
          have hy := h.good _ hm _ (List.getElem_mem hj)
          have hyl := hy.len
          unfold esref39_Visible.l1
          have hc : app 16 [] t.Objects[k].Fields[j].Elems = some t.Objects[k].Fields[j].Elems := by rw [app_of (by simp; omega)]; rfl
          simp only [lt_of_len hj, if_true, idx_nat hj, Option.bind_some, hc, letV_of, wcast hj (by omega)]
          rw [app_of (by simp only [List.length_append, List.length_map, List.length_take, List.length_singleton]; omega), Option.bind_some]
          refine ⟨_, rfl, ?_⟩
          rw [take_snoc hj, List.map_append, ← List.append_assoc]
          rfl
        · subst hI
          unfold esref39_Visible.l1
          dsimp only
          exact ⟨_, if_neg (by rw [not_lt_len]; simp), by rw [List.take_length]⟩
      rw [hb, hq]
      simp only [Option.bind_some, esref39_Visible.j2, letV_of, wcast hk (show t.Objects.length ≤ _ by omega)]
      refine ⟨_, rfl, ?_⟩
      rw [take_snoc hk]
      unfold visL
      rw [List.flatMap_append]
      simp
    · subst hI
      unfold esref39_Visible.l2
      dsimp only
      exact ⟨_, if_neg (by rw [not_lt_len]; simp), by rw [List.take_length]⟩
  rw [hb, hq]; rfl
theorem visL_mem {l : List fold_Object} {v : history_Value} (h : v ∈ visL l) : ∃ o ∈ l, ∃ y ∈ o.Fields, v = visF o.Name y := by
  unfold visL at h
  obtain ⟨o, ho, hv⟩ := List.mem_flatMap.1 h
  obtain ⟨y, hy, rfl⟩ := List.mem_map.1 hv
  exact ⟨o, ho, y, hy, rfl⟩
theorem historyVisible_true (l m : List Int) (n : Int) : eslaw38_HistoryVisible l m n = some true := by
  obtain ⟨s, e1, h1⟩ := Updates_ex l
  obtain ⟨e2, g⟩ := made_fold h1
  obtain ⟨s', e3, h3⟩ := Updates_ex m
  obtain ⟨p, e4⟩ := Some_ex h3 n
  obtain ⟨e5, g'⟩ := made_fold (US_sub h3 List.filter_sublist (t := s'.filter p))
  unfold eslaw38_HistoryVisible
  rw [e1, Option.bind_some, e2, Option.bind_some, e3, Option.bind_some, e4, Option.bind_some, e5, Option.bind_some]
  obtain ⟨T, hT⟩ : ∃ T, T = foldT s [] := ⟨_, rfl⟩
  obtain ⟨T', hT'⟩ : ∃ T', T' = foldT (s'.filter p) [] := ⟨_, rfl⟩
  rw [← hT] at g ⊢
  rw [← hT'] at g' ⊢
  have v1 := Visible_eq (t := ⟨T⟩) g (by decide)
  have v2 := Visible_eq (t := ⟨T'⟩) g' (by decide)
  have v3 := refVisible_eq (t := ⟨T⟩) g (by decide)
  have v1 : history_Visible ⟨T⟩ = some (visL T) := v1
  have v2 : history_Visible ⟨T'⟩ = some (visL T') := v2
  have v3 : esref39_Visible ⟨T⟩ = some (visL T) := v3
  have hb : big = 9223372036854775807 := rfl
  have hlen : (visL T).length ≤ 10000 := by
    have a := visL_length (n := 100) (l := T) g.flen
    have b := g.len
    have : T.length * 100 ≤ 100 * 100 := Nat.mul_le_mul_right _ b
    omega
  have hel : ∀ v ∈ visL T, v.Elems.length ≤ 100 := by
    intro v hv
    obtain ⟨o, ho, y, hy, rfl⟩ := visL_mem hv
    exact (g.good o ho y hy).len
  have hel' : ∀ v ∈ visL T, v.Elems.length ≤ big := fun v hv => by have := hel v hv; omega
  have hlen' : (visL T).length ≤ big := by omega
  simp only [v1, v2, v3, Option.bind_some, refSameValues_eq hlen' hel', SameValues_eq hlen' hel', decide_true, Bool.not_true, Bool.false_eq_true, if_false, bne_self_eq_false, eslaw38_HistoryVisible.j3]
  have key : loopO (eslaw38_HistoryVisible.l1 ⟨T⟩ (visL T)) 0 = some (.inl ()) := by
    have := loopO_up (step := eslaw38_HistoryVisible.l1 ⟨T⟩ (visL T)) (fun k => (k : Int)) (visL T).length (b := .inl ()) (fun k hk => ?_) ?_
    · exact this
    · have hmem := List.getElem_mem hk
      have hev := hel' _ hmem
      obtain ⟨o, ho, y, hy, hv⟩ := visL_mem hmem
      unfold eslaw38_HistoryVisible.l1
      simp only [lt_of_len hk, if_true, idx_nat hk, Option.bind_some, eslaw38_HistoryVisible.j2]
      rw [hv] at hev ⊢
      have f1 : esref32_Find ⟨T⟩ (visF o.Name y).Object = some o := by
        rw [rFind_eq g (by decide)]
        show some ((get ON_ T o.Name).getD _) = _
        rw [show get ON_ T o.Name = some o from get_mem_self g.asc ho]; rfl
      have f2 : esref32_FieldOf o (visF o.Name y).Field = some y := by
        rw [rFieldOf_eq (by have := g.flen o ho; omega)]
        show some ((get FN_ o.Fields y.Name).getD _) = _
        rw [show get FN_ o.Fields y.Name = some y from get_mem_self (g.fasc o ho) hy]; rfl
      have f3 : esref32_EqualStrings (visF o.Name y).Elems y.Elems = some true := by
        rw [refStrings_eq hev]
        show some (decide (y.Elems = y.Elems)) = _
        rw [decide_eq_true rfl]
      rw [f1, Option.bind_some, f2, Option.bind_some, f3]
      have c1 : ((visF o.Name y).Set != y.Register.Set) = false := bne_self_eq_false _
      have c2 : ((visF o.Name y).Sum != y.Sum) = false := bne_self_eq_false _
      simp only [c1, c2, Option.bind_some, Bool.not_true, Bool.false_eq_true, if_false, letV_of, wcast hk (by omega)]
    · unfold eslaw38_HistoryVisible.l1
      simp only [not_lt_len, Bool.false_eq_true, if_false]
  rw [key]
  simp only [Option.bind_some, eslaw38_HistoryVisible.j1, awake_true]
end Go.Proofs.Ytbbeobiampbddaa
