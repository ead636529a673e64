/- Plain laws: what a builder's store is. -/
import Derived.Test.YtbbeobiampbddaaP30a
set_option linter.unusedVariables false
set_option linter.unusedSimpArgs false
namespace Go.Proofs.Ytbbeobiampbddaa
open Go Go.Proofs.YtbbeobiampbddaaL
abbrev FN_ : fold_Field → List UInt8 := fold_Field.Name
abbrev ON_ : fold_Object → List UInt8 := fold_Object.Name
abbrev srtN (l : List (List UInt8)) : List (List UInt8) := l.mergeSort fun a b => decide (a ≤ b)
def canonF (fs : List fold_Field) : List fold_Field := (srtN (fs.map (·.Name))).map fun n => (get FN_ fs n).getD fold_zero
def canonB (x : fold_B) : List fold_Object := (srtN (x.map (·.1))).map fun n => ⟨n, canonF ((x.lookup n).getD [])⟩
/-- A loop that collects. -/
theorem loop_app {γ δ : Type} {b : Nat} {ns : List γ} {step : (Int × List δ) → Option ((Int × List δ) ⊕ List δ)} (F : γ → δ)
    (hs : ∀ (k : Nat) (hk : k < ns.length) (out : List δ), step ((k : Int), out) = (app b out [F ns[k]]).bind fun out' => letV (IntKind.i64.wrap ((k : Int) + 1)) fun j => some (.inl (j, out')))
    (he : ∀ out : List δ, step ((ns.length : Int), out) = some (.inr out)) (hb : ns.length * b ≤ 140737488355328) (hn : ns.length ≤ 4611686018427387904) : loopO step (0, []) = some (ns.map F) := by
  have := loopO_up (step := step) (fun k => ((k : Int), (ns.take k).map F)) ns.length (b := ns.map F) (fun k hk => ?_) ?_
  · simpa using this
  · show step ((k : Int), (ns.take k).map F) = _
    rw [hs k hk, app_of (by
      have e : ((ns.take k).map F).length + [F ns[k]].length ≤ ns.length := by simp; omega
      exact Nat.le_trans (Nat.mul_le_mul_right b e) hb)]
    show letV _ _ = _
    rw [letV, wcast hk hn, take_snoc hk, List.map_append]
    rfl
  · show step ((ns.length : Int), (ns.take ns.length).map F) = _
    rw [he, List.take_length]
theorem get_map {α : Type} {key : α → List UInt8} {F : List UInt8 → α} : ∀ {ns : List (List UInt8)}, (∀ n ∈ ns, key (F n) = n) → ∀ k, get key (ns.map F) k = if k ∈ ns then some (F k) else none
  | [], _, k => by simp [get]
  | n :: ns, h, k => by
    rw [List.map_cons, get_cons, h n (by simp), get_map (fun m hm => h m (by simp [hm]))]
    by_cases hk : n = k
    · rw [if_pos hk, if_pos (by simp [hk]), hk]
    · rw [if_neg hk]
      by_cases hm : k ∈ ns
      · rw [if_pos hm, if_pos (by simp [hm])]
      · rw [if_neg hm, if_neg (by simp only [List.mem_cons, not_or]; exact ⟨fun e => hk e.symm, hm⟩)]
theorem SA_map {α : Type} {key : α → List UInt8} {F : List UInt8 → α} {ns : List (List UInt8)} (ha : Asc ns) (h : ∀ n ∈ ns, key (F n) = n) : SA key (ns.map F) := by
  refine List.pairwise_map.2 (ha.imp_of_mem fun {a b} ha hb hab => ?_)
  rw [h a ha, h b hb]
  exact hab
theorem mem_srt {l : List (List UInt8)} {k : List UInt8} : k ∈ srtN l ↔ k ∈ l := (List.mergeSort_perm l _).mem_iff
theorem get_names {fs : List fold_Field} {k : List UInt8} : k ∈ fs.map (·.Name) ↔ (get FN_ fs k).isSome = true := by
  rw [get_some_iff, List.mem_map]
theorem canonF_name (fs : List fold_Field) : ∀ n ∈ srtN (fs.map (·.Name)), FN_ ((get FN_ fs n).getD fold_zero) = n := by
  intro n hn
  rw [mem_srt, get_names] at hn
  cases h : get FN_ fs n with
  | none => rw [h] at hn; cases hn
  | some y => exact get_key h
theorem get_canonF (fs : List fold_Field) (k : List UInt8) : get FN_ (canonF fs) k = get FN_ fs k := by
  unfold canonF
  rw [get_map (canonF_name fs)]
  by_cases h : k ∈ srtN (fs.map (·.Name))
  · rw [if_pos h]
    rw [mem_srt, get_names] at h
    cases hg : get FN_ fs k with
    | none => rw [hg] at h; cases h
    | some y => rfl
  · rw [if_neg h]
    rw [mem_srt, get_names] at h
    cases hg : get FN_ fs k with
    | none => rfl
    | some y => rw [hg] at h; simp at h
theorem SA_canonF {fs : List fold_Field} (h : (fs.map (·.Name)).Nodup) : SA FN_ (canonF fs) := SA_map (sorted_asc h) (canonF_name fs)
theorem get_canonB (x : fold_B) (k : List UInt8) : get ON_ (canonB x) k = (x.lookup k).map fun fs => ⟨k, canonF fs⟩ := by
  unfold canonB
  rw [get_map (fun n _ => rfl)]
  have hm : k ∈ x.map (·.1) ↔ (x.lookup k).isSome = true := by
    induction x with
    | nil => simp
    | cons a x ih =>
      rw [List.map_cons, List.mem_cons, List.lookup_cons]
      cases hk : k == a.1 with
      | true => have : k = a.1 := by simpa using hk
                simp [this]
      | false =>
        have : k ≠ a.1 := by simpa using hk
        simp only [this, false_or]
        exact ih
  by_cases h : k ∈ srtN (x.map (·.1))
  · rw [if_pos h]
    rw [mem_srt, hm] at h
    cases hg : x.lookup k with
    | none => rw [hg] at h; cases h
    | some y => rfl
  · rw [if_neg h]
    rw [mem_srt, hm] at h
    cases hg : x.lookup k with
    | none => rfl
    | some y => rw [hg] at h; simp at h
theorem SA_canonB {x : fold_B} (h : (x.map (·.1)).Nodup) : SA ON_ (canonB x) := SA_map (sorted_asc h) (fun n _ => rfl)
/-- A field as it should be. -/
structure GF (n : Nat) (y : fold_Field) : Prop where
  name : y.Name.length ≤ 1000
  asc : Asc y.Elems
  len : y.Elems.length ≤ n
  els : ∀ s ∈ y.Elems, s.length ≤ 1000
  reg : y.Register.S.length ≤ 1000
/-- A builder as it should be. -/
structure BI (n : Nat) (x : fold_B) : Prop where
  keys : (x.map (·.1)).Nodup
  len : x.length ≤ n
  name : ∀ o ∈ x, o.1.length ≤ 1000
  ne : ∀ o ∈ x, o.2 ≠ []
  names : ∀ o ∈ x, (o.2.map (·.Name)).Nodup
  flen : ∀ o ∈ x, o.2.length ≤ n
  good : ∀ o ∈ x, ∀ y ∈ o.2, GF n y
theorem lookup_mem {β : Type} {x : List (List UInt8 × β)} {k : List UInt8} {b : β} (h : x.lookup k = some b) : (k, b) ∈ x := by
  induction x with
  | nil => cases h
  | cons a x ih =>
    rw [List.lookup_cons] at h
    cases hk : k == a.1 with
    | true =>
      rw [hk] at h
      have e : k = a.1 := by simpa using hk
      have : a = (k, b) := by rw [e]; exact Prod.ext rfl (Option.some.inj h)
      rw [this]; simp
    | false => rw [hk] at h; exact List.mem_cons_of_mem _ (ih h)
theorem lookup_fields (fs : List fold_Field) (k : List UInt8) : (fs.map fun y => (y.Name, y)).lookup k = get FN_ fs k := by
  induction fs with
  | nil => rfl
  | cons a fs ih =>
    rw [List.map_cons, List.lookup_cons, get_cons]
    by_cases h : a.Name = k
    · rw [if_pos h, show (k == a.Name) = true by simp [h]]
    · rw [if_neg h, show (k == a.Name) = false by simpa using fun e => h e.symm]
      exact ih
theorem lookup_frz (x : fold_B) (k : List UInt8) : (fold_frz x).lookup k = (x.lookup k).map fun fs => fs.map fun y => (y.Name, y) := by
  induction x with
  | nil => rfl
  | cons a x ih =>
    unfold fold_frz at ih ⊢
    rw [List.map_cons, List.lookup_cons, List.lookup_cons]
    cases h : k == a.1 with
    | true => rfl
    | false => exact ih
theorem fold_store_eq {n : Nat} {x : fold_B} (h : BI n x) (hn : n ≤ 1000000) : fold_store (fold_frz x) = some ⟨canonB x⟩ := by
  unfold fold_store
  have e1 : skeys (fold_frz x) = some (srtN (x.map (·.1))) := by
    have e0 : (fold_frz x).map (·.1) = x.map (·.1) := by
      unfold fold_frz
      rw [List.map_map]
      rfl
    rw [skeys_of (m := fold_frz x), e0]
    · intro y hy
      unfold fold_frz at hy
      obtain ⟨o, ho, rfl⟩ := List.mem_map.1 hy
      have := h.name o ho
      show o.1.length ≤ _
      omega
    · have := h.len
      unfold fold_frz
      rw [List.length_map]
      omega
  rw [e1, Option.bind_some]
  have hlen : (srtN (x.map (·.1))).length ≤ n := by rw [List.length_mergeSort, List.length_map]; exact h.len
  rw [loop_app (b := 40) (ns := srtN (x.map (·.1))) (fun n => (⟨n, canonF ((x.lookup n).getD [])⟩ : fold_Object)) ?_ ?_ (by omega) (by omega)]
  · rfl
  · intro k hk out
    unfold fold_store.l2
    simp only [lt_of_len hk, if_true, idx_nat hk, Option.bind_some]
    have hmem : (srtN (x.map (·.1)))[k] ∈ x.map (·.1) := mem_srt.1 (List.getElem_mem hk)
    obtain ⟨nm, hnm⟩ : ∃ nm, nm = (srtN (x.map (·.1)))[k] := ⟨_, rfl⟩
    rw [← hnm] at hmem ⊢
    obtain ⟨o, ho, he⟩ := List.mem_map.1 hmem
    have hfs : ∃ fs, x.lookup nm = some fs := by
      cases hl : x.lookup nm with
      | some fs => exact ⟨fs, rfl⟩
      | none =>
        exfalso
        clear hnm hmem hk out h hlen e1 hn
        induction x with
        | nil => simp at ho
        | cons a x ih =>
          rw [List.lookup_cons] at hl
          cases hk : nm == a.1 with
          | true => rw [hk] at hl; cases hl
          | false =>
            rw [hk] at hl
            rcases List.mem_cons.1 ho with rfl | ho
            · rw [he] at hk; simp at hk
            · exact ih ho hl
    obtain ⟨fs, hfs⟩ := hfs
    have hm := lookup_mem hfs
    have hfl : fs.length ≤ n := h.flen _ hm
    rw [lookup_frz, hfs]
    show ((skeys (fs.map fun y => (y.Name, y))).bind _) = _
    have e2 : skeys (fs.map fun y => (y.Name, y)) = some (srtN (fs.map (·.Name))) := by
      rw [skeys_of]
      · rw [List.map_map]; rfl
      · intro y hy
        obtain ⟨z, hz, rfl⟩ := List.mem_map.1 hy
        have := (h.good _ hm z hz).name
        show z.Name.length ≤ _
        omega
      · rw [List.length_map]; omega
    rw [e2, Option.bind_some]
    have hl2 : (srtN (fs.map (·.Name))).length ≤ n := by rw [List.length_mergeSort, List.length_map]; exact hfl
    rw [loop_app (b := 128) (ns := srtN (fs.map (·.Name))) (fun n => (get FN_ fs n).getD fold_zero) ?_ ?_ (by omega) (by omega)]
    · rfl
    · intro k hk out
      unfold fold_store.l1
      simp only [lt_of_len hk, if_true, idx_nat hk, Option.bind_some]
      show ((app 128 out [(((fs.map fun y => (y.Name, y)).lookup _).getD fold_zero)]).bind _) = _
      rw [lookup_fields]
    · intro out
      unfold fold_store.l1
      simp only [not_lt_len, Bool.false_eq_true, if_false]
  · intro out
    unfold fold_store.l2
    simp only [not_lt_len, Bool.false_eq_true, if_false]
end Go.Proofs.Ytbbeobiampbddaa
