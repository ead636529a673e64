/- Plain laws: lists that ascend by a key, and what is put into them. -/
import Derived.Test.YtbbeobiampbddaaFd
import Derived.Test.YtbbeobiampbddaaPm
import Derived.Test.YtbbeobiampbddaaMc
set_option linter.unusedVariables false
set_option linter.unusedSimpArgs false
namespace Go.Proofs.Ytbbeobiampbddaa
open Go Go.Proofs.YtbbeobiampbddaaL
section
variable {α : Type} (key : α → List UInt8)
/-- Ascending by the key, without duplicates. -/
abbrev SA (l : List α) : Prop := l.Pairwise fun a b => Op.bytesLess (key a) (key b) = true
/-- What is there under a key, turned; or put in at its place. -/
def upd (k : List UInt8) (g : Option α → α) : List α → List α
  | [] => [g none]
  | a :: l => if Op.bytesLess (key a) k then a :: upd k g l else if key a == k then g (some a) :: l else g none :: a :: l
def get (l : List α) (k : List UInt8) : Option α := l.find? fun a => key a == k
variable {key}
theorem get_nil (k : List UInt8) : get key [] k = none := rfl
theorem get_cons (a : α) (l : List α) (k : List UInt8) : get key (a :: l) k = if key a = k then some a else get key l k := by
  unfold get
  rw [List.find?_cons]
  by_cases h : key a = k
  · rw [if_pos h, show (key a == k) = true by simp [h]]
  · rw [if_neg h, show (key a == k) = false by simp [h]]
theorem get_key {l : List α} {k : List UInt8} {a : α} (h : get key l k = some a) : key a = k := by
  unfold get at h
  simpa using List.find?_some h
theorem get_mem {l : List α} {k : List UInt8} {a : α} (h : get key l k = some a) : a ∈ l := List.mem_of_find?_eq_some h
theorem get_none_of {l : List α} {k : List UInt8} (h : ∀ a ∈ l, key a ≠ k) : get key l k = none := by
  unfold get
  rw [List.find?_eq_none]
  intro a ha
  simpa using h a ha
theorem get_some_iff {l : List α} {k : List UInt8} : (get key l k).isSome = true ↔ ∃ a ∈ l, key a = k := by
  unfold get
  rw [List.find?_isSome]
  simp
theorem SA_lt {a : α} {l : List α} (h : SA key (a :: l)) : ∀ b ∈ l, Op.bytesLess (key a) (key b) = true := (List.pairwise_cons.1 h).1
theorem SA_ne {a : α} {l : List α} (h : SA key (a :: l)) : ∀ b ∈ l, key b ≠ key a := fun b hb e => by
  have := SA_lt h b hb
  rw [e, bl_irrefl] at this
  cases this
theorem get_mem_self {l : List α} (h : SA key l) {a : α} (ha : a ∈ l) : get key l (key a) = some a := by
  induction l with
  | nil => simp at ha
  | cons b l ih =>
    rw [get_cons]
    rcases List.mem_cons.1 ha with rfl | ha
    · rw [if_pos rfl]
    · rw [if_neg (fun e => SA_ne h a ha e.symm), ih (List.pairwise_cons.1 h).2 ha]
theorem get_below {a : α} {l : List α} (h : SA key (a :: l)) {k : List UInt8} (hk : Op.bytesLess k (key a) = true) : get key (a :: l) k = none := get_none_of fun b hb => by
  rcases List.mem_cons.1 hb with rfl | hb
  · intro e; rw [e, bl_irrefl] at hk; cases hk
  · intro e
    have := bl_trans hk (SA_lt h b hb)
    rw [e, bl_irrefl] at this
    cases this
theorem get_upd {k : List UInt8} {g : Option α → α} (hg : ∀ o, (∀ a, o = some a → key a = k) → key (g o) = k) (k' : List UInt8) : ∀ {l : List α}, SA key l → get key (upd key k g l) k' = if k' = k then some (g (get key l k)) else get key l k'
  | [], _ => by
    unfold upd
    have e : key (g none) = k := hg none (by simp)
    rw [get_cons, e, get_nil]
    by_cases h : k' = k
    · rw [if_pos h.symm, if_pos h, get_nil]
    · rw [if_neg (fun e => h e.symm), if_neg h]
  | a :: l, hl => by
    have hl' := (List.pairwise_cons.1 hl).2
    unfold upd
    cases h1 : Op.bytesLess (key a) k with
    | true =>
      rw [if_pos rfl, get_cons, get_upd hg k' hl']
      have hne : key a ≠ k := fun e => by rw [e, bl_irrefl] at h1; cases h1
      by_cases h : k' = k
      · rw [if_neg (by rw [h]; exact hne), if_pos h, if_pos h, get_cons, if_neg hne]
      · rw [if_neg h, if_neg h, get_cons]
    | false =>
      rw [if_neg (by simp)]
      by_cases h2 : key a = k
      · rw [if_pos (by simp [h2]), get_cons, hg (some a) (by simp [h2]), get_cons, if_pos h2]
        by_cases h : k' = k
        · rw [if_pos h.symm, if_pos h]
        · rw [if_neg (fun e => h e.symm), if_neg h, get_cons, if_neg (by rw [h2]; exact fun e => h e.symm)]
      · rw [if_neg (by simpa using h2), get_cons, hg none (by simp)]
        have h3 : Op.bytesLess k (key a) = true := by
          cases h4 : Op.bytesLess k (key a) with
          | true => rfl
          | false => exact absurd (bl_tri h1 h4) h2
        by_cases h : k' = k
        · rw [if_pos h.symm, if_pos h, get_below hl h3]
        · rw [if_neg (fun e => h e.symm), if_neg h]
theorem mem_upd {k : List UInt8} {g : Option α → α} : ∀ {l : List α}, SA key l → ∀ x ∈ upd key k g l, x ∈ l ∨ x = g (get key l k)
  | [], _, x, hx => by
    unfold upd at hx
    simp at hx
    exact .inr hx
  | a :: l, hl, x, hx => by
    have hl' := (List.pairwise_cons.1 hl).2
    unfold upd at hx
    cases h1 : Op.bytesLess (key a) k with
    | true =>
      rw [h1, if_pos rfl] at hx
      have hne : key a ≠ k := fun e => by rw [e, bl_irrefl] at h1; cases h1
      rcases List.mem_cons.1 hx with rfl | hx
      · exact .inl (by simp)
      · rw [get_cons, if_neg hne]
        rcases mem_upd hl' x hx with h | h
        · exact .inl (by simp [h])
        · exact .inr h
    | false =>
      rw [h1, if_neg (by simp)] at hx
      by_cases h2 : key a = k
      · rw [if_pos (by simp [h2])] at hx
        rw [get_cons, if_pos h2]
        rcases List.mem_cons.1 hx with h | h
        · exact .inr h
        · exact .inl (by simp [h])
      · rw [if_neg (by simpa using h2)] at hx
        have h3 : Op.bytesLess k (key a) = true := by
          cases h4 : Op.bytesLess k (key a) with
          | true => rfl
          | false => exact absurd (bl_tri h1 h4) h2
        rw [get_below hl h3]
        rcases List.mem_cons.1 hx with h | h
        · exact .inr h
        · exact .inl h
theorem SA_upd {k : List UInt8} {g : Option α → α} (hg : ∀ o, (∀ a, o = some a → key a = k) → key (g o) = k) : ∀ {l : List α}, SA key l → SA key (upd key k g l)
  | [], _ => by unfold upd; exact List.pairwise_singleton _ _
  | a :: l, hl => by
    have hl' := (List.pairwise_cons.1 hl).2
    unfold upd
    cases h1 : Op.bytesLess (key a) k with
    | true =>
      rw [if_pos rfl]
      refine List.pairwise_cons.2 ⟨fun x hx => ?_, SA_upd hg hl'⟩
      rcases mem_upd hl' x hx with h | h
      · exact SA_lt hl x h
      · rw [h, hg _ fun b hb => get_key hb]; exact h1
    | false =>
      rw [if_neg (by simp)]
      by_cases h2 : key a = k
      · rw [if_pos (by simp [h2])]
        refine List.pairwise_cons.2 ⟨fun x hx => ?_, hl'⟩
        rw [hg (some a) (by simp [h2]), ← h2]
        exact SA_lt hl x hx
      · rw [if_neg (by simpa using h2)]
        have h3 : Op.bytesLess k (key a) = true := by
          cases h4 : Op.bytesLess k (key a) with
          | true => rfl
          | false => exact absurd (bl_tri h1 h4) h2
        refine List.pairwise_cons.2 ⟨fun x hx => ?_, hl⟩
        rw [hg none (by simp)]
        rcases List.mem_cons.1 hx with rfl | hx
        · exact h3
        · exact bl_trans h3 (SA_lt hl x hx)
theorem upd_length {k : List UInt8} {g : Option α → α} : ∀ l : List α, (upd key k g l).length ≤ l.length + 1
  | [] => by simp [upd]
  | a :: l => by
    unfold upd
    have := upd_length (k := k) (g := g) l
    split
    · simp only [List.length_cons]; omega
    · split
      · simp
      · simp
theorem upd_ne_nil {k : List UInt8} {g : Option α → α} : ∀ l : List α, upd key k g l ≠ []
  | [] => by simp [upd]
  | a :: l => by
    unfold upd
    split
    · simp
    · split <;> simp
/-- Told by what is there under each key. -/
theorem SA_ext : ∀ {l l' : List α}, SA key l → SA key l' → (∀ k, get key l k = get key l' k) → l = l'
  | [], [], _, _, _ => rfl
  | [], b :: l', _, _, h => by
    have := h (key b)
    rw [get_nil, get_cons, if_pos rfl] at this
    cases this
  | a :: l, [], _, _, h => by
    have := h (key a)
    rw [get_nil, get_cons, if_pos rfl] at this
    cases this
  | a :: l, b :: l', hl, hl', h => by
    have hab : key a = key b := by
      refine bl_tri ?_ ?_
      · cases hk : Op.bytesLess (key a) (key b) with
        | false => rfl
        | true =>
          have := h (key a)
          rw [get_below hl' hk, get_cons, if_pos rfl] at this
          cases this
      · cases hk : Op.bytesLess (key b) (key a) with
        | false => rfl
        | true =>
          have := h (key b)
          rw [get_below hl hk, get_cons, if_pos rfl] at this
          cases this
    have e1 : a = b := by
      have := h (key a)
      rw [get_cons, if_pos rfl, get_cons, if_pos hab.symm] at this
      exact Option.some.inj this
    subst e1
    have : l = l' := by
      refine SA_ext (List.pairwise_cons.1 hl).2 (List.pairwise_cons.1 hl').2 fun k => ?_
      by_cases hk : key a = k
      · rw [← hk, get_none_of (SA_ne hl), get_none_of (SA_ne hl')]
      · have := h k
        rw [get_cons, if_neg hk, get_cons, if_neg hk] at this
        exact this
    rw [this]
/-- Two turnings at different keys, in either order. -/
theorem upd_comm {k k' : List UInt8} {g g' : Option α → α} (hg : ∀ o, (∀ a, o = some a → key a = k) → key (g o) = k) (hg' : ∀ o, (∀ a, o = some a → key a = k') → key (g' o) = k') (hne : k ≠ k') {l : List α} (hl : SA key l) :
    upd key k g (upd key k' g' l) = upd key k' g' (upd key k g l) := by
  refine SA_ext (SA_upd hg (SA_upd hg' hl)) (SA_upd hg' (SA_upd hg hl)) fun q => ?_
  rw [get_upd hg q (SA_upd hg' hl), get_upd hg' q (SA_upd hg hl), get_upd hg' q hl, get_upd hg q hl, get_upd hg' k hl, get_upd hg k' hl]
  by_cases h1 : q = k
  · subst h1
    simp [hne]
  · by_cases h2 : q = k'
    · subst h2
      simp [h1]
    · simp [h1, h2]
theorem upd_upd {k : List UInt8} {g g' : Option α → α} (hg : ∀ o, (∀ a, o = some a → key a = k) → key (g o) = k) (hg' : ∀ o, (∀ a, o = some a → key a = k) → key (g' o) = k) {l : List α} (hl : SA key l) :
    upd key k g (upd key k g' l) = upd key k (fun o => g (some (g' o))) l := by
  have hgg : ∀ o, (∀ a, o = some a → key a = k) → key (g (some (g' o))) = k := fun o ho => hg _ fun a ha => by
    have := Option.some.inj ha
    rw [← this]; exact hg' o ho
  refine SA_ext (SA_upd hg (SA_upd hg' hl)) (SA_upd hgg hl) fun q => ?_
  rw [get_upd hg q (SA_upd hg' hl), get_upd hgg q hl, get_upd hg' q hl, get_upd hg' k hl, if_pos rfl]
  by_cases h1 : q = k
  · rw [if_pos h1, if_pos h1]
  · rw [if_neg h1, if_neg h1, if_neg h1]
theorem upd_congr {k : List UInt8} {g g' : Option α → α} (hg : ∀ o, (∀ a, o = some a → key a = k) → key (g o) = k) {l : List α} (hl : SA key l) (h : g (get key l k) = g' (get key l k)) (hg' : ∀ o, (∀ a, o = some a → key a = k) → key (g' o) = k) : upd key k g l = upd key k g' l := by
  refine SA_ext (SA_upd hg hl) (SA_upd hg' hl) fun q => ?_
  rw [get_upd hg q hl, get_upd hg' q hl, h]
end
/-! The sorted keys of a map. -/
section
variable {β : Type}
theorem skeys_of {m : List (List UInt8 × β)} (h1 : ∀ x ∈ m, x.1.length ≤ 1000000) (h2 : m.length ≤ 1000000) : skeys m = some ((m.map (·.1)).mergeSort fun a b => decide (a ≤ b)) := by
  unfold skeys
  rw [if_pos ⟨fun x hx => Nat.le_trans (h1 x hx) (by decide), by omega⟩]
theorem sorted_asc {l : List (List UInt8)} (h : l.Nodup) : Asc (l.mergeSort fun a b => decide (a ≤ b)) := by
  have tr : ∀ a b c : List UInt8, (decide (a ≤ b)) = true → (decide (b ≤ c)) = true → (decide (a ≤ c)) = true := fun a b c h1 h2 => by simp only [decide_eq_true_eq] at *; exact List.le_trans h1 h2
  have to : ∀ a b : List UInt8, ((decide (a ≤ b)) || (decide (b ≤ a))) = true := fun a b => by simp only [Bool.or_eq_true, decide_eq_true_eq]; exact List.le_total a b
  have h1 := List.pairwise_mergeSort tr to l
  have h2 : (l.mergeSort fun a b => decide (a ≤ b)).Nodup := (List.mergeSort_perm l _).nodup_iff.2 h
  refine (h1.and h2).imp fun {a b} hab => ?_
  obtain ⟨h3, h4⟩ := hab
  rw [Go.Proofs.bytesLess_eq, decide_eq_true_eq]
  rw [decide_eq_true_eq] at h3
  refine Decidable.byContradiction fun h => ?_
  exact h4 (List.le_antisymm h3 h)
end
end Go.Proofs.Ytbbeobiampbddaa
