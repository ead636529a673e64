/- Plain lemmas on what the printed functions are made of. -/
import Derived.Test.YtbbeobiampbddaaLqa
set_option linter.unusedVariables false
set_option linter.unusedSimpArgs false
namespace Go.Proofs.YtbbeobiampbddaaL
open Go

theorem w64 {x : Int} (h1 : -9223372036854775808 ≤ x) (h2 : x ≤ 9223372036854775807) : IntKind.i64.wrap x = x := by
  simp only [IntKind.wrap, IntKind.bits, IntKind.signed]; simp; split <;> omega
theorem w64n {k : Nat} (h : k < 9223372036854775807) : IntKind.i64.wrap ((k : Int) + 1) = ((k + 1 : Nat) : Int) := by
  rw [w64 (by omega) (by omega)]; omega
theorem idx_nat {α : Type} {xs : List α} {k : Nat} (h : k < xs.length) : idx xs (k : Int) = some xs[k] := by
  unfold idx
  rw [if_pos (by omega)]
  simp [h]
theorem idx_zero {α : Type} {x : α} {xs : List α} : idx (x :: xs) 0 = some x := rfl
theorem app_of {α : Type} {b : Nat} {xs ys : List α} (h : (xs.length + ys.length) * b ≤ 140737488355328) : app b xs ys = some (xs ++ ys) := if_pos h
theorem cut_of {α : Type} {xs : List α} {l h : Int} (h1 : 0 ≤ l) (h2 : l ≤ h) (h3 : h ≤ xs.length) : cut xs l h = some ((xs.take h.toNat).drop l.toNat) := if_pos ⟨h1, h2, h3⟩
theorem mk_of {α : Type} {b : Nat} {n : Int} {z : α} (h1 : 0 ≤ n) (h2 : n * b ≤ 140737488355328) : mk b n z = some (List.replicate n.toNat z) := if_pos ⟨h1, h2⟩
theorem letV_of {α β : Type} (e : α) (f : α → Option β) : letV e f = f e := rfl
/-- A loop that counts up to its end. -/
theorem loopO_up {σ β : Type} {step : σ → Option (σ ⊕ β)} (f : Nat → σ) (n : Nat) {b : β} (hs : ∀ k, k < n → step (f k) = some (.inl (f (k + 1)))) (he : step (f n) = some (.inr b)) : loopO step (f 0) = some b := by
  have : ∀ m k, k + m = n → loopO step (f k) = some b := by
    intro m
    induction m with
    | zero => intro k hk; have : k = n := by omega
              subst this; exact loopO_done he
    | succ m ih => intro k hk; rw [loopO_next (hs k (by omega))]; exact ih (k + 1) (by omega)
  exact this n 0 (by omega)
/-- A loop over a list that collects. -/
theorem loopO_inv {σ β : Type} {step : σ → Option (σ ⊕ β)} (I : Nat → σ → Prop) (n : Nat) {s0 : σ} {Q : β → Prop} (h0 : I 0 s0)
    (hs : ∀ k s, k < n → I k s → ∃ s', step s = some (.inl s') ∧ I (k + 1) s') (he : ∀ s, I n s → ∃ b, step s = some (.inr b) ∧ Q b) : ∃ b, loopO step s0 = some b ∧ Q b := by
  have : ∀ m k s, k + m = n → I k s → ∃ b, loopO step s = some b ∧ Q b := by
    intro m
    induction m with
    | zero =>
      intro k s hk hI
      have : k = n := by omega
      subst this
      obtain ⟨b, h1, h2⟩ := he s hI
      exact ⟨b, loopO_done h1, h2⟩
    | succ m ih =>
      intro k s hk hI
      obtain ⟨s', h1, h2⟩ := hs k s (by omega) hI
      rw [loopO_next h1]
      exact ih (k + 1) s' (by omega) h2
  exact this n 0 s0 (by omega) h0
/-- A loop that may end early. -/
theorem loopO_ex {σ β : Type} {step : σ → Option (σ ⊕ β)} (I : Nat → σ → Prop) (n : Nat) {s0 : σ} {Q : β → Prop} (h0 : I 0 s0)
    (hs : ∀ k s, k < n → I k s → (∃ s', step s = some (.inl s') ∧ I (k + 1) s') ∨ ∃ b, step s = some (.inr b) ∧ Q b) (he : ∀ s, I n s → ∃ b, step s = some (.inr b) ∧ Q b) : ∃ b, loopO step s0 = some b ∧ Q b := by
  have : ∀ m k s, k + m = n → I k s → ∃ b, loopO step s = some b ∧ Q b := by
    intro m
    induction m with
    | zero =>
      intro k s hk hI
      have : k = n := by omega
      subst this
      obtain ⟨b, h1, h2⟩ := he s hI
      exact ⟨b, loopO_done h1, h2⟩
    | succ m ih =>
      intro k s hk hI
      rcases hs k s (by omega) hI with ⟨s', h1, h2⟩ | ⟨b, h1, h2⟩
      · rw [loopO_next h1]
        exact ih (k + 1) s' (by omega) h2
      · exact ⟨b, loopO_done h1, h2⟩
  exact this n 0 s0 (by omega) h0
/-- A loop with a measure. -/
theorem loopO_mu {σ β : Type} {step : σ → Option (σ ⊕ β)} (I : σ → Prop) (μ : σ → Nat) {s0 : σ} {Q : β → Prop} (h0 : I s0)
    (hs : ∀ s, I s → (∃ s', step s = some (.inl s') ∧ I s' ∧ μ s' < μ s) ∨ ∃ b, step s = some (.inr b) ∧ Q b) : ∃ b, loopO step s0 = some b ∧ Q b := by
  have : ∀ m s, μ s ≤ m → I s → ∃ b, loopO step s = some b ∧ Q b := by
    intro m
    induction m with
    | zero =>
      intro s hm hI
      rcases hs s hI with ⟨s', _, _, h3⟩ | ⟨b, h1, h2⟩
      · omega
      · exact ⟨b, loopO_done h1, h2⟩
    | succ m ih =>
      intro s hm hI
      rcases hs s hI with ⟨s', h1, h2, h3⟩ | ⟨b, h1, h2⟩
      · rw [loopO_next h1]
        exact ih s' (by omega) h2
      · exact ⟨b, loopO_done h1, h2⟩
  exact this _ s0 (Nat.le_refl _) h0
theorem half_eq {x : Int} (h1 : 0 ≤ x) (h2 : x ≤ 9223372036854775807) : shrI .u64 (IntKind.u64.wrap x) 1 = x / 2 := by
  have e : IntKind.u64.wrap x = x := by
    simp only [IntKind.wrap, IntKind.bits, IntKind.signed]; simp; omega
  rw [e, shrI]
  show x.fdiv (2 ^ 1) = x / 2
  rw [Int.fdiv_eq_ediv_of_nonneg _ (by decide)]
  rfl
theorem take_snoc {α : Type} {xs : List α} {k : Nat} (h : k < xs.length) : xs.take (k + 1) = xs.take k ++ [xs[k]] := by
  rw [List.take_succ_eq_append_getElem h]
theorem foldO_app {κ σ β : Type} {step : κ → σ → Option (σ ⊕ β)} {g : κ → σ → σ} (hs : ∀ k s, step k s = some (.inl (g k s))) : ∀ (l : List κ) (s : σ), foldO step l s = some (.inl (l.foldl (fun s k => g k s) s))
  | [], s => rfl
  | k :: l, s => by rw [foldO, hs]; exact foldO_app hs l (g k s)
theorem mset_keys {κ β : Type} [BEq κ] [LawfulBEq κ] (k : κ) (y : β) : ∀ l : List (κ × β), (l.map (·.1)).Nodup → ((mset l k y).map (·.1)).Nodup ∧ ∀ x, x ∈ (mset l k y).map (·.1) → x = k ∨ x ∈ l.map (·.1)
  | [], _ => by simp [mset]
  | e :: l, h => by
    simp only [List.map_cons, List.nodup_cons] at h
    unfold mset
    by_cases hk : k == e.1
    · rw [if_pos hk]
      simp only [List.map_cons, List.nodup_cons]
      exact ⟨h, fun x hx => .inr hx⟩
    · rw [if_neg hk]
      obtain ⟨h1, h2⟩ := mset_keys k y l h.2
      simp only [List.map_cons, List.nodup_cons]
      refine ⟨⟨fun hm => ?_, h1⟩, fun x hx => ?_⟩
      · rcases h2 _ hm with h3 | h3
        · exact hk (by simp [h3])
        · exact h.1 h3
      · rcases List.mem_cons.1 hx with hx | hx
        · exact .inr (List.mem_cons.2 (.inl hx))
        · rcases h2 x hx with h3 | h3
          · exact .inl h3
          · exact .inr (List.mem_cons.2 (.inr h3))
theorem mset_length {κ β : Type} [BEq κ] (k : κ) (y : β) : ∀ l : List (κ × β), (mset l k y).length ≤ l.length + 1
  | [] => by simp [mset]
  | e :: l => by
    unfold mset
    split
    · simp
    · have := mset_length k y l
      simp only [List.length_cons]
      omega
theorem mset_lookup {κ β : Type} [BEq κ] [LawfulBEq κ] (k : κ) (y : β) (x : κ) : ∀ l : List (κ × β), (mset l k y).lookup x = if x == k then some y else l.lookup x
  | [] => by
    simp only [mset, List.lookup]
    cases h : x == k <;> simp
  | e :: l => by
    unfold mset
    by_cases hk : k == e.1
    · rw [if_pos hk]
      have he : k = e.1 := by simpa using hk
      simp only [List.lookup, ← he]
      cases h : x == k <;> simp
    · rw [if_neg hk]
      have ih := mset_lookup k y x l
      simp only [List.lookup]
      cases h : x == e.1 with
      | true =>
        have : (x == k) = false := by
          have hx : x = e.1 := by simpa using h
          rw [hx]
          cases h2 : e.1 == k with
          | false => rfl
          | true => have : e.1 = k := by simpa using h2
                    exact absurd (by simp [this]) hk
        simp [this]
      | false => simpa using ih
end Go.Proofs.YtbbeobiampbddaaL
