/- Plain lemmas: loops that walk a list, as recursion over the list. -/
import Derived.Test.YtbbeobiampbddaaPl
set_option linter.unusedVariables false
set_option linter.unusedSimpArgs false
namespace Go.Proofs.YtbbeobiampbddaaL
open Go

/-- A walk over a list that may end early. -/
def runL {α σ β : Type} (g : Nat → α → σ → Option (σ ⊕ β)) (fin : σ → Option β) : Nat → List α → σ → Option β
  | _, [], s => fin s
  | i, x :: xs, s => match g i x s with
    | none => none
    | some (.inl s') => runL g fin (i + 1) xs s'
    | some (.inr b) => some b
theorem loopO_runL {α σ τ β : Type} {step : τ → Option (τ ⊕ β)} (pack : Nat → σ → τ) (g : Nat → α → σ → Option (σ ⊕ β)) (fin : σ → Option β) (xs : List α)
    (hs : ∀ k (hk : k < xs.length) s, step (pack k s) = match g k xs[k] s with | none => none | some (.inl s') => some (.inl (pack (k + 1) s')) | some (.inr b) => some (.inr b))
    (he : ∀ s, step (pack xs.length s) = (fin s).map .inr) (s : σ) : loopO step (pack 0 s) = runL g fin 0 xs s := by
  have : ∀ m k s, k + m = xs.length → loopO step (pack k s) = runL g fin k (xs.drop k) s := by
    intro m
    induction m with
    | zero =>
      intro k s hk
      have hk : k = xs.length := by omega
      subst hk
      rw [List.drop_length, runL, loopO_unfold, he]
      cases fin s <;> rfl
    | succ m ih =>
      intro k s hk
      have hk' : k < xs.length := by omega
      rw [List.drop_eq_getElem_cons hk', runL, loopO_unfold, hs k hk']
      cases g k xs[k] s with
      | none => rfl
      | some o =>
        cases o with
        | inl s' => exact ih (k + 1) s' (by omega)
        | inr b => rfl
  have h := this xs.length 0 s (by omega)
  rwa [List.drop_zero] at h
/-- Loops with the same step. -/
theorem loopO_congr {σ β : Type} {f g : σ → Option (σ ⊕ β)} (h : ∀ s, f s = g s) (s : σ) : loopO f s = loopO g s := by
  rw [show f = g from funext h]
theorem lt_of_len {k n : Nat} (h : k < n) : decide ((k : Int) < (n : Int)) = true := by simpa using h
theorem not_lt_len {n : Nat} : decide ((n : Int) < (n : Int)) = false := by simp
theorem wcast {k n : Nat} (hk : k < n) (h : n ≤ 4611686018427387904) : IntKind.i64.wrap ((k : Int) + 1) = ((k + 1 : Nat) : Int) := w64n (by omega)
end Go.Proofs.YtbbeobiampbddaaL
