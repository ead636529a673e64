/- Sorting as plain data: where any two elements are told apart. -/
import Derived.Test.YtbbeobiampbddaaLp
import Derived.Sort.Statements
set_option linter.unusedVariables false
set_option linter.unusedSimpArgs false
set_option linter.unusedSectionVars false
namespace Go.Proofs.YtbbeobiampbddaaL
open Go Go.RowKit Go.Sort

def sortU {α : Type} (lt : α → α → Bool) (xs : List α) : Option (List α) :=
  if (xs.Pairwise fun a b => lt a b = true ∨ lt b a = true) ∧ xs.length < 4611686018427387904 then some (xs.mergeSort fun a b => !lt b a) else none
def cmpI (x y : Int) : Int := if x < y then -1 else if y < x then 1 else 0
theorem cmpI_neg (x y : Int) : decide (cmpI x y < 0) = decide (x < y) := by
  unfold cmpI
  by_cases h1 : x < y
  · simp [h1]
  · by_cases h2 : y < x <;> simp [h1, h2]
theorem swo_key {α : Type} (f : α → Int) : SWO fun x y : α => decide (f x < f y) where
  irrefl x := by simp
  trans x y z h1 h2 := by simp at *; omega
  ntrans x y z h1 h2 := by simp at *; omega
theorem sortU_perm {α : Type} {lt : α → α → Bool} {xs ys : List α} (h : sortU lt xs = some ys) : ys.Perm xs := by
  obtain ⟨_, h2⟩ := guardE h
  cases h2
  exact List.mergeSort_perm _ _
theorem pairwise_perm {α : Type} {R : α → α → Prop} (hs : ∀ a b, R a b → R b a) {l l' : List α} (hp : l.Perm l') (h : l.Pairwise R) : l'.Pairwise R := hp.pairwise h (fun h => hs _ _ h)
theorem sort_unique {α : Type} {lt : α → α → Bool} (hO : SWO lt) {xs ys zs : List α} (hx : xs.Pairwise fun a b => lt a b = true ∨ lt b a = true)
    (hy : ys.Perm xs) (hz : zs.Perm xs) (sy : ys.Pairwise fun a b => lt b a = false) (sz : zs.Pairwise fun a b => lt b a = false) : ys = zs := by
  have hys := pairwise_perm (fun a b h => h.symm) hy.symm hx
  have hsy : ys.Pairwise fun a b => lt a b = true := (hys.and sy).imp fun ⟨h1, h2⟩ => h1.resolve_right (by rw [h2]; simp)
  have hzs := pairwise_perm (fun a b h => h.symm) hz.symm hx
  have hsz : zs.Pairwise fun a b => lt a b = true := (hzs.and sz).imp fun ⟨h1, h2⟩ => h1.resolve_right (by rw [h2]; simp)
  refine List.Perm.eq_of_pairwise (le := fun a b => lt a b = true) ?_ hsy hsz (hy.trans hz.symm)
  intro a b _ _ h1 h2
  have := hO.trans _ _ _ h1 h2
  rw [hO.irrefl] at this
  cases this
theorem sortU_sorted {α : Type} {lt : α → α → Bool} (hO : SWO lt) {xs ys : List α} (h : sortU lt xs = some ys) : ys.Pairwise fun a b => lt b a = false := by
  obtain ⟨_, h2⟩ := guardE h
  cases h2
  have h3 := List.pairwise_mergeSort (le := fun a b => !lt b a) (fun a b c h1 h2 => ?_) (fun a b => ?_) xs
  · exact h3.imp fun h => by simpa using h
  · simp only [Bool.not_eq_true'] at h1 h2 ⊢
    exact hO.ntrans _ _ _ h2 h1
  · simp only [Bool.or_eq_true, Bool.not_eq_true']
    cases h : lt b a with
    | false => exact .inl rfl
    | true =>
      right
      cases h' : lt a b with
      | false => rfl
      | true =>
        have := hO.trans _ _ _ h h'
        rw [hO.irrefl] at this
        cases this
theorem pairwise_of_sortedIn {α : Type} [Inhabited α] {lt : α → α → Bool} {d : Array α} (h : SortedIn lt 0 d.size d) : d.toList.Pairwise fun a b => lt b a = false := by
  rw [List.pairwise_iff_getElem]
  intro i j hi hj hij
  have := h i j (Nat.zero_le _) hij (by simpa using hj)
  rw [getElem!_pos d i (by simpa using hi), getElem!_pos d j (by simpa using hj)] at this
  simpa using this
end Go.Proofs.YtbbeobiampbddaaL
