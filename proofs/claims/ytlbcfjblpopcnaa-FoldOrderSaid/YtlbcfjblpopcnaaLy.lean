/- How long a slice is that came in. -/
import Derived.Test.YtlbcfjblpopcnaaLr
import Derived.SizedLaws
set_option linter.unusedVariables false
set_option linter.unusedSimpArgs false
namespace Go.Proofs.YtlbcfjblpopcnaaL
open Go Go.RowKit Go.ChangeShapes Go.WideShapes Go.ChangeAt
variable {P : Program}
theorem arg_len {H : Type} {enc : TypeId × Value → H} {W : World} {sp : Nat → Bool} {held : Bool} {t e : TypeId} {a : Option Addr} {n c b : Nat} {d : DataW H} {p : List MemPlace} {ts : List TypeId} {ds : List (DataW H)} {j : Nat}
    (hsz : (DataW.weightsEach P ts ds).all (· ≤ reachBytes) = true) (ht : ts[j]? = some t) (hd : ds[j]? = some d) (hu : P.underlying t = some (.slice e)) (hb : P.bytesOf e = b)
    (h : DataW.Trod enc P W 0 sp held t (.slice a n c) d p) : n * b ≤ 140737488351232 := by
  obtain ⟨fuel, hf⟩ := h
  rcases DataW.trod_slice hu hf with ⟨h1, _⟩ | ⟨a', len, cap, elems, rest, m, _, h1, hx, _, _, _, hl, _⟩
  · simp only [Value.cells, List.cons.injEq, and_true] at h1
    injection h1 with _ e2 _
    subst e2
    omega
  · simp only [Value.cells, List.cons.injEq, and_true] at h1
    injection h1 with _ e2 _
    subst e2
    have hd' : d = .slice (elems.map (·.1)) (rest.map (·.1)) := congrArg Prod.fst hx
    rw [hd'] at hd
    have := sized_slice hsz ht hd hu
    rw [hb, List.length_map, List.length_map, hl] at this
    have h3 : n * b ≤ (n + rest.length) * b := Nat.mul_le_mul_right _ (by omega)
    exact Nat.le_trans h3 this
end Go.Proofs.YtlbcfjblpopcnaaL
