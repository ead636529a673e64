/- The operations on memory. -/
import Derived.Test.YtbbeobiampbddaaLd
set_option linter.unusedVariables false
set_option linter.unusedSimpArgs false
namespace Go.Proofs.YtbbeobiampbddaaL
open Go Go.RowKit

/-- A type: is it one of several cells; how many. -/
structure TI (P : Program) (t : TypeId) (agg : Bool) (sz : Nat) : Prop where
  agg_ : ∀ w, (isAgg t).run P w = .ok agg w
  size_ : ∀ w, (sizeOf t).run P w = .ok sz w

theorem addr_add (g j n : Nat) : (⟨g, j, none⟩ : Addr).add n = ⟨g, j + n, none⟩ := by
  unfold Addr.add; split <;> simp_all
theorem blk_cell {w : World} {g : Nat} {T : TypeId} {cs : List Value} (h : w.heap[g]? = some (.cells cs.toArray T (0, 0))) (j : Nat) : w.cell? ⟨g, j, none⟩ = cs[j]? := by
  simp [World.cell?, h]

section
variable {P : Program} {w : World}
theorem run_load {a : Addr} {v : Value} (h : w.cell? a = some v) : (load a).run P w = .ok v w := by simp [load, Sem.run, h]
theorem run_loadCellsFrom (g j : Nat) : ∀ (n i : Nat) (acc : Array Value) (cs : List Value), cs.length = n → (∀ k u, cs[k]? = some u → w.cell? ⟨g, j + i + k, none⟩ = some u) →
    (loadCellsFrom ⟨g, j, none⟩ i n acc).run P w = .ok (acc ++ cs.toArray) w
  | 0, i, acc, cs, hl, _ => by
    have : cs = [] := List.length_eq_zero_iff.1 hl
    subst this
    simp [loadCellsFrom, Sem.run, pure]
  | n + 1, i, acc, [], hl, _ => by simp at hl
  | n + 1, i, acc, c :: cs, hl, h => by
    unfold loadCellsFrom
    have h0 : w.cell? ((⟨g, j, none⟩ : Addr).add i) = some c := by rw [addr_add]; simpa using h 0 c rfl
    refine (run_bind (run_load h0)).trans ?_
    rw [run_loadCellsFrom g j n (i + 1) (acc.push c) cs (by simpa using hl) fun k u hu => ?_]
    · simp
    · have := h (k + 1) u (by simpa using hu)
      rwa [show j + (i + 1) + k = j + i + (k + 1) by omega]
theorem run_loadVar1 {t : TypeId} {sz : Nat} (ht : TI P t false sz) {a : Addr} {v : Value} (h : w.cell? a = some v) : (loadVar t a).run P w = .ok v w := by
  unfold loadVar
  refine (run_bind (ht.agg_ w)).trans ?_
  exact run_load h
theorem run_loadVarN {t : TypeId} {sz : Nat} (ht : TI P t true sz) {g j : Nat} {cs : List Value} (hl : cs.length = sz) (h : ∀ k u, cs[k]? = some u → w.cell? ⟨g, j + k, none⟩ = some u) :
    (loadVar t ⟨g, j, none⟩).run P w = .ok (.agg cs.toArray) w := by
  unfold loadVar
  refine (run_bind (ht.agg_ w)).trans ?_
  rw [if_pos rfl]
  refine (run_bind (ht.size_ w)).trans ?_
  refine (run_bind (x := cs.toArray) (w' := w) ?_).trans rfl
  rw [loadCells, run_loadCellsFrom g j sz 0 #[] cs hl (by simpa using h)]
  simp

/-- A row of cells written. -/
def setCells (w : World) (g j : Nat) : List Value → World
  | [] => w
  | v :: vs => setCells (w.setCell ⟨g, j, none⟩ v) g (j + 1) vs
/-- The cells of a list, from a place on, replaced. -/
def setAt (cs : List Value) (j : Nat) : List Value → List Value
  | [] => cs
  | v :: vs => setAt (cs.set j v) (j + 1) vs
theorem setAt_app : ∀ (vs A B C : List Value), B.length = vs.length → setAt (A ++ B ++ C) A.length vs = A ++ vs ++ C
  | [], A, B, C, h => by
    have : B = [] := List.length_eq_zero_iff.1 h
    simp [setAt, this]
  | v :: vs, A, [], C, h => by simp at h
  | v :: vs, A, b :: B, C, h => by
    have e : (A ++ b :: B ++ C).set A.length v = (A ++ [v]) ++ B ++ C := by simp
    have h2 := setAt_app vs (A ++ [v]) B C (by simpa using h)
    rw [setAt, e]
    simp only [List.length_append, List.length_cons, List.length_nil, Nat.zero_add] at h2
    rw [h2]
    simp
theorem setAt_eq (vs cs : List Value) (j : Nat) (h : j + vs.length ≤ cs.length) : setAt cs j vs = cs.take j ++ vs ++ cs.drop (j + vs.length) := by
  have e : cs = cs.take j ++ (cs.drop j).take vs.length ++ cs.drop (j + vs.length) := by
    rw [List.append_assoc, ← List.drop_drop, List.take_append_drop, List.take_append_drop]
  have h2 := setAt_app vs (cs.take j) ((cs.drop j).take vs.length) (cs.drop (j + vs.length)) (by rw [List.length_take, List.length_drop]; omega)
  rw [← e, List.length_take, Nat.min_eq_left (by omega)] at h2
  exact h2
theorem heap_set {g j : Nat} {T : TypeId} {cs : List Value} (h : w.heap[g]? = some (.cells cs.toArray T (0, 0))) (v : Value) :
    (w.setCell ⟨g, j, none⟩ v).heap[g]? = some (.cells (cs.set j v).toArray T (0, 0)) := by
  simp only [World.setCell]
  rw [Array.getElem?_modify]
  simp [h]
theorem heap_setCells {g : Nat} {T : TypeId} : ∀ (vs : List Value) {w : World} {j : Nat} {cs : List Value}, w.heap[g]? = some (.cells cs.toArray T (0, 0)) →
    (setCells w g j vs).heap[g]? = some (.cells (setAt cs j vs).toArray T (0, 0))
  | [], _, _, _, h => h
  | v :: vs, _, _, _, h => heap_setCells vs (heap_set h v)
theorem Off.refl (bs : List Nat) (w : World) : Off bs w w := ⟨rfl, rfl, rfl, Nat.le_refl _, fun _ _ _ => rfl⟩
theorem off_setCells (g : Nat) : ∀ (vs : List Value) (w : World) (j : Nat), Off [g] w (setCells w g j vs)
  | [], w, _ => Off.refl _ w
  | v :: vs, w, j => (Off.setCell w g j v).trans (off_setCells g vs _ _)
theorem setAt_length : ∀ (vs cs : List Value) (j : Nat), (setAt cs j vs).length = cs.length
  | [], _, _ => rfl
  | v :: vs, cs, j => by rw [setAt, setAt_length vs]; simp

theorem run_store {a : Addr} {v : Value} (h1 : v.oneCell' = true) {u : Value} (h : w.cell? a = some u) (hf : w.frozen? a = false) : (store a v).run P w = .ok () (w.setCell a v) := by
  cases v <;> simp_all [store, Sem.run, Value.oneCell']
theorem run_storeCells {g : Nat} {T : TypeId} (j0 : Nat) : ∀ (vs : List Value) (i : Nat) (w : World) (cs : List Value), (∀ v ∈ vs, v.oneCell' = true) → w.heap[g]? = some (.cells cs.toArray T (0, 0)) →
    j0 + i + vs.length ≤ cs.length → (storeCells ⟨g, j0, none⟩ vs i).run P w = .ok () (setCells w g (j0 + i) vs)
  | [], _, _, _, _, _, _ => rfl
  | v :: vs, i, w, cs, h1, hg, hl => by
    simp only [List.length_cons] at hl
    unfold storeCells
    have hc : w.cell? ((⟨g, j0, none⟩ : Addr).add i) = some (cs[j0 + i]'(by omega)) := by
      rw [addr_add, blk_cell hg]; exact List.getElem?_eq_getElem (by omega)
    have hf : w.frozen? ((⟨g, j0, none⟩ : Addr).add i) = false := by rw [addr_add]; simp [World.frozen?, hg]
    refine (run_bind (run_store (h1 v (by simp)) hc hf)).trans ?_
    rw [addr_add, run_storeCells j0 vs (i + 1) _ (cs.set (j0 + i) v) (fun u hu => h1 u (by simp [hu])) (heap_set hg v) (by simp; omega)]
    rw [setCells, show j0 + (i + 1) = j0 + i + 1 by omega]
theorem run_storeVar {t : TypeId} {agg : Bool} {sz : Nat} (ht : TI P t agg sz) {g j : Nat} {T : TypeId} {cs : List Value} (hg : w.heap[g]? = some (.cells cs.toArray T (0, 0))) {v : Value} {vs : List Value}
    (hv : v.cells = vs.toArray) (hl : vs.length = sz) (h1 : ∀ u ∈ vs, u.oneCell' = true) (hb : j + sz ≤ cs.length) : (storeVar t ⟨g, j, none⟩ v).run P w = .ok () (setCells w g j vs) := by
  unfold storeVar
  refine (run_bind (ht.size_ w)).trans ?_
  rw [hv]
  rw [if_neg (by simp [hl])]
  have := run_storeCells (P := P) (g := g) (T := T) j vs 0 w cs h1 hg (by omega)
  simpa using this
end
end Go.Proofs.YtbbeobiampbddaaL
