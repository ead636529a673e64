/- Plain law: HistoryOrder. -/
import Derived.Test.YtbbeobiampbddaaP38B
set_option linter.unusedVariables false
namespace Go.Proofs.Ytbbeobiampbddaa
open Go Go.Proofs.YtbbeobiampbddaaL
theorem prB_iff {l : List history_Operation} {a b : Int} : prB l a b = true ↔ ∃ x y, idx l a = some x ∧ idx l b = some y ∧ x.Return ≠ 0 ∧ x.Return < y.Call := by
  unfold prB
  cases idx l a with
  | none => simp
  | some x =>
    cases idx l b with
    | none => simp
    | some y => simp
theorem idx_mem {α : Type} {l : List α} {a : Int} {x : α} (h : idx l a = some x) : x ∈ l := by
  unfold idx at h
  split at h
  · exact List.mem_of_getElem? h
  · cases h
theorem prB_irr {l : List history_Operation} (h : Good l) (a : Int) : prB l a a = false := by
  cases hb : prB l a a with
  | false => rfl
  | true =>
    obtain ⟨x, y, h1, h2, h3, h4⟩ := prB_iff.1 hb
    rw [h1] at h2; cases h2
    have := (vErr_zero (h.v _ (idx_mem h1))).2 h3
    omega
theorem prB_trans {l : List history_Operation} (h : Good l) {a b c : Int} (h1 : prB l a b = true) (h2 : prB l b c = true) : prB l a c = true := by
  obtain ⟨x, y, a1, a2, a3, a4⟩ := prB_iff.1 h1
  obtain ⟨y', z, b1, b2, b3, b4⟩ := prB_iff.1 h2
  rw [a2] at b1; cases b1
  have := (vErr_zero (h.v _ (idx_mem a2))).2 b3
  exact prB_iff.2 ⟨x, z, a1, b2, a3, by omega⟩
theorem prB_int {l : List history_Operation} {a b c d : Int} (h1 : prB l a b = true) (h2 : prB l c d = true) (h3 : prB l a d = false) : prB l c b = true := by
  obtain ⟨x, y, a1, a2, a3, a4⟩ := prB_iff.1 h1
  obtain ⟨z, t, b1, b2, b3, b4⟩ := prB_iff.1 h2
  have : ¬ (x.Return < t.Call) := fun h => by
    have := prB_iff.2 ⟨x, t, a1, b2, a3, h⟩
    rw [h3] at this; cases this
  exact prB_iff.2 ⟨z, y, b1, a2, b3, by omega⟩
theorem historyOrder_true (l : List Int) (a b c d : Int) : eslaw38_HistoryOrder l a b c d = some true := by
  obtain ⟨n, ops, hT, hM, hl⟩ := Times_ex l
  have hg := hM.good
  unfold eslaw38_HistoryOrder
  rw [hT, Option.bind_some]
  have hw : IntKind.i64.wrap ((ops.length : Int) + 2) = (ops.length : Int) + 2 := w64 (by omega) (by omega)
  have ix : ∀ n : Int, ∃ x, eslaw00_Index n ((ops.length : Int) + 2) = some x := fun n => by
    obtain ⟨x, hx, _⟩ := Index_ex n ((ops.length : Int) + 2) (by omega) (by omega)
    exact ⟨x, hx⟩
  obtain ⟨a', ha⟩ := ix a
  obtain ⟨b', hb⟩ := ix b
  obtain ⟨c', hc⟩ := ix c
  obtain ⟨d', hd⟩ := ix d
  simp only [letV_of, hw, ha, hb, hc, hd, Option.bind_some]
  generalize IntKind.i64.wrap (a' - 1) = A
  generalize IntKind.i64.wrap (b' - 1) = B
  generalize IntKind.i64.wrap (c' - 1) = C
  generalize IntKind.i64.wrap (d' - 1) = D
  have hloop : loopO (eslaw38_HistoryOrder.l1 ⟨ops⟩ A B C D) 0 = some (.inl ()) := by
    have := loopO_up (step := eslaw38_HistoryOrder.l1 ⟨ops⟩ A B C D) (fun k => (k : Int)) 5 (b := .inl ()) (fun k hk => ?_) ?_
    · exact this
    · unfold eslaw38_HistoryOrder.l1
      have hlt : decide ((k : Int) < (([(⟨A, B⟩ : Anon37), ⟨B, A⟩, ⟨A, A⟩, ⟨C, D⟩, ⟨B, C⟩].length : Nat) : Int)) = true := by simp; omega
      have hi := idx_nat (xs := [(⟨A, B⟩ : Anon37), ⟨B, A⟩, ⟨A, A⟩, ⟨C, D⟩, ⟨B, C⟩]) (k := k) (by simpa using hk)
      simp only [hlt, if_true, hi, Option.bind_some, Precedes_eq, refPrecedes_eq, Concurrent_eq, refConcurrent_eq, bne_self_eq_false, Bool.false_eq_true, if_false, eslaw38_HistoryOrder.j4, letV_of, wcast hk (by omega)]
    · unfold eslaw38_HistoryOrder.l1
      rfl
  rw [hloop]
  simp only [Option.bind_some, eslaw38_HistoryOrder.j3, eslaw38_HistoryOrder.j2, eslaw38_HistoryOrder.j1, Precedes_eq, prB_irr hg, awake_true, Bool.false_eq_true, if_false]
  have key : (if (!prB ops A B) = true then some true else if (!prB ops C D) = true then some true else if prB ops A D = true then some true else if prB ops C B = true then some true else some false) = some true := by
    cases h1 : prB ops A B with
    | false => rfl
    | true =>
      cases h2 : prB ops C D with
      | false => rfl
      | true =>
        cases h3 : prB ops A D with
        | true => rfl
        | false => rw [prB_int h1 h2 h3]; rfl
  cases h1 : prB ops A B with
  | false => rfl
  | true =>
    rw [h1] at key
    cases h2 : prB ops B C with
    | false => simpa using key
    | true =>
      rw [prB_trans hg h1 h2]
      simpa using key
end Go.Proofs.Ytbbeobiampbddaa
