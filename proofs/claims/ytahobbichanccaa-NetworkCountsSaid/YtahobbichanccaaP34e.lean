/- The partition of the reference; one step of both networks. -/
import Derived.Test.YtahobbichanccaaP34d
set_option linter.unusedVariables false
set_option linter.unusedSimpArgs false
namespace Go.Proofs.Ytahobbichanccaa
open Go Go.Proofs.YtahobbichanccaaL

def bef (p : Int) (l : List network_Side) : List network_Side := l.filter fun s => decide (s.Process < p)
def aft (p : Int) (l : List network_Side) : List network_Side := l.filter fun s => decide (p < s.Process)
def insS (cur : List network_Side) (s : network_Side) : List network_Side := bef s.Process cur ++ (if s.Side != 0 then [s] else []) ++ aft s.Process cur
theorem bef_snoc (p : Int) (l : List network_Side) (s : network_Side) : bef p (l ++ [s]) = bef p l ++ if s.Process < p then [s] else [] := by
  unfold bef
  rw [List.filter_append]
  congr 1
  by_cases h : s.Process < p <;> simp [h]
theorem aft_snoc (p : Int) (l : List network_Side) (s : network_Side) : aft p (l ++ [s]) = aft p l ++ if p < s.Process then [s] else [] := by
  unfold aft
  rw [List.filter_append]
  congr 1
  by_cases h : p < s.Process <;> simp [h]
theorem aftbef_length (p : Int) (l : List network_Side) : (bef p l).length + (aft p l).length ≤ l.length := by
  induction l with
  | nil => simp [bef, aft]
  | cons s l ih =>
    simp only [bef, aft, List.filter_cons, List.length_cons] at *
    by_cases h1 : s.Process < p
    · have h2 : ¬ p < s.Process := by omega
      simp only [h1, h2, decide_true, decide_false, if_true, if_false, Bool.false_eq_true, List.length_cons]
      omega
    · by_cases h2 : p < s.Process
      · simp only [h1, h2, decide_true, decide_false, if_true, if_false, Bool.false_eq_true, List.length_cons]
        omega
      · simp only [h1, h2, decide_true, decide_false, if_true, if_false, Bool.false_eq_true, List.length_cons]
        omega
theorem insS_length (cur : List network_Side) (s : network_Side) : (insS cur s).length ≤ cur.length + 1 := by
  have := aftbef_length s.Process cur
  unfold insS
  simp only [List.length_append]
  split <;> simp only [List.length_cons, List.length_nil] <;> omega
theorem insF_length (sides : List network_Side) (cur : List network_Side) : (sides.foldl insS cur).length ≤ cur.length + sides.length := by
  induction sides generalizing cur with
  | nil => exact Nat.le_refl _
  | cons s l ih =>
    have := ih (insS cur s)
    have := insS_length cur s
    simp only [List.foldl_cons, List.length_cons]
    omega
theorem mem_lookup {m : List (Int × Int)} (h : (m.map (·.1)).Nodup) (k v : Int) : (k, v) ∈ m ↔ m.lookup k = some v := by
  induction m with
  | nil => simp
  | cons e m ih =>
    obtain ⟨a, b⟩ := e
    simp only [List.map_cons, List.nodup_cons] at h
    rw [List.lookup_cons]
    by_cases hk : k = a
    · subst hk
      simp only [List.mem_cons, Prod.mk.injEq, true_and, beq_self_eq_true, Option.some.injEq]
      constructor
      · rintro (h1 | h1)
        · exact h1.symm
        · exact absurd (List.mem_map_of_mem (f := (·.1)) h1) h.1
      · exact fun h1 => .inl h1.symm
    · have : (k == a) = false := by simpa using hk
      simp only [this, List.mem_cons, Prod.mk.injEq, hk, false_and, false_or]
      exact ih h.2
theorem mem_partL {m : List (Int × Int)} (h : (m.map (·.1)).Nodup) (x : network_Side) : x ∈ partL m ↔ m.lookup x.Process = some x.Side ∧ x.Side ≠ 0 := by
  unfold partL
  rw [← mem_lookup h]
  simp only [List.mem_map, List.mem_filter, bne_iff_ne, ne_eq]
  constructor
  · rintro ⟨⟨a, b⟩, ⟨h1, h2⟩, rfl⟩
    exact ⟨h1, h2⟩
  · exact fun ⟨h1, h2⟩ => ⟨(x.Process, x.Side), ⟨h1, h2⟩, rfl⟩
theorem insF_inv (sides : List network_Side) : (sides.foldl insS []).Pairwise (fun a b => a.Process < b.Process) ∧ ∀ x, x ∈ sides.foldl insS [] ↔ x ∈ partL (partM sides) := by
  have key : ∀ (done rest cur : List network_Side), cur.Pairwise (fun a b => a.Process < b.Process) → (∀ x, x ∈ cur ↔ x ∈ partL (partM done)) →
      (rest.foldl insS cur).Pairwise (fun a b => a.Process < b.Process) ∧ ∀ x, x ∈ rest.foldl insS cur ↔ x ∈ partL (partM (done ++ rest)) := by
    intro done rest
    induction rest generalizing done with
    | nil => intro cur h1 h2; rw [List.append_nil]; exact ⟨h1, h2⟩
    | cons s l ih =>
      intro cur h1 h2
      have := ih (done ++ [s]) (insS cur s) ?_ ?_
      · rw [List.append_assoc] at this
        exact this
      · unfold insS bef aft
        rw [List.append_assoc, List.pairwise_append, List.pairwise_append]
        refine ⟨h1.sublist List.filter_sublist, ⟨?_, h1.sublist List.filter_sublist, ?_⟩, ?_⟩
        · split <;> simp
        · intro a ha b hb
          simp only [List.mem_filter, decide_eq_true_eq] at hb
          split at ha
          · simp only [List.mem_singleton] at ha
            subst ha
            exact hb.2
          · simp at ha
        · intro a ha b hb
          simp only [List.mem_filter, decide_eq_true_eq, List.mem_append] at ha hb
          rcases hb with hb | hb
          · split at hb
            · simp only [List.mem_singleton] at hb
              subst hb
              exact ha.2
            · simp at hb
          · omega
      · intro x
        have hn := (partM_keys done).1
        have hn' := (partM_keys (done ++ [s])).1
        have em : partM (done ++ [s]) = mset (partM done) s.Process s.Side := by simp only [partM, List.foldl_append, List.foldl_cons, List.foldl_nil]
        rw [mem_partL hn', em, mset_lookup]
        have h3 := h2 x
        rw [mem_partL hn] at h3
        unfold insS bef aft
        simp only [List.mem_append, List.mem_filter, decide_eq_true_eq, h3]
        by_cases hx : x.Process = s.Process
        · have e0 : (if (x.Process == s.Process) = true then some s.Side else (partM done).lookup x.Process) = some s.Side := if_pos (by simpa using hx)
          rw [e0]
          simp only [hx, Int.lt_irrefl, and_false, false_or, or_false, Option.some.injEq]
          constructor
          · intro hm
            split at hm
            · rename_i h0
              simp only [List.mem_singleton] at hm
              subst hm
              exact ⟨rfl, by simpa using h0⟩
            · simp at hm
          · rintro ⟨e, h0⟩
            have : x = s := by
              cases x; cases s
              simp only at hx e
              subst hx e
              rfl
            subst this
            rw [if_pos (by simpa using h0)]
            exact List.mem_singleton.2 rfl
        · have e0 : (if (x.Process == s.Process) = true then some s.Side else (partM done).lookup x.Process) = (partM done).lookup x.Process := if_neg (by simpa using hx)
          rw [e0]
          have hns : x ∉ (if s.Side != 0 then [s] else []) := by
            split
            · simp only [List.mem_singleton]
              rintro rfl
              exact hx rfl
            · simp
          have hor : x.Process < s.Process ∨ s.Process < x.Process := by omega
          constructor
          · rintro ((h | h) | h)
            · exact h.1
            · exact absurd h hns
            · exact h.1
          · intro h
            rcases hor with h' | h'
            · exact .inl (.inl ⟨h, h'⟩)
            · exact .inr ⟨h, h'⟩
  have := key [] sides [] List.Pairwise.nil (fun x => by simp [partM, partL])
  exact this
theorem insF_eq (sides : List network_Side) (h : sides.length ≤ 4096) : sides.foldl insS [] = partS sides := by
  obtain ⟨h1, h2⟩ := insF_inv sides
  have hn := (partM_keys sides).1
  have hp := partL_pairwise hn
  have hO := swo_key fun x : network_Side => x.Process
  have hsort2 : sortU (fun a b : network_Side => decide (a.Process < b.Process)) (partL (partM sides)) = some (partS sides) := by
    have := partL_length (partM sides)
    have := (partM_keys sides).2
    exact if_pos ⟨partL_pairwise hn, by omega⟩
  have hperm : (sides.foldl insS []).Perm (partL (partM sides)) := by
    refine (List.perm_ext_iff_of_nodup ?_ ?_).2 h2
    · exact h1.imp fun h e => by subst e; omega
    · refine hp.imp fun h e => ?_
      subst e
      simp at h
  exact sort_unique hO hp hperm (sortU_perm hsort2) (h1.imp fun h => by simp; omega) (sortU_sorted hO hsort2)
theorem refpart_in1 (sides : List network_Side) (i : Nat) (hi : i < sides.length) (cur : List network_Side) (h : cur.length ≤ 4096) : loopO (esref36_Partition.l2 sides (i : Int) cur) ([], 0) = some (bef sides[i].Process cur) := by
  have hl := loopO_up (step := esref36_Partition.l2 sides (i : Int) cur) (fun k => (bef sides[i].Process (cur.take k), (k : Int))) cur.length (b := bef sides[i].Process cur) (fun k hk => ?_) ?_
  · have e : (bef sides[i].Process (cur.take 0), ((0 : Nat) : Int)) = ([], 0) := rfl
    rw [e] at hl
    exact hl
  · simp only [esref36_Partition.l2, esref36_Partition.j7]
    rw [if_pos (by simpa using hk), idx_nat hk, idx_nat hi]
    simp only [Option.bind_some, letV_of]
    rw [take_snoc hk, bef_snoc, w64n (by omega)]
    have hb := aftbef_length sides[i].Process (cur.take k)
    rw [List.length_take] at hb
    by_cases hc : cur[k].Process < sides[i].Process
    · rw [if_pos (by simpa using hc), if_pos hc, app_of (by simp only [List.length_cons, List.length_nil]; omega)]
      rfl
    · rw [if_neg (by simpa using hc), if_neg hc, List.append_nil]
  · simp only [esref36_Partition.l2]
    rw [if_neg (by simp), List.take_of_length_le (Nat.le_refl _)]
theorem refpart_in2 (sides : List network_Side) (i : Nat) (hi : i < sides.length) (cur pre : List network_Side) (h : cur.length ≤ 4096) (hp : pre.length ≤ 4097) : loopO (esref36_Partition.l1 sides (i : Int) cur) (pre, 0) = some (pre ++ aft sides[i].Process cur) := by
  have hl := loopO_up (step := esref36_Partition.l1 sides (i : Int) cur) (fun k => (pre ++ aft sides[i].Process (cur.take k), (k : Int))) cur.length (b := pre ++ aft sides[i].Process cur) (fun k hk => ?_) ?_
  · have e : (pre ++ aft sides[i].Process (cur.take 0), ((0 : Nat) : Int)) = (pre, 0) := by simp [aft]
    rw [e] at hl
    exact hl
  · simp only [esref36_Partition.l1, esref36_Partition.j4]
    rw [if_pos (by simpa using hk), idx_nat hk, idx_nat hi]
    simp only [Option.bind_some, letV_of]
    rw [take_snoc hk, aft_snoc, w64n (by omega)]
    have hb := aftbef_length sides[i].Process (cur.take k)
    rw [List.length_take] at hb
    by_cases hc : sides[i].Process < cur[k].Process
    · rw [if_pos (by simpa using hc), if_pos hc, app_of (by simp only [List.length_cons, List.length_nil, List.length_append]; omega)]
      simp only [Option.bind_some, List.append_assoc]
    · rw [if_neg (by simpa using hc), if_neg hc, List.append_nil]
  · simp only [esref36_Partition.l1]
    rw [if_neg (by simp), List.take_of_length_le (Nat.le_refl _)]
theorem refpartition_eq (n : network_Network) (sides : List network_Side) (h1 : n.Packets.length ≤ 4096) (h2 : n.Sides.length ≤ 4096) (h3 : 0 ≤ n.Next) (h3' : n.Next ≤ 4611686018427387904) (h4 : sides.length ≤ 4096) :
    esref36_Partition n sides = some ⟨n.Next, n.Packets, partS sides⟩ := by
  unfold esref36_Partition
  rw [refsend_nil n h1 h2 h3 h3']
  simp only [Option.bind_some]
  have hl := loopO_up (step := esref36_Partition.l3 sides) (fun k => ((k : Int), (sides.take k).foldl insS [])) sides.length (b := sides.foldl insS []) (fun k hk => ?_) ?_
  · have e : (((0 : Nat) : Int), (sides.take 0).foldl insS []) = (0, []) := rfl
    rw [e] at hl
    rw [hl, insF_eq sides h4]
    rfl
  · have hb := insF_length (sides.take k) []
    rw [List.length_take, List.length_nil] at hb
    have hb2 := aftbef_length sides[k].Process ((sides.take k).foldl insS [])
    simp only [esref36_Partition.l3]
    rw [if_pos (by simpa using hk), refpart_in1 sides k hk _ (by omega)]
    simp only [Option.bind_some, esref36_Partition.j6]
    rw [idx_nat hk]
    simp only [Option.bind_some, esref36_Partition.j5, esref36_Partition.j3, esref36_Partition.j2, letV_of]
    rw [take_snoc hk, List.foldl_append, List.foldl_cons, List.foldl_nil]
    by_cases hs : sides[k].Side = 0
    · rw [if_neg (by simpa using hs), refpart_in2 sides k hk _ _ (by omega) (by omega)]
      simp only [Option.bind_some]
      rw [w64n (by omega), insS, if_neg (by simpa using hs), List.append_nil]
    · rw [if_pos (by simpa using hs), app_of (by simp only [List.length_cons, List.length_nil]; omega)]
      simp only [Option.bind_some]
      rw [refpart_in2 sides k hk _ _ (by omega) (by simp only [List.length_append, List.length_cons, List.length_nil]; omega)]
      simp only [Option.bind_some]
      rw [w64n (by omega), insS, if_pos (by simpa using hs)]
  · simp only [esref36_Partition.l3]
    rw [if_neg (by simp), List.take_of_length_le (Nat.le_refl _)]
end Go.Proofs.Ytahobbichanccaa
