/- The full network. -/
import Derived.Test.YtahobbichanccaaP34c
set_option linter.unusedVariables false
set_option linter.unusedSimpArgs false
namespace Go.Proofs.Ytahobbichanccaa
open Go Go.Proofs.YtahobbichanccaaL

theorem pk_mem' {x : Int} {l : List api_Message} {p : network_Packet} (h : p ∈ pk x l) : x ≤ p.ID := by
  induction l generalizing x with
  | nil => cases h
  | cons m l ih =>
    simp only [pk, List.mem_cons] at h
    rcases h with rfl | h
    · exact Int.le_refl _
    · have := ih h
      omega
theorem pk_asc' (x : Int) (l : List api_Message) : Asc (pk x l) := by
  induction l generalizing x with
  | nil => exact List.Pairwise.nil
  | cons m l ih =>
    refine List.Pairwise.cons (fun p hp => ?_) (ih (x + 1))
    have := pk_mem' hp
    show x < p.ID
    omega
theorem pk_id (x : Int) (l : List api_Message) (k : Nat) (h : k < (pk x l).length) : (pk x l)[k].ID = x + k := by
  induction l generalizing x k with
  | nil => simp [pk] at h
  | cons m l ih =>
    cases k with
    | zero => simp [pk]
    | succ k =>
      simp only [pk, List.length_cons] at h
      have := ih (x + 1) k (by omega)
      simp only [pk, List.getElem_cons_succ, this]
      omega
/-- A network with m packets, each without content. -/
def nFull (m : Nat) : network_Network := ⟨1 + m, pk 1 (List.replicate m noMsg), []⟩
theorem nFull_len (m : Nat) : (nFull m).Packets.length = m := by simp [nFull, pk_length]
theorem nFull_send (m c : Nat) (h : m ≤ 4096) (hc : c ≤ 4096) : network_Send (nFull m) (List.replicate c noMsg) = some (nFull (m + min c (4096 - m))) := by
  have hl := nFull_len m
  rw [send_eq (nFull m) _ (by omega) (by simp [nFull]) (by simp only [nFull]; omega) (by simp only [nFull]; omega) (by simp; omega), hl]
  rw [List.take_replicate, List.length_replicate]
  simp only [nFull]
  rw [show List.replicate (m + min c (4096 - m)) noMsg = List.replicate m noMsg ++ List.replicate (min (4096 - m) c) noMsg by rw [List.replicate_append_replicate, Nat.min_comm], pk_app, List.length_replicate]
  congr 2
  omega
theorem full_dup (W t : Nat) (hW : W ≤ 4096) (ht : t < W) :
    network_Duplicate (nFull W) (1 + (t : Int)) = if 4096 ≤ (W : Int) then some (nFull W, 0, false) else some (nFull (W + 1), 1 + (W : Int), true) := by
  have hl := nFull_len W
  have hs : (nFull W).Sides.length ≤ 4096 := by simp [nFull]
  have hid : (nFull W).Packets[t]'(by omega) = ⟨1 + (t : Int), noMsg⟩ := by
    have h1 := pk_id 1 (List.replicate W noMsg) t (by simp [pk_length]; omega)
    have h2 : ∀ (x : Int) (l : List api_Message) (k : Nat) (h : k < (pk x l).length), (pk x l)[k].Message ∈ l := by
      intro x l
      induction l generalizing x with
      | nil => intro k h; simp [pk] at h
      | cons m l ih =>
        intro k h
        cases k with
        | zero => simp [pk]
        | succ k =>
          simp only [pk, List.length_cons] at h
          simp only [pk, List.getElem_cons_succ]
          exact List.mem_cons_of_mem _ (ih (x + 1) k (by omega))
    have h3 := h2 1 (List.replicate W noMsg) t (by simp [pk_length]; omega)
    have h4 := List.eq_of_mem_replicate h3
    have e : ∀ p : network_Packet, p.ID = 1 + (t : Int) → p.Message = noMsg → p = ⟨1 + (t : Int), noMsg⟩ := by
      rintro ⟨_, _⟩ rfl rfl
      rfl
    exact e _ h1 h4
  have hp := position_at (nFull W) t (by omega) (pk_asc' _ _) (by omega)
  rw [hid] at hp
  unfold network_Duplicate network_Find
  rw [hp]
  simp only [Option.bind_some, Bool.not_true, Bool.false_eq_true, if_false]
  rw [idx_nat (by omega), hid]
  simp only [Option.bind_some, Bool.not_true, Bool.false_eq_true, if_false, network_Duplicate.j1, hl]
  by_cases hc : 4096 ≤ (W : Int)
  · rw [if_pos (by simpa using hc), if_pos hc, clone_eq _ (by omega) hs]
    rfl
  · rw [if_neg (by simpa using hc), if_neg hc]
    have := nFull_send W 1 hW (by omega)
    rw [show List.replicate 1 noMsg = [noMsg] from rfl, show min 1 (4096 - W) = 1 by omega] at this
    rw [this]
    rfl
theorem full_j2a (y : Int) (V : Nat) (hm : minI 4096 y = (V : Int)) (h4 : 4096 ≤ (V : Int)) : eslaw34_NetworkFull.j2 y (nFull V) 0 false = some true := by
  have h5 : decide ((V : Int) < 4096) = false := decide_eq_false (by omega)
  rw [eslaw34_NetworkFull.j2, hm, nFull_len, h5, awake_eq, if_pos (show (false == false) = true from rfl), if_pos (show (!false) = true from rfl), if_pos (show ((0 : Int) == 0) = true from rfl), if_pos (beq_self_eq_true (V : Int))]
  rfl
theorem full_j2b (y : Int) (V : Nat) (hm : minI 4096 y = (V : Int)) (h4 : ¬ 4096 ≤ (V : Int)) : eslaw34_NetworkFull.j2 y (nFull (V + 1)) (1 + (V : Int)) true = some true := by
  have h5 : decide ((V : Int) < 4096) = true := decide_eq_true (by omega)
  have h6 : ((1 + (V : Int)) == (V : Int) + 1) = true := beq_iff_eq.2 (by omega)
  have h7 : (((V + 1 : Nat) : Int) == (V : Int) + 1) = true := beq_iff_eq.2 (by omega)
  rw [eslaw34_NetworkFull.j2, hm, nFull_len, h5, awake_eq]
  simp only [letV_of]
  rw [w64 (x := (V : Int) + 1) (by omega) (by omega), if_pos (show (true == true) = true from rfl), if_neg (show ¬ (!true) = true by decide), if_pos True.intro, if_pos h6, if_pos h7]
  rfl
theorem net_eta (n : network_Network) : (⟨n.Next, n.Packets, n.Sides⟩ : network_Network) = n := rfl
theorem full_true (x1 x2 : Int) : eslaw34_NetworkFull x1 x2 = some true := by
  unfold eslaw34_NetworkFull
  rw [mk_of (by omega) (by omega)]
  unfold network_New
  simp only [Option.bind_some]
  have hz : List.replicate (Int.toNat 700) (⟨0, 0, 0, ⟨0, 0⟩, 0, 0, ⟨[], []⟩, ⟨[], []⟩, false, ⟨[], []⟩, [], [], [], false⟩ : api_Message) = List.replicate 700 noMsg := congrArg (fun k => List.replicate k noMsg) (show Int.toNat 700 = 700 by decide)
  rw [hz]
  have hl := loopO_up (step := eslaw34_NetworkFull.l1 (List.replicate 700 noMsg)) (fun k => ((k : Int), (nFull (700 * k)).Next, (nFull (700 * k)).Packets, (nFull (700 * k)).Sides)) 5
    (b := ((nFull (700 * 5)).Next, (nFull (700 * 5)).Packets, (nFull (700 * 5)).Sides)) (fun k hk => ?_) ?_
  · have e : (((0 : Nat) : Int), (nFull (700 * 0)).Next, (nFull (700 * 0)).Packets, (nFull (700 * 0)).Sides) = (0, 1, [], []) := rfl
    rw [e] at hl
    rw [hl]
    simp only [Option.bind_some, eslaw34_NetworkFull.j4]
    obtain ⟨x, ex, hx0, hx1⟩ := index_pos x1 700 (by omega) (by omega)
    obtain ⟨c, hc⟩ : ∃ c : Nat, x = c := ⟨x.toNat, by omega⟩
    subst hc
    rw [ex]
    simp only [Option.bind_some]
    rw [cut_of (by omega) (by omega) (by rw [List.length_replicate]; omega)]
    simp only [Option.bind_some, Int.toNat_zero, List.drop_zero, Int.toNat_natCast, List.take_replicate]
    rw [show min c 700 = c by omega]
    have hs := nFull_send (700 * 5) c (by omega) (by omega)
    rw [net_eta, hs]
    obtain ⟨V, hV⟩ : ∃ V, 700 * 5 + min c (4096 - 700 * 5) = V := ⟨_, rfl⟩
    rw [hV]
    simp only [Option.bind_some, letV_of, nFull_len]
    rw [w64 (x := 3500 + (c : Int)) (by omega) (by omega)]
    have hm : minI 4096 (3500 + (c : Int)) = (V : Int) := by
      unfold minI
      split <;> omega
    have hnx : (nFull V).Next = 1 + (V : Int) := rfl
    rw [hm, if_neg (by simp), hnx, w64 (x := (V : Int) + 1) (by omega) (by omega)]
    simp only [eslaw34_NetworkFull.j3]
    rw [if_neg (by simp; omega), hm]
    obtain ⟨t, et, ht0, ht1⟩ := index_pos x2 V (by omega) (by omega)
    obtain ⟨d, hd⟩ : ∃ d : Nat, t = d := ⟨t.toNat, by omega⟩
    subst hd
    rw [et]
    simp only [Option.bind_some, letV_of]
    rw [w64 (x := 1 + (d : Int)) (by omega) (by omega), full_dup V d (by omega) (by omega)]
    obtain ⟨J, hJ⟩ : ∃ J, eslaw34_NetworkFull.j2 (3500 + (c : Int)) = J := ⟨_, rfl⟩
    rw [hJ]
    by_cases h4 : 4096 ≤ (V : Int)
    · rw [if_pos h4, Option.bind_some]
      have := full_j2a (3500 + (c : Int)) V hm h4
      rw [hJ] at this
      exact this
    · rw [if_neg h4, Option.bind_some]
      have := full_j2b (3500 + (c : Int)) V hm h4
      rw [hJ] at this
      exact this
  · have hs := nFull_send (700 * k) 700 (by omega) (by omega)
    simp only [eslaw34_NetworkFull.l1]
    rw [if_pos (by simp; omega), net_eta, hs]
    simp only [Option.bind_some, letV_of]
    rw [w64n (by omega), show 700 * k + min 700 (4096 - 700 * k) = 700 * (k + 1) by omega]
  · simp only [eslaw34_NetworkFull.l1]
    rw [if_neg (by simp)]
end Go.Proofs.Ytahobbichanccaa
