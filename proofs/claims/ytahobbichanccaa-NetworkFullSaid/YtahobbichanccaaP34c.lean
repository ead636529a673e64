/- The network's functions, as plain data: positions, deliveries, the fixed example. -/
import Derived.Test.YtahobbichanccaaP34b
set_option linter.unusedVariables false
set_option linter.unusedSimpArgs false
namespace Go.Proofs.Ytahobbichanccaa
open Go Go.Proofs.YtahobbichanccaaL

theorem cmp_eq (x y : Int) : cmp_Compare_int x y = some (cmpI x y) := by
  unfold cmp_Compare_int cmp_isNaN_int cmpI
  simp only [bne_self_eq_false, Option.bind_some, Bool.false_eq_true, if_false]
  by_cases h1 : x < y
  · simp [h1]
  · by_cases h2 : y < x <;> simp [h1, h2]
theorem cmpI_zero (x y : Int) : (cmpI x y == 0) = (x == y) := by
  unfold cmpI
  by_cases h1 : x < y
  · have : x ≠ y := by omega
    simp [h1, this]
  · by_cases h2 : y < x
    · have : x ≠ y := by omega
      simp [h1, h2, this]
    · have : x = y := by omega
      simp [this]
def Asc (l : List network_Packet) : Prop := l.Pairwise fun a b => a.ID < b.ID
theorem position_ex (n : network_Network) (id : Int) (h1 : n.Packets.length ≤ 4096) (ha : Asc n.Packets) :
    ∃ i : Nat, i ≤ n.Packets.length ∧ (∀ p (hp : p < n.Packets.length), p < i → n.Packets[p].ID < id) ∧ (∀ p (hp : p < n.Packets.length), i ≤ p → ¬ n.Packets[p].ID < id) ∧
      network_position n id = some ((i : Int), match n.Packets[i]? with | some p => p.ID == id | none => false) := by
  unfold network_position slices_BinarySearchFunc_int
  have key : ∃ b, loopO (slices_BinarySearchFunc_int.l1 n.Packets id (fun p : network_Packet × Int => network_position_1 p.1 p.2)) (0, (n.Packets.length : Int)) = some b ∧
      ∃ i : Nat, b = (i : Int) ∧ i ≤ n.Packets.length ∧ (∀ p (hp : p < n.Packets.length), p < i → n.Packets[p].ID < id) ∧ (∀ p (hp : p < n.Packets.length), i ≤ p → ¬ n.Packets[p].ID < id) := by
    refine loopO_mu (fun s => ∃ i j : Nat, s = ((i : Int), (j : Int)) ∧ i ≤ j ∧ j ≤ n.Packets.length ∧ (∀ p (hp : p < n.Packets.length), p < i → n.Packets[p].ID < id) ∧ (∀ p (hp : p < n.Packets.length), j ≤ p → ¬ n.Packets[p].ID < id))
      (fun s => (s.2 - s.1).toNat) ⟨0, n.Packets.length, rfl, Nat.zero_le _, Nat.le_refl _, fun p hp h => by omega, fun p hp h => by omega⟩ ?_
    rintro s ⟨i, j, rfl, hij, hj, hlo, hhi⟩
    simp only [slices_BinarySearchFunc_int.l1]
    by_cases hlt : i < j
    · left
      obtain ⟨h, hh⟩ : ∃ h : Nat, h = (i + j) / 2 := ⟨_, rfl⟩
      have e1 : IntKind.i64.wrap ((i : Int) + (j : Int)) = ((i + j : Nat) : Int) := by rw [w64 (by omega) (by omega)]; omega
      have e2 : shrI .u64 (IntKind.u64.wrap ((i + j : Nat) : Int)) 1 = (h : Int) := by rw [half_eq (by omega) (by omega), hh]; omega
      have hl : h < n.Packets.length := by omega
      rw [if_pos (by simpa using hlt), letV_of, e1, letV_of, e2, w64 (by omega) (by omega), idx_nat hl]
      simp only [Option.bind_some, network_position_1, cmp_eq]
      rw [cmpI_neg]
      by_cases hc : n.Packets[h].ID < id
      · rw [if_pos (by simpa using hc), letV_of, w64n (by omega)]
        refine ⟨_, rfl, ⟨h + 1, j, rfl, by omega, hj, fun p hp hph => ?_, hhi⟩, by omega⟩
        rcases Nat.lt_or_ge p h with h2 | h2
        · have := (List.pairwise_iff_getElem.1 ha) p h hp hl h2
          omega
        · have : p = h := by omega
          subst this
          exact hc
      · rw [if_neg (by simpa using hc)]
        refine ⟨_, rfl, ⟨i, h, rfl, by omega, by omega, hlo, fun p hp hph => ?_⟩, by omega⟩
        rcases Nat.lt_or_ge h p with h2 | h2
        · have := (List.pairwise_iff_getElem.1 ha) h p hl hp h2
          omega
        · have : p = h := by omega
          subst this
          exact hc
    · right
      rw [if_neg (by simpa using hlt)]
      have : i = j := by omega
      subst this
      exact ⟨_, rfl, i, rfl, hj, hlo, hhi⟩
  obtain ⟨b, hb, i, rfl, h2, h3, h4⟩ := key
  refine ⟨i, h2, h3, h4, ?_⟩
  rw [hb]
  simp only [Option.bind_some, slices_BinarySearchFunc_int.j2]
  by_cases hi : i < n.Packets.length
  · rw [if_pos (by simpa using hi), idx_nat hi, List.getElem?_eq_getElem hi]
    simp only [Option.bind_some, network_position_1, cmp_eq, slices_BinarySearchFunc_int.j1, cmpI_zero]
  · rw [if_neg (by simpa using hi), List.getElem?_eq_none (by omega)]
    rfl
theorem position_at (n : network_Network) (k : Nat) (h1 : n.Packets.length ≤ 4096) (ha : Asc n.Packets) (hk : k < n.Packets.length) : network_position n n.Packets[k].ID = some ((k : Int), true) := by
  obtain ⟨i, h2, h3, h4, h5⟩ := position_ex n n.Packets[k].ID h1 ha
  have : i = k := by
    rcases Nat.lt_trichotomy i k with h | h | h
    · have := (List.pairwise_iff_getElem.1 ha) i k (by omega) hk h
      exact absurd this (h4 i (by omega) (Nat.le_refl _))
    · exact h
    · have := h3 k hk h
      omega
  subst this
  rw [h5, List.getElem?_eq_getElem hk]
  simp
theorem position_none (n : network_Network) (id : Int) (h1 : n.Packets.length ≤ 4096) (ha : Asc n.Packets) (hn : ∀ p ∈ n.Packets, p.ID ≠ id) : ∃ i, network_position n id = some (i, false) := by
  obtain ⟨i, h2, h3, h4, h5⟩ := position_ex n id h1 ha
  refine ⟨i, ?_⟩
  rw [h5]
  cases hp : n.Packets[i]? with
  | none => rfl
  | some p => have := hn p (List.mem_of_getElem? hp); simp [this]
theorem remove_eq (n : network_Network) (k : Nat) (h1 : n.Packets.length ≤ 4096) (h2 : n.Sides.length ≤ 4096) (hk : k < n.Packets.length) : network_remove n (k : Int) = some ⟨n.Next, n.Packets.eraseIdx k, n.Sides⟩ := by
  unfold network_remove
  rw [clone_eq ⟨n.Next, n.Packets, n.Sides⟩ h1 h2]
  simp only [Option.bind_some, letV_of]
  rw [cut_of (by omega) (by omega) (by omega), w64n (by omega)]
  simp only [Option.bind_some]
  rw [cut_of (by omega) (by omega) (by omega)]
  simp only [Option.bind_some, Int.toNat_natCast, List.take_length, Int.toNat_zero, List.drop_zero]
  rw [app_of (by simp only [List.length_take, List.length_drop]; omega)]
  simp only [Option.bind_some, List.eraseIdx_eq_take_drop_succ]
def noMsg : api_Message := msg 0 0 0 0
theorem deliver_at (n : network_Network) (k : Nat) (h1 : n.Packets.length ≤ 4096) (h2 : n.Sides.length ≤ 4096) (ha : Asc n.Packets) (hk : k < n.Packets.length) :
    network_Deliver n n.Packets[k].ID = some (if blk n.Sides n.Packets[k].Message.From n.Packets[k].Message.To then (n, noMsg, false) else (⟨n.Next, n.Packets.eraseIdx k, n.Sides⟩, n.Packets[k].Message, true)) := by
  unfold network_Deliver
  rw [position_at n k h1 ha hk]
  simp only [Option.bind_some, Bool.not_true, Bool.false_eq_true, if_false]
  rw [idx_nat hk]
  simp only [Option.bind_some]
  rw [blocked_eq n _ _ h2]
  simp only [Option.bind_some, network_Deliver.j1]
  cases blk n.Sides n.Packets[k].Message.From n.Packets[k].Message.To with
  | true =>
    rw [if_pos rfl, if_pos rfl, clone_eq n h1 h2]
    rfl
  | false =>
    rw [if_neg (by simp), if_neg (by simp), remove_eq n k h1 h2 hk, idx_nat hk]
    rfl
theorem awake_eq : eslaw34_awake = some true := by
  unfold eslaw34_awake
  obtain ⟨m1, hm1⟩ : ∃ m, msg 1 1 2 0 = m := ⟨_, rfl⟩
  obtain ⟨m2, hm2⟩ : ∃ m, msg 2 2 3 0 = m := ⟨_, rfl⟩
  have e1 : network_Send ⟨1, [], []⟩ [msg 1 1 2 0, msg 2 2 3 0] = some ⟨3, [⟨1, msg 1 1 2 0⟩, ⟨2, msg 2 2 3 0⟩], []⟩ := by
    rw [send_eq _ _ (by simp) (by simp) (by simp) (by simp) (by simp)]
    rfl
  have e2 : partS [⟨1, 4⟩] = [⟨1, 4⟩] := by
    have : partL (partM [⟨1, 4⟩]) = [⟨1, 4⟩] := rfl
    rw [partS, this, List.mergeSort_singleton]
  have ha : Asc [⟨1, msg 1 1 2 0⟩, ⟨2, msg 2 2 3 0⟩] := by simp [Asc]
  have e3 := deliver_at ⟨3, [⟨1, msg 1 1 2 0⟩, ⟨2, msg 2 2 3 0⟩], [⟨1, 4⟩]⟩ 0 (by simp) (by simp) ha (by simp)
  have e4 := deliver_at ⟨3, [⟨1, msg 1 1 2 0⟩, ⟨2, msg 2 2 3 0⟩], [⟨1, 4⟩]⟩ 1 (by simp) (by simp) ha (by simp)
  simp only [List.getElem_cons_zero, List.getElem_cons_succ] at e3 e4
  have b1 : blk [⟨1, 4⟩] (msg 1 1 2 0).From (msg 1 1 2 0).To = true := rfl
  have b2 : blk [⟨1, 4⟩] (msg 2 2 3 0).From (msg 2 2 3 0).To = false := rfl
  rw [b1] at e3
  rw [b2] at e4
  simp only [if_true, Bool.false_eq_true, if_false] at e3 e4
  unfold network_New
  simp only [Option.bind_some]
  have e5 := partition_eq ⟨3, [⟨1, msg 1 1 2 0⟩, ⟨2, msg 2 2 3 0⟩], []⟩ [⟨1, 4⟩] (by simp) (by simp) (by simp)
  rw [e2] at e5
  have e6 := deliverable_eq ⟨3, [⟨1, msg 1 1 2 0⟩, ⟨2, msg 2 2 3 0⟩], [⟨1, 4⟩]⟩ (by simp) (by simp)
  have e7 : dlv [⟨1, 4⟩] [⟨1, msg 1 1 2 0⟩, ⟨2, msg 2 2 3 0⟩] = [2] := rfl
  simp only [e7] at e6
  have e8 := heal_eq ⟨3, [⟨1, msg 1 1 2 0⟩], [⟨1, 4⟩]⟩ (by simp) (by simp)
  have e9 := deliverable_eq ⟨3, [⟨1, msg 1 1 2 0⟩], []⟩ (by simp) (by simp)
  have e10 : dlv [] [⟨1, msg 1 1 2 0⟩] = [1] := rfl
  simp only [e10] at e9
  simp only [List.eraseIdx] at e4
  show ((network_Send ⟨1, [], []⟩ [msg 1 1 2 0, msg 2 2 3 0]).bind _) = _
  rw [e1]
  simp only [Option.bind_some, e5, e6, e3, e4]
  have k1 : (msg 2 2 3 0).Kind = 2 := rfl
  simp [idx_zero, e8, e9, eslaw34_awake.j1, k1]
end Go.Proofs.Ytahobbichanccaa
