/- The reference's functions, as plain data; purging; the partition of the reference. -/
import Derived.Test.YtahobbichanccaaP34c
set_option linter.unusedVariables false
set_option linter.unusedSimpArgs false
namespace Go.Proofs.Ytahobbichanccaa
open Go Go.Proofs.YtahobbichanccaaL

theorem refside_eq (n : network_Network) (p : Int) (h : n.Sides.length ≤ 4096) : esref36_side n p = some (sd n.Sides p) := by
  unfold esref36_side
  have key : ∃ b : Unit ⊕ Int, loopO (esref36_side.l1 n p) 0 = some b ∧ (match b with | .inl _ => 0 | .inr v => v) = sd n.Sides p := by
    refine loopO_ex (fun k s => s = (k : Int) ∧ sd n.Sides p = sd (n.Sides.drop k) p) n.Sides.length ⟨rfl, rfl⟩ (fun k s hk hI => ?_) (fun s hI => ?_)
    · obtain ⟨rfl, hI⟩ := hI
      simp only [esref36_side.l1]
      rw [if_pos (by simpa using hk), idx_nat hk]
      simp only [Option.bind_some, letV_of]
      rw [List.drop_eq_getElem_cons hk, sd] at hI
      by_cases hp : n.Sides[k].Process == p
      · rw [if_pos hp] at hI ⊢
        exact .inr ⟨_, rfl, hI.symm⟩
      · rw [if_neg hp] at hI ⊢
        exact .inl ⟨_, rfl, by rw [w64n (by omega)], hI⟩
    · obtain ⟨rfl, hI⟩ := hI
      simp only [esref36_side.l1]
      rw [if_neg (by simp)]
      refine ⟨_, rfl, ?_⟩
      rw [List.drop_length] at hI
      exact hI.symm
  obtain ⟨b, hb, hq⟩ := key
  rw [hb]
  simp only [Option.bind_some]
  cases b with
  | inl u => simp only [esref36_side.j1]; rw [← hq]
  | inr v => simp only [← hq]
theorem refblocked_eq (n : network_Network) (f t : Int) (h : n.Sides.length ≤ 4096) : esref36_Blocked n f t = some (blk n.Sides f t) := by
  unfold esref36_Blocked
  rw [refside_eq n f h, refside_eq n t h]
  rfl
theorem refdeliverable_eq (n : network_Network) (h1 : n.Packets.length ≤ 4096) (h2 : n.Sides.length ≤ 4096) : esref36_Deliverable n = some (dlv n.Sides n.Packets) := by
  unfold esref36_Deliverable
  have hl := loopO_up (step := esref36_Deliverable.l1 n) (fun k => (dlv n.Sides (n.Packets.take k), (k : Int))) n.Packets.length (b := dlv n.Sides n.Packets) ?_ ?_
  · have e : (dlv n.Sides (n.Packets.take 0), ((0 : Nat) : Int)) = ([], 0) := rfl
    rw [e] at hl
    rw [hl]
    rfl
  · intro k hk
    simp only [esref36_Deliverable.l1]
    rw [if_pos (by simpa using hk), idx_nat hk]
    simp only [Option.bind_some]
    rw [refblocked_eq n _ _ h2]
    simp only [Option.bind_some]
    rw [take_snoc hk, dlv_snoc]
    have hb := dlv_length n.Sides (n.Packets.take k)
    rw [List.length_take] at hb
    cases hbl : blk n.Sides n.Packets[k].Message.From n.Packets[k].Message.To with
    | true =>
      simp only [Bool.not_true, Bool.false_eq_true, if_false, if_true, List.append_nil, esref36_Deliverable.j2, letV_of]
      rw [w64n (by omega)]
    | false =>
      simp only [Bool.not_false, Bool.false_eq_true, if_false, if_true, esref36_Deliverable.j2, letV_of]
      rw [app_of (by simp only [List.length_cons, List.length_nil]; omega)]
      simp only [Option.bind_some]
      rw [w64n (by omega)]
  · simp only [esref36_Deliverable.l1]
    rw [if_neg (by simp), List.take_of_length_le (Nat.le_refl _)]
theorem refsend_eq (n : network_Network) (ms : List api_Message) (h1 : n.Packets.length ≤ 4096) (h2 : n.Sides.length ≤ 4096) (h3 : 0 ≤ n.Next) (h3' : n.Next ≤ 4611686018427387904) (h4 : ms.length ≤ 4611686018427387904) :
    esref36_Send n ms = some ⟨n.Next + ((ms.take (4096 - n.Packets.length)).length : Int), n.Packets ++ pk n.Next (ms.take (4096 - n.Packets.length)), n.Sides⟩ := by
  unfold esref36_Send
  rw [app_of (by simp; omega)]
  simp only [Option.bind_some]
  rw [app_of (by simp; omega)]
  simp only [Option.bind_some, List.nil_append]
  have hl := loopO_up (step := esref36_Send.l1 ms) (fun k => ((k : Int), n.Next + (k : Int), n.Packets ++ pk n.Next (ms.take k))) (ms.take (4096 - n.Packets.length)).length
    (b := (n.Next + ((ms.take (4096 - n.Packets.length)).length : Int), n.Packets ++ pk n.Next (ms.take (4096 - n.Packets.length)))) ?_ ?_
  · simp only [Int.natCast_zero, Int.add_zero, List.take_zero, pk, List.append_nil] at hl
    rw [hl]
    simp [esref36_Send.j1]
  · intro k hk
    rw [List.length_take] at hk
    have hk1 : k < ms.length := by omega
    rw [esref36_Send.l1]
    rw [if_pos (by simp; omega), esref36_Send.j2, if_pos (by simp [pk_length]; omega), idx_nat hk1]
    simp only [Option.bind_some]
    rw [app_of (by simp [pk_length]; omega)]
    simp only [Option.bind_some, letV_of]
    rw [show IntKind.i64.wrap (n.Next + (k : Int) + 1) = n.Next + ((k + 1 : Nat) : Int) from by rw [w64 (by omega) (by omega)]; omega, w64n (by omega), take_snoc hk1, pk_app, List.length_take, Nat.min_eq_left (by omega)]
    simp only [pk, List.append_assoc]
  · rw [esref36_Send.l1]
    rw [List.length_take]
    rcases Nat.lt_or_ge ms.length (4096 - n.Packets.length + 1) with h | h
    · rw [if_neg (by simp; omega), esref36_Send.j2, if_neg (by simp)]
      simp only [Option.some.injEq, Sum.inr.injEq, Prod.mk.injEq, true_and]
      rw [Nat.min_eq_right (by omega), List.take_of_length_le (Nat.le_refl _), List.take_of_length_le (by omega)]
    · rw [if_pos (by simp; omega), Nat.min_eq_left (by omega), esref36_Send.j2, if_neg (by simp [pk_length]; omega)]
/-! Find, remove. -/
theorem reffind_at (n : network_Network) (k : Nat) (h1 : n.Packets.length ≤ 4096) (ha : Asc n.Packets) (hk : k < n.Packets.length) : esref36_find n n.Packets[k].ID = some (k : Int) := by
  unfold esref36_find
  have key : ∃ b : Unit ⊕ Int, loopO (esref36_find.l1 n n.Packets[k].ID) 0 = some b ∧ b = .inr (k : Int) := by
    refine loopO_ex (fun i s => s = (i : Int) ∧ i ≤ k) n.Packets.length ⟨rfl, by omega⟩ (fun i s hi hI => ?_) (fun s hI => by omega)
    obtain ⟨rfl, hI⟩ := hI
    simp only [esref36_find.l1]
    rw [if_pos (by simpa using hi), idx_nat hi]
    simp only [Option.bind_some, letV_of]
    rcases Nat.lt_or_ge i k with h | h
    · have := (List.pairwise_iff_getElem.1 ha) i k hi hk h
      rw [if_neg (by simp; omega)]
      exact .inl ⟨_, rfl, by rw [w64n (by omega)], by omega⟩
    · have : i = k := by omega
      subst this
      rw [if_pos (by simp)]
      exact .inr ⟨_, rfl, rfl⟩
  obtain ⟨b, hb, rfl⟩ := key
  rw [hb]
  rfl
theorem reffind_none (n : network_Network) (id : Int) (h1 : n.Packets.length ≤ 4096) (hn : ∀ p ∈ n.Packets, p.ID ≠ id) : esref36_find n id = some (-1) := by
  unfold esref36_find
  have hl := loopO_up (step := esref36_find.l1 n id) (fun k => (k : Int)) n.Packets.length (b := .inl ()) (fun k hk => ?_) ?_
  · rw [show ((0 : Nat) : Int) = 0 from rfl] at hl
    rw [hl]
    rfl
  · simp only [esref36_find.l1]
    rw [if_pos (by simpa using hk), idx_nat hk]
    simp only [Option.bind_some, letV_of]
    have := hn _ (List.getElem_mem hk)
    rw [if_neg (by simpa using this), w64n (by omega)]
  · simp only [esref36_find.l1]
    rw [if_neg (by simp)]
theorem refsend_nil (n : network_Network) (h1 : n.Packets.length ≤ 4096) (h2 : n.Sides.length ≤ 4096) (h3 : 0 ≤ n.Next) (h3' : n.Next ≤ 4611686018427387904) : esref36_Send n [] = some n := by
  rw [refsend_eq n [] h1 h2 h3 h3' (by simp)]
  simp [pk]
theorem without_eq (n : network_Network) (k : Nat) (h1 : n.Packets.length ≤ 4096) (h2 : n.Sides.length ≤ 4096) (h3 : 0 ≤ n.Next) (h3' : n.Next ≤ 4611686018427387904) (hk : k < n.Packets.length) :
    esref36_without n (k : Int) = some ⟨n.Next, n.Packets.eraseIdx k, n.Sides⟩ := by
  unfold esref36_without
  rw [refsend_nil n h1 h2 h3 h3']
  simp only [Option.bind_some, letV_of]
  rw [cut_of (by omega) (by omega) (by omega), w64n (by omega)]
  simp only [Option.bind_some]
  rw [app_of (by simp only [List.length_nil, List.length_drop, List.length_take]; omega)]
  simp only [Option.bind_some]
  rw [cut_of (by omega) (by omega) (by omega)]
  simp only [Option.bind_some, Int.toNat_natCast, List.take_length, Int.toNat_zero, List.drop_zero, List.nil_append]
  rw [app_of (by simp only [List.length_take, List.length_drop]; omega)]
  simp only [Option.bind_some, List.eraseIdx_eq_take_drop_succ]
/-! Purging. -/
def keep (x : Int) (l : List network_Packet) : List network_Packet := l.filter fun p => p.Message.To != x
theorem keep_snoc (x : Int) (l : List network_Packet) (p : network_Packet) : keep x (l ++ [p]) = keep x l ++ if p.Message.To == x then [] else [p] := by
  unfold keep
  rw [List.filter_append]
  congr 1
  by_cases h : p.Message.To = x <;> simp [h]
theorem keep_length (x : Int) (l : List network_Packet) : (keep x l).length ≤ l.length := List.length_filter_le _ _
theorem refpurge_eq (n : network_Network) (x : Int) (h1 : n.Packets.length ≤ 4096) (h2 : n.Sides.length ≤ 4096) (h3 : 0 ≤ n.Next) (h3' : n.Next ≤ 4611686018427387904) : esref36_Purge n x = some ⟨n.Next, keep x n.Packets, n.Sides⟩ := by
  unfold esref36_Purge
  rw [refsend_nil n h1 h2 h3 h3']
  simp only [Option.bind_some]
  have hl := loopO_up (step := esref36_Purge.l1 n x) (fun k => ((k : Int), keep x (n.Packets.take k))) n.Packets.length (b := keep x n.Packets) (fun k hk => ?_) ?_
  · have e : (((0 : Nat) : Int), keep x (n.Packets.take 0)) = (0, []) := rfl
    rw [e] at hl
    rw [hl]
    rfl
  · simp only [esref36_Purge.l1]
    rw [if_pos (by simpa using hk), idx_nat hk]
    simp only [Option.bind_some, esref36_Purge.j2, letV_of]
    rw [take_snoc hk, keep_snoc, w64n (by omega)]
    have hb := keep_length x (n.Packets.take k)
    rw [List.length_take] at hb
    by_cases h : n.Packets[k].Message.To = x
    · simp [h]
    · rw [if_pos (by simpa using h), if_neg (by simpa using h), app_of (by simp only [List.length_cons, List.length_nil]; omega)]
      rfl
  · simp only [esref36_Purge.l1]
    rw [if_neg (by simp), List.take_of_length_le (Nat.le_refl _)]
theorem indexf_eq (l : List network_Packet) (x : Int) (h1 : l.length ≤ 4096) :
    (slices_IndexFunc_Packet l (fun p => network_Purge_1 p x) = some (-1) ∧ keep x l = l) ∨ ∃ k : Nat, ∃ hk : k < l.length, slices_IndexFunc_Packet l (fun p => network_Purge_1 p x) = some (k : Int) ∧ keep x (l.take (k + 1)) = l.take k := by
  unfold slices_IndexFunc_Packet
  have key : ∃ b : Unit ⊕ Int, loopO (slices_IndexFunc_Packet.l1 l fun p => network_Purge_1 p x) 0 = some b ∧ ((b = .inl () ∧ keep x l = l) ∨ ∃ k : Nat, ∃ hk : k < l.length, b = .inr (k : Int) ∧ keep x (l.take (k + 1)) = l.take k) := by
    refine loopO_ex (fun k s => s = (k : Int) ∧ keep x (l.take k) = l.take k) l.length ⟨rfl, rfl⟩ (fun k s hk hI => ?_) (fun s hI => ?_)
    · obtain ⟨rfl, hI⟩ := hI
      simp only [slices_IndexFunc_Packet.l1]
      rw [if_pos (by simpa using hk), idx_nat hk]
      simp only [Option.bind_some, letV_of, network_Purge_1]
      by_cases h : l[k].Message.To = x
      · rw [if_pos (by simpa using h)]
        refine .inr ⟨_, rfl, .inr ⟨k, hk, rfl, ?_⟩⟩
        rw [take_snoc hk, keep_snoc, hI, if_pos (by simpa using h), List.append_nil]
      · rw [if_neg (by simpa using h)]
        refine .inl ⟨_, rfl, by rw [w64n (by omega)], ?_⟩
        rw [take_snoc hk, keep_snoc, hI, if_neg (by simpa using h)]
    · obtain ⟨rfl, hI⟩ := hI
      simp only [slices_IndexFunc_Packet.l1]
      rw [if_neg (by simp)]
      rw [List.take_length] at hI
      exact ⟨_, rfl, .inl ⟨rfl, hI⟩⟩
  obtain ⟨b, hb, ⟨rfl, h2⟩ | ⟨k, hk, rfl, h2⟩⟩ := key
  · left
    rw [hb]
    exact ⟨rfl, h2⟩
  · right
    rw [hb]
    exact ⟨k, hk, rfl, h2⟩
theorem deletef_eq (l : List network_Packet) (x : Int) (h1 : l.length ≤ 4096) : slices_DeleteFunc_Packet l (fun p => network_Purge_1 p x) = some (keep x l) := by
  unfold slices_DeleteFunc_Packet
  rcases indexf_eq l x h1 with ⟨h, h2⟩ | ⟨k, hk, h, h2⟩
  · rw [h]
    simp only [Option.bind_some]
    rw [if_pos (by decide), h2]
  · rw [h]
    simp only [Option.bind_some, letV_of]
    rw [if_neg (by simp), w64n (by omega)]
    have key : ∃ b, loopO (slices_DeleteFunc_Packet.l1 fun p => network_Purge_1 p x) (l, (k : Int), ((k + 1 : Nat) : Int)) = some b ∧ (b.1.length = l.length ∧ b.2 = ((keep x l).length : Int) ∧ b.1.take (keep x l).length = keep x l) := by
      refine loopO_inv (fun i s => ∃ cur, s = (cur, ((keep x (l.take (k + 1 + i))).length : Int), ((k + 1 + i : Nat) : Int)) ∧ cur.length = l.length ∧ cur.drop (k + 1 + i) = l.drop (k + 1 + i) ∧ cur.take (keep x (l.take (k + 1 + i))).length = keep x (l.take (k + 1 + i)))
        (l.length - (k + 1)) ⟨l, ?_, rfl, rfl, ?_⟩ (fun i s hi hI => ?_) (fun s hI => ?_)
      · rw [Nat.add_zero, h2, List.length_take, Nat.min_eq_left (by omega)]
      · rw [Nat.add_zero, h2, List.length_take, Nat.min_eq_left (by omega)]
      · obtain ⟨cur, rfl, hl, hd, ht⟩ := hI
        have hi' : k + 1 + i < l.length := by omega
        have hc : cur[k + 1 + i]'(by omega) = l[k + 1 + i] := by
          rw [List.drop_eq_getElem_cons (by omega), List.drop_eq_getElem_cons hi'] at hd
          exact (List.cons.inj hd).1
        have hw := keep_length x (l.take (k + 1 + i))
        rw [List.length_take, Nat.min_eq_left (by omega)] at hw
        simp only [slices_DeleteFunc_Packet.l1]
        rw [if_pos (by simp; omega), idx_nat (show k + 1 + i < cur.length by omega), hc]
        simp only [Option.bind_some, letV_of, network_Purge_1, slices_DeleteFunc_Packet.j2]
        have e1 : IntKind.i64.wrap (((k + 1 + i : Nat) : Int) + 1) = ((k + 1 + (i + 1) : Nat) : Int) := w64n (by omega)
        have hd' : cur.drop (k + 1 + (i + 1)) = l.drop (k + 1 + (i + 1)) := by
          rw [List.drop_eq_getElem_cons (by omega), List.drop_eq_getElem_cons hi'] at hd
          exact (List.cons.inj hd).2
        have ek : keep x (l.take (k + 1 + (i + 1))) = keep x (l.take (k + 1 + i)) ++ if l[k + 1 + i].Message.To == x then [] else [l[k + 1 + i]] := by
          rw [show k + 1 + (i + 1) = (k + 1 + i) + 1 from rfl, take_snoc hi', keep_snoc]
        by_cases hm : l[k + 1 + i].Message.To = x
        · rw [if_neg (by simpa using hm), e1]
          rw [if_pos (by simpa using hm), List.append_nil] at ek
          rw [ek]
          exact ⟨_, rfl, cur, rfl, hl, hd', ht⟩
        · rw [if_pos (by simpa using hm), idx_nat (show (keep x (l.take (k + 1 + i))).length < cur.length by omega), e1]
          rw [if_neg (by simpa using hm)] at ek
          simp only [Option.bind_some, Int.toNat_natCast]
          rw [w64n (by omega), ek]
          refine ⟨_, rfl, _, by rw [List.length_append]; rfl, by rw [List.length_set]; exact hl, ?_, ?_⟩
          · rw [List.drop_set_of_lt (by omega)]
            exact hd'
          · rw [List.length_append, List.length_singleton, List.take_succ_eq_append_getElem (by rw [List.length_set]; omega), List.take_set_of_le (Nat.le_refl _), ht, List.getElem_set_self]
      · obtain ⟨cur, rfl, hl, hd, ht⟩ := hI
        rw [show k + 1 + (l.length - (k + 1)) = l.length by omega, List.take_length] at *
        simp only [slices_DeleteFunc_Packet.l1]
        rw [if_neg (by simp; omega)]
        exact ⟨_, rfl, hl, rfl, ht⟩
    obtain ⟨⟨cur, w⟩, hb, hl, hw, ht⟩ := key
    simp only at hl hw ht
    subst hw
    rw [hb]
    have hkl := keep_length x l
    simp only [Option.bind_some, slices_DeleteFunc_Packet.j1]
    rw [if_pos (by omega)]
    unfold clr
    rw [if_pos (by omega)]
    simp only [Option.bind_some, Int.toNat_natCast]
    rw [cut_of (by omega) (by omega) (by simp only [List.length_append, List.length_take]; omega)]
    simp only [Option.bind_some, Int.toNat_natCast, Int.toNat_zero, List.drop_zero]
    rw [List.take_append_of_le_length (by rw [List.length_take]; omega), List.take_take, Nat.min_self, ht]
theorem purge_eq (n : network_Network) (x : Int) (h1 : n.Packets.length ≤ 4096) (h2 : n.Sides.length ≤ 4096) : network_Purge n x = some ⟨n.Next, keep x n.Packets, n.Sides⟩ := by
  unfold network_Purge
  rw [clone_eq ⟨n.Next, n.Packets, n.Sides⟩ h1 h2]
  simp only [Option.bind_some]
  rw [deletef_eq _ x h1]
  rfl
end Go.Proofs.Ytahobbichanccaa
