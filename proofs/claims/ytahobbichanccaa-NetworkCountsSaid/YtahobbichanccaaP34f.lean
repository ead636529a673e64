/- One step of both networks; the plays. -/
import Derived.Test.YtahobbichanccaaP34e
set_option linter.unusedVariables false
set_option linter.unusedSimpArgs false
set_option linter.unusedSectionVars false
namespace Go.Proofs.Ytahobbichanccaa
open Go Go.Proofs.YtahobbichanccaaL

/-- A network as the laws build it, after some steps. -/
structure Inv (b : Nat) (n : network_Network) : Prop where
  asc : Asc n.Packets
  ids : ∀ p ∈ n.Packets, 1 ≤ p.ID ∧ p.ID < n.Next
  msgs : ∀ p ∈ n.Packets, IsMsg p.Message
  few : n.Packets.length ≤ 3 * b
  len : n.Packets.length ≤ 4096
  sides : n.Sides.length ≤ 4096
  pos : 1 ≤ n.Next
  top : n.Next ≤ 1 + 3 * (b : Int)
theorem Inv.mono {b c : Nat} {n : network_Network} (h : Inv b n) (hbc : b ≤ c) : Inv c n := { h with top := by have := h.top; omega, few := by have := h.few; omega }
theorem Inv.sub {b : Nat} {n : network_Network} {l : List network_Packet} (h : Inv b n) (hl : l.Sublist n.Packets) : Inv b ⟨n.Next, l, n.Sides⟩ where
  asc := List.Pairwise.sublist hl h.asc
  ids p hp := h.ids p (hl.subset hp)
  msgs p hp := h.msgs p (hl.subset hp)
  few := Nat.le_trans hl.length_le h.few
  len := Nat.le_trans hl.length_le h.len
  sides := h.sides
  pos := h.pos
  top := h.top
theorem Inv.withSides {b : Nat} {n : network_Network} {s : List network_Side} (h : Inv b n) (hs : s.length ≤ 4096) : Inv b ⟨n.Next, n.Packets, s⟩ := ⟨h.asc, h.ids, h.msgs, h.few, h.len, hs, h.pos, h.top⟩
theorem pk_mem {x : Int} {l : List api_Message} {p : network_Packet} (h : p ∈ pk x l) : x ≤ p.ID ∧ p.ID < x + l.length ∧ p.Message ∈ l := by
  induction l generalizing x with
  | nil => cases h
  | cons m l ih =>
    simp only [pk, List.mem_cons] at h
    rcases h with rfl | h
    · simp only [List.length_cons, List.mem_cons, true_or, and_true]
      omega
    · obtain ⟨h1, h2, h3⟩ := ih h
      simp only [List.length_cons]
      exact ⟨by omega, by omega, .tail _ h3⟩
theorem pk_asc (x : Int) (l : List api_Message) : Asc (pk x l) := by
  induction l generalizing x with
  | nil => exact List.Pairwise.nil
  | cons m l ih =>
    refine List.Pairwise.cons (fun p hp => ?_) (ih (x + 1))
    have := (pk_mem hp).1
    show x < p.ID
    omega
theorem Inv.send {b : Nat} {n : network_Network} (h : Inv b n) {l : List api_Message} (hl : l.length ≤ 3) (hm : ∀ m ∈ l, IsMsg m) (hc : n.Packets.length + l.length ≤ 4096) : Inv (b + 1) ⟨n.Next + (l.length : Int), n.Packets ++ pk n.Next l, n.Sides⟩ where
  asc := by
    refine List.pairwise_append.2 ⟨h.asc, pk_asc _ _, fun p hp q hq => ?_⟩
    have := (h.ids p hp).2
    have := (pk_mem hq).1
    omega
  ids p hp := by
    have := h.pos
    simp only at hp ⊢
    rcases List.mem_append.1 hp with hp | hp
    · have := h.ids p hp
      omega
    · have := pk_mem hp
      omega
  msgs p hp := by
    rcases List.mem_append.1 hp with hp | hp
    · exact h.msgs p hp
    · exact hm _ (pk_mem hp).2.2
  few := by have := h.few; simp only [List.length_append, pk_length]; omega
  len := by simp only [List.length_append, pk_length]; omega
  sides := h.sides
  pos := by have := h.pos; simp only; omega
  top := by have := h.top; simp only; omega
theorem id_cases (n : network_Network) (id : Int) : (∃ k, ∃ hk : k < n.Packets.length, n.Packets[k].ID = id) ∨ ∀ p ∈ n.Packets, p.ID ≠ id := by
  by_cases h : ∃ p ∈ n.Packets, p.ID = id
  · obtain ⟨p, hp, e⟩ := h
    obtain ⟨k, hk, rfl⟩ := List.getElem_of_mem hp
    exact .inl ⟨k, hk, e⟩
  · exact .inr fun p hp e => h ⟨p, hp, e⟩
theorem isMsg_noMsg : IsMsg noMsg := ⟨0, 0, 0, 0, rfl⟩
/-- What a step keeps and adds. -/
structure Ext (n n' : network_Network) : Prop where
  le : n.Next ≤ n'.Next
  old : ∀ p ∈ n'.Packets, (∃ q ∈ n.Packets, q.ID = p.ID) ∨ n.Next ≤ p.ID
  new : ∀ i, n.Next ≤ i → i < n'.Next → ∃ p ∈ n'.Packets, p.ID = i
theorem Ext.refl (n : network_Network) : Ext n n := ⟨Int.le_refl _, fun p hp => .inl ⟨p, hp, rfl⟩, fun i h1 h2 => by omega⟩
theorem Ext.sub {n : network_Network} {l : List network_Packet} {s : List network_Side} (h : l.Sublist n.Packets) : Ext n ⟨n.Next, l, s⟩ := ⟨Int.le_refl _, fun p hp => .inl ⟨p, h.subset hp, rfl⟩, fun i h1 h2 => by simp only at h2; omega⟩
theorem pk_new (x i : Int) (l : List api_Message) (h1 : x ≤ i) (h2 : i < x + l.length) : ∃ p ∈ pk x l, p.ID = i := by
  induction l generalizing x with
  | nil => simp at h2; omega
  | cons m l ih =>
    simp only [List.length_cons] at h2
    by_cases h : x = i
    · exact ⟨⟨x, m⟩, List.mem_cons_self, h⟩
    · obtain ⟨p, hp, e⟩ := ih (x + 1) (by omega) (by omega)
      exact ⟨p, List.mem_cons_of_mem _ hp, e⟩
theorem Ext.send {n : network_Network} (l : List api_Message) : Ext n ⟨n.Next + (l.length : Int), n.Packets ++ pk n.Next l, n.Sides⟩ where
  le := by simp only; omega
  old p hp := by
    rcases List.mem_append.1 hp with hp | hp
    · exact .inl ⟨p, hp, rfl⟩
    · exact .inr (pk_mem hp).1
  new i h1 h2 := by
    obtain ⟨p, hp, e⟩ := pk_new n.Next i l h1 h2
    exact ⟨p, List.mem_append_right _ hp, e⟩
section
variable {b : Nat} {n : network_Network} (h : Inv b n) (hb : b ≤ 1000)
include h hb
theorem Inv.next : 0 ≤ n.Next ∧ n.Next ≤ 4611686018427387904 := by
  have := h.pos
  have := h.top
  omega
theorem deliver_both (id : Int) : ∃ n' m c, network_Deliver n id = some (n', m, c) ∧ esref36_Deliver n id = some (n', m, c) ∧ Inv b n' ∧ IsMsg m ∧ Ext n n' := by
  obtain ⟨hn, hn'⟩ := h.next hb
  rcases id_cases n id with ⟨k, hk, rfl⟩ | hno
  · have e1 := deliver_at n k h.len h.sides h.asc hk
    have e2 : esref36_Deliver n n.Packets[k].ID = some (if blk n.Sides n.Packets[k].Message.From n.Packets[k].Message.To then (n, noMsg, false) else (⟨n.Next, n.Packets.eraseIdx k, n.Sides⟩, n.Packets[k].Message, true)) := by
      unfold esref36_Deliver
      rw [reffind_at n k h.len h.asc hk]
      simp only [Option.bind_some]
      rw [if_neg (by simp), idx_nat hk]
      simp only [Option.bind_some]
      rw [refblocked_eq n _ _ h.sides]
      simp only [Option.bind_some, esref36_Deliver.j1]
      cases blk n.Sides n.Packets[k].Message.From n.Packets[k].Message.To with
      | true => rfl
      | false =>
        rw [if_neg (by simp), if_neg (by simp), without_eq n k h.len h.sides hn hn' hk, idx_nat hk]
        rfl
    rw [e1, e2]
    cases blk n.Sides n.Packets[k].Message.From n.Packets[k].Message.To with
    | true => exact ⟨n, noMsg, false, rfl, rfl, h, isMsg_noMsg, Ext.refl n⟩
    | false => exact ⟨_, _, true, rfl, rfl, h.sub (List.eraseIdx_sublist ..), h.msgs _ (List.getElem_mem hk), Ext.sub (List.eraseIdx_sublist ..)⟩
  · refine ⟨n, noMsg, false, ?_, ?_, h, isMsg_noMsg, Ext.refl n⟩
    · unfold network_Deliver
      obtain ⟨i, hi⟩ := position_none n id h.len h.asc hno
      rw [hi]
      simp only [Option.bind_some, Bool.not_false, if_true, network_Deliver.j1]
      rw [clone_eq n h.len h.sides]
      rfl
    · unfold esref36_Deliver
      rw [reffind_none n id h.len hno]
      rfl
theorem drop_both (id : Int) : ∃ n' c, network_Drop n id = some (n', c) ∧ esref36_Drop n id = some (n', c) ∧ Inv b n' ∧ Ext n n' := by
  obtain ⟨hn, hn'⟩ := h.next hb
  rcases id_cases n id with ⟨k, hk, rfl⟩ | hno
  · refine ⟨⟨n.Next, n.Packets.eraseIdx k, n.Sides⟩, true, ?_, ?_, h.sub (List.eraseIdx_sublist ..), Ext.sub (List.eraseIdx_sublist ..)⟩
    · unfold network_Drop
      rw [position_at n k h.len h.asc hk]
      simp only [Option.bind_some, Bool.not_true, Bool.false_eq_true, if_false]
      rw [remove_eq n k h.len h.sides hk]
      rfl
    · unfold esref36_Drop
      rw [reffind_at n k h.len h.asc hk]
      simp only [Option.bind_some]
      rw [if_neg (by simp), without_eq n k h.len h.sides hn hn' hk]
      rfl
  · refine ⟨n, false, ?_, ?_, h, Ext.refl n⟩
    · unfold network_Drop
      obtain ⟨i, hi⟩ := position_none n id h.len h.asc hno
      rw [hi]
      simp only [Option.bind_some, Bool.not_false, if_true]
      rw [clone_eq n h.len h.sides]
      rfl
    · unfold esref36_Drop
      rw [reffind_none n id h.len hno]
      rfl
theorem find_both (id : Int) : ∃ m c, network_Find n id = some (m, c) ∧ esref36_Find n id = some (m, c) ∧ IsMsg m := by
  rcases id_cases n id with ⟨k, hk, rfl⟩ | hno
  · refine ⟨n.Packets[k].Message, true, ?_, ?_, h.msgs _ (List.getElem_mem hk)⟩
    · unfold network_Find
      rw [position_at n k h.len h.asc hk]
      simp only [Option.bind_some, Bool.not_true, Bool.false_eq_true, if_false]
      rw [idx_nat hk]
      rfl
    · unfold esref36_Find
      rw [reffind_at n k h.len h.asc hk]
      simp only [Option.bind_some]
      rw [if_pos (by simp), idx_nat hk]
      rfl
  · refine ⟨noMsg, false, ?_, ?_, isMsg_noMsg⟩
    · unfold network_Find
      obtain ⟨i, hi⟩ := position_none n id h.len h.asc hno
      rw [hi]
      rfl
    · unfold esref36_Find
      rw [reffind_none n id h.len hno]
      rfl
theorem duplicate_both (id : Int) : ∃ n' i c, network_Duplicate n id = some (n', i, c) ∧ esref36_Duplicate n id = some (n', i, c) ∧ Inv (b + 1) n' ∧ Ext n n' := by
  obtain ⟨hn, hn'⟩ := h.next hb
  have hc : n.Packets.length < 4096 := by have := h.few; omega
  rcases id_cases n id with ⟨k, hk, rfl⟩ | hno
  · have hcap : ¬ (4096 ≤ (n.Packets.length : Int)) := by omega
    refine ⟨⟨n.Next + 1, n.Packets ++ pk n.Next [n.Packets[k].Message], n.Sides⟩, n.Next, true, ?_, ?_, ?_, Ext.send [n.Packets[k].Message]⟩
    · unfold network_Duplicate network_Find
      rw [position_at n k h.len h.asc hk]
      simp only [Option.bind_some, Bool.not_true, Bool.false_eq_true, if_false]
      rw [idx_nat hk]
      simp only [Option.bind_some, Bool.not_true, Bool.false_eq_true, if_false, network_Duplicate.j1]
      rw [if_neg (by simpa using hcap), send_eq n _ h.len h.sides hn hn' (by simp), List.take_of_length_le (by simp; omega)]
      rfl
    · unfold esref36_Duplicate
      rw [reffind_at n k h.len h.asc hk]
      simp only [Option.bind_some, esref36_Duplicate.j1]
      rw [if_neg (by simp), if_neg (by simpa using hcap), idx_nat hk]
      simp only [Option.bind_some]
      rw [refsend_eq n _ h.len h.sides hn hn' (by simp), List.take_of_length_le (by simp; omega)]
      rfl
    · exact h.send (l := [n.Packets[k].Message]) (by simp) (by simpa using h.msgs _ (List.getElem_mem hk)) (by simp; omega)
  · refine ⟨n, 0, false, ?_, ?_, h.mono (by omega), Ext.refl n⟩
    · unfold network_Duplicate network_Find
      obtain ⟨i, hi⟩ := position_none n id h.len h.asc hno
      rw [hi]
      simp only [Option.bind_some, Bool.not_false, if_true, network_Duplicate.j1]
      rw [clone_eq n h.len h.sides]
      rfl
    · unfold esref36_Duplicate
      rw [reffind_none n id h.len hno]
      rfl
end
theorem equalInts_refl (l : List Int) (h : l.length ≤ 4096) : eslaw34_equalInts l l = some true := by
  unfold eslaw34_equalInts
  rw [if_neg (by simp)]
  have hl := loopO_up (step := eslaw34_equalInts.l1 l l) (fun k => (k : Int)) l.length (b := .inl ()) (fun k hk => ?_) ?_
  · rw [show ((0 : Nat) : Int) = 0 from rfl] at hl
    rw [hl]
    rfl
  · simp only [eslaw34_equalInts.l1]
    rw [if_pos (by simpa using hk), idx_nat hk]
    simp only [Option.bind_some, letV_of]
    rw [if_neg (by simp), w64n (by omega)]
  · simp only [eslaw34_equalInts.l1]
    rw [if_neg (by simp)]
theorem minI8 (n : Nat) : 0 ≤ minI (n : Int) 8 ∧ minI (n : Int) 8 ≤ n ∧ minI (n : Int) 8 ≤ 8 := by
  unfold minI
  split <;> omega
theorem partition_both {b : Nat} {n : network_Network} (h : Inv b n) (hb : b ≤ 1000) (s : List network_Side) (hs : s.length ≤ 4096) :
    ∃ n', network_Partition n s = some n' ∧ esref36_Partition n s = some n' ∧ Inv b n' ∧ Ext n n' := by
  obtain ⟨hn, hn'⟩ := h.next hb
  exact ⟨_, partition_eq n s h.len h.sides hs, refpartition_eq n s h.len h.sides hn hn' hs, h.withSides (Nat.le_trans (partS_length s) hs), Ext.sub (List.Sublist.refl _)⟩
theorem step_both {b : Nat} {n : network_Network} (h : Inv b n) (hb : b ≤ 1000) (a : elasticstorelaw34_Act) :
    ∃ n', eslaw34_step n n a = some (n', n', true) ∧ Inv (b + 1) n' ∧ Ext n n' := by
  obtain ⟨hn, hn'⟩ := h.next hb
  have hlen := h.len
  have hfew := h.few
  have hm1 : b ≤ b + 1 := Nat.le_succ _
  unfold eslaw34_step
  obtain ⟨x, ex, hx0, hx1⟩ := index_pos a.N (maxI 2 (IntKind.i64.wrap (n.Next + 2))) (by unfold maxI; split <;> omega) (by rw [w64 (by omega) (by omega)]; unfold maxI; have := h.top; split <;> omega)
  obtain ⟨id, hid⟩ : ∃ id, IntKind.i64.wrap (x - 1) = id := ⟨_, rfl⟩
  obtain ⟨kd, ek, hk0, hk1⟩ := index_pos a.Kind 9 (by omega) (by omega)
  simp only [letV_of]
  rw [ex]
  simp only [Option.bind_some]
  rw [ek, hid]
  simp only [Option.bind_some]
  by_cases c0 : kd = 0
  · obtain ⟨n', m, c, e1, e2, hi, hm, hx⟩ := deliver_both h hb id
    rw [if_pos (by simpa using c0), e1, e2]
    simp only [Option.bind_some, beq_self_eq_true, if_true]
    rw [eqMsg_refl hm]
    exact ⟨n', rfl, hi.mono hm1, hx⟩
  rw [if_neg (by simpa using c0)]
  by_cases c1 : kd = 1
  · obtain ⟨n', c, e1, e2, hi, hx⟩ := drop_both h hb id
    rw [if_pos (by simpa using c1), e1, e2]
    exact ⟨n', by simp, hi.mono hm1, hx⟩
  rw [if_neg (by simpa using c1)]
  by_cases c2 : kd = 2
  · obtain ⟨n', i, c, e1, e2, hi, hx⟩ := duplicate_both h hb id
    rw [if_pos (by simpa using c2), e1, e2]
    exact ⟨n', by simp [eslaw34_step.j2], hi, hx⟩
  rw [if_neg (by simpa using c2)]
  by_cases c3 : kd = 3
  · obtain ⟨m0, m1, m2⟩ := minI8 a.Sides.length
    rw [if_pos (by simpa using c3), cut_of (by omega) m0 m1]
    obtain ⟨n', e1, e2, hi, hx⟩ := partition_both h hb ((a.Sides.take (minI (a.Sides.length : Int) 8).toNat).drop (Int.toNat 0)) (by simp only [List.length_drop, List.length_take]; omega)
    simp only [Option.bind_some]
    rw [e1, e2]
    exact ⟨n', rfl, hi.mono hm1, hx⟩
  rw [if_neg (by simpa using c3)]
  by_cases c4 : kd = 4
  · obtain ⟨r1, f1, _⟩ := index_pos a.N 5 (by omega) (by omega)
    obtain ⟨r2, f2, _⟩ := index_pos a.M 3 (by omega) (by omega)
    obtain ⟨r3, f3, _⟩ := index_pos a.M 5 (by omega) (by omega)
    rw [if_pos (by simpa using c4), f1, f2, f3]
    simp only [Option.bind_some, letV_of]
    obtain ⟨n', e1, e2, hi, hx⟩ := partition_both h hb [⟨IntKind.i64.wrap (1 + r1), r2⟩, ⟨IntKind.i64.wrap (1 + r3), 1⟩] (by simp)
    rw [e1, e2]
    exact ⟨n', rfl, hi.mono hm1, hx⟩
  rw [if_neg (by simpa using c4)]
  by_cases c5 : kd = 5
  · obtain ⟨n', e1, e2, hi, hx⟩ := partition_both h hb [] (by simp)
    rw [if_pos (by simpa using c5), network_Heal, e1, e2]
    exact ⟨n', rfl, hi.mono hm1, hx⟩
  rw [if_neg (by simpa using c5)]
  by_cases c6 : kd = 6
  · obtain ⟨r, f, _⟩ := index_pos a.M 5 (by omega) (by omega)
    rw [if_pos (by simpa using c6), f]
    simp only [Option.bind_some, letV_of]
    rw [purge_eq n _ h.len h.sides, refpurge_eq n _ h.len h.sides hn hn']
    exact ⟨_, rfl, (h.sub List.filter_sublist).mono hm1, Ext.sub List.filter_sublist⟩
  rw [if_neg (by simpa using c6)]
  obtain ⟨l, el, hl, hlm⟩ := messages_ex a
  have htk : l.take (4096 - n.Packets.length) = l := List.take_of_length_le (by omega)
  rw [el]
  simp only [Option.bind_some]
  rw [send_eq n l h.len h.sides hn hn' (by omega), refsend_eq n l h.len h.sides hn hn' (by omega), htk]
  exact ⟨_, rfl, h.send hl hlm (by omega), Ext.send l⟩
theorem inv0 : Inv 0 ⟨1, [], []⟩ := ⟨List.Pairwise.nil, fun p h => (by cases h), fun p h => (by cases h), by simp, by simp, by simp, by simp, by simp⟩
theorem plays_true (acts : List elasticstorelaw34_Act) : eslaw34_NetworkPlays acts = some true := by
  unfold eslaw34_NetworkPlays
  by_cases h60 : 60 < (acts.length : Int)
  · rw [if_pos (by simpa using h60), awake_eq]
    rfl
  rw [if_neg (by simpa using h60)]
  have key : ∃ b : Unit ⊕ Bool, loopO (eslaw34_NetworkPlays.l1 acts) (0, 1, [], [], 1, [], []) = some b ∧ b = .inl () := by
    refine loopO_inv (fun k s => ∃ n : network_Network, s = ((k : Int), n.Next, n.Packets, n.Sides, n.Next, n.Packets, n.Sides) ∧ Inv k n) acts.length ⟨⟨1, [], []⟩, rfl, inv0⟩ (fun k s hk hI => ?_) (fun s hI => ?_)
    · obtain ⟨n, rfl, hI⟩ := hI
      simp only [eslaw34_NetworkPlays.l1]
      rw [if_pos (by simpa using hk), idx_nat hk]
      obtain ⟨n', es, hI', hX⟩ := step_both hI (by omega) acts[k]
      simp only [Option.bind_some]
      rw [es]
      simp only [Option.bind_some, eslaw34_NetworkPlays.j4, Bool.not_true, Bool.false_eq_true, if_false]
      rw [equal_refl n' hI'.len hI'.sides hI'.msgs]
      simp only [Option.bind_some, Bool.not_true, Bool.false_eq_true, if_false]
      rw [deliverable_eq n' hI'.len hI'.sides, refdeliverable_eq n' hI'.len hI'.sides]
      simp only [Option.bind_some]
      rw [equalInts_refl _ (Nat.le_trans (dlv_length _ _) hI'.len)]
      obtain ⟨hn, hn'⟩ := hI'.next (by omega)
      have hp := hI'.pos
      have ht := hI'.top
      obtain ⟨id, eid, _⟩ := index_pos acts[k].M (IntKind.i64.wrap (n'.Next + 1)) (by rw [w64 (by omega) (by omega)]; omega) (by rw [w64 (by omega) (by omega)]; omega)
      obtain ⟨m, c, ef1, ef2, hm⟩ := find_both hI' (by omega) id
      obtain ⟨r1, f1, _⟩ := index_pos acts[k].N 7 (by omega) (by omega)
      obtain ⟨r2, f2, _⟩ := index_pos acts[k].M 7 (by omega) (by omega)
      simp only [Option.bind_some, eslaw34_NetworkPlays.j3, Bool.not_true, Bool.false_eq_true, if_false]
      rw [idx_nat hk]
      simp only [Option.bind_some, letV_of]
      rw [eid]
      simp only [Option.bind_some]
      rw [ef1, ef2]
      simp only [Option.bind_some, bne_self_eq_false, Bool.false_eq_true, if_false]
      rw [eqMsg_refl hm]
      simp only [Option.bind_some, Bool.not_true, Bool.false_eq_true, if_false]
      rw [f1, f2]
      simp only [Option.bind_some]
      rw [blocked_eq n' _ _ hI'.sides, refblocked_eq n' _ _ hI'.sides]
      simp only [Option.bind_some, bne_self_eq_false, eslaw34_NetworkPlays.j2, Bool.false_eq_true, if_false, letV_of]
      rw [w64n (by omega)]
      exact ⟨_, rfl, n', rfl, hI'⟩
    · obtain ⟨n, rfl, hI⟩ := hI
      simp only [eslaw34_NetworkPlays.l1]
      rw [if_neg (by simp)]
      exact ⟨_, rfl, rfl⟩
  obtain ⟨b, hb, rfl⟩ := key
  unfold network_New
  simp only [Option.bind_some]
  rw [hb]
  simp only [Option.bind_some, eslaw34_NetworkPlays.j1]
  rw [awake_eq]
  rfl
theorem values_true (acts more : List elasticstorelaw34_Act) : eslaw34_NetworkValues acts more = some true := by
  unfold eslaw34_NetworkValues eslaw34_NetworkValues.j4
  by_cases h30 : 30 < (acts.length : Int)
  · rw [if_pos (by simpa using h30), if_pos rfl, awake_eq]
    rfl
  rw [if_neg (by simpa using h30)]
  by_cases h20 : 20 < (more.length : Int)
  · rw [if_pos (by simpa using h20), awake_eq]
    rfl
  rw [if_neg (by simpa using h20)]
  have key : ∃ b, loopO (eslaw34_NetworkValues.l2 acts) (0, 1, [], [], 1, [], []) = some b ∧ ∃ n : network_Network, b = (n.Next, n.Packets, n.Sides, n.Next, n.Packets, n.Sides) ∧ Inv acts.length n := by
    refine loopO_inv (fun k s => ∃ n : network_Network, s = ((k : Int), n.Next, n.Packets, n.Sides, n.Next, n.Packets, n.Sides) ∧ Inv k n) acts.length ⟨⟨1, [], []⟩, rfl, inv0⟩ (fun k s hk hI => ?_) (fun s hI => ?_)
    · obtain ⟨n, rfl, hI⟩ := hI
      simp only [eslaw34_NetworkValues.l2]
      rw [if_pos (by simpa using hk), idx_nat hk]
      obtain ⟨n', es, hI', hX⟩ := step_both hI (by omega) acts[k]
      simp only [Option.bind_some]
      rw [es]
      simp only [Option.bind_some, eslaw34_NetworkValues.j3, letV_of]
      rw [w64n (by omega)]
      exact ⟨_, rfl, n', rfl, hI'⟩
    · obtain ⟨n, rfl, hI⟩ := hI
      simp only [eslaw34_NetworkValues.l2]
      rw [if_neg (by simp)]
      exact ⟨_, rfl, n, rfl, hI⟩
  obtain ⟨b, hb, n, rfl, hI⟩ := key
  unfold network_New
  simp only [Option.bind_some]
  rw [hb]
  simp only [Option.bind_some, eslaw34_NetworkValues.j2]
  have key2 : ∃ b : Unit ⊕ Bool, loopO (eslaw34_NetworkValues.l1 more n.Next n.Packets n.Sides n.Next n.Packets n.Sides) 0 = some b ∧ b = .inl () := by
    refine loopO_inv (fun k s => s = (k : Int)) more.length rfl (fun k s hk e => ?_) (fun s e => ?_)
    · subst e
      simp only [eslaw34_NetworkValues.l1]
      rw [if_pos (by simpa using hk), idx_nat hk]
      obtain ⟨n', es, hI', hX⟩ := step_both hI (by omega) more[k]
      simp only [Option.bind_some]
      rw [es]
      simp only [Option.bind_some]
      rw [equal_refl n hI.len hI.sides hI.msgs]
      simp only [Option.bind_some, Bool.not_true, Bool.false_eq_true, if_false, letV_of]
      rw [w64n (by omega)]
      exact ⟨_, rfl, rfl⟩
    · subst e
      simp only [eslaw34_NetworkValues.l1]
      rw [if_neg (by simp)]
      exact ⟨_, rfl, rfl⟩
  obtain ⟨b, hb, rfl⟩ := key2
  rw [hb]
  simp only [Option.bind_some, eslaw34_NetworkValues.j1]
  rw [awake_eq]
  rfl
end Go.Proofs.Ytahobbichanccaa
