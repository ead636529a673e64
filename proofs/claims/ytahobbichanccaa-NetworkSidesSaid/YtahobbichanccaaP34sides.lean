/- NetworkSides, as plain data: true for every input. -/
import Derived.Test.YtahobbichanccaaP34c
set_option linter.unusedVariables false
set_option linter.unusedSimpArgs false
namespace Go.Proofs.Ytahobbichanccaa
open Go Go.Proofs.YtahobbichanccaaL

theorem pk_id (x : Int) (l : List api_Message) (k : Nat) (h : k < (pk x l).length) : (pk x l)[k].ID = x + k := by
  induction l generalizing x k with
  | nil => simp [pk] at h
  | cons m l ih =>
    cases k with
    | zero => simp [pk]
    | succ k =>
      simp only [pk, List.getElem_cons_succ]
      rw [ih]
      omega
theorem pk_msg (x : Int) (l : List api_Message) (h : ∀ m ∈ l, IsMsg m) : ∀ p ∈ pk x l, IsMsg p.Message := by
  induction l generalizing x with
  | nil => simp [pk]
  | cons m l ih =>
    intro p hp
    simp only [pk, List.mem_cons] at hp
    rcases hp with rfl | hp
    · exact h m (by simp)
    · exact ih (x + 1) (fun m hm => h m (by simp [hm])) p hp
theorem dlv_app (S : List network_Side) (l k : List network_Packet) : dlv S (l ++ k) = dlv S l ++ dlv S k := by
  unfold dlv
  rw [List.filter_append, List.map_append]
theorem dlv_cons (S : List network_Side) (p : network_Packet) (l : List network_Packet) : dlv S (p :: l) = if blk S p.Message.From p.Message.To then dlv S l else p.ID :: dlv S l := by
  unfold dlv
  rw [List.filter_cons]
  cases blk S p.Message.From p.Message.To <;> rfl
/-- What is delivered stands in the order of the packets: the walk over both finds each. -/
theorem walk_sides (S : List network_Side) (l : List network_Packet) (hid : ∀ i j (hi : i < l.length) (hj : j < l.length), i ≠ j → l[i].ID ≠ l[j].ID) (k : Nat) (hk : k < l.length) :
    (match (dlv S l)[(dlv S (l.take k)).length]? with | some x => x == l[k].ID | none => false) = !blk S l[k].Message.From l[k].Message.To := by
  have hsplit : l = l.take k ++ l[k] :: l.drop (k + 1) := by rw [← List.drop_eq_getElem_cons hk, List.take_append_drop]
  have hd : dlv S l = dlv S (l.take k) ++ dlv S (l[k] :: l.drop (k + 1)) := by
    conv => lhs; rw [hsplit]
    rw [dlv_app]
  rw [hd, List.getElem?_append_right (Nat.le_refl _), Nat.sub_self]
  cases hb : blk S l[k].Message.From l[k].Message.To with
  | false =>
    rw [dlv_cons, hb]
    simp
  | true =>
    rw [dlv_cons, hb, if_pos rfl]
    cases hx : (dlv S (l.drop (k + 1)))[0]? with
    | none => rfl
    | some x =>
      have hm := List.mem_of_getElem? hx
      unfold dlv at hm
      obtain ⟨p, hp, rfl⟩ := List.mem_map.1 hm
      have hp2 := (List.mem_filter.1 hp).1
      obtain ⟨j, hj, rfl⟩ := List.mem_iff_getElem.1 hp2
      rw [List.getElem_drop]
      rw [List.length_drop] at hj
      have := hid (k + 1 + j) k (by omega) hk (by omega)
      simpa using this
theorem sides_true (acts : List elasticstorelaw34_Act) (sides : List network_Side) (a b : Int) : eslaw34_NetworkSides acts sides a b = some true := by
  unfold eslaw34_NetworkSides
  have haw : ∀ x, x = true → eslaw34_NetworkSides.j7 acts sides a b x = some true := by
    rintro x rfl
    simp [eslaw34_NetworkSides.j7, awake_eq]
  by_cases h30 : 30 < (acts.length : Int)
  · rw [if_pos (by simpa using h30)]
    exact haw _ rfl
  rw [if_neg (by simpa using h30)]
  by_cases h10 : 10 < (sides.length : Int)
  · exact haw _ (by simpa using h10)
  have hA : acts.length ≤ 30 := by omega
  have hS : sides.length ≤ 10 := by omega
  rw [show decide (10 < (sides.length : Int)) = false by simpa using h10]
  simp only [eslaw34_NetworkSides.j7, network_New, Option.bind_some, Bool.false_eq_true, if_false]
  -- the messages
  have key : ∃ b, loopO (eslaw34_NetworkSides.l2 acts) (0, 1, [], []) = some b ∧ ∃ ms : List api_Message, ms.length ≤ 3 * acts.length ∧ (∀ m ∈ ms, IsMsg m) ∧ b = (1 + (ms.length : Int), pk 1 ms, []) := by
    refine loopO_inv (fun k s => ∃ ms : List api_Message, ms.length ≤ 3 * k ∧ (∀ m ∈ ms, IsMsg m) ∧ s = ((k : Int), 1 + (ms.length : Int), pk 1 ms, [])) acts.length ⟨[], by simp, by simp, rfl⟩ (fun k s hk hI => ?_) (fun s hI => ?_)
    · obtain ⟨ms, h1, h2, rfl⟩ := hI
      obtain ⟨l, e1, e2, e3⟩ := messages_ex acts[k]
      simp only [eslaw34_NetworkSides.l2]
      rw [if_pos (by simpa using hk), idx_nat hk]
      simp only [Option.bind_some, e1]
      rw [send_eq _ _ (by simp [pk_length]; omega) (by simp) (by simp only []; omega) (by simp only []; omega) (by omega)]
      simp only [Option.bind_some, letV_of, pk_length]
      rw [List.take_of_length_le (by omega)]
      refine ⟨_, rfl, ms ++ l, by simp; omega, fun m hm => ?_, ?_⟩
      · rcases List.mem_append.1 hm with h | h
        · exact h2 m h
        · exact e3 m h
      · rw [w64n (by omega), pk_app, List.length_append]
        simp only [Prod.mk.injEq, true_and, and_true]
        omega
    · obtain ⟨ms, h1, h2, rfl⟩ := hI
      simp only [eslaw34_NetworkSides.l2]
      rw [if_neg (by simp)]
      exact ⟨_, rfl, ms, h1, h2, rfl⟩
  obtain ⟨_, hb, ms, hms, hmsg, rfl⟩ := key
  rw [hb]
  simp only [Option.bind_some, eslaw34_NetworkSides.j6]
  have hpl := pk_length 1 ms
  have hSl := partS_length sides
  rw [partition_eq _ sides (by simp only [hpl]; omega) (by simp) (by omega)]
  simp only [Option.bind_some]
  rw [blocked_eq _ a b (by simp only []; omega), blocked_eq _ b a (by simp only []; omega)]
  simp only [Option.bind_some]
  have hsym : blk (partS sides) a b = blk (partS sides) b a := by unfold blk; exact bne_comm
  rw [hsym, if_neg (by simp), blocked_eq _ a a (by simp only []; omega)]
  have hself : blk (partS sides) a a = false := by simp [blk]
  simp only [Option.bind_some, hself, eslaw34_NetworkSides.j5, Bool.false_eq_true, if_false]
  rw [deliverable_eq _ (by simp only [hpl]; omega) (by simp only []; omega)]
  simp only [Option.bind_some]
  have hid : ∀ i j (hi : i < (pk 1 ms).length) (hj : j < (pk 1 ms).length), i ≠ j → (pk 1 ms)[i].ID ≠ (pk 1 ms)[j].ID := by
    intro i j hi hj hij
    rw [pk_id, pk_id]
    omega
  have hdl := dlv_length (partS sides) (pk 1 ms)
  have hl := loopO_up (step := eslaw34_NetworkSides.l1 ⟨1 + (ms.length : Int), pk 1 ms, partS sides⟩ (dlv (partS sides) (pk 1 ms))) (fun k => (((dlv (partS sides) ((pk 1 ms).take k)).length : Int), (k : Int))) (pk 1 ms).length (b := .inl ((dlv (partS sides) (pk 1 ms)).length : Int)) (fun k hk => ?_) ?_
  · have e : (((dlv (partS sides) ((pk 1 ms).take 0)).length : Int), ((0 : Nat) : Int)) = (0, 0) := rfl
    rw [e] at hl
    rw [hl]
    simp only [Option.bind_some, eslaw34_NetworkSides.j2]
    rw [heal_eq _ (by simp only [hpl]; omega) (by simp only []; omega)]
    simp only [Option.bind_some]
    rw [if_pos (by simp), deliverable_eq _ (by simp only [hpl]; omega) (by simp)]
    have hall : dlv [] (pk 1 ms) = (pk 1 ms).map (·.ID) := by
      unfold dlv
      rw [List.filter_eq_self.2]
      intro p _
      simp [blk, sd]
    simp only [Option.bind_some, hall, List.length_map]
    rw [if_pos (by simp), equal_refl _ (by simp only [hpl]; omega) (by simp) (pk_msg 1 ms hmsg)]
    simp [awake_eq, eslaw34_NetworkSides.j1]
  · have hw := walk_sides (partS sides) (pk 1 ms) hid k hk
    have hdk := dlv_length (partS sides) ((pk 1 ms).take k)
    rw [List.length_take] at hdk
    have hsn := dlv_snoc (partS sides) ((pk 1 ms).take k) (pk 1 ms)[k]
    rw [← take_snoc hk] at hsn
    simp only [eslaw34_NetworkSides.l1]
    rw [if_pos (by simpa using hk), idx_nat hk]
    simp only [Option.bind_some]
    have fin : ∀ x : Bool, x = !blk (partS sides) (pk 1 ms)[k].Message.From (pk 1 ms)[k].Message.To →
        eslaw34_NetworkSides.j4 ⟨1 + (ms.length : Int), pk 1 ms, partS sides⟩ ((dlv (partS sides) ((pk 1 ms).take k)).length : Int) (k : Int) (pk 1 ms)[k] x =
          some (.inl (((dlv (partS sides) ((pk 1 ms).take (k + 1))).length : Int), ((k + 1 : Nat) : Int))) := by
      intro x hx
      simp only [eslaw34_NetworkSides.j4]
      rw [blocked_eq _ _ _ (by simp only []; omega)]
      simp only [Option.bind_some]
      rw [hsn, hx]
      cases hbk : blk (partS sides) (pk 1 ms)[k].Message.From (pk 1 ms)[k].Message.To with
      | true =>
        simp only [Bool.not_true, eslaw34_NetworkSides.j3, letV_of]
        rw [if_neg (by simp), if_neg (by simp), w64n (by omega)]
        simp
      | false =>
        simp only [Bool.not_false, eslaw34_NetworkSides.j3, letV_of]
        rw [if_neg (by simp), if_pos trivial, w64n (by omega), w64n (by omega)]
        simp
    by_cases hlt : (dlv (partS sides) ((pk 1 ms).take k)).length < (dlv (partS sides) (pk 1 ms)).length
    · rw [if_pos (by simpa using hlt), idx_nat hlt]
      simp only [Option.bind_some]
      rw [List.getElem?_eq_getElem hlt] at hw
      exact fin _ hw
    · rw [if_neg (by simpa using hlt)]
      rw [List.getElem?_eq_none (by omega)] at hw
      exact fin _ hw
  · simp only [eslaw34_NetworkSides.l1]
    rw [if_neg (by simp), List.take_of_length_le (Nat.le_refl _)]
end Go.Proofs.Ytahobbichanccaa
