/- The network's functions, as plain data: what each answers. -/
import Derived.Test.YtahobbichanccaaFd
import Derived.Test.YtahobbichanccaaPl
set_option linter.unusedVariables false
set_option linter.unusedSimpArgs false
namespace Go.Proofs.Ytahobbichanccaa
open Go Go.Proofs.YtahobbichanccaaL

theorem clone_eq (n : network_Network) (h1 : n.Packets.length ≤ 4096) (h2 : n.Sides.length ≤ 4096) : network_clone n = some n := by
  unfold network_clone slices_Clone_Packet slices_Clone_Side
  rw [app_of (by simp; omega), Option.bind_some, Option.bind_some, app_of (by simp; omega)]
  simp

/-! Send. -/
def pk (next : Int) : List api_Message → List network_Packet
  | [] => []
  | m :: l => ⟨next, m⟩ :: pk (next + 1) l
theorem pk_length (x : Int) (l : List api_Message) : (pk x l).length = l.length := by
  induction l generalizing x with
  | nil => rfl
  | cons m l ih => simp [pk, ih]
theorem pk_app (x : Int) (l k : List api_Message) : pk x (l ++ k) = pk x l ++ pk (x + l.length) k := by
  induction l generalizing x with
  | nil => simp [pk]
  | cons m l ih =>
    simp only [pk, List.cons_append, ih, List.length_cons]
    rw [show x + 1 + (l.length : Int) = x + ((l.length + 1 : Nat) : Int) by omega]
theorem send_eq (n : network_Network) (ms : List api_Message) (h1 : n.Packets.length ≤ 4096) (h2 : n.Sides.length ≤ 4096) (h3 : 0 ≤ n.Next) (h3' : n.Next ≤ 4611686018427387904) (h4 : ms.length ≤ 4611686018427387904) :
    network_Send n ms = some ⟨n.Next + ((ms.take (4096 - n.Packets.length)).length : Int), n.Packets ++ pk n.Next (ms.take (4096 - n.Packets.length)), n.Sides⟩ := by
  unfold network_Send
  rw [clone_eq ⟨n.Next, n.Packets, n.Sides⟩ h1 h2]
  simp only [Option.bind_some]
  have hl := loopO_up (step := network_Send.l1 ms) (fun k => ((k : Int), n.Next + (k : Int), n.Packets ++ pk n.Next (ms.take k))) (ms.take (4096 - n.Packets.length)).length
    (b := (n.Next + ((ms.take (4096 - n.Packets.length)).length : Int), n.Packets ++ pk n.Next (ms.take (4096 - n.Packets.length)))) ?_ ?_
  · simp only [Int.natCast_zero, Int.add_zero, List.take_zero, pk, List.append_nil] at hl
    rw [hl]
    simp [network_Send.j1]
  · intro k hk
    rw [List.length_take] at hk
    have hk1 : k < ms.length := by omega
    simp only [network_Send.l1]
    rw [if_pos (by simp; omega), idx_nat hk1]
    simp only [Option.bind_some]
    rw [if_neg (by simp [pk_length]; omega), app_of (by simp [pk_length]; omega)]
    simp only [Option.bind_some, letV_of]
    rw [show IntKind.i64.wrap (n.Next + (k : Int) + 1) = n.Next + ((k + 1 : Nat) : Int) from by rw [w64 (by omega) (by omega)]; omega, w64n (by omega), take_snoc hk1, pk_app, List.length_take, Nat.min_eq_left (by omega)]
    simp only [pk, List.append_assoc]
  · simp only [network_Send.l1]
    rw [List.length_take]
    rcases Nat.lt_or_ge ms.length (4096 - n.Packets.length + 1) with h | h
    · rw [if_neg (by simp; omega)]
      simp only [Option.some.injEq, Sum.inr.injEq, Prod.mk.injEq, true_and]
      rw [Nat.min_eq_right (by omega), List.take_of_length_le (Nat.le_refl _), List.take_of_length_le (by omega)]
    · rw [if_pos (by simp; omega), Nat.min_eq_left (by omega), idx_nat (by omega)]
      simp only [Option.bind_some]
      rw [if_pos (by simp [pk_length]; omega)]

/-! Sides. -/
def sd : List network_Side → Int → Int
  | [], _ => 0
  | s :: l, p => if s.Process == p then s.Side else sd l p
theorem side_eq (n : network_Network) (p : Int) (h : n.Sides.length ≤ 4096) : network_side n p = some (sd n.Sides p) := by
  unfold network_side
  have key : ∃ b : Unit ⊕ Int, loopO (network_side.l1 n p) 0 = some b ∧ (match b with | .inl _ => 0 | .inr v => v) = sd n.Sides p := by
    refine loopO_ex (fun k s => s = (k : Int) ∧ sd n.Sides p = sd (n.Sides.drop k) p) n.Sides.length ⟨rfl, rfl⟩ (fun k s hk hI => ?_) (fun s hI => ?_)
    · obtain ⟨rfl, hI⟩ := hI
      simp only [network_side.l1]
      rw [if_pos (by simpa using hk), idx_nat hk]
      simp only [Option.bind_some, letV_of]
      rw [List.drop_eq_getElem_cons hk, sd] at hI
      by_cases hp : n.Sides[k].Process == p
      · rw [if_pos hp] at hI ⊢
        exact .inr ⟨_, rfl, hI.symm⟩
      · rw [if_neg hp] at hI ⊢
        exact .inl ⟨_, rfl, by rw [w64n (by omega)], hI⟩
    · obtain ⟨rfl, hI⟩ := hI
      simp only [network_side.l1]
      rw [if_neg (by simp)]
      refine ⟨_, rfl, ?_⟩
      rw [List.drop_length] at hI
      exact hI.symm
  obtain ⟨b, hb, hq⟩ := key
  rw [hb]
  simp only [Option.bind_some]
  cases b with
  | inl u => simp only [network_side.j1]; rw [← hq]
  | inr v => simp only [← hq]
def blk (S : List network_Side) (f t : Int) : Bool := sd S f != sd S t
theorem blocked_eq (n : network_Network) (f t : Int) (h : n.Sides.length ≤ 4096) : network_Blocked n f t = some (blk n.Sides f t) := by
  unfold network_Blocked
  rw [side_eq n f h, side_eq n t h]
  rfl
def dlv (S : List network_Side) (l : List network_Packet) : List Int := (l.filter fun p => !blk S p.Message.From p.Message.To).map (·.ID)
theorem dlv_snoc (S : List network_Side) (l : List network_Packet) (p : network_Packet) : dlv S (l ++ [p]) = dlv S l ++ if blk S p.Message.From p.Message.To then [] else [p.ID] := by
  unfold dlv
  rw [List.filter_append, List.map_append]
  cases h : blk S p.Message.From p.Message.To <;> simp [h]
theorem dlv_length (S : List network_Side) (l : List network_Packet) : (dlv S l).length ≤ l.length := by
  unfold dlv
  rw [List.length_map]
  exact List.length_filter_le _ _
theorem deliverable_eq (n : network_Network) (h1 : n.Packets.length ≤ 4096) (h2 : n.Sides.length ≤ 4096) : network_Deliverable n = some (dlv n.Sides n.Packets) := by
  unfold network_Deliverable
  have hl := loopO_up (step := network_Deliverable.l1 n) (fun k => (dlv n.Sides (n.Packets.take k), (k : Int))) n.Packets.length (b := dlv n.Sides n.Packets) ?_ ?_
  · have e : (dlv n.Sides (n.Packets.take 0), ((0 : Nat) : Int)) = ([], 0) := rfl
    rw [e] at hl
    rw [hl]
    rfl
  · intro k hk
    simp only [network_Deliverable.l1]
    rw [if_pos (by simpa using hk), idx_nat hk]
    simp only [Option.bind_some]
    rw [blocked_eq n _ _ h2]
    simp only [Option.bind_some]
    rw [take_snoc hk, dlv_snoc]
    have hb := dlv_length n.Sides (n.Packets.take k)
    rw [List.length_take] at hb
    cases hbl : blk n.Sides n.Packets[k].Message.From n.Packets[k].Message.To with
    | true =>
      simp only [Bool.not_true, Bool.false_eq_true, if_false, if_true, List.append_nil, network_Deliverable.j2, letV_of]
      rw [w64n (by omega)]
    | false =>
      simp only [Bool.not_false, Bool.false_eq_true, if_false, if_true, network_Deliverable.j2, letV_of]
      rw [app_of (by simp only [List.length_cons, List.length_nil]; omega)]
      simp only [Option.bind_some]
      rw [w64n (by omega)]
  · simp only [network_Deliverable.l1]
    rw [if_neg (by simp), List.take_of_length_le (Nat.le_refl _)]
end Go.Proofs.Ytahobbichanccaa
