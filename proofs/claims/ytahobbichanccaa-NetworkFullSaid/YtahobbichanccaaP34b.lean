/- The network's functions, as plain data: partitions, messages, comparisons. -/
import Derived.Test.YtahobbichanccaaP34
set_option linter.unusedVariables false
set_option linter.unusedSimpArgs false
namespace Go.Proofs.Ytahobbichanccaa
open Go Go.Proofs.YtahobbichanccaaL

/-! Index. -/
theorem index_eq (x n : Int) (h1 : 1 ≤ n) (h2 : n ≤ 4611686018427387904) : eslaw00_Index x n = some (x % n) := by
  unfold eslaw00_Index
  have a1 := Int.tmod_lt_of_pos x (show 0 < n by omega)
  have a2 := Int.lt_tmod_of_pos x (show 0 < n by omega)
  have a3 := Int.tmod_add_mul_tdiv x n
  have hw : IntKind.i64.wrap (Int.tmod x n + n) = Int.tmod x n + n := w64 (by omega) (by omega)
  rw [if_neg (by simp; omega), if_pos (by omega), letV_of, hw, if_pos (by omega)]
  rw [Int.tmod_eq_emod_of_nonneg (by omega)]
  congr 1
  rw [Int.add_emod_right]
  conv => rhs; rw [← a3]
  rw [Int.add_mul_emod_self_left]
theorem index_pos (x n : Int) (h1 : 1 ≤ n) (h2 : n ≤ 4611686018427387904) : ∃ r, eslaw00_Index x n = some r ∧ 0 ≤ r ∧ r < n :=
  ⟨_, index_eq x n h1 h2, Int.emod_nonneg _ (by omega), Int.emod_lt_of_pos _ (by omega)⟩

/-! Messages. -/
def msg (k f t r : Int) : api_Message := ⟨k, f, t, ⟨0, 0⟩, r, 0, ⟨[], []⟩, ⟨[], []⟩, false, ⟨[], []⟩, [], [], [], false⟩
def IsMsg (m : api_Message) : Prop := ∃ k f t r, m = msg k f t r
theorem messages_ex (a : elasticstorelaw34_Act) : ∃ l, eslaw34_messages a = some l ∧ l.length ≤ 3 ∧ ∀ m ∈ l, IsMsg m := by
  unfold eslaw34_messages
  have hM := index_eq a.M 4 (by omega) (by omega)
  have key : ∃ b, loopO (eslaw34_messages.l1 a) ([], 0) = some b ∧ b.length ≤ 3 ∧ ∀ m ∈ b, IsMsg m := by
    refine loopO_inv (fun k s => s.2 = (k : Int) ∧ s.1.length = k ∧ ∀ m ∈ s.1, IsMsg m) (a.M % 4).toNat ⟨rfl, rfl, by simp⟩ (fun k s hk hI => ?_) (fun s hI => ?_)
    · obtain ⟨l, i⟩ := s
      obtain ⟨h1, h2, h3⟩ := hI
      simp only at h1 h2 h3
      subst h1
      simp only [eslaw34_messages.l1, hM, Option.bind_some]
      have hk4 : k < 4 := by omega
      rw [if_pos (by simp; omega)]
      simp only [letV_of]
      obtain ⟨r1, e1, _⟩ := index_pos (IntKind.i64.wrap (Int.tdiv a.N (IntKind.i64.wrap ((k : Int) + 1)))) 5 (by omega) (by omega)
      obtain ⟨r2, e2, _⟩ := index_pos (IntKind.i64.wrap (Int.tdiv a.N (IntKind.i64.wrap ((k : Int) + 7)))) 5 (by omega) (by omega)
      rw [e1, e2, if_pos (by rw [w64 (by omega) (by omega)]; omega)]
      simp only [Option.bind_some]
      rw [if_pos (by rw [w64 (by omega) (by omega)]; omega), app_of (by simp only [List.length_cons, List.length_nil]; omega)]
      simp only [Option.bind_some]
      refine ⟨_, rfl, by rw [w64n (by omega)], by simp [h2], fun m hm => ?_⟩
      rcases List.mem_append.1 hm with hm | hm
      · exact h3 m hm
      · simp only [List.mem_singleton] at hm
        exact ⟨_, _, _, _, hm⟩
    · obtain ⟨l, i⟩ := s
      obtain ⟨h1, h2, h3⟩ := hI
      simp only at h1 h2 h3
      subst h1
      simp only [eslaw34_messages.l1, hM, Option.bind_some]
      rw [if_neg (by simp; omega)]
      exact ⟨_, rfl, by omega, h3⟩
  obtain ⟨b, hb, h1, h2⟩ := key
  exact ⟨b, by rw [hb]; rfl, h1, h2⟩

/-! Partition. -/
def partM (sides : List network_Side) : List (Int × Int) := sides.foldl (fun m s => mset m s.Process s.Side) []
def partL (m : List (Int × Int)) : List network_Side := (m.filter fun e => e.2 != 0).map fun e => ⟨e.1, e.2⟩
def ltS (a b : network_Side) : Bool := decide (a.Process < b.Process)
def partS (sides : List network_Side) : List network_Side := (partL (partM sides)).mergeSort fun a b => !ltS b a
theorem partM_fold (sides : List network_Side) (m : List (Int × Int)) (h : (m.map (·.1)).Nodup) :
    ((sides.foldl (fun m s => mset m s.Process s.Side) m).map (·.1)).Nodup ∧ (sides.foldl (fun m s => mset m s.Process s.Side) m).length ≤ m.length + sides.length := by
  induction sides generalizing m with
  | nil => exact ⟨h, Nat.le_refl _⟩
  | cons s l ih =>
    obtain ⟨h1, h2⟩ := ih (mset m s.Process s.Side) (mset_keys _ _ _ h).1
    have := mset_length s.Process s.Side m
    exact ⟨h1, by simp only [List.foldl_cons, List.length_cons] at *; omega⟩
theorem partM_keys (sides : List network_Side) : ((partM sides).map (·.1)).Nodup ∧ (partM sides).length ≤ sides.length := by
  have := partM_fold sides [] (by simp)
  simp only [List.length_nil, Nat.zero_add] at this
  exact this
theorem partL_length (m : List (Int × Int)) : (partL m).length ≤ m.length := by
  unfold partL
  rw [List.length_map]
  exact List.length_filter_le _ _
theorem partS_length (sides : List network_Side) : (partS sides).length ≤ sides.length := by
  unfold partS
  rw [List.length_mergeSort]
  have := partL_length (partM sides)
  have := (partM_keys sides).2
  omega
theorem partL_pairwise {m : List (Int × Int)} (h : (m.map (·.1)).Nodup) : (partL m).Pairwise fun a b => decide (a.Process < b.Process) = true ∨ decide (b.Process < a.Process) = true := by
  unfold partL
  rw [List.pairwise_map]
  rw [List.Nodup, List.pairwise_map] at h
  refine List.Pairwise.imp ?_ (h.sublist List.filter_sublist)
  intro a b hab
  simp only [decide_eq_true_eq]
  omega
theorem part_fold (t : List (Int × Int)) (acc : List network_Side) (h : (acc.length + t.length) * 16 ≤ 140737488355328) : foldO (fun p : Int × Int => network_Partition.l1 p.1 p.2) t acc = some (.inl (acc ++ partL t)) := by
  induction t generalizing acc with
  | nil => simp [foldO, partL]
  | cons e t ih =>
    simp only [List.length_cons] at h
    by_cases he : e.2 = 0
    · have hs : network_Partition.l1 e.1 e.2 acc = some (.inl acc) := by simp [network_Partition.l1, he]
      rw [foldO, hs]
      simp only
      rw [ih acc (by omega)]
      simp [partL, he]
    · have hs : network_Partition.l1 e.1 e.2 acc = some (.inl (acc ++ [⟨e.1, e.2⟩])) := by
        simp only [network_Partition.l1]
        rw [if_pos (by simpa using he), app_of (by simp only [List.length_cons, List.length_nil]; omega)]
        rfl
      rw [foldO, hs]
      simp only
      rw [ih _ (by simp only [List.length_append, List.length_cons, List.length_nil]; omega)]
      simp [partL, he]
theorem partition_eq (n : network_Network) (sides : List network_Side) (h1 : n.Packets.length ≤ 4096) (h2 : n.Sides.length ≤ 4096) (h3 : sides.length ≤ 4096) : network_Partition n sides = some ⟨n.Next, n.Packets, partS sides⟩ := by
  unfold network_Partition
  rw [clone_eq ⟨n.Next, n.Packets, n.Sides⟩ h1 h2]
  simp only [Option.bind_some]
  have hl := loopO_up (step := network_Partition.l2 sides) (fun k => (partM (sides.take k), (k : Int))) sides.length (b := partM sides) ?_ ?_
  · have e : (partM (sides.take 0), ((0 : Nat) : Int)) = ([], 0) := rfl
    rw [e] at hl
    rw [hl]
    simp only [Option.bind_some, network_Partition.j2]
    obtain ⟨hn, hlen⟩ := partM_keys sides
    refine permI fun τ hτ => ?_
    have hτl := hτ.length_eq
    rw [part_fold τ [] (by simp; omega)]
    simp only [Option.bind_some, List.nil_append, network_Partition.j1, slices_SortFunc_Side]
    have hn' : (τ.map (·.1)).Nodup := (hτ.map (·.1)).nodup_iff.2 hn
    have hp := partL_pairwise hn'
    have hsort : sortU (fun a b : network_Side => decide (a.Process < b.Process)) (partL τ) = some ((partL τ).mergeSort fun a b => !decide (b.Process < a.Process)) := by
      have := partL_length τ
      exact if_pos ⟨hp, by omega⟩
    rw [hsort]
    simp only [Option.bind_some, Option.some.injEq, network_Network.mk.injEq, true_and]
    have hO := swo_key fun x : network_Side => x.Process
    have hperm : (partL τ).Perm (partL (partM sides)) := (hτ.filter _).map _
    have hsort2 : sortU (fun a b : network_Side => decide (a.Process < b.Process)) (partL (partM sides)) = some (partS sides) := by
      have := partL_length (partM sides)
      exact if_pos ⟨partL_pairwise hn, by omega⟩
    exact sort_unique hO hp (sortU_perm hsort) ((sortU_perm hsort2).trans hperm.symm) (sortU_sorted hO hsort) (sortU_sorted hO hsort2)
  · intro k hk
    simp only [network_Partition.l2]
    rw [if_pos (by simpa using hk), idx_nat hk]
    simp only [Option.bind_some, letV_of]
    rw [w64n (by omega), take_snoc hk]
    simp only [partM, List.foldl_append, List.foldl_cons, List.foldl_nil]
  · simp only [network_Partition.l2]
    rw [if_neg (by simp), List.take_of_length_le (Nat.le_refl _)]
theorem heal_eq (n : network_Network) (h1 : n.Packets.length ≤ 4096) (h2 : n.Sides.length ≤ 4096) : network_Heal n = some ⟨n.Next, n.Packets, []⟩ := by
  unfold network_Heal
  rw [partition_eq n [] h1 h2 (by simp)]
  have : partS [] = [] := by simp [partS, partM, partL]
  rw [this]
  rfl

/-! Comparisons of one with itself. -/
theorem eqConfig_nil : esref06_EqualConfig [] [] = some true := by
  unfold esref06_EqualConfig
  rw [loopO_done (b := .inl ()) (by simp [esref06_EqualConfig.l1])]
  simp [esref06_EqualConfig.j1]
theorem eqState_nil : esref14_EqualState [] [] = some true := by
  unfold esref14_EqualState
  rw [loopO_done (b := .inl ()) (by simp [esref14_EqualState.l1])]
  simp [esref14_EqualState.j1]
theorem eqVector_nil : esref03_EqualVector [] [] = some true := by
  unfold esref03_EqualVector
  rw [loopO_done (b := .inl ()) (by simp [esref03_EqualVector.l1])]
  simp [esref03_EqualVector.j1]
theorem eqCert_nil : esref14_EqualCert ⟨[], []⟩ ⟨[], []⟩ = some true := by
  simp [esref14_EqualCert, eqConfig_nil, esref14_EqualCert.j1]
theorem eqMsg_refl {m : api_Message} (h : IsMsg m) : esref14_EqualMessage m m = some true := by
  obtain ⟨k, f, t, r, rfl⟩ := h
  simp [esref14_EqualMessage, esref14_EqualMessage.j2, msg, eqCert_nil, eqConfig_nil, eqState_nil, eqVector_nil, esref14_EqualMessage.j1]
theorem equal_refl (n : network_Network) (h1 : n.Packets.length ≤ 4096) (h2 : n.Sides.length ≤ 4096) (h : ∀ p ∈ n.Packets, IsMsg p.Message) : eslaw34_Equal n n = some true := by
  unfold eslaw34_Equal
  simp only [bne_self_eq_false, Bool.false_eq_true, if_false, eslaw34_Equal.j4]
  have hl := loopO_up (step := eslaw34_Equal.l2 n n) (fun k => (k : Int)) n.Packets.length (b := .inl ()) (fun k hk => ?_) ?_
  · rw [show ((0 : Nat) : Int) = 0 from rfl] at hl
    rw [hl]
    simp only [Option.bind_some, eslaw34_Equal.j2]
    have hl2 := loopO_up (step := eslaw34_Equal.l1 n n) (fun k => (k : Int)) n.Sides.length (b := .inl ()) (fun k hk => ?_) ?_
    · rw [show ((0 : Nat) : Int) = 0 from rfl] at hl2
      rw [hl2]
      rfl
    · simp only [eslaw34_Equal.l1]
      rw [if_pos (by simpa using hk), idx_nat hk]
      simp only [Option.bind_some, letV_of]
      rw [if_neg (by simp), w64n (by omega)]
    · simp only [eslaw34_Equal.l1]
      rw [if_neg (by simp)]
  · simp only [eslaw34_Equal.l2]
    rw [if_pos (by simpa using hk), idx_nat hk]
    simp only [Option.bind_some, bne_self_eq_false, Bool.false_eq_true, if_false]
    rw [eqMsg_refl (h _ (List.getElem_mem hk))]
    simp only [Option.bind_some, eslaw34_Equal.j3, letV_of]
    rw [if_neg (by simp), w64n (by omega)]
  · simp only [eslaw34_Equal.l2]
    rw [if_neg (by simp)]
end Go.Proofs.Ytahobbichanccaa
