/- The counts. -/
import Derived.Test.YtahobbichanccaaP34f
set_option linter.unusedVariables false
set_option linter.unusedSimpArgs false
namespace Go.Proofs.Ytahobbichanccaa
open Go Go.Proofs.YtahobbichanccaaL

structure IsSet (m : List (Int × Bool)) (S : Int → Prop) : Prop where
  nd : (m.map (·.1)).Nodup
  yes : ∀ i, S i → m.lookup i = some true
  no : ∀ i, ¬ S i → m.lookup i = none
theorem IsSet.nil : IsSet [] fun _ => False := ⟨by simp, fun i h => h.elim, fun i _ => rfl⟩
theorem IsSet.congr {m : List (Int × Bool)} {S T : Int → Prop} (h : IsSet m S) (e : ∀ i, S i ↔ T i) : IsSet m T := ⟨h.nd, fun i hi => h.yes i ((e i).2 hi), fun i hi => h.no i fun x => hi ((e i).1 x)⟩
theorem IsSet.add {m : List (Int × Bool)} {S : Int → Prop} (h : IsSet m S) (k : Int) : IsSet (mset m k true) fun i => S i ∨ i = k where
  nd := (mset_keys k true m h.nd).1
  yes i hi := by
    rw [mset_lookup]
    by_cases e : i = k
    · rw [if_pos (by simpa using e)]
    · rw [if_neg (by simpa using e)]
      exact h.yes i (hi.resolve_right e)
  no i hi := by
    rw [mset_lookup, if_neg (by simpa using fun e => hi (.inr e))]
    exact h.no i fun x => hi (.inl x)
theorem IsSet.look {m : List (Int × Bool)} {S : Int → Prop} (h : IsSet m S) (i : Int) : (m.lookup i).getD false = true ↔ S i := by
  by_cases hs : S i
  · simp [h.yes i hs, hs]
  · simp [h.no i hs, hs]
theorem IsSet.look_no {m : List (Int × Bool)} {S : Int → Prop} (h : IsSet m S) {i : Int} (hi : ¬ S i) : (m.lookup i).getD false = false := by
  rw [h.no i hi]
  rfl
theorem IsSet.mem {m : List (Int × Bool)} {S : Int → Prop} (h : IsSet m S) (i : Int) : i ∈ m.map (·.1) ↔ S i := by
  constructor
  · intro hi
    by_cases hs : S i
    · exact hs
    · have := h.no i hs
      rw [List.lookup_eq_none_iff] at this
      obtain ⟨e, he, rfl⟩ := List.mem_map.1 hi
      have := this e he
      simp at this
  · intro hs
    have := h.yes i hs
    by_cases hi : i ∈ m.map (·.1)
    · exact hi
    · have h2 : m.lookup i = none := by
        rw [List.lookup_eq_none_iff]
        intro p hp
        simp only [bne_iff_ne, ne_eq]
        rintro rfl
        exact hi (List.mem_map_of_mem hp)
      rw [h2] at this
      cases this
theorem count_of (l : List Int) (h : l.Nodup) (k : Nat) (hm : ∀ i : Int, i ∈ l ↔ 1 ≤ i ∧ i ≤ k) : l.length = k := by
  have h1 : l.Perm ((List.range k).map fun j : Nat => ((j : Int) + 1)) := by
    refine (List.perm_ext_iff_of_nodup h ?_).2 fun i => ?_
    · rw [List.Nodup, List.pairwise_map]
      exact List.nodup_range.imp fun h e => h (by omega)
    · rw [hm i]
      simp only [List.mem_map, List.mem_range]
      constructor
      · rintro ⟨h1, h2⟩
        exact ⟨(i - 1).toNat, by omega, by omega⟩
      · rintro ⟨j, hj, rfl⟩
        omega
  have := h1.length_eq
  simpa using this
/-- The IDs of some packets. -/
def idIn (l : List network_Packet) (i : Int) : Prop := ∃ p ∈ l, p.ID = i
theorem counts_left (n : network_Network) (b : Nat) (h : Inv b n) (gone : List (Int × Bool)) (G : Int → Prop) (hg : IsSet gone G) (hG : ∀ i, G i → ¬ idIn n.Packets i) :
    ∃ m, loopO (eslaw34_NetworkCounts.l2 gone n.Next n.Packets) ([], 0) = some (.inl m) ∧ IsSet m (idIn n.Packets) := by
  have key : ∃ r : List (Int × Bool) ⊕ Bool, loopO (eslaw34_NetworkCounts.l2 gone n.Next n.Packets) ([], 0) = some r ∧ ∃ m, r = .inl m ∧ IsSet m (idIn n.Packets) := by
    refine loopO_inv (fun k s => ∃ m, s = (m, (k : Int)) ∧ IsSet m (idIn (n.Packets.take k))) n.Packets.length ⟨[], rfl, IsSet.nil.congr fun i => by simp [idIn]⟩ (fun k s hk hI => ?_) (fun s hI => ?_)
    · obtain ⟨m, rfl, hm⟩ := hI
      have hmem := List.getElem_mem hk
      have hid := h.ids _ hmem
      have hlen := h.len
      simp only [eslaw34_NetworkCounts.l2, eslaw34_NetworkCounts.j6]
      rw [if_pos (by simpa using hk), idx_nat hk]
      simp only [Option.bind_some, letV_of]
      have e1 : (m.lookup n.Packets[k].ID).getD false = false := hm.look_no fun ⟨p, hp, e⟩ => by
        obtain ⟨j, hj, rfl⟩ := List.getElem_of_mem hp
        rw [List.length_take] at hj
        have := (List.pairwise_iff_getElem.1 h.asc) j k (by omega) hk (by omega)
        rw [List.getElem_take] at e
        omega
      have e2 : (gone.lookup n.Packets[k].ID).getD false = false := hg.look_no fun x => hG _ x ⟨_, hmem, rfl⟩
      rw [e1, e2, if_neg (by simp), if_neg (by simp), if_neg (by simp; omega), if_neg (by simp; omega), w64n (by omega)]
      have e3 : IsSet (mset m n.Packets[k].ID true) (idIn (n.Packets.take (k + 1))) := (hm.add n.Packets[k].ID).congr fun i => by
        rw [take_snoc hk]
        simp only [idIn, List.mem_append, List.mem_singleton]
        constructor
        · rintro (⟨p, hp, e⟩ | e)
          · exact ⟨p, .inl hp, e⟩
          · exact ⟨_, .inr rfl, e.symm⟩
        · rintro ⟨p, hp | hp, e⟩
          · exact .inl ⟨p, hp, e⟩
          · subst hp
            exact .inr e.symm
      by_cases h0 : 0 < k
      · rw [if_pos (by simpa using h0), w64 (by omega) (by omega), show (k : Int) - 1 = ((k - 1 : Nat) : Int) by omega, idx_nat (show k - 1 < n.Packets.length by omega)]
        simp only [Option.bind_some]
        have := (List.pairwise_iff_getElem.1 h.asc) (k - 1) k (by omega) hk (by omega)
        rw [if_neg (by simp; omega)]
        exact ⟨_, rfl, _, rfl, e3⟩
      · rw [if_neg (by simpa using h0), if_neg (by simp)]
        exact ⟨_, rfl, _, rfl, e3⟩
    · obtain ⟨m, rfl, hm⟩ := hI
      rw [List.take_length] at hm
      simp only [eslaw34_NetworkCounts.l2]
      rw [if_neg (by simp)]
      exact ⟨_, rfl, m, rfl, hm⟩
  obtain ⟨r, hr, m, rfl, hm⟩ := key
  exact ⟨m, hr, hm⟩
theorem counts_gone (was : List network_Packet) (hw : was.length ≤ 4096) (left gone : List (Int × Bool)) (L G : Int → Prop) (hl : IsSet left L) (hg : IsSet gone G) :
    ∃ m, loopO (eslaw34_NetworkCounts.l1 was left) (gone, 0) = some m ∧ IsSet m fun i => G i ∨ idIn was i ∧ ¬ L i := by
  refine loopO_inv (fun k s => ∃ m, s = (m, (k : Int)) ∧ IsSet m fun i => G i ∨ idIn (was.take k) i ∧ ¬ L i) was.length ⟨gone, rfl, hg.congr fun i => by simp [idIn]⟩ (fun k s hk hI => ?_) (fun s hI => ?_)
  · obtain ⟨m, rfl, hm⟩ := hI
    simp only [eslaw34_NetworkCounts.l1, eslaw34_NetworkCounts.j4]
    rw [if_pos (by simpa using hk), idx_nat hk]
    simp only [Option.bind_some, letV_of]
    rw [w64n (by omega)]
    have hsnoc : ∀ i, idIn (was.take (k + 1)) i ↔ idIn (was.take k) i ∨ i = was[k].ID := fun i => by
      rw [take_snoc hk]
      simp only [idIn, List.mem_append, List.mem_singleton]
      constructor
      · rintro ⟨p, hp | hp, e⟩
        · exact .inl ⟨p, hp, e⟩
        · subst hp
          exact .inr e.symm
      · rintro (⟨p, hp, e⟩ | e)
        · exact ⟨p, .inl hp, e⟩
        · exact ⟨_, .inr rfl, e.symm⟩
    by_cases hL : L was[k].ID
    · have e1 := (hl.look was[k].ID).2 hL
      rw [if_neg (by simp [e1])]
      refine ⟨_, rfl, m, rfl, hm.congr fun i => ?_⟩
      rw [hsnoc]
      constructor
      · rintro (h | ⟨h1, h2⟩)
        · exact .inl h
        · exact .inr ⟨.inl h1, h2⟩
      · rintro (h | ⟨h1 | h1, h2⟩)
        · exact .inl h
        · exact .inr ⟨h1, h2⟩
        · subst h1
          exact absurd hL h2
    · have e1 := hl.look_no hL
      rw [if_pos (by simp [e1])]
      refine ⟨_, rfl, _, rfl, (hm.add was[k].ID).congr fun i => ?_⟩
      rw [hsnoc]
      constructor
      · rintro ((h | ⟨h1, h2⟩) | h)
        · exact .inl h
        · exact .inr ⟨.inl h1, h2⟩
        · subst h
          exact .inr ⟨.inr rfl, hL⟩
      · rintro (h | ⟨h1 | h1, h2⟩)
        · exact .inl (.inl h)
        · exact .inl (.inr ⟨h1, h2⟩)
        · exact .inr h1
  · obtain ⟨m, rfl, hm⟩ := hI
    rw [List.take_length] at hm
    simp only [eslaw34_NetworkCounts.l1]
    rw [if_neg (by simp)]
    exact ⟨m, rfl, hm⟩
theorem counts_true (acts : List elasticstorelaw34_Act) : eslaw34_NetworkCounts acts = some true := by
  unfold eslaw34_NetworkCounts
  by_cases h60 : 60 < (acts.length : Int)
  · rw [if_pos (by simpa using h60), awake_eq]
    rfl
  rw [if_neg (by simpa using h60)]
  have key : ∃ b : List (Int × Bool) ⊕ Bool, loopO (eslaw34_NetworkCounts.l3 acts) ([], 0, 1, [], []) = some b ∧ ∃ m, b = .inl m := by
    refine loopO_inv (fun k s => ∃ (n : network_Network) (g : List (Int × Bool)), s = (g, (k : Int), n.Next, n.Packets, n.Sides) ∧ Inv k n ∧ IsSet g fun i => (1 ≤ i ∧ i < n.Next) ∧ ¬ idIn n.Packets i) acts.length
      ⟨⟨1, [], []⟩, [], rfl, inv0, IsSet.nil.congr fun i => ⟨fun h => h.elim, fun h => by simp only at h; omega⟩⟩ (fun k s hk hI => ?_) (fun s hI => ?_)
    · obtain ⟨n, g, rfl, hI, hg⟩ := hI
      simp only [eslaw34_NetworkCounts.l3]
      rw [if_pos (by simpa using hk), idx_nat hk]
      obtain ⟨n', es, hI', hX⟩ := step_both hI (by omega) acts[k]
      simp only [Option.bind_some]
      rw [es]
      simp only [Option.bind_some, eslaw34_NetworkCounts.j7]
      obtain ⟨left, el, hleft⟩ := counts_left n' _ hI' g _ hg (fun i ⟨⟨h1, h2⟩, h3⟩ ⟨p, hp, e⟩ => by
        subst e
        rcases hX.old p hp with ⟨q, hq, e⟩ | h
        · exact h3 ⟨q, hq, e⟩
        · omega)
      rw [el]
      simp only [Option.bind_some, eslaw34_NetworkCounts.j5]
      obtain ⟨g', eg, hg'⟩ := counts_gone n.Packets hI.len left g _ _ hleft hg
      rw [eg]
      simp only [Option.bind_some, eslaw34_NetworkCounts.j3, letV_of]
      have hp' := hI'.pos
      have ht' := hI'.top
      have hle := hX.le
      have hp := hI.pos
      have hS : ∀ i, (((1 ≤ i ∧ i < n.Next) ∧ ¬ idIn n.Packets i) ∨ idIn n.Packets i ∧ ¬ idIn n'.Packets i) ↔ (1 ≤ i ∧ i < n'.Next) ∧ ¬ idIn n'.Packets i := fun i => by
        constructor
        · rintro (⟨⟨h1, h2⟩, h3⟩ | ⟨⟨p, hp, e⟩, h2⟩)
          · refine ⟨⟨h1, by omega⟩, fun ⟨p, hp, e⟩ => ?_⟩
            rcases hX.old p hp with ⟨q, hq, e2⟩ | h
            · exact h3 ⟨q, hq, e2.trans e⟩
            · omega
          · have := hI.ids p hp
            exact ⟨by omega, h2⟩
        · rintro ⟨⟨h1, h2⟩, h3⟩
          by_cases hin : idIn n.Packets i
          · exact .inr ⟨hin, h3⟩
          · refine .inl ⟨⟨h1, ?_⟩, hin⟩
            by_cases hlt : i < n.Next
            · exact hlt
            · exact absurd (hX.new i (by omega) h2) h3
      have hg2 := hg'.congr hS
      have hcount : g'.length + left.length = (n'.Next - 1).toNat := by
        have := count_of ((g' ++ left).map (·.1)) ?_ (n'.Next - 1).toNat fun i => ?_
        · simpa using this
        · rw [List.map_append]
          refine List.nodup_append.2 ⟨hg2.nd, hleft.nd, fun a ha b hb e => ?_⟩
          subst e
          exact ((hg2.mem a).1 ha).2 ((hleft.mem a).1 hb)
        · rw [List.map_append, List.mem_append, hg2.mem, hleft.mem]
          constructor
          · rintro (⟨⟨h1, h2⟩, _⟩ | ⟨p, hp, rfl⟩)
            · omega
            · have := hI'.ids p hp
              omega
          · rintro ⟨h1, h2⟩
            by_cases hin : idIn n'.Packets i
            · exact .inr hin
            · exact .inl ⟨by omega, hin⟩
      rw [w64 (by omega) (by omega), w64 (by omega) (by omega), if_neg (by simp; omega)]
      simp only [eslaw34_NetworkCounts.j2, letV_of]
      rw [w64n (by omega)]
      exact ⟨_, rfl, n', g', rfl, hI', hg2⟩
    · obtain ⟨n, g, rfl, hI, hg⟩ := hI
      simp only [eslaw34_NetworkCounts.l3]
      rw [if_neg (by simp)]
      exact ⟨_, rfl, _, rfl⟩
  obtain ⟨b, hb, m, rfl⟩ := key
  unfold network_New
  simp only [Option.bind_some]
  rw [hb]
  simp only [Option.bind_some, eslaw34_NetworkCounts.j1]
  rw [awake_eq]
  rfl
end Go.Proofs.Ytahobbichanccaa
