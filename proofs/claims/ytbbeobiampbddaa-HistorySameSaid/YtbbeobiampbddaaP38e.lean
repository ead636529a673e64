/- Plain laws: good histories are valid; Width. -/
import Derived.Test.YtbbeobiampbddaaP38d
set_option linter.unusedVariables false
namespace Go.Proofs.Ytbbeobiampbddaa
open Go Go.Proofs.YtbbeobiampbddaaL
def RG (a b : history_Operation) : Prop := a.Call < b.Call ∧ a.Return ≠ b.Call ∧ (a.Return ≠ 0 → a.Return ≠ b.Return) ∧ (a.Process = b.Process → a.Return < b.Call)
instance (a b : history_Operation) : Decidable (RG a b) := by unfold RG; exact inferInstance
structure Good (l : List history_Operation) : Prop where
  v : ∀ o ∈ l, vErr o = 0
  c : ∀ o ∈ l, cErr o = 0
  pw : l.Pairwise RG
theorem lastCall_mem : ∀ {l : List history_Operation}, l ≠ [] → ∃ o ∈ l, lastCall l = o.Call
  | [], h => absurd rfl h
  | [a], _ => ⟨a, by simp, rfl⟩
  | a :: b :: l, _ => by
    obtain ⟨o, h1, h2⟩ := lastCall_mem (l := b :: l) (by simp)
    exact ⟨o, by simp at h1 ⊢; exact .inr h1, h2⟩
theorem opErr_good {prev : List history_Operation} {o : history_Operation} (hv : vErr o = 0) (hc : cErr o = 0) (hr : ∀ k ∈ prev, RG k o) : opErr prev o = 0 := by
  obtain ⟨v1, v2⟩ := vErr_zero hv
  unfold opErr
  rw [if_neg (by simp [hv])]
  have h1 : (decide (0 < prev.length) && decide (o.Call ≤ lastCall prev)) = false := by
    cases prev with
    | nil => rfl
    | cons q l =>
      obtain ⟨k, h1, h2⟩ := lastCall_mem (l := q :: l) (by simp)
      have := (hr k h1).1
      rw [Bool.and_eq_false_iff]
      right
      rw [decide_eq_false_iff_not]
      omega
  have h2 : dupB prev o = false := by
    unfold dupB
    rw [List.any_eq_false]
    intro k hk
    obtain ⟨a1, a2, a3, a4⟩ := hr k hk
    simp only [Bool.or_eq_true, Bool.and_eq_true, beq_iff_eq, bne_iff_ne, ne_eq, not_or, not_and]
    refine ⟨fun h => a2 h.symm, fun h0 => ⟨fun h => ?_, fun h => a3 (fun h3 => h0 (h.trans h3)) h.symm⟩⟩
    have := v2 h0
    omega
  have h3 : stB prev o = false := by
    unfold stB
    rw [List.any_eq_false]
    intro k hk
    obtain ⟨a1, a2, a3, a4⟩ := hr k hk
    simp only [Bool.and_eq_true, beq_iff_eq, decide_eq_true_iff, not_and]
    intro h
    have := a4 h
    omega
  rw [h1, if_neg (by simp), if_neg (by simp [hc]), h2, if_neg (by simp), h3, if_neg (by simp)]
theorem valL_good : ∀ {l prev : List history_Operation}, Good (prev ++ l) → valL prev l = 0
  | [], _, _ => rfl
  | o :: l, prev, h => by
    have hz : opErr prev o = 0 := by
      refine opErr_good (h.v o (by simp)) (h.c o (by simp)) fun k hk => ?_
      exact (List.pairwise_append.1 h.pw).2.2 k hk o (by simp)
    unfold valL
    rw [if_neg (by simp [hz])]
    refine valL_good (prev := prev ++ [o]) ?_
    rw [List.append_assoc]
    exact h
theorem Good.val {l : List history_Operation} (h : Good l) : valL [] l = 0 := valL_good h
/-! Width. -/
def opn (c : Int) (o : history_Operation) : Bool := o.Return == 0 || decide (c ≤ o.Return)
def wd : List history_Operation → List history_Operation → Int → Int
  | _, [], m => m
  | prev, o :: l, m => wd (prev ++ [o]) l (maxI m (((prev ++ [o]).filter (opn o.Call)).length : Int))
def enumL : Nat → List history_Operation → List (Int × history_Operation)
  | _, [] => []
  | i, o :: l => ((i : Int), o) :: enumL (i + 1) l
theorem enumL_snoc (o : history_Operation) : ∀ (i : Nat) (l : List history_Operation), enumL i (l ++ [o]) = enumL i l ++ [(((i + l.length : Nat) : Int), o)]
  | i, [] => rfl
  | i, a :: l => by
    simp only [List.cons_append, enumL, enumL_snoc o (i + 1) l, List.length_cons]
    rw [show i + 1 + l.length = i + (l.length + 1) by omega]
theorem enumL_mem {p : Int × history_Operation} : ∀ {i : Nat} {l : List history_Operation}, p ∈ enumL i l → (i : Int) ≤ p.1 ∧ p.1 < ((i + l.length : Nat) : Int) ∧ p.2 ∈ l
  | i, [], h => by simp [enumL] at h
  | i, a :: l, h => by
    rcases List.mem_cons.1 h with rfl | h
    · exact ⟨Int.le_refl _, by simp; omega, by simp⟩
    · obtain ⟨h1, h2, h3⟩ := enumL_mem h
      refine ⟨by omega, ?_, by simp [h3]⟩
      rw [List.length_cons]; omega
theorem enumL_keys : ∀ (i : Nat) (l : List history_Operation), ((enumL i l).map (·.1)).Nodup
  | _, [] => List.nodup_nil
  | i, a :: l => by
    rw [enumL, List.map_cons, List.nodup_cons]
    refine ⟨fun h => ?_, enumL_keys (i + 1) l⟩
    obtain ⟨p, hp, he⟩ := List.mem_map.1 h
    have := (enumL_mem hp).1
    have he : p.1 = (i : Int) := he
    omega
theorem enumL_count (f : history_Operation → Bool) : ∀ (i : Nat) (l : List history_Operation), ((enumL i l).filter fun p => f p.2).length = (l.filter f).length
  | _, [] => rfl
  | i, a :: l => by
    rw [enumL, List.filter_cons, List.filter_cons]
    have := enumL_count f (i + 1) l
    cases f a <;> simp [this]
theorem mdel_filter (k : Int) : ∀ {l : List (Int × history_Operation)}, (l.map (·.1)).Nodup → mdel l k = l.filter fun p => !(p.1 == k)
  | [], _ => rfl
  | p :: l, h => by
    rw [List.map_cons, List.nodup_cons] at h
    rw [mdel, List.filter_cons]
    by_cases e : k = p.1
    · subst e
      have : l.filter (fun q => !(q.1 == p.1)) = l := List.filter_eq_self.2 fun q hq => by
        have : q.1 ≠ p.1 := fun e => h.1 (List.mem_map.2 ⟨q, hq, e⟩)
        simpa using this
      simp [this]
    · have e1 : (k == p.1) = false := by simpa using e
      have e2 : (p.1 == k) = false := by simpa using fun h : p.1 = k => e h.symm
      rw [e1, e2, mdel_filter k h.2]
      simp
theorem dels_filter (f : history_Operation → Bool) : ∀ (τ x : List (Int × history_Operation)), (x.map (·.1)).Nodup →
    τ.foldl (fun s p => if f p.2 then mdel s p.1 else s) x = x.filter fun p => !(τ.any fun q => q.1 == p.1 && f q.2)
  | [], x, _ => by simp [List.filter_eq_self.2]
  | q :: τ, x, h => by
    rw [List.foldl_cons]
    cases hf : f q.2 with
    | false =>
      rw [if_neg (by simp), dels_filter f τ x h]
      refine List.filter_congr fun p _ => ?_
      rw [List.any_cons, hf, Bool.and_false, Bool.false_or]
    | true =>
      rw [if_pos rfl, mdel_filter _ h, dels_filter f τ _ ((List.Sublist.map _ List.filter_sublist).nodup h), List.filter_filter]
      refine List.filter_congr fun p _ => ?_
      rw [List.any_cons, hf, Bool.and_true]
      have : (p.1 == q.1) = (q.1 == p.1) := by rw [Bool.eq_iff_iff, beq_iff_eq, beq_iff_eq]; exact eq_comm
      rw [this]
      cases (q.1 == p.1) <;> simp
theorem dels_perm (f : history_Operation → Bool) {τ x : List (Int × history_Operation)} (h : (x.map (·.1)).Nodup) (hp : τ.Perm x) :
    τ.foldl (fun s p => if f p.2 then mdel s p.1 else s) x = x.filter fun p => !f p.2 := by
  rw [dels_filter f τ x h]
  refine List.filter_congr fun p hpx => ?_
  congr 1
  rw [Bool.eq_iff_iff, List.any_eq_true]
  constructor
  · rintro ⟨q, hq, hb⟩
    simp only [Bool.and_eq_true, beq_iff_eq] at hb
    have hqx := hp.mem_iff.1 hq
    have : q = p := by
      have hn : ∀ {l : List (Int × history_Operation)}, (l.map (·.1)).Nodup → q ∈ l → p ∈ l → q = p := by
        intro l
        induction l with
        | nil => intro _ h; simp at h
        | cons a l ih =>
          intro hn h1 h2
          rw [List.map_cons, List.nodup_cons] at hn
          rcases List.mem_cons.1 h1 with a1 | a1
          · rcases List.mem_cons.1 h2 with a2 | a2
            · rw [a1, a2]
            · exact absurd (List.mem_map.2 ⟨p, a2, by rw [← a1]; exact hb.1.symm⟩) hn.1
          · rcases List.mem_cons.1 h2 with a2 | a2
            · exact absurd (List.mem_map.2 ⟨q, a1, by rw [← a2]; exact hb.1⟩) hn.1
            · exact ih hn.2 a1 a2
      exact hn h hqx hpx
    rw [← this]; exact hb.2
  · intro hf
    exact ⟨p, hp.mem_iff.2 hpx, by simp [hf]⟩
theorem mset_new {k : Int} {y : history_Operation} : ∀ {l : List (Int × history_Operation)}, (∀ p ∈ l, p.1 ≠ k) → mset l k y = l ++ [(k, y)]
  | [], _ => rfl
  | p :: l, h => by
    have e : (k == p.1) = false := by simpa using fun e : k = p.1 => h p (by simp) e.symm
    rw [mset, e, mset_new fun q hq => h q (by simp [hq])]
    rfl
end Go.Proofs.Ytbbeobiampbddaa
