/- Plain laws: Width, of the package and of the reference. -/
import Derived.Test.YtbbeobiampbddaaP38e
set_option linter.unusedVariables false
namespace Go.Proofs.Ytbbeobiampbddaa
open Go Go.Proofs.YtbbeobiampbddaaL
structure WI (l : List history_Operation) (k : Nat) (opn_ : List (Int × history_Operation)) (m lat : Int) (en : Bool) : Prop where
  op : opn_ = (enumL 0 (l.take k)).filter fun p => opn (lastCall (l.take k)) p.2
  mo : wd [] l 0 = wd (l.take k) (l.drop k) m
  la : ∀ o ∈ l.take k, o.Return ≤ lat
  en : en = false → ∀ o ∈ l.take k, o.Return ≠ 0
theorem precB_eq {c : Int} {x o : history_Operation} (h : o.Call = c) : (!(x.Return != 0 && decide (x.Return < o.Call))) = opn c x := by
  subst h
  unfold opn
  rw [Bool.eq_iff_iff]
  simp
theorem j5_eq {m lat : Int} {en : Bool} {k : Nat} {o : history_Operation} {x : List (Int × history_Operation)} (hn : (x.map (·.1)).Nodup) (hk : ∀ p ∈ x, p.1 < (k : Int)) (hk2 : k ≤ 1000) :
    history_Width.j5 m lat en k o x = some (.inl ((x.filter fun p => opn o.Call p.2) ++ [((k : Int), o)], maxI m (((x.filter fun p => opn o.Call p.2) ++ [((k : Int), o)]).length : Int), maxI lat o.Return, en || o.Return == 0, ((k + 1 : Nat) : Int))) := by
  unfold history_Width.j5
  refine permI fun τ hτ => ?_
  have hs : ∀ (p : Int × history_Operation) (s : List (Int × history_Operation)), (fun p : Int × history_Operation => history_Width.l1 o p.1 p.2) p s = some (.inl ((fun p s => if (fun y : history_Operation => y.Return != 0 && decide (y.Return < o.Call)) p.2 then mdel s p.1 else s) p s)) := by
    intro p s
    show history_Width.l1 o p.1 p.2 s = _
    unfold history_Width.l1
    simp only [precedes_eq, Option.bind_some, letV_of]
    by_cases hc : (p.2.Return != 0 && decide (p.2.Return < o.Call)) = true
    · rw [if_pos hc, if_pos hc]
    · rw [if_neg hc, if_neg hc]
  rw [foldO_app hs, Option.bind_some]
  have hd := dels_perm (fun y : history_Operation => y.Return != 0 && decide (y.Return < o.Call)) hn hτ
  dsimp only at hd ⊢
  rw [hd]
  have hf : (x.filter fun p => !(p.2.Return != 0 && decide (p.2.Return < o.Call))) = x.filter fun p => opn o.Call p.2 := List.filter_congr fun p _ => precB_eq rfl
  rw [hf]
  unfold history_Width.j4
  rw [mset_new (k := (k : Int)) (y := o) (l := x.filter fun p => opn o.Call p.2) fun p hp => by have := hk p (List.mem_filter.1 hp).1; omega]
  simp only [letV_of, history_Width.j3, history_Width.j2]
  have hw : IntKind.i64.wrap ((k : Int) + 1) = ((k + 1 : Nat) : Int) := w64n (by omega)
  rw [hw]
  cases en <;> rfl
theorem Width_eq {h : history_History} (hc : h.Operations.Pairwise fun a b => a.Call < b.Call) (hv : ∀ o ∈ h.Operations, o.Return = 0 ∨ o.Call ≤ o.Return) (hm : h.Operations.length ≤ 1000) :
    history_Width h = some (wd [] h.Operations 0) := by
  unfold history_Width
  obtain ⟨b, hb, hq⟩ : ∃ b, loopO (history_Width.l2 h) (([] : List (Int × history_Operation)), 0, 0, false, 0) = some b ∧ b.2 = wd [] h.Operations 0 := by
    refine loopO_inv (fun k (s : List (Int × history_Operation) × Int × Int × Bool × Int) => s.2.2.2.2 = (k : Int) ∧ WI h.Operations k s.1 s.2.1 s.2.2.1 s.2.2.2.1) h.Operations.length ⟨rfl, ⟨rfl, rfl, by simp, by simp⟩⟩ (fun k s hk hI => ?_) (fun s hI => ?_)
    · obtain ⟨x, m, lat, en, i⟩ := s
      obtain ⟨h1, hI⟩ := hI
      have h1 : i = (k : Int) := h1
      subst h1
      have hI : WI h.Operations k x m lat en := hI
      have hmem := List.getElem_mem hk
      have htk : (h.Operations.take k).length = k := by rw [List.length_take]; omega
      have hlt : ∀ o ∈ h.Operations.take k, o.Call < h.Operations[k].Call := by
        intro o ho
        have hc' := hc
        rw [← List.take_append_drop (k + 1) h.Operations, take_snoc hk] at hc'
        exact (List.pairwise_append.1 (List.pairwise_append.1 hc').1).2.2 o ho _ (by simp)
      -- what is left open
      have hfil : ((enumL 0 (h.Operations.take k)).filter fun p => opn h.Operations[k].Call p.2) = x.filter fun p => opn h.Operations[k].Call p.2 := by
        rw [hI.op, List.filter_filter]
        refine List.filter_congr fun p hp => ?_
        cases ho : opn h.Operations[k].Call p.2 with
        | false => rfl
        | true =>
          rw [Bool.true_and]
          have hp2 := (enumL_mem hp).2.2
          have hne : h.Operations.take k ≠ [] := fun e => by rw [e] at hp2; simp at hp2
          obtain ⟨q, hq1, hq2⟩ := lastCall_mem hne
          have := hlt q hq1
          unfold opn at ho ⊢
          rw [Bool.or_eq_true, beq_iff_eq, decide_eq_true_iff] at ho
          symm
          rw [Bool.or_eq_true, beq_iff_eq, decide_eq_true_iff]
          omega
      have hx' : ((enumL 0 (h.Operations.take (k + 1))).filter fun p => opn (lastCall (h.Operations.take (k + 1))) p.2) = (x.filter fun p => opn h.Operations[k].Call p.2) ++ [((k : Int), h.Operations[k])] := by
        rw [lastCall_take hk, take_snoc hk, enumL_snoc, List.filter_append, hfil, htk, Nat.zero_add]
        congr 1
        have : opn h.Operations[k].Call h.Operations[k] = true := by
          unfold opn
          rw [Bool.or_eq_true, beq_iff_eq, decide_eq_true_iff]
          exact hv _ hmem
        rw [List.filter_cons, if_pos this, List.filter_nil]
      have hmo : wd [] h.Operations 0 = wd (h.Operations.take (k + 1)) (h.Operations.drop (k + 1)) (maxI m (((x.filter fun p => opn h.Operations[k].Call p.2) ++ [((k : Int), h.Operations[k])]).length : Int)) := by
        rw [hI.mo, List.drop_eq_getElem_cons hk, wd, ← take_snoc hk, ← hx', lastCall_take hk, enumL_count]
      have hxm : ∀ p ∈ x, p.1 < (k : Int) := by
        intro p hp
        rw [hI.op] at hp
        have := (enumL_mem (List.mem_filter.1 hp).1).2.1
        rw [htk] at this
        omega
      have hxn : (x.map (·.1)).Nodup := by
        rw [hI.op]
        exact (List.Sublist.map _ List.filter_sublist).nodup (enumL_keys _ _)
      have hnext : WI h.Operations (k + 1) ((x.filter fun p => opn h.Operations[k].Call p.2) ++ [((k : Int), h.Operations[k])]) (maxI m (((x.filter fun p => opn h.Operations[k].Call p.2) ++ [((k : Int), h.Operations[k])]).length : Int)) (maxI lat h.Operations[k].Return) (en || h.Operations[k].Return == 0) := by
        refine ⟨hx'.symm, hmo, fun o ho => ?_, fun hen o ho => ?_⟩
        · rw [take_snoc hk] at ho
          rcases List.mem_append.1 ho with ho | ho
          · have := hI.la o ho
            unfold maxI; split <;> omega
          · simp at ho; subst ho
            unfold maxI; split <;> omega
        · rw [Bool.or_eq_false_iff] at hen
          rw [take_snoc hk] at ho
          rcases List.mem_append.1 ho with ho | ho
          · exact hI.en hen.1 o ho
          · simp at ho; subst ho
            simpa using hen.2
      unfold history_Width.l2
      simp only [lt_of_len hk, if_true, idx_nat hk, Option.bind_some]
      have hgo : history_Width.j5 m lat en k h.Operations[k] x = some (.inl ((x.filter fun p => opn h.Operations[k].Call p.2) ++ [((k : Int), h.Operations[k])], maxI m (((x.filter fun p => opn h.Operations[k].Call p.2) ++ [((k : Int), h.Operations[k])]).length : Int), maxI lat h.Operations[k].Return, en || h.Operations[k].Return == 0, ((k + 1 : Nat) : Int))) := j5_eq hxn hxm (by omega)
      cases en with
      | true =>
        rw [if_neg (by simp)]
        unfold history_Width.j6
        rw [if_neg (by simp)]
        exact ⟨_, hgo, rfl, hnext⟩
      | false =>
        rw [if_pos (by simp)]
        unfold history_Width.j6
        by_cases hcl : lat < h.Operations[k].Call
        · rw [if_pos (by simpa using hcl)]
          have hx0 : (x.filter fun p => opn h.Operations[k].Call p.2) = [] := by
            rw [List.filter_eq_nil_iff]
            intro p hp
            rw [hI.op] at hp
            have hp2 := (enumL_mem (List.mem_filter.1 hp).1).2.2
            have h2 := hI.la _ hp2
            have h3 := hI.en rfl _ hp2
            unfold opn
            rw [Bool.or_eq_true, beq_iff_eq, decide_eq_true_iff]
            omega
          rw [hx0] at hnext
          refine ⟨_, j5_eq (x := []) (by simp) (by simp) (by omega), rfl, hnext⟩
        · rw [if_neg (by simpa using hcl)]
          exact ⟨_, hgo, rfl, hnext⟩
    · obtain ⟨x, m, lat, en, i⟩ := s
      obtain ⟨h1, hI⟩ := hI
      have h1 : i = (h.Operations.length : Int) := h1
      subst h1
      unfold history_Width.l2
      dsimp only
      refine ⟨_, if_neg (by rw [not_lt_len]; simp), ?_⟩
      have := hI.mo
      rw [List.drop_length, wd] at this
      exact this.symm
  obtain ⟨b1, b2⟩ := b
  rw [hb, Option.bind_some]
  have hq : b2 = _ := hq
  rw [hq]; rfl
/-! The reference's. -/
def opr (c : Int) (o : history_Operation) : Bool := o.Return == 0 || decide (c < o.Return)
def wr : List history_Operation → List history_Operation → Int → Int
  | _, [], m => m
  | prev, o :: l, m => wr (prev ++ [o]) l (maxI m (((prev ++ [o]).filter (opr o.Call)).length : Int))
theorem ref_inner {h : history_History} {k : Nat} (hk : k < h.Operations.length) (hm : h.Operations.length ≤ 1000) (o : history_Operation) :
    loopO (esref39_Width.l1 h k o) (0, 0) = some (((h.Operations.take (k + 1)).filter (opr o.Call)).length : Int) := by
  obtain ⟨b, hb, hq⟩ : ∃ b, loopO (esref39_Width.l1 h k o) (0, 0) = some b ∧ b = (((h.Operations.take (k + 1)).filter (opr o.Call)).length : Int) := by
    refine loopO_inv (fun j s => s = ((((h.Operations.take j).filter (opr o.Call)).length : Int), (j : Int))) (k + 1) rfl (fun j s hj hI => ?_) (fun s hI => ?_)
    · subst hI
      have hj' : j < h.Operations.length := by omega
      have hc : (h.Operations.take j |>.filter (opr o.Call)).length ≤ j := Nat.le_trans (List.length_filter_le _ _) (by rw [List.length_take]; omega)
      unfold esref39_Width.l1
      have hle : decide ((j : Int) ≤ (k : Int)) = true := by simp; omega
      simp only [hle, if_true, idx_nat hj', Option.bind_some, esref39_Width.j5, esref39_Width.j4, letV_of, wcast hj' (by omega)]
      refine ⟨_, ?_, rfl⟩
      rw [take_snoc hj', List.filter_append, List.length_append, List.filter_cons, List.filter_nil]
      have hw : IntKind.i64.wrap ((((h.Operations.take j).filter (opr o.Call)).length : Int) + 1) = (((h.Operations.take j).filter (opr o.Call)).length + 1 : Nat) := w64n (by omega)
      unfold opr at hw ⊢
      cases (h.Operations[j].Return == 0) <;> cases decide (o.Call < h.Operations[j].Return) <;> simp [hw]
    · subst hI
      unfold esref39_Width.l1
      dsimp only
      refine ⟨_, if_neg (by simp; omega), rfl⟩
  rw [hb, hq]
theorem refWidth_eq {h : history_History} (hm : h.Operations.length ≤ 1000) : esref39_Width h = some (wr [] h.Operations 0) := by
  unfold esref39_Width
  obtain ⟨b, hb, hq⟩ : ∃ b, loopO (esref39_Width.l2 h) (0, 0) = some b ∧ b = wr [] h.Operations 0 := by
    refine loopO_inv (fun k (s : Int × Int) => s.2 = (k : Int) ∧ wr [] h.Operations 0 = wr (h.Operations.take k) (h.Operations.drop k) s.1) h.Operations.length ⟨rfl, rfl⟩ (fun k s hk hI => ?_) (fun s hI => ?_)
    · obtain ⟨m, i⟩ := s
      obtain ⟨h1, hI⟩ := hI
      have h1 : i = (k : Int) := h1
      subst h1
      unfold esref39_Width.l2
      simp only [lt_of_len hk, if_true, idx_nat hk, Option.bind_some, ref_inner hk hm, esref39_Width.j3, esref39_Width.j2, letV_of, wcast hk (by omega)]
      refine ⟨_, rfl, rfl, ?_⟩
      rw [hI, List.drop_eq_getElem_cons hk, wr, ← take_snoc hk]
    · obtain ⟨m, i⟩ := s
      obtain ⟨h1, hI⟩ := hI
      have h1 : i = (h.Operations.length : Int) := h1
      subst h1
      unfold esref39_Width.l2
      dsimp only
      refine ⟨_, if_neg (by rw [not_lt_len]; simp), ?_⟩
      rw [List.drop_length, wr] at hI
      exact hI.symm
  rw [hb, hq]; rfl
theorem wd_wr : ∀ {l prev : List history_Operation} (m : Int), (prev ++ l).Pairwise (fun a b => a.Return ≠ b.Call) → (∀ o ∈ l, o.Return ≠ o.Call) → wd prev l m = wr prev l m
  | [], _, _, _, _ => rfl
  | o :: l, prev, m, h, ho => by
    unfold wd wr
    have h' : ((prev ++ [o]) ++ l).Pairwise (fun a b => a.Return ≠ b.Call) := by rw [List.append_assoc]; exact h
    rw [wd_wr _ h' fun q hq => ho q (by simp [hq])]
    have : (prev ++ [o]).filter (opn o.Call) = (prev ++ [o]).filter (opr o.Call) := by
      refine List.filter_congr fun q hq => ?_
      have hne : q.Return ≠ o.Call := by
        rcases List.mem_append.1 hq with hq | hq
        · exact (List.pairwise_append.1 h).2.2 q hq o (by simp)
        · simp at hq; subst hq; exact ho _ (by simp)
      unfold opn opr
      congr 1
      rw [Bool.eq_iff_iff, decide_eq_true_iff, decide_eq_true_iff]
      omega
    rw [this]
end Go.Proofs.Ytbbeobiampbddaa
