/- Several texts as one: P38k P38l. -/
import Derived.Test.YtbbeobiampbddaaP38B
/- Plain law: HistoryOrder. -/
set_option linter.unusedVariables false
namespace Go.Proofs.Ytbbeobiampbddaa
open Go Go.Proofs.YtbbeobiampbddaaL
theorem prB_iff {l : List history_Operation} {a b : Int} : prB l a b = true ↔ ∃ x y, idx l a = some x ∧ idx l b = some y ∧ x.Return ≠ 0 ∧ x.Return < y.Call := by
  unfold prB
  cases idx l a with
  | none => simp
  | some x =>
    cases idx l b with
    | none => simp
    | some y => simp
theorem idx_mem {α : Type} {l : List α} {a : Int} {x : α} (h : idx l a = some x) : x ∈ l := by
  unfold idx at h
  split at h
  · exact List.mem_of_getElem? h
  · cases h
end Go.Proofs.Ytbbeobiampbddaa

/- Plain law: HistoryWidth. -/
set_option linter.unusedVariables false
namespace Go.Proofs.Ytbbeobiampbddaa
open Go Go.Proofs.YtbbeobiampbddaaL
theorem Good.asc {l : List history_Operation} (h : Good l) : l.Pairwise fun a b => a.Call < b.Call := h.pw.imp fun h => h.1
theorem Good.own {l : List history_Operation} (h : Good l) : ∀ o ∈ l, o.Return = 0 ∨ o.Call ≤ o.Return := fun o ho => by
  obtain ⟨_, h2⟩ := vErr_zero (h.v o ho)
  by_cases h0 : o.Return = 0
  · exact .inl h0
  · have := h2 h0; exact .inr (by omega)
theorem Width_ref {l : List history_Operation} (h : Good l) (hm : l.length ≤ 1000) : ∃ w, history_Width ⟨l⟩ = some w ∧ esref39_Width ⟨l⟩ = some w := by
  refine ⟨_, Width_eq (h := ⟨l⟩) h.asc h.own hm, ?_⟩
  rw [refWidth_eq (h := ⟨l⟩) hm]
  congr 1
  refine (wd_wr 0 (by simpa using h.pw.imp fun h => h.2.1) fun o ho => ?_).symm
  obtain ⟨h1, h2⟩ := vErr_zero (h.v o ho)
  by_cases h0 : o.Return = 0
  · omega
  · have := h2 h0; omega
theorem wd_one : ∀ {l prev : List history_Operation} {m : Int}, (prev ++ l).Pairwise (fun a b => a.Return ≠ 0 ∧ a.Return < b.Call) → m ≤ 1 → wd prev l m ≤ 1
  | [], _, _, _, hm => hm
  | o :: l, prev, m, h, hm => by
    unfold wd
    refine wd_one (by rw [List.append_assoc]; exact h) ?_
    have h0 : prev.filter (opn o.Call) = [] := by
      rw [List.filter_eq_nil_iff]
      intro a ha
      have := (List.pairwise_append.1 h).2.2 a ha o (by simp)
      unfold opn
      rw [Bool.or_eq_true, beq_iff_eq, decide_eq_true_iff]
      omega
    have h1 : ((prev ++ [o]).filter (opn o.Call)).length ≤ 1 := by
      rw [List.filter_append, h0, List.nil_append]
      exact List.length_filter_le _ _
    unfold maxI
    split <;> omega
/-! The operations of a process, by their places. -/
def zOp : history_Operation := ⟨0, 0, [], [], 0, 0⟩
def at_ (l : List history_Operation) (j : Int) : history_Operation := (idx l j).getD zOp
theorem ofL_mem {p j : Int} : ∀ {i : Nat} {l : List history_Operation}, j ∈ ofL p i l → (i : Int) ≤ j ∧ j < ((i + l.length : Nat) : Int)
  | i, [], h => by simp [ofL] at h
  | i, o :: l, h => by
    unfold ofL at h
    rw [List.length_cons]
    split at h
    · rcases List.mem_cons.1 h with rfl | h
      · omega
      · have := ofL_mem h; omega
    · have := ofL_mem h; omega
theorem ofL_asc (p : Int) : ∀ (i : Nat) (l : List history_Operation), (ofL p i l).Pairwise (· < ·)
  | _, [] => List.Pairwise.nil
  | i, o :: l => by
    unfold ofL
    split
    · rw [List.pairwise_cons]
      refine ⟨fun j hj => ?_, ofL_asc p (i + 1) l⟩
      have := (ofL_mem hj).1
      omega
    · exact ofL_asc p (i + 1) l
theorem map_ofL (p : Int) : ∀ (l pre : List history_Operation), (ofL p pre.length l).map (at_ (pre ++ l)) = l.filter (·.Process == p)
  | [], _ => rfl
  | o :: l, pre => by
    have ih := map_ofL p l (pre ++ [o])
    rw [List.length_append, List.append_assoc] at ih
    have ih : (ofL p (pre.length + 1) l).map (at_ (pre ++ o :: l)) = l.filter (·.Process == p) := ih
    have ho : at_ (pre ++ o :: l) (pre.length : Int) = o := by
      unfold at_
      rw [idx_nat (by simp)]
      simp
    unfold ofL
    rw [List.filter_cons]
    split
    · rw [List.map_cons, ih, ho]
    · exact ih
theorem ofL_at {p : Int} {l : List history_Operation} {j : Int} (h : j ∈ ofL p 0 l) : idx l j = some (at_ l j) ∧ (at_ l j).Process = p ∧ 0 ≤ j ∧ j < (l.length : Int) := by
  have h1 := ofL_mem h
  have h2 : at_ l j ∈ l.filter (·.Process == p) := by
    rw [← map_ofL p l []]
    exact List.mem_map.2 ⟨j, h, rfl⟩
  have h3 : (idx l j).isSome = true := by
    rw [idx_in, decide_eq_true (by omega), decide_eq_true (by omega)]; rfl
  obtain ⟨x, hx⟩ := Option.isSome_iff_exists.1 h3
  refine ⟨by unfold at_; rw [hx]; rfl, by simpa using (List.mem_filter.1 h2).2, by omega, by omega⟩
def oneL (l : List history_Operation) (js : List Int) : List history_Operation := (js.map (at_ l)).filter fun o => o.Return != 0
theorem l2_width {ops : List history_Operation} {p : Int} {js : List Int} (hjs : js = ofL p 0 ops) (hm : ops.length ≤ 1000) :
    loopO (eslaw38_HistoryWidth.l2 ⟨ops⟩ p js) (0, []) = some (.inl (oneL ops js)) := by
  have hl : js.length ≤ 1000 := by rw [hjs]; exact Nat.le_trans (ofL_length _ _ _) hm
  obtain ⟨b, hb, hq⟩ : ∃ b, loopO (eslaw38_HistoryWidth.l2 ⟨ops⟩ p js) (0, []) = some b ∧ b = .inl (oneL ops js) := by
    refine loopO_inv (fun k s => s = ((k : Int), oneL ops (js.take k))) js.length rfl (fun k s hk hI => ?_) (fun s hI => ?_)
    · subst hI
      have hmem : js[k] ∈ ofL p 0 ops := by rw [← hjs]; exact List.getElem_mem hk
      obtain ⟨a1, a2, a3, a4⟩ := ofL_at hmem
      have hol : (oneL ops (js.take k)).length ≤ k := by
        unfold oneL
        refine Nat.le_trans (List.length_filter_le _ _) ?_
        rw [List.length_map, List.length_take]; omega
      have hj6 : eslaw38_HistoryWidth.j6 ⟨ops⟩ js k (oneL ops (js.take k)) false = some (.inl (((k + 1 : Nat) : Int), oneL ops (js.take (k + 1)))) := by
        unfold eslaw38_HistoryWidth.j6 eslaw38_HistoryWidth.j5
        rw [if_neg (by simp), idx_nat hk, Option.bind_some]
        show (idx ops js[k]).bind _ = _
        rw [a1, Option.bind_some, take_snoc hk]
        have ho : oneL ops (js.take k ++ [js[k]]) = oneL ops (js.take k) ++ if (at_ ops js[k]).Return != 0 then [at_ ops js[k]] else [] := by
          unfold oneL
          rw [List.map_append, List.filter_append, List.map_singleton, List.filter_cons, List.filter_nil]
        rw [ho]
        cases (at_ ops js[k]).Return != 0 with
        | true => rw [if_pos rfl, if_pos rfl, app_of (by simp; omega), Option.bind_some, letV_of, wcast hk (by omega)]
        | false => rw [if_neg (by simp), if_neg (by simp), List.append_nil, letV_of, wcast hk (by omega)]
      unfold eslaw38_HistoryWidth.l2
      simp only [lt_of_len hk, if_true, idx_nat hk, Option.bind_some]
      rw [if_neg (by simpa using a3), if_neg (by simpa using a4)]
      refine ⟨_, ?_, rfl⟩
      rw [a1, Option.bind_some, if_neg (by simp [a2])]
      rcases Nat.eq_zero_or_pos k with h0 | h0
      · subst h0
        rw [if_neg (by simp)]
        exact hj6
      · rw [if_pos (by simpa using h0)]
        have hw : IntKind.i64.wrap ((k : Int) - 1) = ((k - 1 : Nat) : Int) := by rw [w64 (by omega) (by omega)]; omega
        have hk1 : k - 1 < js.length := by omega
        rw [letV_of, hw, idx_nat hk1, Option.bind_some]
        have hlt : js[k - 1] < js[k] := by
          have := ofL_asc p 0 ops
          rw [← hjs] at this
          exact (List.pairwise_iff_getElem.1 this) (k - 1) k hk1 hk (by omega)
        rw [decide_eq_false (by omega)]
        exact hj6
    · subst hI
      unfold eslaw38_HistoryWidth.l2
      dsimp only
      exact ⟨_, if_neg (by rw [not_lt_len]; simp), by rw [List.take_length]⟩
  rw [hb, hq]
theorem l1_width {ops : List history_Operation} {p : Int} (hm : ops.length ≤ 1000) :
    loopO (eslaw38_HistoryWidth.l1 ⟨ops⟩ p) (0, 0) = some ((ops.filter (·.Process == p)).length : Int) := by
  obtain ⟨b, hb, hq⟩ : ∃ b, loopO (eslaw38_HistoryWidth.l1 ⟨ops⟩ p) (0, 0) = some b ∧ b = ((ops.filter (·.Process == p)).length : Int) := by
    refine loopO_inv (fun k s => s = ((((ops.take k).filter (·.Process == p)).length : Int), (k : Int))) ops.length rfl (fun k s hk hI => ?_) (fun s hI => ?_)
    · subst hI
      have hc : ((ops.take k).filter (·.Process == p)).length ≤ k := Nat.le_trans (List.length_filter_le _ _) (by rw [List.length_take]; omega)
      unfold eslaw38_HistoryWidth.l1
      simp only [lt_of_len hk, if_true, idx_nat hk, Option.bind_some, eslaw38_HistoryWidth.j3, letV_of, wcast hk (by omega)]
      refine ⟨_, ?_, rfl⟩
      rw [take_snoc hk, List.filter_append, List.length_append, List.filter_cons, List.filter_nil]
      have hw : IntKind.i64.wrap ((((ops.take k).filter (·.Process == p)).length : Int) + 1) = (((ops.take k).filter (·.Process == p)).length + 1 : Nat) := w64n (by omega)
      cases ops[k].Process == p with
      | true => rw [if_pos rfl, hw]; simp
      | false => simp
    · subst hI
      unfold eslaw38_HistoryWidth.l1
      dsimp only
      exact ⟨_, if_neg (by rw [not_lt_len]; simp), by rw [List.take_length]⟩
  rw [hb, hq]
theorem historyWidth_true (l : List Int) (q : Int) : eslaw38_HistoryWidth l q = some true := by
  obtain ⟨n, ops, hT, hM, hl⟩ := Times_ex l
  have hg := hM.good
  obtain ⟨w, w1, w2⟩ := Width_ref hg (by omega)
  obtain ⟨x, hx, _⟩ := Index_ex q 6 (by decide) (by decide)
  unfold eslaw38_HistoryWidth
  rw [hT, Option.bind_some]
  simp only [w1, w2, hx, Option.bind_some, bne_self_eq_false, Bool.false_eq_true, if_false, letV_of]
  generalize IntKind.i64.wrap (101 + x) = p
  rw [Of_eq ⟨ops⟩ p (by show ops.length ≤ 1000; omega), Option.bind_some]
  show (loopO (eslaw38_HistoryWidth.l2 ⟨ops⟩ p (ofL p 0 ops)) (0, [])).bind _ = _
  rw [l2_width rfl (by omega)]
  simp only [Option.bind_some, eslaw38_HistoryWidth.j4]
  rw [l1_width (by omega), Option.bind_some]
  have hmap : (ofL p 0 ops).map (at_ ops) = ops.filter (·.Process == p) := map_ofL p ops []
  have hcount : ((ops.filter (·.Process == p)).length : Int) = ((ofL p 0 ops).length : Int) := by rw [← hmap, List.length_map]
  have hone : oneL ops (ofL p 0 ops) = (ops.filter (·.Process == p)).filter fun o => o.Return != 0 := by
    unfold oneL
    rw [hmap]
  have hsub : (oneL ops (ofL p 0 ops)).Sublist ops := by
    rw [hone]
    exact List.filter_sublist.trans List.filter_sublist
  have hlen := hsub.length_le
  have hw1 := Width_eq (h := ⟨oneL ops (ofL p 0 ops)⟩) (hg.asc.sublist hsub) (fun o ho => hg.own o (hsub.subset ho)) (by show (oneL ops (ofL p 0 ops)).length ≤ 1000; omega)
  have hpw : (oneL ops (ofL p 0 ops)).Pairwise (fun a b => a.Return ≠ 0 ∧ a.Return < b.Call) := by
    have h1 := (hg.pw.sublist hsub)
    refine h1.imp_of_mem fun {a b} ha hb hr => ?_
    rw [hone] at ha hb
    have ha1 := List.mem_filter.1 ha
    have hb1 := List.mem_filter.1 hb
    have ha2 := (List.mem_filter.1 ha1.1).2
    have hb2 := (List.mem_filter.1 hb1.1).2
    refine ⟨by simpa using ha1.2, hr.2.2.2 ?_⟩
    have e1 : a.Process = p := by simpa using ha2
    have e2 : b.Process = p := by simpa using hb2
    rw [e1, e2]
  have hle : wd [] (oneL ops (ofL p 0 ops)) 0 ≤ 1 := wd_one (by simpa using hpw) (by decide)
  unfold eslaw38_HistoryWidth.j2
  rw [hcount, hw1]
  simp only [beq_self_eq_true, if_true, Option.bind_some, decide_eq_true hle, awake_true, eslaw38_HistoryWidth.j1]
end Go.Proofs.Ytbbeobiampbddaa
