/- Several texts as one: P30e0 P38i P38j. -/
import Derived.Test.YtbbeobiampbddaaFd
import Derived.Test.YtbbeobiampbddaaPm
import Derived.Test.YtbbeobiampbddaaP38A
/- Plain laws: digits and names. -/
set_option linter.unusedVariables false
set_option linter.unusedSimpArgs false
namespace Go.Proofs.Ytbbeobiampbddaa
open Go Go.Proofs.YtbbeobiampbddaaL
theorem Index_ex (n k : Int) (h1 : 1 ≤ k) (h2 : k ≤ 4611686018427387904) : ∃ d, eslaw00_Index n k = some d ∧ 0 ≤ d ∧ d < k := by
  unfold eslaw00_Index
  rw [if_neg (by simp; omega), if_pos (by omega)]
  have e1 : Int.tmod n k < k := Int.tmod_lt_of_pos _ (by omega)
  have e2 : -k < Int.tmod n k := by
    have : Int.tmod (-n) k < k := Int.tmod_lt_of_pos _ (by omega)
    rw [Int.neg_tmod] at this
    omega
  simp only [letV_of]
  rw [w64 (by omega) (by omega), if_pos (by omega)]
  exact ⟨_, rfl, Int.tmod_nonneg _ (by omega), Int.tmod_lt_of_pos _ (by omega)⟩
theorem Digit_ex (n b : Int) (i : Nat) (h1 : 2 ≤ b) (h2 : b ≤ 16) (hi : i ≤ 100000) : ∃ d, eslaw00_Digit n b (i : Int) = some d ∧ 0 ≤ d ∧ d < b := by
  obtain ⟨x, hx, hx0, hx1⟩ := Index_ex n 1099511627776 (by decide) (by decide)
  unfold eslaw00_Digit
  rw [hx]
  simp only [Option.bind_some]
  have key : ∃ r, loopO (eslaw00_Digit.l1 b (i : Int)) (x, 0) = some r ∧ 0 ≤ r := by
    refine loopO_inv (fun k s => ∃ y : Int, s = (y, (k : Int)) ∧ 0 ≤ y ∧ y < 1099511627776) i ⟨x, rfl, hx0, hx1⟩ (fun k s hk hI => ?_) (fun s hI => ?_)
    · obtain ⟨y, rfl, h3, h4⟩ := hI
      simp only [eslaw00_Digit.l1]
      rw [if_pos (by simpa using hk), if_pos (by omega)]
      have h5 : 0 ≤ Int.tdiv y b := Int.tdiv_nonneg h3 (by omega)
      have h6 : Int.tdiv y b ≤ y := by
        rw [Int.tdiv_eq_ediv_of_nonneg h3]
        exact Int.ediv_le_self _ h3
      simp only [letV_of]
      rw [w64 (x := Int.tdiv y b) (by omega) (by omega), wcast hk (by omega)]
      exact ⟨_, rfl, _, rfl, h5, by omega⟩
    · obtain ⟨y, rfl, h3, h4⟩ := hI
      simp only [eslaw00_Digit.l1]
      rw [if_neg (by simp)]
      exact ⟨_, rfl, h3⟩
  obtain ⟨r, hr, hr0⟩ := key
  rw [hr]
  simp only [Option.bind_some, eslaw00_Digit.j1]
  rw [if_pos (by omega)]
  exact ⟨_, rfl, Int.tmod_nonneg _ hr0, Int.tmod_lt_of_pos _ (by omega)⟩
theorem name_ex (d : Int) : ∃ s, eslaw00_name d = some s ∧ s.length ≤ 2 ∧ s ≠ [] := by
  unfold eslaw00_name
  obtain ⟨x, hx, h0, h1⟩ := Index_ex d 4 (by decide) (by decide)
  rw [hx, Option.bind_some]
  have : x = 0 ∨ x = 1 ∨ x = 2 ∨ x = 3 := by omega
  rcases this with rfl | rfl | rfl | rfl
  · exact ⟨[97], rfl, by decide, by decide⟩
  · exact ⟨[98], rfl, by decide, by decide⟩
  · exact ⟨[99], rfl, by decide, by decide⟩
  · exact ⟨[120, 49], rfl, by decide, by decide⟩
end Go.Proofs.Ytbbeobiampbddaa

/- Plain laws: the made histories. -/
set_option linter.unusedVariables false
namespace Go.Proofs.Ytbbeobiampbddaa
open Go Go.Proofs.YtbbeobiampbddaaL
theorem EffectV_ex (n : Int) (b : Bool) : ∃ e, eslaw00_Effect n b = some e ∧ esref14_ValidateEffect e = some 0 := by
  unfold eslaw00_Effect
  obtain ⟨d1, e1, _⟩ := Digit_ex n 4 1 (by decide) (by decide) (by decide)
  obtain ⟨s1, f1, l1, n1⟩ := name_ex d1
  obtain ⟨d2, e2, _⟩ := Digit_ex n 4 2 (by decide) (by decide) (by decide)
  obtain ⟨s2, f2, l2, n2⟩ := name_ex d2
  obtain ⟨d3, e3, d30, d31⟩ := Digit_ex n 16 3 (by decide) (by decide) (by decide)
  obtain ⟨d5, e5, _⟩ := Digit_ex n 4 5 (by decide) (by decide) (by decide)
  obtain ⟨s5, f5, l5, n5⟩ := name_ex d5
  obtain ⟨d0, e0, _⟩ := Digit_ex n 4 0 (by decide) (by decide) (by decide)
  have e1 : eslaw00_Digit n 4 1 = some d1 := e1
  have e2 : eslaw00_Digit n 4 2 = some d2 := e2
  have e3 : eslaw00_Digit n 16 3 = some d3 := e3
  have e5 : eslaw00_Digit n 4 5 = some d5 := e5
  have e0 : eslaw00_Digit n 4 0 = some d0 := e0
  simp only [e1, f1, e2, f2, e3, e5, f5, e0, Option.bind_some, letV_of, eslaw00_Effect.j1]
  have hw : IntKind.i64.wrap (d3 - 5) = d3 - 5 := w64 (by omega) (by omega)
  rw [hw]
  have key : ∀ (k : Int) (m : Int) (s : List UInt8), 1 ≤ k → k ≤ 5 → s.length ≤ 2 → (k = 3 → -1000000 ≤ m ∧ m ≤ 1000000) → (k = 4 ∨ k = 5 → m = 0) → (k = 2 ∨ k = 3 ∨ k = 5 → s = []) → esref14_ValidateEffect ⟨k, s1, s2, m, s⟩ = some 0 := by
    intro k m s h1 h2 h3 h4 h5 h6
    have a1 : decide (k < 1) = false := by simp; omega
    have a2 : decide (5 < k) = false := by simp; omega
    have a3 : (s1 == ([] : List UInt8)) = false := by cases s1 with | nil => exact absurd rfl n1 | cons a l => rfl
    have a4 : (s2 == ([] : List UInt8)) = false := by cases s2 with | nil => exact absurd rfl n2 | cons a l => rfl
    have a5 : decide ((16 : Int) < (s1.length : Int)) = false := by simp; omega
    have a6 : decide ((16 : Int) < (s2.length : Int)) = false := by simp; omega
    have a7 : decide ((32 : Int) < (s.length : Int)) = false := by simp; omega
    simp only [esref14_ValidateEffect, esref14_ValidateEffect.j6, esref14_ValidateEffect.j5, esref14_ValidateEffect.j4, esref14_ValidateEffect.j3, esref14_ValidateEffect.j2, esref14_ValidateEffect.j1, a1, a2, a3, a4, a5, a6, a7, Bool.false_eq_true, if_false]
    have : k = 1 ∨ k = 2 ∨ k = 3 ∨ k = 4 ∨ k = 5 := by omega
    rcases this with rfl | rfl | rfl | rfl | rfl
    · simp
    · simp [h6 (by simp)]
    · obtain ⟨b1, b2⟩ := h4 rfl
      have c1 : ¬ (m < -1000000) := by omega
      have c2 : ¬ (1000000 < m) := by omega
      simp [h6 (by simp), c1, c2]
    · simp [h5 (by simp)]
    · simp [h5 (by simp), h6 (by simp)]
  cases b with
  | true => exact ⟨_, rfl, key 1 _ _ (by decide) (by decide) l5 (by simp) (by simp) (by simp)⟩
  | false =>
    simp only [Bool.false_eq_true, if_false]
    cases hd0 : (d0 == 0) with
    | true => exact ⟨_, rfl, key 2 _ _ (by decide) (by decide) (by simp) (by simp) (by simp) (by simp)⟩
    | false =>
      cases hd1 : (d0 == 1) with
      | true => exact ⟨_, rfl, key 3 _ _ (by decide) (by decide) (by simp) (fun _ => by omega) (by simp) (by simp)⟩
      | false =>
        cases hd2 : (d0 == 2) with
        | true => exact ⟨_, rfl, key 4 _ _ (by decide) (by decide) l5 (by simp) (by simp) (by simp)⟩
        | false => exact ⟨_, rfl, key 5 _ _ (by decide) (by decide) (by simp) (by simp) (by simp) (by simp)⟩
/-- A history as it is made, its events counted. -/
structure MH (n : Int) (l : List history_Operation) : Prop where
  good : Good l
  res : ∀ o ∈ l, o.Result = [] ∧ o.Effects.length ≤ 100
  ev : ∀ o ∈ l, o.Call ≤ n ∧ o.Return ≤ n
theorem MH.nil : MH 0 [] := ⟨⟨by simp, by simp, List.Pairwise.nil⟩, by simp, by simp⟩
/-- The last operation of a process. -/
def lastOf (p : Int) : Nat → List history_Operation → Int
  | _, [] => -1
  | i, o :: l => if lastOf p (i + 1) l = -1 then (if o.Process == p then (i : Int) else -1) else lastOf p (i + 1) l
theorem lastOf_spec (p : Int) : ∀ (i : Nat) (l : List history_Operation), (lastOf p i l = -1 ∧ ∀ o ∈ l, o.Process ≠ p) ∨
    ∃ j, ∃ hj : j < l.length, lastOf p i l = ((i + j : Nat) : Int) ∧ l[j].Process = p ∧ ∀ o ∈ l.drop (j + 1), o.Process ≠ p
  | i, [] => .inl ⟨rfl, by simp⟩
  | i, o :: l => by
    unfold lastOf
    rcases lastOf_spec p (i + 1) l with ⟨h1, h2⟩ | ⟨j, hj, h1, h2, h3⟩
    · rw [if_pos h1]
      by_cases hp : o.Process = p
      · refine .inr ⟨0, by simp, ?_, hp, by simpa using h2⟩
        rw [if_pos (by simpa using hp)]; rfl
      · refine .inl ⟨by rw [if_neg (by simpa using hp)], fun q hq => ?_⟩
        rcases List.mem_cons.1 hq with rfl | hq
        · exact hp
        · exact h2 q hq
    · rw [if_neg (by rw [h1]; omega)]
      refine .inr ⟨j + 1, by simp; omega, by rw [h1]; congr 1; omega, h2, h3⟩
theorem lastOf_snoc (p : Int) (o : history_Operation) : ∀ (i : Nat) (l : List history_Operation), lastOf p i (l ++ [o]) = if o.Process == p then ((i + l.length : Nat) : Int) else lastOf p i l
  | i, [] => by
    unfold lastOf lastOf
    simp
  | i, a :: l => by
    rw [List.cons_append, lastOf, lastOf_snoc p o (i + 1) l]
    by_cases hp : (o.Process == p) = true
    · rw [if_pos hp, if_pos hp, if_neg (by omega)]
      rw [List.length_cons]; congr 1; omega
    · rw [if_neg hp, if_neg hp, lastOf]
theorem Times_l1 (l : List history_Operation) (p : Int) (hm : l.length ≤ 1000) : loopO (eslaw38_Times.l1 l p) (-1, 0) = some (lastOf p 0 l) := by
  obtain ⟨b, hb, hq⟩ : ∃ b, loopO (eslaw38_Times.l1 l p) (-1, 0) = some b ∧ b = lastOf p 0 l := by
    refine loopO_inv (fun k s => s = (lastOf p 0 (l.take k), (k : Int))) l.length rfl (fun k s hk hI => ?_) (fun s hI => ?_)
    · subst hI
      unfold eslaw38_Times.l1
      simp only [lt_of_len hk, if_true, idx_nat hk, Option.bind_some, eslaw38_Times.j8, letV_of, wcast hk (by omega)]
      refine ⟨_, ?_, rfl⟩
      rw [take_snoc hk, lastOf_snoc, List.length_take, Nat.min_eq_left (by omega), Nat.zero_add]
      cases l[k].Process == p <;> rfl
    · subst hI
      unfold eslaw38_Times.l1
      dsimp only
      exact ⟨_, if_neg (by rw [not_lt_len]; simp), by rw [List.take_length]⟩
  rw [hb, hq]
theorem vErr_range {o : history_Operation} (h : vErr o = 0) : 101 ≤ o.Process ∧ o.Process < 107 ∧ 1 ≤ o.Kind ∧ o.Kind ≤ 3 := by
  have h1 := vErr_eq o
  rw [h] at h1
  simp only [esref39_validOperation, esref39_validOperation.j2, esref39_validOperation.j1, esref06_Client, esref06_Client.j1] at h1
  by_cases a1 : 101 ≤ o.Process <;> by_cases a2 : o.Process < 107 <;> by_cases a3 : o.Kind < 1 <;> by_cases a4 : 3 < o.Kind <;> simp [a1, a2, a3, a4] at h1 <;> refine ⟨?_, ?_, ?_, ?_⟩ <;> omega
theorem vErr_ret {o : history_Operation} {r : Int} (h : vErr o = 0) (h0 : o.Return = 0) (hr : o.Call < r) : vErr { o with Return := r } = 0 := by
  obtain ⟨a, b, c, d⟩ := vErr_range h
  obtain ⟨e, _⟩ := vErr_zero h
  exact vErr_ok a b c d e (.inr hr)
/-- The open operation of a process returns. -/
theorem MH.ret {n : Int} {l : List history_Operation} (h : MH n l) {j : Nat} (hj : j < l.length) (h0 : l[j].Return = 0) (hlast : ∀ o ∈ l.drop (j + 1), o.Process ≠ l[j].Process) (hn : 0 ≤ n) :
    MH (n + 1) (l.set j { l[j] with Return := n + 1 }) := by
  obtain ⟨hg, hr, he⟩ := h
  have hset : l.set j { l[j] with Return := n + 1 } = l.take j ++ ({ l[j] with Return := n + 1 } : history_Operation) :: l.drop (j + 1) := by
    rw [List.set_eq_take_append_cons_drop, if_pos hj]
  have hl : l = l.take j ++ l[j] :: l.drop (j + 1) := by rw [← List.drop_eq_getElem_cons hj, List.take_append_drop]
  have hmem : l[j] ∈ l := List.getElem_mem hj
  obtain ⟨v1, v2⟩ := vErr_zero (hg.v _ hmem)
  have hin : ∀ o ∈ l.set j { l[j] with Return := n + 1 }, o ∈ l ∨ o = { l[j] with Return := n + 1 } := fun o ho => List.mem_or_eq_of_mem_set ho
  refine ⟨⟨fun o ho => ?_, fun o ho => ?_, ?_⟩, fun o ho => ?_, fun o ho => ?_⟩
  · rcases hin o ho with ho | rfl
    · exact hg.v o ho
    · have hv := hg.v _ hmem
      have hc := (he _ hmem).1
      exact vErr_ret hv h0 (by omega)
  · rcases hin o ho with ho | rfl
    · exact hg.c o ho
    · have hc := hg.c _ hmem
      have a := cErr_eq l[j]
      have b := cErr_eq { l[j] with Return := n + 1 }
      rw [hc] at a
      unfold esref39_content at a b
      rw [(hr _ hmem).1] at a b
      have : (if (l[j].Return == 0) = true then esref39_content.j2 (decide ((0 : Int) < (([] : List history_Value).length : Int))) else esref39_content.j2 false) = esref39_content.j2 false := by
        rw [h0]; rfl
      rw [this] at a
      have : (if ((n + 1 : Int) == 0) = true then esref39_content.j2 (decide ((0 : Int) < (([] : List history_Value).length : Int))) else esref39_content.j2 false) = esref39_content.j2 false := by
        rw [if_neg (by simp; omega)]
      simp only [this] at b
      rw [a] at b
      exact (Option.some.inj b).symm
  · have hpw := hg.pw
    rw [hl, List.pairwise_append, List.pairwise_cons] at hpw
    obtain ⟨p1, ⟨p2, p3⟩, p4⟩ := hpw
    rw [hset, List.pairwise_append, List.pairwise_cons]
    refine ⟨p1, ⟨fun o ho => ?_, p3⟩, fun a ha b hb => ?_⟩
    · obtain ⟨r1, r2, r3, r4⟩ := p2 o ho
      have hlast' := hlast o ho
      have hol : o ∈ l := List.mem_of_mem_drop ho
      have hoe := he o hol
      refine ⟨r1, ?_, fun _ => ?_, fun hp => absurd hp.symm hlast'⟩
      · show n + 1 ≠ o.Call
        omega
      · show n + 1 ≠ o.Return
        omega
    · rcases List.mem_cons.1 hb with rfl | hb
      · obtain ⟨r1, r2, r3, r4⟩ := p4 a ha l[j] (List.mem_cons_self ..)
        have hae := he a (List.mem_of_mem_take ha)
        refine ⟨r1, r2, fun _ => ?_, r4⟩
        show a.Return ≠ n + 1
        omega
      · exact p4 a ha b (List.mem_cons_of_mem _ hb)
  · rcases hin o ho with ho | rfl
    · exact hr o ho
    · exact (hr _ hmem : l[j].Result = [] ∧ l[j].Effects.length ≤ 100)
  · rcases hin o ho with ho | rfl
    · have := he o ho; omega
    · have : l[j].Call ≤ n := (he _ hmem).1
      exact ⟨by show l[j].Call ≤ _; omega, Int.le_refl _⟩
/-- An operation is called. -/
theorem MH.call {n : Int} {l : List history_Operation} (h : MH n l) {o : history_Operation} (hc : o.Call = n + 1) (h0 : o.Return = 0) (hv : vErr o = 0) (hcc : cErr o = 0) (hr : o.Result = [] ∧ o.Effects.length ≤ 100) (hn : 0 ≤ n) : MH (n + 1) (l ++ [o]) := by
  obtain ⟨hg, hre, he⟩ := h
  refine ⟨⟨fun q hq => ?_, fun q hq => ?_, ?_⟩, fun q hq => ?_, fun q hq => ?_⟩
  · rcases List.mem_append.1 hq with hq | hq
    · exact hg.v q hq
    · simp at hq; subst hq; exact hv
  · rcases List.mem_append.1 hq with hq | hq
    · exact hg.c q hq
    · simp at hq; subst hq; exact hcc
  · rw [List.pairwise_append]
    refine ⟨hg.pw, List.pairwise_singleton _ _, fun a ha b hb => ?_⟩
    simp at hb; subst hb
    have := he a ha
    refine ⟨by omega, by omega, fun h => by rw [h0]; exact h, fun hpp => by omega⟩
  · rcases List.mem_append.1 hq with hq | hq
    · exact hre q hq
    · simp at hq; subst hq; exact hr
  · rcases List.mem_append.1 hq with hq | hq
    · have := he q hq; omega
    · simp at hq; subst hq; omega
end Go.Proofs.Ytbbeobiampbddaa

/- Plain law: what Times makes. -/
set_option linter.unusedVariables false
namespace Go.Proofs.Ytbbeobiampbddaa
open Go Go.Proofs.YtbbeobiampbddaaL
theorem Times_call {l : List Int} {k : Nat} {ops : List history_Operation} {p x : Int} (hk : k < l.length) (hk2 : k < 40) (hM : MH k ops) (hl : ops.length ≤ k) (hp1 : 101 ≤ p) (hp2 : p < 107) :
    ∃ ops', eslaw38_Times.j4 l k ops ((k + 1 : Nat) : Int) p x false = some (.inl (((k + 1 : Nat) : Int), ((k + 1 : Nat) : Int), ops')) ∧ MH ((k + 1 : Nat) : Int) ops' ∧ ops'.length ≤ k + 1 := by
  have hw : IntKind.i64.wrap ((k : Int) + 1) = ((k + 1 : Nat) : Int) := w64n (by omega)
  unfold eslaw38_Times.j4
  rw [if_neg (by simp), idx_nat hk, Option.bind_some]
  obtain ⟨d, hd, hd0, hd1⟩ := Digit_ex l[k] 3 2 (by decide) (by decide) (by decide)
  have hd : eslaw00_Digit l[k] 3 2 = some d := hd
  have hw2 : IntKind.i64.wrap (1 + d) = 1 + d := w64 (by omega) (by omega)
  rw [hd, Option.bind_some, letV_of, hw2]
  have fin : ∀ es : List api_Effect, es.length ≤ 100 → cErr ⟨p, 1 + d, es, [], ((k + 1 : Nat) : Int), 0⟩ = 0 →
      ∃ ops', eslaw38_Times.j3 (k : Int) ops ((k + 1 : Nat) : Int) p (1 + d) es = some (.inl (((k + 1 : Nat) : Int), ((k + 1 : Nat) : Int), ops')) ∧ MH ((k + 1 : Nat) : Int) ops' ∧ ops'.length ≤ k + 1 := by
    intro es he hc
    unfold eslaw38_Times.j3 eslaw38_Times.j2
    rw [app_of (by simp; omega), Option.bind_some, letV_of, hw]
    refine ⟨_, rfl, ?_, by simp; omega⟩
    have := hM.call (o := ⟨p, 1 + d, es, [], ((k + 1 : Nat) : Int), 0⟩) (by simp) rfl (vErr_ok hp1 hp2 (by show 1 ≤ 1 + d; omega) (by show 1 + d ≤ 3; omega) (by show (1 : Int) ≤ ((k + 1 : Nat) : Int); omega) (.inl rfl)) hc ⟨rfl, he⟩ (by omega)
    exact this
  cases h1 : ((1 + d) == 1) with
  | true =>
    have hd0' : 1 + d = 1 := by simpa using h1
    obtain ⟨d9, hd9, _⟩ := Digit_ex l[k] 2 9 (by decide) (by decide) (by decide)
    have hd9 : eslaw00_Digit l[k] 2 9 = some d9 := hd9
    obtain ⟨e, he, hv⟩ := EffectV_ex l[k] (d9 == 1)
    rw [if_pos rfl]
    simp only [Option.bind_some, hd9, he]
    exact fin [e] (by simp) (cErr_upd hd0' rfl rfl hv)
  | false =>
    rw [if_neg (by simp)]
    exact fin [] (by simp) (cErr_other (by simpa using h1) rfl rfl)
theorem Times_step {l : List Int} {k : Nat} {ops : List history_Operation} (hk : k < l.length) (hk2 : k < 40) (hM : MH k ops) (hl : ops.length ≤ k) :
    ∃ ops', eslaw38_Times.j9 l k k ops true = some (.inl (((k + 1 : Nat) : Int), ((k + 1 : Nat) : Int), ops')) ∧ MH ((k + 1 : Nat) : Int) ops' ∧ ops'.length ≤ k + 1 := by
  have hw : IntKind.i64.wrap ((k : Int) + 1) = ((k + 1 : Nat) : Int) := w64n (by omega)
  unfold eslaw38_Times.j9
  obtain ⟨d, hd, hd0, hd1⟩ := Digit_ex l[k] 6 0 (by decide) (by decide) (by decide)
  have hd : eslaw00_Digit l[k] 6 0 = some d := hd
  have hw2 : IntKind.i64.wrap (101 + d) = 101 + d := w64 (by omega) (by omega)
  rw [if_pos rfl]
  simp only [letV_of, hw, idx_nat hk, Option.bind_some, hd, hw2]
  rw [Times_l1 ops (101 + d) (by omega), Option.bind_some]
  have call := fun x : Int => Times_call (l := l) (k := k) (ops := ops) (p := 101 + d) (x := x) hk hk2 hM hl (by omega) (by omega)
  unfold eslaw38_Times.j7
  rcases lastOf_spec (101 + d) 0 ops with ⟨h1, _⟩ | ⟨j, hj, h1, h2, h3⟩
  · rw [h1, if_neg (by decide)]
    unfold eslaw38_Times.j6
    rw [if_neg (by simp)]
    unfold eslaw38_Times.j5
    rw [if_neg (by decide)]
    exact call _
  · rw [h1, Nat.zero_add, if_pos (by simp), idx_nat hj, Option.bind_some]
    unfold eslaw38_Times.j6
    cases hr : (ops[j].Return != 0) with
    | true =>
      rw [if_pos rfl]
      unfold eslaw38_Times.j5
      rw [if_neg (by decide)]
      exact call _
    | false =>
      have hr0 : ops[j].Return = 0 := by simpa using hr
      rw [if_neg (by simp)]
      unfold eslaw38_Times.j5
      obtain ⟨d8, hd8, _⟩ := Digit_ex l[k] 8 3 (by decide) (by decide) (by decide)
      have hd8 : eslaw00_Digit l[k] 8 3 = some d8 := hd8
      rw [if_pos (by simp), idx_nat hk]
      simp only [Option.bind_some, hd8]
      cases decide (0 < d8) with
      | false => exact call _
      | true =>
        unfold eslaw38_Times.j4
        rw [if_pos rfl, idx_nat hj]
        simp only [Option.bind_some, letV_of, eslaw38_Times.j2, hw, Int.toNat_natCast]
        refine ⟨_, rfl, ?_, by simp; omega⟩
        exact hM.ret hj hr0 (fun o ho => by rw [h2]; exact h3 o ho) (by omega)
theorem Times_ex (l : List Int) : ∃ n ops, eslaw38_Times l = some ⟨ops⟩ ∧ MH n ops ∧ ops.length ≤ 40 := by
  unfold eslaw38_Times
  obtain ⟨b, hb, n, hq⟩ : ∃ b, loopO (eslaw38_Times.l2 l) (0, 0, []) = some b ∧ ∃ n, MH n b ∧ b.length ≤ 40 := by
    refine loopO_inv (fun k (s : Int × Int × List history_Operation) => s.1 = (k : Int) ∧ s.2.1 = (k : Int) ∧ MH k s.2.2 ∧ s.2.2.length ≤ k) (min l.length 40) ⟨rfl, rfl, MH.nil, Nat.le_refl _⟩ (fun k s hk hI => ?_) (fun s hI => ?_)
    · obtain ⟨a, i, ops⟩ := s
      obtain ⟨h1, h2, h3, h4⟩ := hI
      have h1 : a = (k : Int) := h1
      have h2 : i = (k : Int) := h2
      subst h1 h2
      have hk1 : k < l.length := by omega
      have hk2 : k < 40 := by omega
      obtain ⟨ops', e, m, le⟩ := Times_step hk1 hk2 h3 h4
      unfold eslaw38_Times.l2
      dsimp only
      rw [if_pos (lt_of_len hk1), decide_eq_true (by omega)]
      exact ⟨_, e, rfl, rfl, m, le⟩
    · obtain ⟨a, i, ops⟩ := s
      obtain ⟨h1, h2, h3, h4⟩ := hI
      have h1 : a = ((min l.length 40 : Nat) : Int) := h1
      have h2 : i = ((min l.length 40 : Nat) : Int) := h2
      subst h1 h2
      have h4 : ops.length ≤ min l.length 40 := h4
      refine ⟨ops, ?_, _, h3, by omega⟩
      unfold eslaw38_Times.l2
      dsimp only
      by_cases hc : l.length ≤ 40
      · rw [Nat.min_eq_left hc, if_neg (by rw [not_lt_len]; simp)]
        unfold eslaw38_Times.j9
        rw [if_neg (by simp)]
      · rw [Nat.min_eq_right (by omega), if_pos (by simp; omega)]
        unfold eslaw38_Times.j9
        rw [if_neg (by decide)]
  exact ⟨n, b, by rw [hb]; rfl, hq.1, hq.2⟩
end Go.Proofs.Ytbbeobiampbddaa
