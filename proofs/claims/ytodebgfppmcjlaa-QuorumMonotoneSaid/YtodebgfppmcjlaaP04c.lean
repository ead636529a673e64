/- The quorum functions, as plain data: which sets of members are quorums. -/
import Derived.Test.YtodebgfppmcjlaaP04b
set_option linter.unusedVariables false
set_option linter.unusedSimpArgs false
namespace Go.Proofs.Ytodebgfppmcjlaa
open Go Go.Proofs.YtodebgfppmcjlaaL

def wAll : List api_Member → Int
  | [] => 0
  | m :: l => m.Weight + wAll l
def wIn : List api_Member → List Bool → Int
  | m :: l, b :: bs => (if b then m.Weight else 0) + wIn l bs
  | _, _ => 0
def WB (l : List api_Member) : Prop := ∀ m ∈ l, 1 ≤ m.Weight ∧ m.Weight ≤ 9
theorem wAll_snoc (l : List api_Member) (m : api_Member) : wAll (l ++ [m]) = wAll l + m.Weight := by
  induction l with
  | nil => simp [wAll]
  | cons x l ih => simp only [List.cons_append, wAll, ih]; omega
theorem wIn_snoc (l : List api_Member) (m : api_Member) : ∀ (bs : List Bool) (b : Bool), bs.length = l.length → wIn (l ++ [m]) (bs ++ [b]) = wIn l bs + (if b then m.Weight else 0) := by
  induction l with
  | nil => intro bs b h; have : bs = [] := List.length_eq_zero_iff.1 h; subst this; simp [wIn]
  | cons x l ih =>
    intro bs b h
    cases bs with
    | nil => simp at h
    | cons y bs =>
      simp only [List.cons_append, wIn, ih bs b (by simpa using h)]
      omega
theorem wAll_bd {l : List api_Member} (h : WB l) : (l.length : Int) ≤ wAll l ∧ wAll l ≤ 9 * (l.length : Int) := by
  induction l with
  | nil => simp [wAll]
  | cons m l ih =>
    have := ih fun x hx => h x (by simp [hx])
    have := h m (by simp)
    simp only [wAll, List.length_cons]
    omega
theorem wIn_bd {l : List api_Member} (h : WB l) : ∀ bs : List Bool, 0 ≤ wIn l bs ∧ wIn l bs ≤ wAll l := by
  induction l with
  | nil => intro bs; simp [wIn, wAll]
  | cons m l ih =>
    intro bs
    have h2 := h m (by simp)
    have h3 := (wAll_bd fun x hx => h x (by simp [hx]) : (l.length : Int) ≤ wAll l ∧ _)
    cases bs with
    | nil => simp only [wIn, wAll]; omega
    | cons b bs =>
      have := ih (fun x hx => h x (by simp [hx])) bs
      simp only [wIn, wAll]
      split <;> omega
theorem WB.take {l : List api_Member} (h : WB l) (k : Nat) : WB (l.take k) := fun m hm => h m (List.mem_of_mem_take hm)

theorem weighted_eq (l : List api_Member) (b : List Bool) (h : WB l) (hn : l.length ≤ 1000) (hb : b.length = l.length) : quorum_weighted l b = some (decide (wAll l < 2 * wIn l b)) := by
  unfold quorum_weighted
  have e := loopO_up (step := quorum_weighted.l1 l b) (fun k => (2 * wIn (l.take k) (b.take k), wAll (l.take k), (k : Int))) l.length (b := (2 * wIn l b, wAll l)) ?_ ?_
  · simp only [List.take_zero, wIn, wAll, Int.natCast_zero, Int.mul_zero] at e
    rw [e]; rfl
  · intro k hk
    have hkb : k < b.length := by omega
    have h1 := wAll_bd (h.take k)
    have h2 := wIn_bd (h.take k) (b.take k)
    have h3 := h l[k] (by simp)
    rw [List.length_take, Nat.min_eq_left (by omega)] at h1
    simp only [quorum_weighted.l1, lt_of_len hk, if_true, idx_nat hk, idx_nat hkb, Option.bind_some, letV_of, quorum_weighted.j2, wcast hk (by omega)]
    rw [take_snoc hk, take_snoc hkb, wAll_snoc, wIn_snoc _ _ _ _ (by simp [hb]), w64 (x := wAll (l.take k) + l[k].Weight) (by omega) (by omega)]
    cases b[k] with
    | false => simp
    | true => simp only [if_true]; rw [w64 (x := 2 * l[k].Weight) (by omega) (by omega), w64 (by omega) (by omega)]; simp only [Option.some.injEq, Sum.inl.injEq, Prod.mk.injEq, and_true]; omega
  · simp only [quorum_weighted.l1, not_lt_len, List.take_length]
    rw [List.take_of_length_le (by omega)]
    rfl

/-- What the members that are there answer. -/
def cSpec (v : api_View) (b : List Bool) : Bool :=
  if v.Members.length = 0 then false
  else if v.Rule.Kind = 1 then decide ((v.Members.length : Int) < 2 * (b.count true : Int))
  else if v.Rule.Kind = 2 then decide (wAll v.Members < 2 * wIn v.Members b)
  else if v.Rule.Kind = 3 then (if v.Rule.Columns < 1 then false else gridF b.length v.Rule.Columns.toNat b false)
  else if v.Rule.Kind = 4 then decide (((v.Members.length : Int) + v.Rule.Faulty + 2) / 2 ≤ (b.count true : Int)) else false
structure VOk (v : api_View) : Prop where
  rule : vRule v.Rule = 0
  n : v.Members.length ≤ 12
  srv : ∀ m ∈ v.Members, 1 ≤ m.Server ∧ m.Server ≤ 12
  wt : WB v.Members
  asc : v.Members.Pairwise fun a b => a.Server < b.Server
theorem vRule_ok {r : api_Rule} (h : vRule r = 0) : 1 ≤ r.Kind ∧ r.Kind ≤ 4 ∧ (r.Kind = 3 → 1 ≤ r.Columns ∧ r.Columns ≤ 12) ∧ 0 ≤ r.Faulty ∧ r.Faulty ≤ 12 ∧ (r.Kind ≠ 4 → r.Faulty = 0) := by
  unfold vRule at h
  split at h
  · simp at h
  split at h
  · simp at h
  split at h
  · simp at h
  omega
theorem contains_eq (v : api_View) (b : List Bool) (h : VOk v) (hb : b.length = v.Members.length) : quorum_contains v b = some (cSpec v b) := by
  have hn := h.n
  have hr := vRule_ok h.rule
  have hc : b.count true ≤ b.length := List.count_le_length
  unfold quorum_contains cSpec
  by_cases h0 : v.Members.length = 0
  · simp [h0]
  rw [if_neg (by simpa using h0), if_neg h0]
  by_cases h1 : v.Rule.Kind = 1
  · simp only [h1, cnt_eq b (by omega), Option.bind_some, letV_of, w64 (x := 2 * (b.count true : Int)) (by omega) (by omega)]
    simp
  rw [if_neg (by simpa using h1), if_neg h1]
  by_cases h2 : v.Rule.Kind = 2
  · simp only [h2, weighted_eq _ b h.wt (by omega) hb]
    simp
  rw [if_neg (by simpa using h2), if_neg h2]
  by_cases h3 : v.Rule.Kind = 3
  · simp only [h3, quorum_grid]
    rw [if_pos (show b.length ≤ 140737488355328 ∧ v.Rule.Columns ≤ 4611686018427387904 by omega)]
    simp
  rw [if_neg (by simpa using h3), if_neg h3]
  have h4 : v.Rule.Kind = 4 := by omega
  simp only [h4, cnt_eq b (by omega), Option.bind_some, letV_of]
  rw [w64 (x := (v.Members.length : Int) + v.Rule.Faulty) (by omega) (by omega), w64 (x := (v.Members.length : Int) + v.Rule.Faulty + 2) (by omega) (by omega)]
  rw [Int.tdiv_eq_ediv_of_nonneg (by omega), w64 (by omega) (by omega)]
  simp
/-- Who of the members is among the servers. -/
def pres (v : api_View) (p : Int → Bool) : List Bool := v.Members.map fun m => p m.Server
def isQ (v : api_View) (p : Int → Bool) : Bool := cSpec v (pres v p)
theorem IsQuorum_eq (v : api_View) (xs : List Int) (h : VOk v) (hx : xs.length ≤ 4611686018427387904) : quorum_IsQuorum v xs = some (isQ v fun s => decide (s ∈ xs)) := by
  have hn := h.n
  unfold quorum_IsQuorum
  rw [mk_of (by omega) (by omega)]
  simp only [Option.bind_some, Int.toNat_natCast]
  have e := loopO_up (step := quorum_IsQuorum.l1 v xs) (fun k => ((pres v fun s => decide (s ∈ xs)).take k ++ List.replicate (v.Members.length - k) false, (k : Int))) v.Members.length (b := pres v fun s => decide (s ∈ xs)) ?_ ?_
  · simp only [List.take_zero, List.nil_append, Nat.sub_zero, Int.natCast_zero] at e
    rw [e]
    simp only [Option.bind_some, quorum_IsQuorum.j1]
    rw [contains_eq v _ h (by simp [pres])]
    rfl
  · intro k hk
    have hp : k < (pres v fun s => decide (s ∈ xs)).length := by simpa [pres] using hk
    simp only [quorum_IsQuorum.l1, lt_of_len hk, if_true, idx_nat hk, Option.bind_some, letV_of, Contains_eq xs _ hx, wcast hk (by omega)]
    rw [idx_nat (by simp; omega)]
    simp only [Option.bind_some, Int.toNat_natCast]
    rw [take_snoc hp, show v.Members.length - k = (v.Members.length - (k + 1)) + 1 by omega, List.replicate_succ, List.set_append_right _ _ (by rw [List.length_take]; omega)]
    rw [List.length_take, Nat.min_eq_left (by omega), Nat.sub_self]
    simp [pres]
  · simp only [quorum_IsQuorum.l1, not_lt_len, Nat.sub_self, List.replicate_zero, List.append_nil]
    rw [List.take_of_length_le (by simp [pres])]
    rfl
end Go.Proofs.Ytodebgfppmcjlaa
