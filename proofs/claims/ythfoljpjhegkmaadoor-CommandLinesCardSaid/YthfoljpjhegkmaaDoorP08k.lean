/- The command language, as plain data: CommandLines. -/
import Derived.Test.YthfoljpjhegkmaaDoorP08i
import Derived.Test.YthfoljpjhegkmaaDoorLr
set_option linter.unusedVariables false
set_option linter.unusedSimpArgs false
namespace Go.Proofs.YthfoljpjhegkmaaDoor
open Go Go.Proofs.YthfoljpjhegkmaaDoorL

theorem spl_app (c : UInt8) (r : List UInt8) : ∀ a : List UInt8, (∀ x ∈ a, x ≠ c) → spl c (a ++ c :: r) = a :: spl c r
  | [], _ => by rw [List.nil_append, spl, if_pos rfl]
  | b :: l, h => by
    have ih := spl_app c r l (fun x hx => h x (by simp [hx]))
    rw [List.cons_append, spl, if_neg (h b (by simp)), ih]
/-- Lines that went before move the line of a mistake. -/
theorem com_shift (s : api_Summary) (m : Nat) : ∀ (ls : List (List UInt8)) (acc : List api_Change) (i : Nat),
    ((comS s acc i ls).2.1 = 0 ∧ comS s acc (i + m) ls = comS s acc i ls) ∨
    (∃ l : Nat, (comS s acc i ls).2.1 = (l : Int) ∧ i + 1 ≤ l ∧ l ≤ i + ls.length ∧ comS s acc (i + m) ls = ((comS s acc i ls).1, ((l + m : Nat) : Int), (comS s acc i ls).2.2))
  | [], acc, i => by left; unfold comS; split <;> exact ⟨rfl, rfl⟩
  | x :: xs, acc, i => by
    rw [comS, comS]
    by_cases h1 : x = [] ∨ x.head? = some 35
    · rw [if_pos h1, if_pos h1, show i + m + 1 = (i + 1) + m by omega]
      rcases com_shift s m xs acc (i + 1) with h | ⟨l, e, a, b, h⟩
      · exact .inl h
      · exact .inr ⟨l, e, by omega, by simp only [List.length_cons]; omega, h⟩
    rw [if_neg h1, if_neg h1]
    by_cases h2 : (parS x).2 ≠ 0
    · rw [if_pos h2, if_pos h2]
      exact .inr ⟨i + 1, rfl, by omega, by simp only [List.length_cons]; omega, by rw [show i + m + 1 = i + 1 + m by omega]⟩
    rw [if_neg h2, if_neg h2]
    by_cases h3 : (chkS (parS x).1 s acc).2 ≠ 0
    · rw [if_pos h3, if_pos h3]
      exact .inr ⟨i + 1, rfl, by omega, by simp only [List.length_cons]; omega, by rw [show i + m + 1 = i + 1 + m by omega]⟩
    rw [if_neg h3, if_neg h3, show i + m + 1 = (i + 1) + m by omega]
    rcases com_shift s m xs (acc ++ [(chkS (parS x).1 s acc).1]) (i + 1) with h | ⟨l, e, a, b, h⟩
    · exact .inl h
    · exact .inr ⟨l, e, by omega, by simp only [List.length_cons]; omega, h⟩
/-- Where a mistake stands once three lines are put in. -/
def putL (l : Int) : Int := if l = 1 then 2 else if 1 < l then l + 3 else l
theorem com_put (s : api_Summary) (a : List UInt8) (ls : List (List UInt8)) :
    ∃ l : Nat, (comS s [] 0 (a :: ls)).2.1 = (l : Int) ∧ l ≤ 1 + ls.length ∧ comS s [] 0 ([] :: a :: [35, 32, 120] :: [] :: ls) = ((comS s [] 0 (a :: ls)).1, putL l, (comS s [] 0 (a :: ls)).2.2) := by
  have tail : ∀ acc i, comS s acc i ([35, 32, 120] :: [] :: ls) = comS s acc (i + 2) ls := by
    intro acc i
    rw [comS, if_pos (.inr rfl), comS, if_pos (.inl rfl)]
  have sh : ∀ acc, ∃ l : Nat, (comS s acc 1 ls).2.1 = (l : Int) ∧ l ≤ 1 + ls.length ∧ comS s acc 4 ls = ((comS s acc 1 ls).1, putL l, (comS s acc 1 ls).2.2) := by
    intro acc
    rcases com_shift s 3 ls acc 1 with ⟨h0, h⟩ | ⟨l, e, h1, h2, h⟩
    · refine ⟨0, h0, by omega, ?_⟩
      rw [show (1 + 3) = 4 from rfl] at h
      rw [h, show putL ((0 : Nat) : Int) = 0 from rfl]
      rw [← h0]
    · refine ⟨l, e, h2, ?_⟩
      rw [show (1 + 3) = 4 from rfl] at h
      rw [h]
      unfold putL
      rw [if_neg (by omega), if_pos (by omega)]
      rfl
  rw [show comS s [] 0 ([] :: a :: [35, 32, 120] :: [] :: ls) = comS s [] 1 (a :: [35, 32, 120] :: [] :: ls) by rw [comS, if_pos (.inl rfl)]]
  rw [comS, comS]
  by_cases h1 : a = [] ∨ a.head? = some 35
  · rw [if_pos h1, if_pos h1, tail]
    exact sh []
  rw [if_neg h1, if_neg h1]
  by_cases h2 : (parS a).2 ≠ 0
  · rw [if_pos h2, if_pos h2]
    exact ⟨1, rfl, by omega, rfl⟩
  rw [if_neg h2, if_neg h2]
  by_cases h3 : (chkS (parS a).1 s []).2 ≠ 0
  · rw [if_pos h3, if_pos h3]
    exact ⟨1, rfl, by omega, rfl⟩
  rw [if_neg h3, if_neg h3, tail]
  exact sh _
theorem commandLines_true (a b : List UInt8) (s : api_Summary) (hs : smallS s) : eslaw08_CommandLines a b s = some true := by
  unfold eslaw08_CommandLines
  have j : eslaw08_CommandLines.j5 a b s true = some true := by unfold eslaw08_CommandLines.j5; rw [if_pos rfl, awake08]; rfl
  by_cases h1 : 300 < a.length
  · rw [if_pos (by rw [decide_eq_true_iff]; omega), j]
  rw [if_neg (by rw [decide_eq_true_iff]; omega)]
  by_cases h2 : 300 < b.length
  · rw [if_pos (by rw [decide_eq_true_iff]; omega), j]
  rw [if_neg (by rw [decide_eq_true_iff]; omega)]
  obtain ⟨v, hv⟩ := summary_tot s hs
  rw [hv]
  simp only [Option.bind_some]
  cases (v != 0)
  case true => exact j
  unfold eslaw08_CommandLines.j5
  rw [if_neg (by simp)]
  have h := loopO_find (step := eslaw08_CommandLines.l1 a) (fun k : Nat => (k : Int)) a (fun x => (x.toNat : Int) == 10) (fun _ _ => (Sum.inr true : Unit ⊕ Bool)) (.inl ())
    (fun k hk => by
      simp only [eslaw08_CommandLines.l1, lt_of_len hk, if_true, idx_nat hk, Option.bind_some, awake08, letV_of]
      rw [w64n (by omega)])
    (by simp only [eslaw08_CommandLines.l1, not_lt_len]; rfl)
  rw [show ((0 : Nat) : Int) = 0 from rfl] at h
  rw [h, findS_con]
  by_cases hn : (a.any fun x => (x.toNat : Int) == 10) = true
  · rw [if_pos hn]; rfl
  rw [if_neg hn]
  have hne : ∀ x ∈ a, x ≠ 10 := by
    intro x hx e
    apply hn
    rw [List.any_eq_true]
    exact ⟨x, hx, by rw [e]; rfl⟩
  show eslaw08_CommandLines.j4 a b s = some true
  unfold eslaw08_CommandLines.j4
  rw [cat_of (by simp; omega)]
  simp only [Option.bind_some]
  rw [cat_of (by simp; omega)]
  simp only [Option.bind_some]
  rw [compile_eq _ s (by simp; omega) hs, cat_of (by simp; omega)]
  simp only [Option.bind_some]
  rw [cat_of (by simp; omega)]
  simp only [Option.bind_some]
  rw [cat_of (by simp; omega)]
  simp only [Option.bind_some]
  rw [compile_eq _ s (by simp; omega) hs]
  simp only [Option.bind_some]
  rw [show (a ++ [10]) ++ b = a ++ 10 :: b by simp, spl_app 10 b a hne]
  rw [show (([10] ++ a) ++ [10, 35, 32, 120, 10, 10]) ++ b = [] ++ 10 :: (a ++ 10 :: ([35, 32, 120] ++ 10 :: ([] ++ 10 :: b))) by simp]
  rw [spl_app 10 _ [] (by simp), spl_app 10 _ a hne, spl_app 10 _ [35, 32, 120] (by decide), spl_app 10 _ [] (by simp)]
  obtain ⟨l, hl, hb, hp⟩ := com_put s a (spl 10 b)
  rw [hp, hl]
  have hlb := spl_len 10 b
  have hcl := com_len s (a :: spl 10 b) [] 0
  have hcl' : (comS s [] 0 (a :: spl 10 b)).1.length ≤ 10000 := by simp at hcl; omega
  have fin : ∀ x : Int, x = putL l → eslaw08_CommandLines.j2 (comS s [] 0 (a :: spl 10 b)).1 (comS s [] 0 (a :: spl 10 b)).2.2 (comS s [] 0 (a :: spl 10 b)).1 (putL l) (comS s [] 0 (a :: spl 10 b)).2.2 x = some true := by
    rintro x rfl
    unfold eslaw08_CommandLines.j2
    rw [same_refl _ hcl']
    simp only [Option.bind_some, if_true, beq_self_eq_true, awake08, eslaw08_CommandLines.j1]
  unfold eslaw08_CommandLines.j3
  by_cases e1 : l = 1
  · subst e1
    rw [if_pos (by decide), if_neg (by decide)]
    exact fin 2 rfl
  · rw [if_neg (by rw [beq_iff_eq]; omega)]
    by_cases e2 : 1 < l
    · rw [if_pos (by rw [decide_eq_true_iff]; omega), letV_of, w64 (by omega) (by omega)]
      refine fin _ ?_
      unfold putL
      rw [if_neg (by omega), if_pos (by omega)]
    · rw [if_neg (by rw [decide_eq_true_iff]; omega)]
      refine fin _ ?_
      unfold putL
      rw [if_neg (by omega), if_neg (by omega)]
theorem commandLines_wf {WE : api_WeightEntry → Prop} {R : Prop} (a b : List UInt8) (s : api_Summary) (h1 : wStr a) (h2 : wStr b) (h3 : wSlice (wInt .i64) s.Joined ∧ wSlice (wInt .i64) s.Removed ∧ wSlice WE s.Weights ∧ R) : eslaw08_CommandLines a b s = some true := commandLines_true a b s ⟨h3.1.1, h3.2.1.1, h3.2.2.1.1⟩
end Go.Proofs.YthfoljpjhegkmaaDoor
