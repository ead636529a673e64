/- The command language, as plain data: the proposal of a text. -/
import Derived.Test.YthfoljpjhegkmaaDoorP08e
set_option linter.unusedVariables false
set_option linter.unusedSimpArgs false
namespace Go.Proofs.YthfoljpjhegkmaaDoor
open Go Go.Proofs.YthfoljpjhegkmaaDoorL

/-- What a search for the first of a list answers. -/
def findS {α β : Type} (p : α → Bool) (f : Nat → α → β) : Nat → List α → Option β
  | _, [] => none
  | i, x :: xs => if p x then some (f i x) else findS p f (i + 1) xs
theorem loopO_find {α β τ : Type} {step : τ → Option (τ ⊕ β)} (pack : Nat → τ) (xs : List α) (p : α → Bool) (f : Nat → α → β) (e : β)
    (hs : ∀ k (hk : k < xs.length), step (pack k) = if p xs[k] then some (.inr (f k xs[k])) else some (.inl (pack (k + 1))))
    (he : step (pack xs.length) = some (.inr e)) : loopO step (pack 0) = some ((findS p f 0 xs).getD e) := by
  have : ∀ m k, k + m = xs.length → loopO step (pack k) = some ((findS p f k (xs.drop k)).getD e) := by
    intro m
    induction m with
    | zero =>
      intro k hk
      have hk : k = xs.length := by omega
      subst hk
      rw [List.drop_length, loopO_done he]
      rfl
    | succ m ih =>
      intro k hk
      have hk' : k < xs.length := by omega
      rw [List.drop_eq_getElem_cons hk', findS]
      by_cases hp : p xs[k] = true
      · rw [if_pos hp, loopO_done (b := f k xs[k]) (by rw [hs k hk', if_pos hp])]
        rfl
      · rw [if_neg hp, loopO_next (s' := pack (k + 1)) (by rw [hs k hk', if_neg hp])]
        exact ih (k + 1) (by omega)
  have h := this xs.length 0 (by omega)
  rwa [List.drop_zero] at h
theorem findS_none {α β : Type} (p : α → Bool) (f : Nat → α → β) : ∀ (xs : List α) (i : Nat), xs.any p = false → findS p f i xs = none
  | [], _, _ => rfl
  | x :: xs, i, h => by
    rw [List.any_cons, Bool.or_eq_false_iff] at h
    rw [findS, h.1, if_neg (by simp)]
    exact findS_none p f xs (i + 1) h.2
theorem findS_some {α β : Type} (p : α → Bool) (f : Nat → α → β) (P : β → Prop) (hf : ∀ i x, P (f i x)) : ∀ (xs : List α) (i : Nat), xs.any p = true → ∃ b, findS p f i xs = some b ∧ P b
  | [], _, h => by simp at h
  | x :: xs, i, h => by
    rw [findS]
    by_cases hp : p x = true
    · rw [if_pos hp]; exact ⟨_, rfl, hf _ _⟩
    · rw [if_neg hp]
      refine findS_some p f P hf xs (i + 1) ?_
      rw [List.any_cons] at h
      simpa [hp] using h
theorem findS_con {α β : Type} (p : α → Bool) (b : β) (xs : List α) (i : Nat) : findS p (fun _ _ => b) i xs = if xs.any p = true then some b else none := by
  by_cases h : xs.any p = true
  · obtain ⟨c, hc, e⟩ := findS_some p (fun _ _ => b) (fun c => c = b) (fun _ _ => rfl) xs i h
    rw [if_pos h, hc, e]
  · rw [if_neg h]; exact findS_none p _ xs i ((Bool.not_eq_true _).mp h)
theorem occurs1_eq (c : api_Change) (k n : Int) : command_occurs_1 c k n = some (c.Kind == k && c.Server == n) := by
  unfold command_occurs_1 command_occurs_1.j1
  by_cases h : c.Kind = k <;> simp [h]
theorem index_eq (xs : List api_Change) (f : api_Change → Option Bool) (p : api_Change → Bool) (hf : ∀ x, f x = some (p x)) (hx : xs.length ≤ 9223372036854775807) :
    ∃ i : Int, slices_IndexFunc_Change xs f = some i ∧ (0 ≤ i ↔ xs.any p = true) := by
  have h := loopO_find (step := slices_IndexFunc_Change.l1 xs f) (fun k : Nat => (k : Int)) xs p (fun k _ => .inr (k : Int)) (.inl ())
    (fun k hk => by
      simp only [slices_IndexFunc_Change.l1, lt_of_len hk, if_true, idx_nat hk, Option.bind_some, hf]
      by_cases hp : p xs[k] = true
      · simp [hp]
      · simp only [hp, if_false, letV_of]; rw [w64n (by omega)])
    (by simp only [slices_IndexFunc_Change.l1, not_lt_len]; rfl)
  unfold slices_IndexFunc_Change
  rw [show ((0 : Nat) : Int) = 0 from rfl] at h
  rw [h]
  simp only [Option.bind_some]
  by_cases hp : xs.any p = true
  · obtain ⟨b, hb, i, hi⟩ := findS_some p (fun k (_ : api_Change) => (Sum.inr (k : Int) : Unit ⊕ Int)) (fun b => ∃ i : Nat, b = .inr (i : Int)) (fun i _ => ⟨i, rfl⟩) xs 0 hp
    rw [hb, hi]
    exact ⟨i, rfl, by simp [hp]⟩
  · rw [findS_none p _ xs 0 ((Bool.not_eq_true _).mp hp)]
    exact ⟨-1, rfl, by simp [hp]⟩
theorem occurs_eq (xs : List api_Change) (k n : Int) (hx : xs.length ≤ 9223372036854775807) : command_occurs xs k n = some (xs.any fun c => c.Kind == k && c.Server == n) := by
  unfold command_occurs slices_ContainsFunc_Change
  obtain ⟨i, hi, h⟩ := index_eq xs (fun p : api_Change => command_occurs_1 p k n) (fun c => c.Kind == k && c.Server == n) (fun x => occurs1_eq x k n) hx
  rw [hi]
  simp only [Option.bind_some]
  congr 1
  rw [Bool.eq_iff_iff, decide_eq_true_iff]
  exact h
theorem contains_int (xs : List Int) (v : Int) (hx : xs.length ≤ 9223372036854775807) : slices_Contains_int xs v = some (xs.any (v == ·)) := by
  have h := loopO_find (step := slices_Index_int.l1 xs v) (fun k : Nat => (k : Int)) xs (v == ·) (fun k _ => .inr (k : Int)) (.inl ())
    (fun k hk => by
      simp only [slices_Index_int.l1, lt_of_len hk, if_true, idx_nat hk, Option.bind_some]
      by_cases hp : (v == xs[k]) = true
      · simp [hp]
      · simp only [hp, if_false, letV_of]; rw [w64n (by omega)])
    (by simp only [slices_Index_int.l1, not_lt_len]; rfl)
  unfold slices_Contains_int slices_Index_int
  rw [show ((0 : Nat) : Int) = 0 from rfl] at h
  rw [h]
  simp only [Option.bind_some]
  by_cases hp : xs.any (v == ·) = true
  · obtain ⟨b, hb, i, hi⟩ := findS_some (v == ·) (fun k (_ : Int) => (Sum.inr (k : Int) : Unit ⊕ Int)) (fun b => ∃ i : Nat, b = .inr (i : Int)) (fun i _ => ⟨i, rfl⟩) xs 0 hp
    rw [hb, hi, hp]
    simp
  · rw [findS_none (v == ·) _ xs 0 ((Bool.not_eq_true _).mp hp), show xs.any (v == ·) = false from (Bool.not_eq_true _).mp hp]
    rfl
theorem in_eq (xs : List Int) (v : Int) (hx : xs.length ≤ 9223372036854775807) : esref06_In xs v = some (xs.any (v == ·)) := by
  have h := loopO_find (step := esref06_In.l1 xs v) (fun k : Nat => (k : Int)) xs (v == ·) (fun _ _ => .inr true) (.inl ())
    (fun k hk => by
      simp only [esref06_In.l1, lt_of_len hk, if_true, idx_nat hk, Option.bind_some]
      rw [show (xs[k] == v) = (v == xs[k]) from by rw [Bool.eq_iff_iff, beq_iff_eq, beq_iff_eq]; exact eq_comm]
      by_cases hp : (v == xs[k]) = true
      · simp [hp]
      · simp only [hp, if_false, letV_of]; rw [w64n (by omega)])
    (by simp only [esref06_In.l1, not_lt_len]; rfl)
  unfold esref06_In
  rw [show ((0 : Nat) : Int) = 0 from rfl] at h
  rw [h, findS_con]
  cases xs.any (v == ·) <;> rfl
theorem joins_eq (xs : List api_Change) (v : Int) (hx : xs.length ≤ 9223372036854775807) : esref10_joins xs v = some (xs.any fun c => c.Kind == 1 && c.Server == v) := by
  have h := loopO_find (step := esref10_joins.l1 xs v) (fun k : Nat => (k : Int)) xs (fun c => c.Kind == 1 && c.Server == v) (fun _ _ => .inr true) (.inl ())
    (fun k hk => by
      simp only [esref10_joins.l1, lt_of_len hk, if_true, idx_nat hk, Option.bind_some, esref10_joins.j2]
      rw [letV_of, w64n (by omega)]
      by_cases h1 : (xs[k].Kind == 1) = true
      · rw [if_pos h1, h1]; rfl
      · rw [if_neg h1, show (xs[k].Kind == 1) = false by simpa using h1]; rfl)
    (by simp only [esref10_joins.l1, not_lt_len]; rfl)
  unfold esref10_joins
  rw [show ((0 : Nat) : Int) = 0 from rfl] at h
  rw [h, findS_con]
  cases xs.any (fun c => c.Kind == 1 && c.Server == v) <;> rfl
/-- A server's weight's version. -/
def entV (ws : List api_WeightEntry) (v : Int) : Int := (findS (fun w : api_WeightEntry => w.Server == v) (fun _ w => w.Version) 0 ws).getD 0
theorem findS_map {α β γ : Type} (p : α → Bool) (f : Nat → α → β) (g : β → γ) : ∀ (xs : List α) (i : Nat), findS p (fun i x => g (f i x)) i xs = (findS p f i xs).map g
  | [], _ => rfl
  | x :: xs, i => by
    rw [findS, findS]
    split
    · rfl
    · exact findS_map p f g xs (i + 1)
theorem version_eq (c : api_Change) (s : api_Summary) (hx : s.Weights.length ≤ 9223372036854775807) : command_version c s = some (if c.Kind = 4 then s.Version else entV s.Weights c.Server) := by
  unfold command_version
  by_cases h4 : c.Kind = 4
  · rw [if_pos (by simpa using h4), if_pos h4]
  rw [if_neg (by simpa using h4), if_neg h4]
  have h := loopO_find (step := command_version.l1 c s) (fun k : Nat => (k : Int)) s.Weights (fun w => w.Server == c.Server) (fun _ w => (Sum.inr w.Version : Unit ⊕ Int)) (.inl ())
    (fun k hk => by
      simp only [command_version.l1, lt_of_len hk, if_true, idx_nat hk, Option.bind_some]
      rw [letV_of, w64n (by omega)])
    (by simp only [command_version.l1, not_lt_len]; rfl)
  rw [show ((0 : Nat) : Int) = 0 from rfl] at h
  have hm : findS (fun w : api_WeightEntry => w.Server == c.Server) (fun _ w => (Sum.inr w.Version : Unit ⊕ Int)) 0 s.Weights = _ := findS_map (fun w : api_WeightEntry => w.Server == c.Server) (fun _ w => w.Version) (fun v => (Sum.inr v : Unit ⊕ Int)) s.Weights 0
  rw [h, hm]
  unfold entV
  cases findS (fun w : api_WeightEntry => w.Server == c.Server) (fun _ w => w.Version) 0 s.Weights <;> rfl
theorem entry_eq (s : api_Summary) (v : Int) (hx : s.Weights.length ≤ 9223372036854775807) : esref10_entryVersion s v = some (entV s.Weights v) := by
  unfold esref10_entryVersion
  have h := loopO_find (step := esref10_entryVersion.l1 s v) (fun k : Nat => (k : Int)) s.Weights (fun w => w.Server == v) (fun _ w => (Sum.inr w.Version : Unit ⊕ Int)) (.inl ())
    (fun k hk => by
      simp only [esref10_entryVersion.l1, lt_of_len hk, if_true, idx_nat hk, Option.bind_some]
      rw [letV_of, w64n (by omega)])
    (by simp only [esref10_entryVersion.l1, not_lt_len]; rfl)
  rw [show ((0 : Nat) : Int) = 0 from rfl] at h
  have hm : findS (fun w : api_WeightEntry => w.Server == v) (fun _ w => (Sum.inr w.Version : Unit ⊕ Int)) 0 s.Weights = _ := findS_map (fun w : api_WeightEntry => w.Server == v) (fun _ w => w.Version) (fun v => (Sum.inr v : Unit ⊕ Int)) s.Weights 0
  rw [h, hm]
  unfold entV
  cases findS (fun w : api_WeightEntry => w.Server == v) (fun _ w => w.Version) 0 s.Weights <;> rfl
/-- The change's place in a proposal, and what is wrong with it. -/
def known (c : api_Change) (s : api_Summary) (cs : List api_Change) : Bool := (s.Joined.any (c.Server == ·) && !(s.Removed.any (c.Server == ·))) || cs.any fun d => d.Kind == 1 && d.Server == c.Server
def verN (c : api_Change) (s : api_Summary) : api_Change × Int :=
  let v := if c.Kind = 4 then s.Version else entV s.Weights c.Server
  if 1000 ≤ v then ({ c with Version := v }, 9) else ({ c with Version := IntKind.i64.wrap (v + 1) }, 0)
def chkS (c : api_Change) (s : api_Summary) (cs : List api_Change) : api_Change × Int :=
  if 6 ≤ cs.length then (c, 3)
  else if cs.any fun d => d.Kind == c.Kind && d.Server == c.Server then (c, 5)
  else if c.Kind = 1 then (if s.Joined.any (c.Server == ·) || s.Removed.any (c.Server == ·) then (c, 5) else (c, 0))
  else if c.Kind = 2 then (if known c s cs then (c, 0) else (c, 6))
  else if c.Kind = 3 then (if known c s cs then verN c s else (c, 6))
  else verN c s
theorem check_eq (c : api_Change) (s : api_Summary) (cs : List api_Change) (h1 : cs.length ≤ 9223372036854775807) (h2 : s.Joined.length ≤ 9223372036854775807) (h3 : s.Removed.length ≤ 9223372036854775807) (h4 : s.Weights.length ≤ 9223372036854775807) :
    command_check c s cs = some (chkS c s cs) := by
  unfold command_check chkS
  by_cases hc : 6 ≤ cs.length
  · rw [if_pos (show (decide (6 ≤ (cs.length : Int))) = true by rw [decide_eq_true_iff]; omega), if_pos hc]
  rw [if_neg (show ¬ ((decide (6 ≤ (cs.length : Int))) = true) by rw [decide_eq_true_iff]; omega), if_neg hc]
  simp only [occurs_eq _ _ _ h1, contains_int _ _ h2, contains_int _ _ h3, Option.bind_some]
  by_cases ho : (cs.any fun d => d.Kind == c.Kind && d.Server == c.Server) = true
  · rw [if_pos ho, if_pos ho]
  rw [if_neg ho, if_neg ho]
  have kn : (if (s.Joined.any (c.Server == ·)) = true then (if (!(s.Removed.any (c.Server == ·))) = true then command_check.j3 c s (s.Joined.any (c.Server == ·)) (s.Removed.any (c.Server == ·)) true else command_check.j3 c s (s.Joined.any (c.Server == ·)) (s.Removed.any (c.Server == ·)) (cs.any fun d => d.Kind == 1 && d.Server == c.Server)) else command_check.j3 c s (s.Joined.any (c.Server == ·)) (s.Removed.any (c.Server == ·)) (cs.any fun d => d.Kind == 1 && d.Server == c.Server)) = command_check.j3 c s (s.Joined.any (c.Server == ·)) (s.Removed.any (c.Server == ·)) (known c s cs) := by
    unfold known
    cases s.Joined.any (c.Server == ·) <;> cases s.Removed.any (c.Server == ·) <;> simp
  rw [kn]
  simp only [command_check.j3, command_check.j2, command_check.j1, version_eq _ _ h4, Option.bind_some, letV_of]
  have ev : ∀ v : Int, (if (decide (1000 ≤ v)) = true then some ((⟨c.Kind, c.Server, c.Weight, v, ⟨c.Rule.Kind, c.Rule.Columns, c.Rule.Faulty⟩⟩ : api_Change), (9 : Int)) else some (⟨c.Kind, c.Server, c.Weight, IntKind.i64.wrap (v + 1), ⟨c.Rule.Kind, c.Rule.Columns, c.Rule.Faulty⟩⟩, 0)) = some (if 1000 ≤ v then ({ c with Version := v }, 9) else ({ c with Version := IntKind.i64.wrap (v + 1) }, 0)) := by
    intro v
    by_cases h : 1000 ≤ v
    · rw [if_pos (by simpa using h), if_pos h]
    · rw [if_neg (by simpa using h), if_neg h]
  by_cases k1 : c.Kind = 1
  · rw [if_pos (by simpa using k1), if_pos k1]
    cases s.Joined.any (c.Server == ·) <;> cases s.Removed.any (c.Server == ·) <;> simp
  rw [if_neg (by simpa using k1), if_neg k1]
  by_cases k2 : c.Kind = 2
  · rw [if_pos (by simpa using k2), if_pos k2]
    cases known c s cs <;> simp
  rw [if_neg (by simpa using k2), if_neg k2, ev]
  by_cases k3 : c.Kind = 3
  · rw [if_pos (by simpa using k3), if_pos k3]
    cases known c s cs <;> simp [verN]
  rw [if_neg (by simpa using k3), if_neg k3]
  rfl
theorem placed_eq (c : api_Change) (s : api_Summary) (cs : List api_Change) (hk : c.Kind = 1 ∨ c.Kind = 2 ∨ c.Kind = 3 ∨ c.Kind = 4) (h1 : cs.length ≤ 9223372036854775807) (h2 : s.Joined.length ≤ 9223372036854775807) (h3 : s.Removed.length ≤ 9223372036854775807) (h4 : s.Weights.length ≤ 9223372036854775807) :
    ∃ d, esref10_placed c cs s = some (d, (chkS c s cs).2) ∧ ((chkS c s cs).2 = 0 → d = (chkS c s cs).1) := by
  unfold esref10_placed chkS
  by_cases hc : 6 ≤ cs.length
  · rw [if_pos (show (decide (6 ≤ (cs.length : Int))) = true by rw [decide_eq_true_iff]; omega), if_pos hc]
    exact ⟨_, rfl, fun _ => rfl⟩
  rw [if_neg (show ¬ ((decide (6 ≤ (cs.length : Int))) = true) by rw [decide_eq_true_iff]; omega), if_neg hc]
  have h := loopO_find (step := esref10_placed.l1 c cs) (fun k : Nat => ((k : Int), zChange)) cs (fun d => d.Kind == c.Kind && d.Server == c.Server) (fun _ _ => .inr (c, 5)) (.inl zChange)
    (fun k hk => by
      simp only [esref10_placed.l1, lt_of_len hk, if_true, idx_nat hk, Option.bind_some, esref10_placed.j6]
      rw [letV_of, w64n (by omega)]
      by_cases h1 : (cs[k].Kind == c.Kind) = true
      · rw [if_pos h1, h1]; rfl
      · rw [if_neg h1, show (cs[k].Kind == c.Kind) = false by simpa using h1]; rfl)
    (by simp only [esref10_placed.l1, not_lt_len]; rfl)
  rw [show ((0 : Nat) : Int) = 0 from rfl] at h
  rw [h, findS_con]
  by_cases ho : (cs.any fun d => d.Kind == c.Kind && d.Server == c.Server) = true
  · rw [if_pos ho, if_pos ho]
    exact ⟨_, rfl, fun _ => rfl⟩
  rw [if_neg ho, if_neg ho]
  simp only [Option.getD_none, Option.bind_some, esref10_placed.j5, in_eq _ _ h2, in_eq _ _ h3, joins_eq _ _ h1, entry_eq _ _ h4, letV_of, esref10_placed.j2]
  have k4 : ∀ b, esref10_placed.j4 c s zChange b = some (if b = true then (c, 6) else if c.Kind = 3 then (if 1000 ≤ entV s.Weights c.Server then (c, 9) else ({ c with Version := IntKind.i64.wrap (entV s.Weights c.Server + 1) }, 0)) else (c, 0)) := by
    intro b
    simp only [esref10_placed.j4, esref10_placed.j3, esref10_placed.j1, entry_eq _ _ h4, Option.bind_some, letV_of]
    cases b with
    | true => rfl
    | false =>
      by_cases k3 : c.Kind = 3
      · have e3 : (c.Kind == 3) = true := by simpa using k3
        simp only [e3, if_true, Bool.false_eq_true, if_false]
        rw [if_pos k3]
        by_cases hv : 1000 ≤ entV s.Weights c.Server
        · rw [if_pos (by simpa using hv), if_pos hv]
        · rw [if_neg (by simpa using hv), if_neg hv]
      · have e3 : (c.Kind == 3) = false := by simpa using k3
        simp only [e3, Bool.false_eq_true, if_false]
        rw [if_neg k3]
  have d1 : (c.Kind == 1) = decide (c.Kind = 1) := by rw [Bool.eq_iff_iff, beq_iff_eq, decide_eq_true_iff]
  have d4 : (c.Kind == 4) = decide (c.Kind = 4) := by rw [Bool.eq_iff_iff, beq_iff_eq, decide_eq_true_iff]
  rw [d1, d4]
  simp only [k4, decide_eq_true_iff]
  rcases hk with hk | hk | hk | hk
  · have n4 : ¬ c.Kind = 4 := by omega
    rw [if_pos hk, if_pos hk]
    cases s.Joined.any (c.Server == ·) <;> cases s.Removed.any (c.Server == ·) <;> exact ⟨_, rfl, fun _ => rfl⟩
  · have n1 : ¬ c.Kind = 1 := by omega
    have n4 : ¬ c.Kind = 4 := by omega
    have n3 : ¬ c.Kind = 3 := by omega
    rw [if_neg n1, if_neg n4, if_neg n1, if_pos hk]
    simp only [if_neg n3]
    unfold known
    cases s.Joined.any (c.Server == ·) <;> cases s.Removed.any (c.Server == ·) <;> cases (cs.any fun d => d.Kind == 1 && d.Server == c.Server) <;> exact ⟨_, rfl, fun _ => rfl⟩
  · have n1 : ¬ c.Kind = 1 := by omega
    have n2 : ¬ c.Kind = 2 := by omega
    have n4 : ¬ c.Kind = 4 := by omega
    rw [if_neg n1, if_neg n4, if_neg n1, if_neg n2, if_pos hk]
    simp only [if_pos hk]
    unfold known verN
    rw [if_neg n4]
    by_cases hv : 1000 ≤ entV s.Weights c.Server
    · simp only [hv, if_true]
      cases s.Joined.any (c.Server == ·) <;> cases s.Removed.any (c.Server == ·) <;> cases (cs.any fun d => d.Kind == 1 && d.Server == c.Server) <;> exact ⟨_, rfl, fun h => by first | rfl | simp at h⟩
    · simp only [hv, if_false]
      cases s.Joined.any (c.Server == ·) <;> cases s.Removed.any (c.Server == ·) <;> cases (cs.any fun d => d.Kind == 1 && d.Server == c.Server) <;> exact ⟨_, rfl, fun h => by first | rfl | simp at h⟩
  · have n1 : ¬ c.Kind = 1 := by omega
    have n2 : ¬ c.Kind = 2 := by omega
    have n3 : ¬ c.Kind = 3 := by omega
    rw [if_neg n1, if_pos hk, if_neg n1, if_neg n2, if_neg n3]
    unfold verN
    rw [if_pos hk]
    by_cases hv : 1000 ≤ s.Version
    · rw [if_pos hv, if_pos hv]
      exact ⟨_, rfl, fun h => by simp at h⟩
    · rw [if_neg hv, if_neg hv]
      exact ⟨_, rfl, fun _ => rfl⟩
end Go.Proofs.YthfoljpjhegkmaaDoor
