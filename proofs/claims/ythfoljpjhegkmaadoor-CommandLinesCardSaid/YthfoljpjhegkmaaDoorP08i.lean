/- The command language, as plain data: CommandCompile. -/
import Derived.Test.YthfoljpjhegkmaaDoorP08h
set_option linter.unusedVariables false
set_option linter.unusedSimpArgs false
namespace Go.Proofs.YthfoljpjhegkmaaDoor
open Go Go.Proofs.YthfoljpjhegkmaaDoorL

theorem tot_loop {β : Type} {step : Int → Option (Int ⊕ β)} (n lo : Nat) (hs : ∀ k : Nat, lo ≤ k → k < n → step (k : Int) = some (.inl ((k + 1 : Nat) : Int)) ∨ ∃ b, step (k : Int) = some (.inr b))
    (he : ∀ k : Nat, n ≤ k → ∃ b, step (k : Int) = some (.inr b)) : ∃ b, loopO step (lo : Int) = some b := by
  have h := loopO_mu (step := step) (fun s => ∃ k : Nat, s = (k : Int) ∧ lo ≤ k) (fun s => n - s.toNat) (s0 := (lo : Int)) (Q := fun _ => True) ⟨lo, rfl, Nat.le_refl _⟩ (by
    rintro s ⟨k, rfl, hk⟩
    by_cases hn : k < n
    · rcases hs k hk hn with h | ⟨b, h⟩
      · exact .inl ⟨_, h, ⟨k + 1, rfl, by omega⟩, by simp only [Int.toNat_natCast]; omega⟩
      · exact .inr ⟨b, h, trivial⟩
    · obtain ⟨b, h⟩ := he k (by omega)
      exact .inr ⟨b, h, trivial⟩)
  obtain ⟨b, h, _⟩ := h
  exact ⟨b, h⟩
theorem not_lt {k n : Nat} (h : n ≤ k) : decide ((k : Int) < (n : Int)) = false := by rw [decide_eq_false_iff_not]; omega
theorem servers_tot (xs : List Int) (hx : xs.length ≤ 9223372036854775807) : ∃ b, esref10_servers xs = some b := by
  obtain ⟨b, hb⟩ := tot_loop (step := esref10_servers.l1 xs) xs.length 0
    (fun k _ hk => by
      simp only [esref10_servers.l1, lt_of_len hk, if_true, idx_nat hk, Option.bind_some, server_val, letV_of]
      rw [w64n (by omega)]
      cases decide (inR xs[k] 1 12)
      · exact .inr ⟨_, rfl⟩
      · exact .inl rfl)
    (fun k hk => by simp only [esref10_servers.l1, not_lt hk]; exact ⟨_, rfl⟩)
  unfold esref10_servers
  rw [show ((0 : Nat) : Int) = 0 from rfl] at hb
  rw [hb]
  cases b <;> exact ⟨_, rfl⟩
theorem wpred {k : Nat} (h : 1 ≤ k) (hk : k ≤ 9223372036854775807) : IntKind.i64.wrap ((k : Int) - 1) = ((k - 1 : Nat) : Int) := by rw [w64 (by omega) (by omega)]; omega
theorem ascending_tot (xs : List Int) (hx : xs.length ≤ 9223372036854775807) : ∃ b, esref10_Ascending xs = some b := by
  obtain ⟨b, hb⟩ := tot_loop (step := esref10_Ascending.l1 xs) xs.length 1
    (fun k h1 hk => by
      simp only [esref10_Ascending.l1, lt_of_len hk, if_true, letV_of]
      rw [wpred h1 (by omega), idx_nat (show k - 1 < xs.length by omega), idx_nat hk]
      simp only [Option.bind_some]
      rw [w64n (by omega)]
      split
      · exact .inr ⟨_, rfl⟩
      · exact .inl rfl)
    (fun k hk => by simp only [esref10_Ascending.l1, not_lt hk]; exact ⟨_, rfl⟩)
  unfold esref10_Ascending
  rw [show ((1 : Nat) : Int) = 1 from rfl] at hb
  rw [hb]
  cases b <;> exact ⟨_, rfl⟩
theorem summary_tot (s : api_Summary) (hs : smallS s) : ∃ v, esref10_ValidateSummary s = some v := by
  obtain ⟨h1, h2, h3⟩ := hs
  have r1 : ∀ b, ∃ v, esref10_ValidateSummary.j1 b = some v := fun b => by unfold esref10_ValidateSummary.j1; split <;> exact ⟨_, rfl⟩
  have r2 : ∃ v, esref10_ValidateSummary.j2 s = some v := by
    unfold esref10_ValidateSummary.j2
    repeat' split
    all_goals exact r1 _
  have r3 : ∃ v, esref10_ValidateSummary.j3 s = some v := by
    unfold esref10_ValidateSummary.j3
    rw [rule_val2]
    simp only [Option.bind_some]
    repeat' split
    all_goals first | exact r2 | exact ⟨_, rfl⟩
  have rl : ∃ b, loopO (esref10_ValidateSummary.l1 s) 0 = some b := by
    have j4 : ∀ (k : Nat) b, k < s.Weights.length → esref10_ValidateSummary.j4 (k : Int) b = some (.inl ((k + 1 : Nat) : Int)) ∨ ∃ c, esref10_ValidateSummary.j4 (k : Int) b = some (.inr c) := by
      intro k b hk
      unfold esref10_ValidateSummary.j4
      rw [letV_of, w64n (by omega)]
      split
      · exact .inr ⟨_, rfl⟩
      · exact .inl rfl
    have j5 : ∀ (k : Nat) w b, k < s.Weights.length → esref10_ValidateSummary.j5 s (k : Int) w b = some (.inl ((k + 1 : Nat) : Int)) ∨ ∃ c, esref10_ValidateSummary.j5 s (k : Int) w b = some (.inr c) := by
      intro k w b hk
      unfold esref10_ValidateSummary.j5
      split
      · exact .inr ⟨_, rfl⟩
      · split
        · rename_i h0
          have h0 : 0 < k := by simpa using h0
          rw [letV_of, wpred h0 (by omega), idx_nat (show k - 1 < s.Weights.length by omega)]
          exact j4 k _ hk
        · exact j4 k _ hk
    exact tot_loop (step := esref10_ValidateSummary.l1 s) s.Weights.length 0
      (fun k _ hk => by
        simp only [esref10_ValidateSummary.l1, lt_of_len hk, if_true, idx_nat hk, Option.bind_some, server_val]
        repeat' split
        all_goals exact j5 k _ _ hk)
      (fun k hk => by simp only [esref10_ValidateSummary.l1, not_lt hk]; exact ⟨_, rfl⟩)
  obtain ⟨lb, hb⟩ := rl
  have r6 : ∀ b, ∃ v, esref10_ValidateSummary.j6 s b = some v := by
    intro b
    unfold esref10_ValidateSummary.j6
    rw [hb]
    split
    · exact ⟨_, rfl⟩
    · cases lb with
      | inl u => exact r3
      | inr v => exact ⟨_, rfl⟩
  obtain ⟨a1, e1⟩ := ascending_tot s.Joined h1
  obtain ⟨a2, e2⟩ := ascending_tot s.Removed h2
  obtain ⟨a3, e3⟩ := servers_tot s.Joined h1
  obtain ⟨a4, e4⟩ := servers_tot s.Removed h2
  have r7 : ∀ b, ∃ v, esref10_ValidateSummary.j7 s b = some v := by
    intro b
    unfold esref10_ValidateSummary.j7
    rw [e1, e2]
    simp only [Option.bind_some]
    repeat' split
    all_goals first | exact ⟨_, rfl⟩ | exact r6 _
  unfold esref10_ValidateSummary
  rw [e3, e4]
  simp only [Option.bind_some]
  split <;> exact r7 _
theorem same_refl (xs : List api_Change) (hx : xs.length ≤ 10000) : eslaw08_same xs xs = some true := by
  have h := loopO_up (step := eslaw08_same.l1 xs xs) (fun k : Nat => (k : Int)) xs.length (b := .inl ())
    (fun k hk => by
      simp only [eslaw08_same.l1, lt_of_len hk, if_true, idx_nat hk, Option.bind_some, decide_true, Bool.not_true, Bool.false_eq_true, if_false, letV_of]
      rw [w64n (by omega)])
    (by simp only [eslaw08_same.l1, not_lt_len]; rfl)
  unfold eslaw08_same
  rw [if_neg (by simp)]
  rw [show ((0 : Nat) : Int) = 0 from rfl] at h
  rw [h]
  rfl
/-- The reference takes a line up. -/
theorem piece_eq (x : List UInt8) (s : api_Summary) (hs : smallS s) (acc : List api_Change) (at_ ln i : Nat) (hx : x.length ≤ 10000) (hi : i ≤ x.length) (ha : at_ ≤ i) (hl : ln ≤ i) (hc : acc.length ≤ 10000) :
    esref10_CompileCommands.j4 x s acc at_ ln i false =
      if (x.take i).drop at_ = [] ∨ ((x.take i).drop at_).head? = some 35 then some (.inl (acc, ((i + 1 : Nat) : Int), ((ln + 1 : Nat) : Int), ((i + 1 : Nat) : Int)))
      else if (parS ((x.take i).drop at_)).2 ≠ 0 then some (.inr (.inr ([], ((ln + 1 : Nat) : Int), (parS ((x.take i).drop at_)).2)))
      else if (chkS (parS ((x.take i).drop at_)).1 s acc).2 ≠ 0 then some (.inr (.inr ([], ((ln + 1 : Nat) : Int), (chkS (parS ((x.take i).drop at_)).1 s acc).2)))
      else some (.inl (acc ++ [(chkS (parS ((x.take i).drop at_)).1 s acc).1], ((i + 1 : Nat) : Int), ((ln + 1 : Nat) : Int), ((i + 1 : Nat) : Int))) := by
  unfold esref10_CompileCommands.j4
  rw [if_neg (by simp), cut_of (by omega) (by omega) (by omega)]
  simp only [Option.bind_some, letV_of, Int.toNat_natCast]
  have hlen : ((x.take i).drop at_).length ≤ 10000 := by simp; omega
  generalize (x.take i).drop at_ = p at hlen ⊢
  rw [w64n (show i < 9223372036854775807 by omega), w64n (show ln < 9223372036854775807 by omega)]
  have hst : (if (p == ([] : List UInt8)) = true then esref10_CompileCommands.j3 s acc i p ((i + 1 : Nat) : Int) ((ln + 1 : Nat) : Int) true else ((idx p 0).bind fun x89 => esref10_CompileCommands.j3 s acc i p ((i + 1 : Nat) : Int) ((ln + 1 : Nat) : Int) ((x89.toNat : Int) == 35))) = esref10_CompileCommands.j3 s acc i p ((i + 1 : Nat) : Int) ((ln + 1 : Nat) : Int) (decide (p = [] ∨ p.head? = some 35)) := by
    cases p with
    | nil => rfl
    | cons b y =>
      rw [if_neg (by simp), idx_zero]
      simp only [Option.bind_some]
      rw [head_idx b y]
      simp
  rw [hst]
  unfold esref10_CompileCommands.j3 esref10_CompileCommands.j2
  by_cases hc0 : p = [] ∨ p.head? = some 35
  · rw [if_pos (by simpa using hc0), if_pos hc0, letV_of, w64n (show i < 9223372036854775807 by omega)]
  rw [if_neg (by simpa using hc0), if_neg hc0, parse2 p hlen]
  simp only [Option.bind_some]
  by_cases hp : (parS p).2 = 0
  · rw [if_neg (by simpa using hp), if_neg (by simpa using hp)]
    obtain ⟨d, hd, hd0⟩ := placed_eq (parS p).1 s acc (par_kind hp) (by omega) (by have := hs.1; omega) (by have := hs.2.1; omega) (by have := hs.2.2; omega)
    rw [hd]
    simp only [Option.bind_some]
    by_cases hk : (chkS (parS p).1 s acc).2 = 0
    · rw [if_neg (by simpa using hk), if_neg (by simpa using hk), hd0 hk, app_of (by simp; omega)]
      simp only [Option.bind_some, letV_of]
      rw [w64n (show i < 9223372036854775807 by omega)]
    · rw [if_pos (by simpa using hk), if_pos (by simpa using hk)]
  · rw [if_pos (by simpa using hp), if_pos (by simpa using hp)]
theorem compile2_eq (x : List UInt8) (s : api_Summary) (hx : x.length ≤ 9000) (hs : smallS s) : esref10_CompileCommands x s = some (comS s [] 0 (spl 10 x)) := by
  unfold esref10_CompileCommands
  have fin : ∀ (acc : List api_Change) (ln at_ : Nat), ((loopO (esref10_CompileCommands.l1 x s) (acc, (at_ : Int), (ln : Int), ((x.length + 1 : Nat) : Int))).bind fun b => match b with | .inl x92 => esref10_CompileCommands.j1 x92 | .inr (x93, x94, x95) => some (x93, x94, x95)) = some (comS s acc ln []) := by
    intro acc ln at_
    rw [loopO_done (b := .inl acc) (by simp only [esref10_CompileCommands.l1]; rw [if_neg (by rw [decide_eq_true_iff]; omega)])]
    simp only [Option.bind_some, esref10_CompileCommands.j1, comS]
    by_cases h0 : acc.length = 0
    · rw [if_pos (by simpa using h0), if_pos h0]
    · rw [if_neg (by simpa using h0), if_neg h0]
  have main : ∀ m i at_ ln acc, i + m = x.length → at_ ≤ i → ln ≤ i → acc.length ≤ i →
      ((loopO (esref10_CompileCommands.l1 x s) (acc, (at_ : Int), (ln : Int), (i : Int))).bind fun b => match b with | .inl x92 => esref10_CompileCommands.j1 x92 | .inr (x93, x94, x95) => some (x93, x94, x95)) = some (comS s acc ln (splc 10 ((x.take i).drop at_) (x.drop i))) := by
    intro m
    induction m with
    | zero =>
      intro i at_ ln acc hi ha hl hc
      have hst : esref10_CompileCommands.l1 x s (acc, (at_ : Int), (ln : Int), (i : Int)) = esref10_CompileCommands.j4 x s acc at_ ln i false := by
        simp only [esref10_CompileCommands.l1]
        rw [if_pos (by rw [decide_eq_true_iff]; omega), if_neg (by rw [decide_eq_true_iff]; omega)]
      rw [piece_eq x s hs acc at_ ln i (by omega) (by omega) ha hl (by omega)] at hst
      rw [show x.drop i = [] from List.drop_eq_nil_of_le (by omega), splc_nil, comS]
      have hii : i = x.length := by omega
      generalize (x.take i).drop at_ = p at hst ⊢
      by_cases hc0 : p = [] ∨ p.head? = some 35
      · rw [if_pos hc0] at hst ⊢
        rw [loopO_next hst, hii]
        exact fin _ _ _
      rw [if_neg hc0] at hst ⊢
      by_cases hp : (parS p).2 ≠ 0
      · rw [if_pos hp] at hst ⊢
        rw [loopO_done hst]
        rfl
      rw [if_neg hp] at hst ⊢
      by_cases hk : (chkS (parS p).1 s acc).2 ≠ 0
      · rw [if_pos hk] at hst ⊢
        rw [loopO_done hst]
        rfl
      rw [if_neg hk] at hst ⊢
      rw [loopO_next hst, hii]
      exact fin _ _ _
    | succ m ih =>
      intro i at_ ln acc hi ha hl hc
      have hlt : i < x.length := by omega
      rw [List.drop_eq_getElem_cons hlt]
      by_cases hb : x[i] = 10
      · have hst : esref10_CompileCommands.l1 x s (acc, (at_ : Int), (ln : Int), (i : Int)) = esref10_CompileCommands.j4 x s acc at_ ln i false := by
          simp only [esref10_CompileCommands.l1]
          rw [if_pos (by rw [decide_eq_true_iff]; omega), if_pos (by rw [decide_eq_true_iff]; omega), idx_nat hlt, hb]
          rfl
        rw [piece_eq x s hs acc at_ ln i (by omega) (by omega) ha hl (by omega)] at hst
        rw [hb, splc_sep, comS]
        have hn : (x.take (i + 1)).drop (i + 1) = [] := List.drop_eq_nil_of_le (by rw [List.length_take]; omega)
        have ih' := fun acc' (h : acc'.length ≤ i + 1) => ih (i + 1) (i + 1) (ln + 1) acc' (by omega) (by omega) (by omega) h
        rw [hn] at ih'
        generalize (x.take i).drop at_ = p at hst ⊢
        by_cases hc0 : p = [] ∨ p.head? = some 35
        · rw [if_pos hc0] at hst ⊢
          rw [loopO_next hst]
          exact ih' acc (by omega)
        rw [if_neg hc0] at hst ⊢
        by_cases hp : (parS p).2 ≠ 0
        · rw [if_pos hp] at hst ⊢
          rw [loopO_done hst]
          rfl
        rw [if_neg hp] at hst ⊢
        by_cases hk : (chkS (parS p).1 s acc).2 ≠ 0
        · rw [if_pos hk] at hst ⊢
          rw [loopO_done hst]
          rfl
        rw [if_neg hk] at hst ⊢
        rw [loopO_next hst]
        exact ih' _ (by simp; omega)
      · have hst : esref10_CompileCommands.l1 x s (acc, (at_ : Int), (ln : Int), (i : Int)) = some (.inl (acc, (at_ : Int), (ln : Int), ((i + 1 : Nat) : Int))) := by
          simp only [esref10_CompileCommands.l1]
          rw [if_pos (by rw [decide_eq_true_iff]; omega), if_pos (by rw [decide_eq_true_iff]; omega), idx_nat hlt]
          have hb' : ((x[i].toNat : Int) != 10) = true := by
            rw [bne_iff_ne]
            intro h
            exact hb (UInt8.toNat_inj.1 (show x[i].toNat = 10 by omega))
          simp only [Option.bind_some, hb', esref10_CompileCommands.j4, if_true, esref10_CompileCommands.j2, letV_of]
          rw [w64n (by omega)]
        rw [loopO_next hst, splc_cons _ _ _ _ hb, ih (i + 1) at_ ln acc (by omega) (by omega) (by omega) (by omega), take_snoc hlt, List.drop_append_of_le_length (by rw [List.length_take]; omega)]
  have h := main x.length 0 0 0 [] (by omega) (by omega) (by omega) (by simp)
  rw [show ((0 : Nat) : Int) = 0 from rfl] at h
  refine Eq.trans h ?_
  simp [splc_zero]
/-- A proposal is no longer than its text. -/
theorem com_len (s : api_Summary) : ∀ (ls : List (List UInt8)) (acc : List api_Change) (i : Nat), (comS s acc i ls).1.length ≤ acc.length + ls.length
  | [], acc, i => by unfold comS; split <;> simp
  | x :: xs, acc, i => by
    rw [comS]
    split
    · have := com_len s xs acc (i + 1); simp only [List.length_cons]; omega
    · split
      · simp
      · split
        · simp
        · have := com_len s xs (acc ++ [(chkS (parS x).1 s acc).1]) (i + 1)
          simp only [List.length_append, List.length_cons, List.length_nil] at this ⊢
          omega
theorem commandCompile_true (x : List UInt8) (s : api_Summary) : eslaw08_CommandCompile x s = some true := by
  unfold eslaw08_CommandCompile
  have j : eslaw08_CommandCompile.j2 x s true = some true := by unfold eslaw08_CommandCompile.j2; rw [if_pos rfl, awake08]; rfl
  by_cases h1 : 600 < x.length
  · rw [if_pos (by rw [decide_eq_true_iff]; omega), j]
  rw [if_neg (by rw [decide_eq_true_iff]; omega)]
  by_cases h2 : 40 < s.Joined.length
  · rw [if_pos (by rw [decide_eq_true_iff]; omega), j]
  rw [if_neg (by rw [decide_eq_true_iff]; omega)]
  by_cases h3 : 40 < s.Removed.length
  · rw [if_pos (by rw [decide_eq_true_iff]; omega), j]
  rw [if_neg (by rw [decide_eq_true_iff]; omega)]
  by_cases h4 : 40 < s.Weights.length
  · rw [if_pos (by rw [decide_eq_true_iff]; omega), j]
  rw [if_neg (by rw [decide_eq_true_iff]; omega)]
  have hs : smallS s := ⟨by omega, by omega, by omega⟩
  obtain ⟨v, hv⟩ := summary_tot s hs
  rw [hv]
  simp only [Option.bind_some]
  cases (v != 0)
  · have hl := spl_len 10 x
    have hcl := com_len s (spl 10 x) [] 0
    unfold eslaw08_CommandCompile.j2
    rw [if_neg (by simp), compile_eq x s (by omega) hs, compile2_eq x s (by omega) hs]
    simp only [Option.bind_some]
    rw [same_refl _ (by simp at hcl; omega)]
    simp only [Option.bind_some, if_true, beq_self_eq_true, awake08, eslaw08_CommandCompile.j1]
  · exact j
end Go.Proofs.YthfoljpjhegkmaaDoor
