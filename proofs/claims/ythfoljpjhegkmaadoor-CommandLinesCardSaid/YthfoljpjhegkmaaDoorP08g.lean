/- The command language, as plain data: the lines of a text; the program's own check of itself. -/
import Derived.Test.YthfoljpjhegkmaaDoorP08f
set_option linter.unusedVariables false
set_option linter.unusedSimpArgs false
namespace Go.Proofs.YthfoljpjhegkmaaDoor
open Go Go.Proofs.YthfoljpjhegkmaaDoorL

/-- The proposal of some lines: i lines went before. -/
def comS (s : api_Summary) : List api_Change → Nat → List (List UInt8) → List api_Change × Int × Int
  | acc, _, [] => if acc.length = 0 then ([], 0, 2) else (acc, 0, 0)
  | acc, i, x :: xs =>
    if x = [] ∨ x.head? = some 35 then comS s acc (i + 1) xs
    else if (parS x).2 ≠ 0 then ([], ((i + 1 : Nat) : Int), (parS x).2)
    else if (chkS (parS x).1 s acc).2 ≠ 0 then ([], ((i + 1 : Nat) : Int), (chkS (parS x).1 s acc).2)
    else comS s (acc ++ [(chkS (parS x).1 s acc).1]) (i + 1) xs
theorem chk_len {c : api_Change} {s : api_Summary} {cs : List api_Change} (h : (chkS c s cs).2 = 0) : cs.length < 6 := by
  unfold chkS at h
  by_cases h6 : 6 ≤ cs.length
  · rw [if_pos h6] at h; simp at h
  · omega
theorem par_kind {x : List UInt8} (h : (parS x).2 = 0) : (parS x).1.Kind = 1 ∨ (parS x).1.Kind = 2 ∨ (parS x).1.Kind = 3 ∨ (parS x).1.Kind = 4 := by
  unfold parS at h ⊢
  cases hs : synS (spl 32 x) with
  | none => rw [hs] at h; simp at h
  | some c =>
    rw [hs] at h
    simp only at h ⊢
    by_cases hv : valS (verS c) = 0
    · rw [if_pos hv]
      have hk : (verS c).Kind = c.Kind := by unfold verS; split <;> rfl
      unfold valS at hv
      by_cases hb : (verS c).Kind < 1 ∨ 4 < (verS c).Kind
      · rw [if_pos hb] at hv; simp at hv
      · rw [hk] at hb; simp only; omega
    · rw [if_neg hv] at h; exact absurd h hv
/-- The lists of a summary are short enough. -/
def smallS (s : api_Summary) : Prop := s.Joined.length ≤ 9223372036854775807 ∧ s.Removed.length ≤ 9223372036854775807 ∧ s.Weights.length ≤ 9223372036854775807
theorem head_idx (b : UInt8) (x : List UInt8) : ((b.toNat : Int) == 35) = decide ((b :: x).head? = some 35) := by
  rw [Bool.eq_iff_iff, beq_iff_eq, decide_eq_true_iff]
  simp only [List.head?_cons, Option.some.injEq]
  constructor
  · intro h; apply UInt8.toNat_inj.1; show b.toNat = 35; omega
  · rintro rfl; rfl
theorem compile_eq (x : List UInt8) (s : api_Summary) (hx : x.length ≤ 10000) (hs : smallS s) : command_Compile x s = some (comS s [] 0 (spl 10 x)) := by
  have hsp : strings_Split x [10] = some (spl 10 x) := by unfold strings_Split; rw [if_pos ⟨rfl, by omega⟩]; rfl
  unfold command_Compile
  rw [hsp]
  simp only [Option.bind_some]
  have hln := spl_len 10 x
  have hme := spl_mem 10 x
  generalize spl 10 x = ls at hln hme ⊢
  have main : ∀ m i acc, i + m = ls.length → acc.length ≤ i →
      ((loopO (command_Compile.l1 s ls) (acc, (i : Int))).bind fun b => match b with | .inl x85 => command_Compile.j1 x85 | .inr (x86, x87, x88) => some (x86, x87, x88)) = some (comS s acc i (ls.drop i)) := by
    intro m
    induction m with
    | zero =>
      intro i acc hi ha
      have hi : i = ls.length := by omega
      subst hi
      rw [List.drop_length, loopO_done (b := .inl acc) (by simp only [command_Compile.l1, not_lt_len]; rfl)]
      simp only [Option.bind_some, command_Compile.j1, comS]
      by_cases h0 : acc.length = 0
      · rw [if_pos (by simpa using h0), if_pos h0]
      · rw [if_neg (by simpa using h0), if_neg h0]
    | succ m ih =>
      intro i acc hi ha
      have hlt : i < ls.length := by omega
      rw [List.drop_eq_getElem_cons hlt, comS]
      have hxl : ls[i].length ≤ 10000 := Nat.le_trans (hme _ (List.getElem_mem hlt)) hx
      have hst : command_Compile.l1 s ls (acc, (i : Int)) = command_Compile.j4 s acc i ls[i] (decide (ls[i] = [] ∨ ls[i].head? = some 35)) := by
        simp only [command_Compile.l1, lt_of_len hlt, if_true, idx_nat hlt, Option.bind_some]
        cases hl : ls[i] with
        | nil => rfl
        | cons b y =>
          rw [if_neg (by simp), idx_zero]
          simp only [Option.bind_some]
          rw [head_idx b y]
          simp
      by_cases hc : ls[i] = [] ∨ ls[i].head? = some 35
      · rw [if_pos hc, loopO_next (s' := (acc, ((i + 1 : Nat) : Int))) (by rw [hst]; simp only [hc, decide_true, command_Compile.j4, if_true, command_Compile.j2, letV_of]; rw [wcast hlt (by omega)])]
        exact ih (i + 1) acc (by omega) (by omega)
      rw [if_neg hc]
      have hd : decide (ls[i] = [] ∨ ls[i].head? = some 35) = false := by simpa using hc
      by_cases hp : (parS ls[i]).2 = 0
      · rw [if_neg (by simpa using hp)]
        have hck := check_eq (parS ls[i]).1 s acc (by omega) (by have := hs.1; omega) (by have := hs.2.1; omega) (by have := hs.2.2; omega)
        by_cases hk : (chkS (parS ls[i]).1 s acc).2 = 0
        · rw [if_neg (by simpa using hk), loopO_next (s' := (acc ++ [(chkS (parS ls[i]).1 s acc).1], ((i + 1 : Nat) : Int))) ?_]
          · exact ih (i + 1) _ (by omega) (by simp; omega)
          rw [hst, hd]
          simp only [command_Compile.j4, Bool.false_eq_true, if_false, parse1 _ (show ls[i].length < 4294967281 by omega), Option.bind_some, hp, beq_self_eq_true, if_true, hck, command_Compile.j3, hk]
          have := chk_len hk
          rw [app_of (by simp; omega)]
          simp only [bne_self_eq_false, Bool.false_eq_true, if_false, Option.bind_some, command_Compile.j2, letV_of]
          rw [wcast hlt (by omega)]
        · rw [if_pos (by simpa using hk), loopO_done (b := .inr ([], ((i + 1 : Nat) : Int), (chkS (parS ls[i]).1 s acc).2)) ?_]
          · rfl
          rw [hst, hd]
          simp only [command_Compile.j4, Bool.false_eq_true, if_false, parse1 _ (show ls[i].length < 4294967281 by omega), Option.bind_some, hp, beq_self_eq_true, if_true, hck, command_Compile.j3]
          rw [if_pos (by simpa using hk)]
          simp only [letV_of]
          rw [wcast hlt (by omega)]
      · rw [if_pos (by simpa using hp), loopO_done (b := .inr ([], ((i + 1 : Nat) : Int), (parS ls[i]).2)) ?_]
        · rfl
        rw [hst, hd]
        simp only [command_Compile.j4, Bool.false_eq_true, if_false, parse1 _ (show ls[i].length < 4294967281 by omega), Option.bind_some, command_Compile.j3]
        rw [if_neg (by simpa using hp), if_pos (by simpa using hp)]
        simp only [letV_of]
        rw [wcast hlt (by omega)]
  have h := main ls.length 0 [] (by omega) (by simp)
  rwa [List.drop_zero] at h
theorem init_eq : esref10_Initial ⟨[⟨1, 1⟩], ⟨1, 0, 0⟩⟩ = some ⟨[1], [], [⟨1, 1, 0, 0, 0⟩], ⟨1, 0, 0⟩, 0, 0, 0⟩ := by
  unfold esref10_Initial
  have s1 : esref10_Initial.l1 ⟨[⟨1, 1⟩], ⟨1, 0, 0⟩⟩ (0, [], []) = some (.inl (1, [1], [⟨1, 1, 0, 0, 0⟩])) := by
    simp only [esref10_Initial.l1]
    rw [if_pos (by decide), idx_zero]
    simp only [Option.bind_some]
    rw [app_of (by simp)]
    simp only [Option.bind_some]
    rw [app_of (by simp)]
    rfl
  have s2 : esref10_Initial.l1 ⟨[⟨1, 1⟩], ⟨1, 0, 0⟩⟩ (1, [1], [⟨1, 1, 0, 0, 0⟩]) = some (.inr ([1], [⟨1, 1, 0, 0, 0⟩])) := by
    simp only [esref10_Initial.l1]
    rw [if_neg (by decide)]
  rw [loopO_next s1, loopO_done s2]
  rfl
end Go.Proofs.YthfoljpjhegkmaaDoor
