/- The command language, as plain data: CommandFormat. -/
import Derived.Test.YthfoljpjhegkmaaDoorP08h
set_option linter.unusedVariables false
set_option linter.unusedSimpArgs false
set_option maxRecDepth 10000
namespace Go.Proofs.YthfoljpjhegkmaaDoor
open Go Go.Proofs.YthfoljpjhegkmaaDoorL

theorem itoa_of {n : Nat} (h : n < 100) : strconv_Itoa (n : Int) = some (dec2 n) := by
  unfold strconv_Itoa
  rw [if_pos ⟨by omega, by omega⟩]
  rfl
theorem dig_of : ∀ n : Nat, n < 100 → bts [IntKind.u8.wrap (IntKind.i64.wrap (48 + Int.tmod (n : Int) 10))] = [UInt8.ofNat (48 + n % 10)] := by decide +kernel
theorem div_of : ∀ n : Nat, n < 100 → IntKind.i64.wrap (Int.tdiv (n : Int) 10) = ((n / 10 : Nat) : Int) := by decide +kernel
theorem dec_len (n : Nat) : (dec2 n).length ≤ 2 := by unfold dec2; split <;> simp
theorem dec_of {n : Nat} (h : n < 100) : esref10_decimal (n : Int) = some (dec2 n) := by
  unfold esref10_decimal
  rw [letV_of, dig_of n h]
  have hd : ∀ (m : Nat) (t : List UInt8), m < 10 → loopO esref10_decimal.l1 ((m : Int), t) = some t := fun m t hm => loopO_done (by simp only [esref10_decimal.l1]; rw [if_neg (by rw [decide_eq_true_iff]; omega)])
  by_cases h10 : n < 10
  · rw [hd n _ h10]
    unfold dec2
    rw [if_pos h10, Nat.mod_eq_of_lt h10]
    rfl
  · have st : esref10_decimal.l1 ((n : Int), [UInt8.ofNat (48 + n % 10)]) = some (.inl (((n / 10 : Nat) : Int), [UInt8.ofNat (48 + n / 10 % 10)] ++ [UInt8.ofNat (48 + n % 10)])) := by
      simp only [esref10_decimal.l1]
      rw [if_pos (by rw [decide_eq_true_iff]; omega), letV_of, div_of n h, letV_of, dig_of (n / 10) (by omega), cat_of (by simp)]
      rfl
    rw [loopO_next st, hd _ _ (by omega)]
    unfold dec2
    rw [if_neg h10, Nat.mod_eq_of_lt (show n / 10 < 10 by omega)]
    rfl
abbrev sJoin : List UInt8 := [106, 111, 105, 110, 32]
abbrev sWeight : List UInt8 := [32, 119, 101, 105, 103, 104, 116, 32]
/-- The text of a command. -/
def fmtS (c : api_Change) : List UInt8 :=
  if c.Kind = 1 then ((([106, 111, 105, 110, 32] ++ dec2 c.Server.toNat) ++ [32, 119, 101, 105, 103, 104, 116, 32]) ++ dec2 c.Weight.toNat)
  else if c.Kind = 2 then [114, 101, 109, 111, 118, 101, 32] ++ dec2 c.Server.toNat
  else if c.Kind = 3 then (([119, 101, 105, 103, 104, 116, 32] ++ dec2 c.Server.toNat) ++ [32]) ++ dec2 c.Weight.toNat
  else if c.Rule.Kind = 1 then [114, 117, 108, 101, 32, 109, 97, 106, 111, 114, 105, 116, 121]
  else if c.Rule.Kind = 2 then [114, 117, 108, 101, 32, 119, 101, 105, 103, 104, 116, 101, 100]
  else if c.Rule.Kind = 3 then [114, 117, 108, 101, 32, 103, 114, 105, 100, 32] ++ dec2 c.Rule.Columns.toNat
  else [114, 117, 108, 101, 32, 109, 97, 115, 107, 105, 110, 103, 32] ++ dec2 c.Rule.Faulty.toNat
/-- The changes that are right. -/
def Right (c : api_Change) : Prop :=
  (∃ n m : Nat, n ≤ 12 ∧ 1 ≤ n ∧ m ≤ 9 ∧ 1 ≤ m ∧ c = ⟨1, n, m, 0, zRule⟩) ∨
  (∃ n : Nat, n ≤ 12 ∧ 1 ≤ n ∧ c = ⟨2, n, 0, 0, zRule⟩) ∨
  (∃ n m : Nat, ∃ v : Int, n ≤ 12 ∧ 1 ≤ n ∧ m ≤ 9 ∧ 1 ≤ m ∧ c = ⟨3, n, m, v, zRule⟩) ∨
  (∃ v : Int, c = ⟨4, 0, 0, v, ⟨1, 0, 0⟩⟩) ∨ (∃ v : Int, c = ⟨4, 0, 0, v, ⟨2, 0, 0⟩⟩) ∨
  (∃ (n : Nat) (v : Int), n ≤ 12 ∧ 1 ≤ n ∧ c = ⟨4, 0, 0, v, ⟨3, n, 0⟩⟩) ∨
  (∃ (n : Nat) (v : Int), n ≤ 12 ∧ c = ⟨4, 0, 0, v, ⟨4, 0, n⟩⟩)
theorem nat_of {x lo hi : Int} (h : inR x lo hi) (h0 : 0 ≤ lo) : ∃ n : Nat, x = n := ⟨x.toNat, by have := h.1; omega⟩
theorem right_of {c : api_Change} (h : valS (verS c) = 0) : Right c := by
  obtain ⟨k, s, w, v, r⟩ := c
  have hk : (verS ⟨k, s, w, v, r⟩).Kind = k := by unfold verS; split <;> rfl
  have hsv : (verS ⟨k, s, w, v, r⟩).Server = s := by unfold verS; split <;> rfl
  have hw : (verS ⟨k, s, w, v, r⟩).Weight = w := by unfold verS; split <;> rfl
  have hr : (verS ⟨k, s, w, v, r⟩).Rule = r := by unfold verS; split <;> rfl
  unfold valS at h
  rw [hk, hsv, hw, hr] at h
  by_cases hkk : k < 1 ∨ 4 < k
  · rw [if_pos hkk] at h; simp at h
  rw [if_neg hkk] at h
  have hcs : k = 1 ∨ k = 2 ∨ k = 3 ∨ k = 4 := by omega
  by_cases hb : (if k = 4 then s = 0 else inR s 1 12) ∧ (if k = 1 ∨ k = 3 then inR w 1 9 else w = 0) ∧ (if k = 3 ∨ k = 4 then inR (verS ⟨k, s, w, v, r⟩).Version 1 1000 else (verS ⟨k, s, w, v, r⟩).Version = 0)
  case neg => rw [if_pos hb] at h; simp at h
  rw [if_neg (not_not_intro hb)] at h
  rcases hcs with rfl | rfl | rfl | rfl
  · simp only [show ¬ ((1 : Int) = 4) by decide, if_false] at h
    obtain ⟨b1, b2, b3⟩ := hb
    have b1 : inR s 1 12 := b1
    have b2 : inR w 1 9 := b2
    have b3 : v = 0 := b3
    have hz : r = zRule := by by_cases hz : r = zRule; · exact hz
                              · rw [if_neg hz] at h; simp at h
    obtain ⟨n, rfl⟩ := nat_of b1 (by decide)
    obtain ⟨m, rfl⟩ := nat_of b2 (by decide)
    subst hz; subst b3
    obtain ⟨x1, x2⟩ := b1
    obtain ⟨x3, x4⟩ := b2
    exact .inl ⟨n, m, by omega, by omega, by omega, by omega, rfl⟩
  · simp only [show ¬ ((2 : Int) = 4) by decide, if_false] at h
    obtain ⟨b1, b2, b3⟩ := hb
    have b1 : inR s 1 12 := b1
    have b2 : w = 0 := b2
    have b3 : v = 0 := b3
    have hz : r = zRule := by by_cases hz : r = zRule; · exact hz
                              · rw [if_neg hz] at h; simp at h
    obtain ⟨n, rfl⟩ := nat_of b1 (by decide)
    subst hz; subst b3; subst b2
    obtain ⟨x1, x2⟩ := b1
    exact .inr (.inl ⟨n, by omega, by omega, rfl⟩)
  · simp only [show ¬ ((3 : Int) = 4) by decide, if_false] at h
    obtain ⟨b1, b2, b3⟩ := hb
    have b1 : inR s 1 12 := b1
    have b2 : inR w 1 9 := b2
    have hz : r = zRule := by by_cases hz : r = zRule; · exact hz
                              · rw [if_neg hz] at h; simp at h
    obtain ⟨n, rfl⟩ := nat_of b1 (by decide)
    obtain ⟨m, rfl⟩ := nat_of b2 (by decide)
    subst hz
    obtain ⟨x1, x2⟩ := b1
    obtain ⟨x3, x4⟩ := b2
    exact .inr (.inr (.inl ⟨n, m, v, by omega, by omega, by omega, by omega, rfl⟩))
  · simp only [if_true] at h
    obtain ⟨b1, b2, b3⟩ := hb
    have b1 : s = 0 := b1
    have b2 : w = 0 := b2
    subst b1; subst b2
    obtain ⟨k, cl, f⟩ := r
    unfold valR at h
    simp only at h
    by_cases hkk : k < 1 ∨ 4 < k
    · rw [if_pos hkk] at h; simp at h
    rw [if_neg hkk] at h
    have hcs : k = 1 ∨ k = 2 ∨ k = 3 ∨ k = 4 := by omega
    by_cases hb : (if k = 3 then inR cl 1 12 else cl = 0) ∧ (if k = 4 then inR f 0 12 else f = 0)
    · clear h
      obtain ⟨c1, c2⟩ := hb
      rcases hcs with rfl | rfl | rfl | rfl
      · have c1 : cl = 0 := c1
        have c2 : f = 0 := c2
        subst c1; subst c2
        exact .inr (.inr (.inr (.inl ⟨v, rfl⟩)))
      · have c1 : cl = 0 := c1
        have c2 : f = 0 := c2
        subst c1; subst c2
        exact .inr (.inr (.inr (.inr (.inl ⟨v, rfl⟩))))
      · have c1 : inR cl 1 12 := c1
        have c2 : f = 0 := c2
        subst c2
        obtain ⟨n, rfl⟩ := nat_of c1 (by decide)
        obtain ⟨x1, x2⟩ := c1
        exact .inr (.inr (.inr (.inr (.inr (.inl ⟨n, v, by omega, by omega, rfl⟩)))))
      · have c1 : cl = 0 := c1
        have c2 : inR f 0 12 := c2
        subst c1
        obtain ⟨n, rfl⟩ := nat_of c2 (by decide)
        obtain ⟨x1, x2⟩ := c2
        exact .inr (.inr (.inr (.inr (.inr (.inr ⟨n, v, by omega, rfl⟩)))))
    · rw [if_neg hb] at h; simp at h
theorem back1 : ∀ n : Nat, n < 13 → ∀ m : Nat, m < 10 → 1 ≤ n → 1 ≤ m → parS (fmtS ⟨1, n, m, 0, zRule⟩) = (⟨1, n, m, 0, zRule⟩, 0) := by decide +kernel
theorem back2 : ∀ n : Nat, n < 13 → 1 ≤ n → parS (fmtS ⟨2, n, 0, 0, zRule⟩) = (⟨2, n, 0, 0, zRule⟩, 0) := by decide +kernel
theorem back3 : ∀ n : Nat, n < 13 → ∀ m : Nat, m < 10 → 1 ≤ n → 1 ≤ m → parS (fmtS ⟨3, n, m, 0, zRule⟩) = (⟨3, n, m, 0, zRule⟩, 0) := by decide +kernel
theorem back4 : parS (fmtS ⟨4, 0, 0, 0, ⟨1, 0, 0⟩⟩) = (⟨4, 0, 0, 0, ⟨1, 0, 0⟩⟩, 0) := by decide +kernel
theorem back5 : parS (fmtS ⟨4, 0, 0, 0, ⟨2, 0, 0⟩⟩) = (⟨4, 0, 0, 0, ⟨2, 0, 0⟩⟩, 0) := by decide +kernel
theorem back6 : ∀ n : Nat, n < 13 → 1 ≤ n → parS (fmtS ⟨4, 0, 0, 0, ⟨3, n, 0⟩⟩) = (⟨4, 0, 0, 0, ⟨3, n, 0⟩⟩, 0) := by decide +kernel
theorem back7 : ∀ n : Nat, n < 13 → parS (fmtS ⟨4, 0, 0, 0, ⟨4, 0, n⟩⟩) = (⟨4, 0, 0, 0, ⟨4, 0, n⟩⟩, 0) := by decide +kernel
theorem back_of {c : api_Change} (h : Right c) : parS (fmtS c) = ({ c with Version := 0 }, 0) := by
  rcases h with ⟨n, m, h1, h2, h3, h4, rfl⟩ | ⟨n, h1, h2, rfl⟩ | ⟨n, m, v, h1, h2, h3, h4, rfl⟩ | ⟨v, rfl⟩ | ⟨v, rfl⟩ | ⟨n, v, h1, h2, rfl⟩ | ⟨n, v, h1, rfl⟩
  · exact back1 n (by omega) m (by omega) h2 h4
  · exact back2 n (by omega) h2
  · exact back3 n (by omega) m (by omega) h2 h4
  · exact back4
  · exact back5
  · exact back6 n (by omega) h2
  · exact back7 n (by omega)
theorem fmt_ne {c : api_Change} : fmtS c ≠ [] := by
  unfold fmtS
  repeat' split
  all_goals simp
theorem fmt_len {c : api_Change} : (fmtS c).length ≤ 300 := by
  unfold fmtS
  have h1 := dec_len c.Server.toNat
  have h2 := dec_len c.Weight.toNat
  have h3 := dec_len c.Rule.Columns.toNat
  have h4 := dec_len c.Rule.Faulty.toNat
  repeat' split
  all_goals simp <;> omega
theorem itoa0 : strconv_Itoa 0 = some (dec2 0) := rfl
theorem format_eq {c : api_Change} (h : valS (verS c) = 0) : command_Format c = some (fmtS c) := by
  have hR := right_of h
  unfold command_Format
  simp only [ver1, Option.bind_some, val1, h]
  rw [if_neg (by first | decide | exact Bool.false_ne_true | rfl)]
  unfold fmtS
  rcases hR with ⟨n, m, h1, h2, h3, h4, rfl⟩ | ⟨n, h1, h2, rfl⟩ | ⟨n, m, v, h1, h2, h3, h4, rfl⟩ | ⟨v, rfl⟩ | ⟨v, rfl⟩ | ⟨n, v, h1, h2, rfl⟩ | ⟨n, v, h1, rfl⟩
  · have d1 := dec_len n
    have d2 := dec_len m
    simp only [itoa_of (show n < 100 by omega), itoa_of (show m < 100 by omega), Option.bind_some]
    rw [if_pos (by first | decide | exact Bool.false_ne_true | rfl), cat_of (by simp; omega)]
    simp only [Option.bind_some]
    rw [cat_of (by simp; omega)]
    simp only [Option.bind_some]
    rw [cat_of (by simp; omega)]
    rfl
  · have d1 := dec_len n
    simp only [itoa_of (show n < 100 by omega), itoa0, Option.bind_some]
    rw [if_neg (by first | decide | exact Bool.false_ne_true | rfl), if_pos (by first | decide | exact Bool.false_ne_true | rfl), cat_of (by simp; omega)]
    rfl
  · have d1 := dec_len n
    have d2 := dec_len m
    simp only [itoa_of (show n < 100 by omega), itoa_of (show m < 100 by omega), Option.bind_some]
    rw [if_neg (by first | decide | exact Bool.false_ne_true | rfl), if_neg (by first | decide | exact Bool.false_ne_true | rfl), if_pos (by first | decide | exact Bool.false_ne_true | rfl), cat_of (by simp; omega)]
    simp only [Option.bind_some]
    rw [cat_of (by simp; omega)]
    simp only [Option.bind_some]
    rw [cat_of (by simp; omega)]
    rfl
  · simp only [itoa0, Option.bind_some]
    rfl
  · simp only [itoa0, Option.bind_some]
    rfl
  · have d1 := dec_len n
    simp only [itoa0, Option.bind_some]
    rw [if_neg (by first | decide | exact Bool.false_ne_true | rfl), if_neg (by first | decide | exact Bool.false_ne_true | rfl), if_neg (by first | decide | exact Bool.false_ne_true | rfl), if_neg (by first | decide | exact Bool.false_ne_true | rfl), if_neg (by first | decide | exact Bool.false_ne_true | rfl), if_pos (by first | decide | exact Bool.false_ne_true | rfl), itoa_of (show n < 100 by omega)]
    simp only [Option.bind_some]
    rw [cat_of (by simp; omega)]
    rfl
  · have d1 := dec_len n
    simp only [itoa0, Option.bind_some]
    rw [if_neg (by first | decide | exact Bool.false_ne_true | rfl), if_neg (by first | decide | exact Bool.false_ne_true | rfl), if_neg (by first | decide | exact Bool.false_ne_true | rfl), if_neg (by first | decide | exact Bool.false_ne_true | rfl), if_neg (by first | decide | exact Bool.false_ne_true | rfl), if_neg (by first | decide | exact Bool.false_ne_true | rfl), itoa_of (show n < 100 by omega)]
    simp only [Option.bind_some]
    rw [cat_of (by simp; omega)]
    rfl
theorem format2_eq {c : api_Change} (h : valS (verS c) = 0) : esref10_FormatCommand c = some (fmtS c) := by
  have hR := right_of h
  unfold esref10_FormatCommand
  simp only [ver2, Option.bind_some, val2, h]
  rw [if_neg (by first | decide | exact Bool.false_ne_true | rfl)]
  unfold fmtS
  rcases hR with ⟨n, m, h1, h2, h3, h4, rfl⟩ | ⟨n, h1, h2, rfl⟩ | ⟨n, m, v, h1, h2, h3, h4, rfl⟩ | ⟨v, rfl⟩ | ⟨v, rfl⟩ | ⟨n, v, h1, h2, rfl⟩ | ⟨n, v, h1, rfl⟩
  · have d1 := dec_len n
    have d2 := dec_len m
    rw [if_pos (by first | decide | exact Bool.false_ne_true | rfl)]
    simp only [dec_of (show n < 100 by omega), dec_of (show m < 100 by omega), Option.bind_some]
    rw [cat_of (by simp; omega)]
    simp only [Option.bind_some]
    rw [cat_of (by simp; omega)]
    simp only [Option.bind_some]
    rw [cat_of (by simp; omega)]
    rfl
  · have d1 := dec_len n
    rw [if_neg (by first | decide | exact Bool.false_ne_true | rfl), if_pos (by first | decide | exact Bool.false_ne_true | rfl)]
    simp only [dec_of (show n < 100 by omega), Option.bind_some]
    rw [cat_of (by simp; omega)]
    rfl
  · have d1 := dec_len n
    have d2 := dec_len m
    rw [if_neg (by first | decide | exact Bool.false_ne_true | rfl), if_neg (by first | decide | exact Bool.false_ne_true | rfl), if_pos (by first | decide | exact Bool.false_ne_true | rfl)]
    simp only [dec_of (show n < 100 by omega), dec_of (show m < 100 by omega), Option.bind_some]
    rw [cat_of (by simp; omega)]
    simp only [Option.bind_some]
    rw [cat_of (by simp; omega)]
    simp only [Option.bind_some]
    rw [cat_of (by simp; omega)]
    rfl
  · rfl
  · rfl
  · have d1 := dec_len n
    rw [if_neg (by first | decide | exact Bool.false_ne_true | rfl), if_neg (by first | decide | exact Bool.false_ne_true | rfl), if_neg (by first | decide | exact Bool.false_ne_true | rfl), if_neg (by first | decide | exact Bool.false_ne_true | rfl), if_neg (by first | decide | exact Bool.false_ne_true | rfl), if_pos (by first | decide | exact Bool.false_ne_true | rfl), dec_of (show n < 100 by omega)]
    simp only [Option.bind_some]
    rw [cat_of (by simp; omega)]
    rfl
  · have d1 := dec_len n
    rw [if_neg (by first | decide | exact Bool.false_ne_true | rfl), if_neg (by first | decide | exact Bool.false_ne_true | rfl), if_neg (by first | decide | exact Bool.false_ne_true | rfl), if_neg (by first | decide | exact Bool.false_ne_true | rfl), if_neg (by first | decide | exact Bool.false_ne_true | rfl), if_neg (by first | decide | exact Bool.false_ne_true | rfl), dec_of (show n < 100 by omega)]
    simp only [Option.bind_some]
    rw [cat_of (by simp; omega)]
    rfl
theorem val_back {c : api_Change} (h : valS (verS c) = 0) : valS (verS { c with Version := 0 }) = 0 := by
  have hb := back_of (right_of h)
  unfold parS at hb
  cases hs : synS (spl 32 (fmtS c)) with
  | none => rw [hs] at hb; simp at hb
  | some d =>
    rw [hs] at hb
    simp only at hb
    by_cases hv : valS (verS d) = 0
    · rw [if_pos hv] at hb
      rw [← (Prod.mk.inj hb).1]
      exact hv
    · rw [if_neg hv] at hb
      exact absurd (Prod.mk.inj hb).2 hv
theorem commandFormat_true (c : api_Change) : eslaw08_CommandFormat c = some true := by
  unfold eslaw08_CommandFormat
  by_cases h : valS (verS c) = 0
  · rw [show (⟨c.Kind, c.Server, c.Weight, c.Version, ⟨c.Rule.Kind, c.Rule.Columns, c.Rule.Faulty⟩⟩ : api_Change) = c from rfl, format_eq h, format2_eq h]
    have hn : (fmtS c == ([] : List UInt8)) = false := by rw [beq_eq_false_iff_ne]; exact fmt_ne
    have hl := @fmt_len c
    simp only [Option.bind_some, bne_self_eq_false, Bool.false_eq_true, if_false, hn, parse1 (fmtS c) (by omega), back_of (right_of h)]
    rw [if_pos (by first | decide | exact Bool.false_ne_true | rfl), if_pos (by rw [decide_eq_true_iff]; trivial)]
    rw [show (⟨c.Kind, c.Server, c.Weight, 0, ⟨c.Rule.Kind, c.Rule.Columns, c.Rule.Faulty⟩⟩ : api_Change) = { c with Version := 0 } from rfl, format_eq (val_back h)]
    rw [show fmtS { c with Version := 0 } = fmtS c from rfl]
    simp only [Option.bind_some, beq_self_eq_true, if_true, awake08, eslaw08_CommandFormat.j1]
  · have f1 : command_Format c = some [] := by
      unfold command_Format
      simp only [ver1, Option.bind_some, val1]
      rw [if_pos (by simpa using h)]
    have f2 : esref10_FormatCommand c = some [] := by
      unfold esref10_FormatCommand
      simp only [ver2, Option.bind_some, val2]
      rw [if_pos (by simpa using h)]
    rw [show (⟨c.Kind, c.Server, c.Weight, c.Version, ⟨c.Rule.Kind, c.Rule.Columns, c.Rule.Faulty⟩⟩ : api_Change) = c from rfl, f1, f2]
    simp only [Option.bind_some, awake08]
    rfl
end Go.Proofs.YthfoljpjhegkmaaDoor
