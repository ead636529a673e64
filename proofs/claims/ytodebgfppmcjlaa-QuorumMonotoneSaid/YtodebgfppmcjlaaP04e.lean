/- The quorum functions, as plain data: sets as bits. -/
import Derived.Test.YtodebgfppmcjlaaP04d
set_option linter.unusedVariables false
set_option linter.unusedSimpArgs false
namespace Go.Proofs.Ytodebgfppmcjlaa
open Go Go.Proofs.YtodebgfppmcjlaaL

theorem wu64 {k : Nat} (h : k < 18446744073709551616) : IntKind.u64.wrap (k : Int) = (k : Int) := by
  simp only [IntKind.wrap, IntKind.bits, IntKind.signed]; simp; omega
theorem bAnd (a b : Nat) (ha : a < 18446744073709551616) (hb : b < 18446744073709551616) : bitsOf .and .u64 (a : Int) (b : Int) = ((a &&& b : Nat) : Int) := by
  have e : (BitVec.ofInt 64 (a : Int) &&& BitVec.ofInt 64 (b : Int)).toNat = a &&& b := by
    rw [BitVec.ofInt_natCast, BitVec.ofInt_natCast, BitVec.toNat_and, BitVec.toNat_ofNat, BitVec.toNat_ofNat, Nat.mod_eq_of_lt ha, Nat.mod_eq_of_lt hb]
  show IntKind.u64.wrap ((BitVec.ofInt 64 (a : Int) &&& BitVec.ofInt 64 (b : Int)).toNat : Int) = _
  rw [e, wu64]
  exact Nat.lt_of_le_of_lt Nat.and_le_left ha
/-- A set without what another one has. -/
def andN (a b : Nat) : Nat := a ^^^ (a &&& b)
theorem andN_le (a b : Nat) : andN a b ≤ a := by
  have : ∀ j, (andN a b).testBit j = true → a.testBit j = true := by
    intro j; unfold andN; rw [Nat.testBit_xor, Nat.testBit_and]; cases a.testBit j <;> simp
  have e : andN a b = andN a b &&& a := by
    apply Nat.eq_of_testBit_eq
    intro j
    rw [Nat.testBit_and]
    have := this j
    cases h : (andN a b).testBit j <;> simp_all
  rw [e]
  exact Nat.and_le_right
theorem andN_bit (a b j : Nat) : (andN a b).testBit j = (a.testBit j && !b.testBit j) := by
  unfold andN; rw [Nat.testBit_xor, Nat.testBit_and]; cases a.testBit j <;> cases b.testBit j <;> rfl
theorem bAndN (a b : Nat) (ha : a < 18446744073709551616) (hb : b < 18446744073709551616) : bitsOf .andNot .u64 (a : Int) (b : Int) = ((andN a b : Nat) : Int) := by
  have e : (BitVec.ofInt 64 (a : Int) &&& ~~~ BitVec.ofInt 64 (b : Int)) = (BitVec.ofInt 64 (a : Int) ^^^ (BitVec.ofInt 64 (a : Int) &&& BitVec.ofInt 64 (b : Int))) := by
    apply BitVec.eq_of_getLsbD_eq
    intro i hi
    simp only [BitVec.getLsbD_and, BitVec.getLsbD_xor, BitVec.getLsbD_not, hi, decide_true, Bool.true_and]
    cases (BitVec.ofInt 64 (a : Int)).getLsbD i <;> cases (BitVec.ofInt 64 (b : Int)).getLsbD i <;> rfl
  have e2 : (BitVec.ofInt 64 (a : Int) &&& ~~~ BitVec.ofInt 64 (b : Int)).toNat = andN a b := by
    rw [e, BitVec.ofInt_natCast, BitVec.ofInt_natCast, BitVec.toNat_xor, BitVec.toNat_and, BitVec.toNat_ofNat, BitVec.toNat_ofNat, Nat.mod_eq_of_lt ha, Nat.mod_eq_of_lt hb]
    rfl
  show IntKind.u64.wrap ((BitVec.ofInt 64 (a : Int) &&& ~~~ BitVec.ofInt 64 (b : Int)).toNat : Int) = _
  rw [e2, wu64]
  exact Nat.lt_of_le_of_lt (andN_le a b) ha
theorem shr_nat (a i : Nat) (hi : i ≤ 64) : shrI .u64 (a : Int) (i : Int) = ((a / 2 ^ i : Nat) : Int) := by
  unfold shrI
  rw [Int.toNat_natCast, show IntKind.u64.bits = 64 from rfl, Nat.min_eq_left hi, Int.fdiv_eq_ediv_of_nonneg _ (Int.pow_nonneg (by decide))]
  rw [Int.natCast_ediv, Int.natCast_pow]
  rfl
theorem shr_nat_i (a i : Nat) (hi : i ≤ 64) : shrI .i64 (a : Int) (i : Int) = ((a / 2 ^ i : Nat) : Int) := shr_nat a i hi
theorem shl_nat (i : Nat) (hi : i < 64) : shlI .u64 1 (i : Int) = ((2 ^ i : Nat) : Int) := by
  unfold shlI
  rw [Int.toNat_natCast, show IntKind.u64.bits = 64 from rfl, Nat.min_eq_left (by omega), Int.one_mul]
  have h : 2 ^ i < 2 ^ 64 := Nat.pow_lt_pow_right (by decide) hi
  rw [← wu64 (k := 2 ^ i) h, Int.natCast_pow]
  rfl
theorem shl_nat_i (i : Nat) (hi : i < 62) : shlI .i64 1 (i : Int) = ((2 ^ i : Nat) : Int) := by
  unfold shlI
  rw [Int.toNat_natCast, show IntKind.i64.bits = 64 from rfl, Nat.min_eq_left (by omega), Int.one_mul]
  have h : 2 ^ i < 2 ^ 62 := Nat.pow_lt_pow_right (by decide) hi
  have e : ((2 : Int) ^ i) = ((2 ^ i : Nat) : Int) := by rw [Int.natCast_pow]; rfl
  rw [e]
  generalize 2 ^ i = q at h
  exact w64 (by omega) (by omega)
theorem bit_one (a i : Nat) (ha : a < 18446744073709551616) (hi : i ≤ 64) : (bitsOf .and .u64 (shrI .u64 (a : Int) (i : Int)) 1 == 1) = a.testBit i := by
  rw [shr_nat a i hi, show (1 : Int) = ((1 : Nat) : Int) from rfl, bAnd _ _ (Nat.lt_of_le_of_lt (Nat.div_le_self _ _) ha) (by decide), Nat.and_one_is_mod, Nat.testBit_eq_decide_div_mod_eq]
  rw [Bool.eq_iff_iff, beq_iff_eq, decide_eq_true_iff]
  omega

/-- The members of a set. -/
def bv (n m : Nat) : List Bool := (List.range n).map (m.testBit ·)
theorem bv_length (n m : Nat) : (bv n m).length = n := by simp [bv]
theorem bv_get (n m i : Nat) (h : i < (bv n m).length) : (bv n m)[i] = m.testBit i := by simp [bv]
def Qm (v : api_View) (m : Nat) : Bool := cSpec v (bv v.Members.length m)
theorem holds_eq (v : api_View) (m : Nat) (h : VOk v) (hm : m < 18446744073709551616) : quorum_holds v (m : Int) = some (Qm v m) := by
  have hn := h.n
  unfold quorum_holds
  rw [mk_of (by omega) (by omega)]
  simp only [Option.bind_some, Int.toNat_natCast]
  have e := loopO_up (step := quorum_holds.l1 (m : Int) (List.replicate v.Members.length false)) (fun k => ((bv v.Members.length m).take k ++ List.replicate (v.Members.length - k) false, (k : Int))) v.Members.length (b := bv v.Members.length m) ?_ ?_
  · simp only [List.take_zero, List.nil_append, Nat.sub_zero, Int.natCast_zero] at e
    rw [e]
    simp only [Option.bind_some, quorum_holds.j1]
    rw [contains_eq v _ h (bv_length _ _)]
    rfl
  · intro k hk
    have hp : k < (bv v.Members.length m).length := by rwa [bv_length]
    simp only [quorum_holds.l1]
    rw [if_pos (by simpa using hk), if_pos (by omega)]
    simp only [Option.bind_some, letV_of, wcast hk (by omega), bit_one m k hm (by omega)]
    rw [idx_nat (by simp; omega)]
    simp only [Option.bind_some, Int.toNat_natCast]
    rw [take_snoc hp, show v.Members.length - k = (v.Members.length - (k + 1)) + 1 by omega, List.replicate_succ, List.set_append_right _ _ (by rw [List.length_take]; omega)]
    rw [List.length_take, Nat.min_eq_left (by omega), Nat.sub_self]
    simp [bv_get]
  · simp only [quorum_holds.l1]
    rw [if_neg (by simp), Nat.sub_self, List.replicate_zero, List.append_nil, List.take_of_length_le (by rw [bv_length]; omega)]
theorem full_eq (v : api_View) (h : VOk v) : quorum_full v = some ((2 ^ v.Members.length - 1 : Nat) : Int) := by
  have hn := h.n
  unfold quorum_full
  rw [vv_val v (by omega), h.val]
  simp only [Option.bind_some]
  rw [if_neg (by simp), if_pos (by omega)]
  simp only [letV_of, shl_nat v.Members.length (by omega)]
  have h1 : 1 ≤ 2 ^ v.Members.length := Nat.one_le_two_pow
  have h2 : 2 ^ v.Members.length ≤ 2 ^ 12 := Nat.pow_le_pow_right (by decide) hn
  rw [show ((2 ^ v.Members.length : Nat) : Int) - 1 = ((2 ^ v.Members.length - 1 : Nat) : Int) by omega, wu64 (by omega)]
def pc (m : Nat) : Nat := (bv 8 m).count true
theorem size_all : ∀ m : Nat, m < 256 → quorum_set_size (m : Int) = some (pc m : Int) := by
  decide +kernel
end Go.Proofs.Ytodebgfppmcjlaa
