import Derived.Test.YtodebgfppmcjlaaLqa
set_option linter.unusedVariables false
set_option linter.unusedSimpArgs false
namespace Go.Proofs.Ytodebgfppmcjlaa
open Go Go.RowKit Go.Proofs.YtodebgfppmcjlaaL
structure api_Member where
  Server : Int
  Weight : Int
  deriving DecidableEq
structure api_Rule where
  Kind : Int
  Columns : Int
  Faulty : Int
  deriving DecidableEq
structure api_View where
  Members : List api_Member
  Rule : api_Rule
  deriving DecidableEq
/-! slices.Index[[]int,int]: function 46 -/
noncomputable def slices_Index_int.j1   : Option Int :=
  some (-1)
noncomputable def slices_Index_int.l1 (x1 : List Int) (x4 : Int) : Int → Option ((Int) ⊕ (Unit ⊕ Int)) := fun x12 =>
  (if (decide (x12 < (x1.length : Int))) then ((idx x1 x12).bind fun x20 =>
  (if (x4 == x20) then some (.inr (.inr x12)) else (letV (IntKind.i64.wrap (x12 + 1)) fun x25 =>
  some (.inl x25)))) else some (.inr (.inl ())))
noncomputable def slices_Index_int (x1 : List Int) (x4 : Int) : Option Int :=
  ((loopO (slices_Index_int.l1 x1 x4) 0).bind fun b => match b with | .inl _ => slices_Index_int.j1 | .inr x26 => some x26)
/-! slices.Contains[[]int,int]: function 32 -/
noncomputable def slices_Contains_int (x1 : List Int) (x4 : Int) : Option Bool :=
  ((slices_Index_int x1 x4).bind fun x7 =>
  some (decide (0 ≤ x7)))
/-! elasticstore/quorum.count: function 47 -/
noncomputable def quorum_count.j1  (x8 : Int) : Option Int :=
  some x8
noncomputable def quorum_count.j2 (x14 : Int) (x21 : Int) : Option ((Int × Int) ⊕ (Int)) :=
  (letV (IntKind.i64.wrap (x14 + 1)) fun x23 =>
  some (.inl (x21, x23)))
noncomputable def quorum_count.l1 (x1 : List Bool) : (Int × Int) → Option ((Int × Int) ⊕ (Int)) := fun (x13, x14) =>
  (if (decide (x14 < (x1.length : Int))) then ((idx x1 x14).bind fun x25 =>
  (if x25 then (letV (IntKind.i64.wrap (x13 + 1)) fun x30 =>
  quorum_count.j2 x14 x30) else quorum_count.j2 x14 x13)) else some (.inr x13))
noncomputable def quorum_count (x1 : List Bool) : Option Int :=
  ((loopO (quorum_count.l1 x1) (0, 0)).bind fun x31 => quorum_count.j1 x31)
/-! elasticstore/quorum.weighted: function 48 -/
noncomputable def quorum_weighted.j1  (x11 : Int) (x12 : Int) : Option Bool :=
  some (decide (x12 < x11))
noncomputable def quorum_weighted.j2 (x19 : Int) (x26 : Int) (x27 : Int) : Option ((Int × Int × Int) ⊕ (Int × Int)) :=
  (letV (IntKind.i64.wrap (x19 + 1)) fun x29 =>
  some (.inl (x26, x27, x29)))
noncomputable def quorum_weighted.l1 (x1 : List api_Member) (x4 : List Bool) : (Int × Int × Int) → Option ((Int × Int × Int) ⊕ (Int × Int)) := fun (x17, x18, x19) =>
  (if (decide (x19 < (x1.length : Int))) then ((idx x1 x19).bind fun x31 =>
  (letV (IntKind.i64.wrap (x18 + x31.Weight)) fun x39 =>
  ((idx x4 x19).bind fun x41 =>
  (if x41 then (letV (IntKind.i64.wrap (2 * x31.Weight)) fun x46 =>
  (letV (IntKind.i64.wrap (x17 + x46)) fun x47 =>
  quorum_weighted.j2 x19 x47 x39)) else quorum_weighted.j2 x19 x17 x39)))) else some (.inr (x17, x18)))
noncomputable def quorum_weighted (x1 : List api_Member) (x4 : List Bool) : Option Bool :=
  ((loopO (quorum_weighted.l1 x1 x4) (0, 0, 0)).bind fun (x48, x49) => quorum_weighted.j1 x48 x49)
/-! elasticstore/quorum.grid: function 49 -/
def gridF : Nat → Nat → List Bool → Bool → Bool
  | 0, _, _, whole => whole
  | f + 1, c, l, whole => if l = [] then whole else if (l.take c).count true = 0 then false else gridF f c (l.drop c) (whole || (l.take c).count true == (l.take c).length)
def quorum_grid (x1 : Int) (x2 : List Bool) : Option Bool := if x2.length ≤ 140737488355328 ∧ x1 ≤ 4611686018427387904 then some (if x1 < 1 then false else gridF x2.length x1.toNat x2 false) else none
/-! elasticstore/quorum.contains: function 33 -/
noncomputable def quorum_contains (x1 : api_View) (x5 : List Bool) : Option Bool :=
  (if (((x1.Members).length : Int) == 0) then some false else (if (x1.Rule.Kind == 1) then ((quorum_count x5).bind fun x24 =>
  (letV (IntKind.i64.wrap (2 * x24)) fun x25 =>
  some (decide (((x1.Members).length : Int) < x25)))) else (if (x1.Rule.Kind == 2) then ((quorum_weighted x1.Members x5).bind fun x32 =>
  some x32) else (if (x1.Rule.Kind == 3) then ((quorum_grid x1.Rule.Columns x5).bind fun x37 =>
  some x37) else (if (x1.Rule.Kind == 4) then ((quorum_count x5).bind fun x41 =>
  (letV (IntKind.i64.wrap (((x1.Members).length : Int) + x1.Rule.Faulty)) fun x43 =>
  (letV (IntKind.i64.wrap (x43 + 2)) fun x44 =>
  (letV (IntKind.i64.wrap (Int.tdiv x44 2)) fun x45 =>
  some (decide (x45 ≤ x41)))))) else some false)))))
/-! elasticstore/quorum.IsQuorum: function 18 -/
noncomputable def quorum_IsQuorum.j1 (x1 : api_View) (x20 : List Bool) : Option Bool :=
  ((quorum_contains x1 x20).bind fun x24 =>
  some x24)
noncomputable def quorum_IsQuorum.l1 (x1 : api_View) (x5 : List Int) : ((List Bool) × Int) → Option (((List Bool) × Int) ⊕ (List Bool)) := fun (x29, x31) =>
  (if (decide (x31 < ((x1.Members).length : Int))) then ((idx x1.Members x31).bind fun x38 =>
  ((slices_Contains_int x5 x38.Server).bind fun x45 =>
  ((idx x29 x31).bind fun x46 =>
  (letV (x29.set (x31).toNat x45) fun x48 =>
  (letV (IntKind.i64.wrap (x31 + 1)) fun x49 =>
  some (.inl (x48, x49))))))) else some (.inr x29))
noncomputable def quorum_IsQuorum (x1 : api_View) (x5 : List Int) : Option Bool :=
  ((mk 1 ((x1.Members).length : Int) (false : Bool)).bind fun x17 =>
  ((loopO (quorum_IsQuorum.l1 x1 x5) (x17, 0)).bind fun x50 => quorum_IsQuorum.j1 x1 x50))
/-! elasticstore/quorum.ValidateRule: function 12 -/
noncomputable def quorum_ValidateRule.j1  (x20 : Bool) : Option Int :=
  (if x20 then some 9 else some 0)
noncomputable def quorum_ValidateRule.j2  (x14 : Bool) (x15 : Bool) : Option Int :=
  (if (!x14) then quorum_ValidateRule.j1 true else quorum_ValidateRule.j1 (!x15))
noncomputable def quorum_ValidateRule.j3 (x1 : api_Rule) (x9 : Bool) (x10 : Bool) (x30 : Bool) : Option Int :=
  (if x30 then quorum_ValidateRule.j2 x9 x10 else (if (x1.Kind == 3) then (if (decide (1 ≤ x1.Columns)) then quorum_ValidateRule.j2 (decide (x1.Columns ≤ 12)) x10 else quorum_ValidateRule.j2 false x10) else (if (x1.Kind == 4) then (if (decide (0 ≤ x1.Faulty)) then quorum_ValidateRule.j2 x9 (decide (x1.Faulty ≤ 12)) else quorum_ValidateRule.j2 x9 false) else some 10)))
noncomputable def quorum_ValidateRule.j4 (x1 : api_Rule) (x9 : Bool) (x10 : Bool) : Option Int :=
  (if (x1.Kind == 1) then quorum_ValidateRule.j3 x1 x9 x10 true else quorum_ValidateRule.j3 x1 x9 x10 (x1.Kind == 2))
noncomputable def quorum_ValidateRule (x1 : api_Rule) : Option Int :=
  quorum_ValidateRule.j4 x1 (x1.Columns == 0) (x1.Faulty == 0)
/-! elasticstore/quorum.ValidateView: function 14 -/
noncomputable def quorum_ValidateView.j1   : Option Int :=
  some 0
noncomputable def quorum_ValidateView.j2 (x25 : Int) (x47 : Bool) : Option ((Int) ⊕ (Unit ⊕ Int)) :=
  (if x47 then some (.inr (.inr 7)) else (letV (IntKind.i64.wrap (x25 + 1)) fun x51 =>
  some (.inl x51)))
noncomputable def quorum_ValidateView.j3 (x1 : api_View) (x25 : Int) (x32 : api_Member) (x41 : Bool) : Option ((Int) ⊕ (Unit ⊕ Int)) :=
  (if x41 then some (.inr (.inr 9)) else (if (decide (0 < x25)) then (letV (IntKind.i64.wrap (x25 - 1)) fun x57 =>
  ((idx x1.Members x57).bind fun x58 =>
  quorum_ValidateView.j2 x25 (decide (x32.Server ≤ x58.Server)))) else quorum_ValidateView.j2 x25 false))
noncomputable def quorum_ValidateView.l1 (x1 : api_View) : Int → Option ((Int) ⊕ (Unit ⊕ Int)) := fun x25 =>
  (if (decide (x25 < ((x1.Members).length : Int))) then ((idx x1.Members x25).bind fun x32 =>
  (if (decide (x32.Server < 1)) then quorum_ValidateView.j3 x1 x25 x32 true else (if (decide (12 < x32.Server)) then quorum_ValidateView.j3 x1 x25 x32 true else (if (decide (x32.Weight < 1)) then quorum_ValidateView.j3 x1 x25 x32 true else quorum_ValidateView.j3 x1 x25 x32 (decide (9 < x32.Weight)))))) else some (.inr (.inl ())))
noncomputable def quorum_ValidateView (x1 : api_View) : Option Int :=
  ((quorum_ValidateRule x1.Rule).bind fun x12 =>
  (if (x12 != 0) then some x12 else ((loopO (quorum_ValidateView.l1 x1) 0).bind fun b => match b with | .inl _ => quorum_ValidateView.j1 | .inr x156 => some x156)))
/-! elasticstore/quorum.full: function 43 -/
noncomputable def quorum_full (x1 : api_View) : Option Int :=
  ((quorum_ValidateView x1).bind fun x9 =>
  (if (x9 != 0) then some 0 else (if 0 ≤ ((x1.Members).length : Int) then (letV (shlI .u64 1 ((x1.Members).length : Int)) fun x17 =>
  (letV (IntKind.u64.wrap (x17 - 1)) fun x18 =>
  some x18)) else none)))
/-! elasticstore/quorum.holds: function 44 -/
noncomputable def quorum_holds.j1 (x1 : api_View) (x18 : List Bool) : Option Bool :=
  ((quorum_contains x1 x18).bind fun x22 =>
  some x22)
noncomputable def quorum_holds.l1 (x5 : Int) (x15 : List Bool) : ((List Bool) × Int) → Option (((List Bool) × Int) ⊕ (List Bool)) := fun (x24, x26) =>
  (if (decide (x26 < (x15.length : Int))) then (if 0 ≤ x26 then (letV (bitsOf .and .u64 (shrI .u64 x5 x26) 1) fun x34 =>
  ((idx x24 x26).bind fun x35 =>
  (letV (x24.set (x26).toNat (x34 == 1)) fun x37 =>
  (letV (IntKind.i64.wrap (x26 + 1)) fun x38 =>
  some (.inl (x37, x38)))))) else none) else some (.inr x24))
noncomputable def quorum_holds (x1 : api_View) (x5 : Int) : Option Bool :=
  ((mk 1 ((x1.Members).length : Int) (false : Bool)).bind fun x15 =>
  ((loopO (quorum_holds.l1 x5 x15) (x15, 0)).bind fun x39 => quorum_holds.j1 x1 x39))
/-! elasticstore/quorum.minimal: function 35 -/
noncomputable def quorum_minimal.j1  (x21 : List (Int × Bool)) (x23 : List Int) : Option (List Int) :=
  some x23
noncomputable def quorum_minimal.j2 (x33 : List Int) (x47 : Int) (x55 : List (Int × Bool)) (x57 : List Int) (x61 : Bool) : Option (((List (Int × Bool)) × (List Int) × (List Int)) ⊕ ((List (Int × Bool)) × (List Int))) :=
  (if x61 then ((app 8 x33 [x47]).bind fun x66 =>
  some (.inl (x55, x66, x57))) else some (.inl (x55, x33, x57)))
noncomputable def quorum_minimal.j3 (x82 : Int) (x88 : List (Int × Bool)) (x90 : List Int) (x94 : Bool) : Option (((List (Int × Bool)) × (List Int) × Bool × Int) ⊕ ((List (Int × Bool)) × (List Int) × Bool)) :=
  (letV (IntKind.i64.wrap (x82 + 1)) fun x96 =>
  some (.inl (x88, x90, x94, x96)))
noncomputable def quorum_minimal.j4 (x75 : List (Int × Bool)) (x77 : List Int) (x81 : Bool) (x82 : Int) (x100 : Int) (x104 : Bool) : Option (((List (Int × Bool)) × (List Int) × Bool × Int) ⊕ ((List (Int × Bool)) × (List Int) × Bool)) :=
  (if x104 then quorum_minimal.j3 x82 x75 x77 x81 else (letV ((List.lookup x100 x75).getD false) fun x109 =>
  (if (!x109) then (letV (mset x75 x100 true) fun x113 =>
  ((app 8 x77 [x100]).bind fun x115 =>
  quorum_minimal.j3 x82 x113 x115 false)) else quorum_minimal.j3 x82 x75 x77 false)))
noncomputable def quorum_minimal.l1 (x1 : api_View) (x47 : Int) : ((List (Int × Bool)) × (List Int) × Bool × Int) → Option (((List (Int × Bool)) × (List Int) × Bool × Int) ⊕ ((List (Int × Bool)) × (List Int) × Bool)) := fun (x75, x77, x81, x82) =>
  (if (decide (x82 < ((x1.Members).length : Int))) then (if 0 ≤ x82 then (letV (bitsOf .andNot .u64 x47 (shlI .u64 1 x82)) fun x100 =>
  (if (x100 == x47) then quorum_minimal.j4 x75 x77 x81 x82 x100 true else ((quorum_holds x1 x100).bind fun x121 =>
  quorum_minimal.j4 x75 x77 x81 x82 x100 (!x121)))) else none) else some (.inr (x75, x77, x81)))
noncomputable def quorum_minimal.l2 (x1 : api_View) : ((List (Int × Bool)) × (List Int) × (List Int)) → Option (((List (Int × Bool)) × (List Int) × (List Int)) ⊕ ((List (Int × Bool)) × (List Int))) := fun (x31, x33, x37) =>
  (if (decide (0 < (x37.length : Int))) then (letV (IntKind.i64.wrap ((x37.length : Int) - 1)) fun x46 =>
  ((idx x37 x46).bind fun x47 =>
  (letV (IntKind.i64.wrap ((x37.length : Int) - 1)) fun x51 =>
  ((cut x37 0 x51).bind fun x52 =>
  ((loopO (quorum_minimal.l1 x1 x47) (x31, x52, true, 0)).bind fun (x122, x123, x124) => quorum_minimal.j2 x33 x47 x122 x123 x124))))) else some (.inr (x31, x33)))
noncomputable def quorum_minimal.j5 (x1 : api_View) (x8 : Int) (x12 : Bool) : Option (List Int) :=
  (if x12 then some [] else (letV (mset ([] : List (Int × Bool)) x8 true) fun x19 =>
  ((loopO (quorum_minimal.l2 x1) (x19, [], [x8])).bind fun (x125, x126) => quorum_minimal.j1 x125 x126)))
noncomputable def quorum_minimal (x1 : api_View) : Option (List Int) :=
  ((quorum_full x1).bind fun x8 =>
  (if (x8 == 0) then quorum_minimal.j5 x1 x8 true else ((quorum_holds x1 x8).bind fun x128 =>
  quorum_minimal.j5 x1 x8 (!x128))))
/-! slices.SortFunc[[][]int,[]int]: function 36 -/
def cmpInts : List Int → List Int → Int
  | [], [] => 0
  | [], _ :: _ => -1
  | _ :: _, [] => 1
  | x :: xs, y :: ys => if x < y then -1 else if y < x then 1 else cmpInts xs ys
def ltInts (a b : List Int) : Bool := decide (cmpInts a b < 0)
def slices_SortFunc_sl (x1 : List (List Int)) : Option (List (List Int)) := if (x1.all fun l => decide (l.length ≤ 140737488355328)) = true then sortU ltInts x1 else none
/-! cmp.isNaN[int]: function 65 -/
noncomputable def cmp_isNaN_int (x1 : Int) : Option Bool :=
  some (x1 != x1)
/-! cmp.Compare[int]: function 52 -/
noncomputable def cmp_Compare_int (x1 : Int) (x2 : Int) : Option Int :=
  ((cmp_isNaN_int x1).bind fun x5 =>
  ((cmp_isNaN_int x2).bind fun x7 =>
  (if x5 then (if x7 then some 0 else some (-1)) else (if x7 then some 1 else (if (decide (x1 < x2)) then some (-1) else (if (decide (x2 < x1)) then some 1 else some 0))))))
/-! slices.Compare[[]int,int]: function 37 -/
noncomputable def slices_Compare_int.j1 (x1 : List Int) (x4 : List Int)  : Option Int :=
  (if (decide ((x1.length : Int) < (x4.length : Int))) then some (-1) else some 0)
noncomputable def slices_Compare_int.l1 (x1 : List Int) (x4 : List Int) : Int → Option ((Int) ⊕ (Unit ⊕ Int)) := fun x18 =>
  (if (decide (x18 < (x1.length : Int))) then ((idx x1 x18).bind fun x25 =>
  (if (decide ((x4.length : Int) ≤ x18)) then some (.inr (.inr 1)) else ((idx x4 x18).bind fun x33 =>
  ((cmp_Compare_int x25 x33).bind fun x37 =>
  (if (x37 != 0) then some (.inr (.inr x37)) else (letV (IntKind.i64.wrap (x18 + 1)) fun x41 =>
  some (.inl x41))))))) else some (.inr (.inl ())))
noncomputable def slices_Compare_int (x1 : List Int) (x4 : List Int) : Option Int :=
  ((loopO (slices_Compare_int.l1 x1 x4) 0).bind fun b => match b with | .inl _ => slices_Compare_int.j1 x1 x4 | .inr x42 => some x42)
/-! elasticstore/quorum.Minimal: function 20 -/
noncomputable def quorum_Minimal.j1  (x10 : List (List Int)) : Option (List (List Int)) :=
  ((slices_SortFunc_sl x10).bind fun x16 =>
  some x16)
noncomputable def quorum_Minimal.j2 (x28 : Int) (x35 : List (List Int)) : Option (((List (List Int)) × Int) ⊕ (List (List Int))) :=
  (letV (IntKind.i64.wrap (x28 + 1)) fun x40 =>
  some (.inl (x35, x40)))
noncomputable def quorum_Minimal.j3 (x24 : List (List Int)) (x28 : Int) (x48 : List Int) : Option (((List (List Int)) × Int) ⊕ (List (List Int))) :=
  ((app 24 x24 [x48]).bind fun x54 =>
  quorum_Minimal.j2 x28 x54)
noncomputable def quorum_Minimal.j4 (x68 : Int) (x75 : List Int) : Option (((List Int) × Int) ⊕ (List Int)) :=
  (letV (IntKind.i64.wrap (x68 + 1)) fun x80 =>
  some (.inl (x75, x80)))
noncomputable def quorum_Minimal.l1 (x1 : api_View) (x42 : Int) : ((List Int) × Int) → Option (((List Int) × Int) ⊕ (List Int)) := fun (x64, x68) =>
  (if (decide (x68 < ((x1.Members).length : Int))) then ((idx x1.Members x68).bind fun x82 =>
  (if 0 ≤ x68 then (letV (bitsOf .and .u64 (shrI .u64 x42 x68) 1) fun x90 =>
  (if (x90 == 1) then ((app 8 x64 [x82.Server]).bind fun x94 =>
  quorum_Minimal.j4 x68 x94) else quorum_Minimal.j4 x68 x64)) else none)) else some (.inr x64))
noncomputable def quorum_Minimal.l2 (x1 : api_View) (x19 : List Int) : ((List (List Int)) × Int) → Option (((List (List Int)) × Int) ⊕ (List (List Int))) := fun (x24, x28) =>
  (if (decide (x28 < (x19.length : Int))) then ((idx x19 x28).bind fun x42 =>
  ((loopO (quorum_Minimal.l1 x1 x42) ([], 0)).bind fun x99 => quorum_Minimal.j3 x24 x28 x99)) else some (.inr x24))
noncomputable def quorum_Minimal (x1 : api_View) : Option (List (List Int)) :=
  ((quorum_minimal x1).bind fun x19 =>
  ((loopO (quorum_Minimal.l2 x1 x19) ([], 0)).bind fun x100 => quorum_Minimal.j1 x100))
/-! math/bits.OnesCount32: function 66 -/
noncomputable def bits_OnesCount32 (x1 : Int) : Option Int :=
  ((idx ([0, 1, 1, 2, 1, 2, 2, 3, 1, 2, 2, 3, 2, 3, 3, 4, 1, 2, 2, 3, 2, 3, 3, 4, 2, 3, 3, 4, 3, 4, 4, 5, 1, 2, 2, 3, 2, 3, 3, 4, 2, 3, 3, 4, 3, 4, 4, 5, 2, 3, 3, 4, 3, 4, 4, 5, 3, 4, 4, 5, 4, 5, 5, 6, 1, 2, 2, 3, 2, 3, 3, 4, 2, 3, 3, 4, 3, 4, 4, 5, 2, 3, 3, 4, 3, 4, 4, 5, 3, 4, 4, 5, 4, 5, 5, 6, 2, 3, 3, 4, 3, 4, 4, 5, 3, 4, 4, 5, 4, 5, 5, 6, 3, 4, 4, 5, 4, 5, 5, 6, 4, 5, 5, 6, 5, 6, 6, 7, 1, 2, 2, 3, 2, 3, 3, 4, 2, 3, 3, 4, 3, 4, 4, 5, 2, 3, 3, 4, 3, 4, 4, 5, 3, 4, 4, 5, 4, 5, 5, 6, 2, 3, 3, 4, 3, 4, 4, 5, 3, 4, 4, 5, 4, 5, 5, 6, 3, 4, 4, 5, 4, 5, 5, 6, 4, 5, 5, 6, 5, 6, 6, 7, 2, 3, 3, 4, 3, 4, 4, 5, 3, 4, 4, 5, 4, 5, 5, 6, 3, 4, 4, 5, 4, 5, 5, 6, 4, 5, 5, 6, 5, 6, 6, 7, 3, 4, 4, 5, 4, 5, 5, 6, 4, 5, 5, 6, 5, 6, 6, 7, 4, 5, 5, 6, 5, 6, 6, 7, 5, 6, 6, 7, 6, 7, 7, 8] : List UInt8) (shrI .u32 x1 24)).bind fun x5 =>
  (letV (bitsOf .and .u32 (shrI .u32 x1 16) 255) fun x7 =>
  ((idx ([0, 1, 1, 2, 1, 2, 2, 3, 1, 2, 2, 3, 2, 3, 3, 4, 1, 2, 2, 3, 2, 3, 3, 4, 2, 3, 3, 4, 3, 4, 4, 5, 1, 2, 2, 3, 2, 3, 3, 4, 2, 3, 3, 4, 3, 4, 4, 5, 2, 3, 3, 4, 3, 4, 4, 5, 3, 4, 4, 5, 4, 5, 5, 6, 1, 2, 2, 3, 2, 3, 3, 4, 2, 3, 3, 4, 3, 4, 4, 5, 2, 3, 3, 4, 3, 4, 4, 5, 3, 4, 4, 5, 4, 5, 5, 6, 2, 3, 3, 4, 3, 4, 4, 5, 3, 4, 4, 5, 4, 5, 5, 6, 3, 4, 4, 5, 4, 5, 5, 6, 4, 5, 5, 6, 5, 6, 6, 7, 1, 2, 2, 3, 2, 3, 3, 4, 2, 3, 3, 4, 3, 4, 4, 5, 2, 3, 3, 4, 3, 4, 4, 5, 3, 4, 4, 5, 4, 5, 5, 6, 2, 3, 3, 4, 3, 4, 4, 5, 3, 4, 4, 5, 4, 5, 5, 6, 3, 4, 4, 5, 4, 5, 5, 6, 4, 5, 5, 6, 5, 6, 6, 7, 2, 3, 3, 4, 3, 4, 4, 5, 3, 4, 4, 5, 4, 5, 5, 6, 3, 4, 4, 5, 4, 5, 5, 6, 4, 5, 5, 6, 5, 6, 6, 7, 3, 4, 4, 5, 4, 5, 5, 6, 4, 5, 5, 6, 5, 6, 6, 7, 4, 5, 5, 6, 5, 6, 6, 7, 5, 6, 6, 7, 6, 7, 7, 8] : List UInt8) x7).bind fun x8 =>
  (letV (IntKind.u8.wrap ((x5.toNat : Int) + (x8.toNat : Int))) fun x9 =>
  (letV (bitsOf .and .u32 (shrI .u32 x1 8) 255) fun x11 =>
  ((idx ([0, 1, 1, 2, 1, 2, 2, 3, 1, 2, 2, 3, 2, 3, 3, 4, 1, 2, 2, 3, 2, 3, 3, 4, 2, 3, 3, 4, 3, 4, 4, 5, 1, 2, 2, 3, 2, 3, 3, 4, 2, 3, 3, 4, 3, 4, 4, 5, 2, 3, 3, 4, 3, 4, 4, 5, 3, 4, 4, 5, 4, 5, 5, 6, 1, 2, 2, 3, 2, 3, 3, 4, 2, 3, 3, 4, 3, 4, 4, 5, 2, 3, 3, 4, 3, 4, 4, 5, 3, 4, 4, 5, 4, 5, 5, 6, 2, 3, 3, 4, 3, 4, 4, 5, 3, 4, 4, 5, 4, 5, 5, 6, 3, 4, 4, 5, 4, 5, 5, 6, 4, 5, 5, 6, 5, 6, 6, 7, 1, 2, 2, 3, 2, 3, 3, 4, 2, 3, 3, 4, 3, 4, 4, 5, 2, 3, 3, 4, 3, 4, 4, 5, 3, 4, 4, 5, 4, 5, 5, 6, 2, 3, 3, 4, 3, 4, 4, 5, 3, 4, 4, 5, 4, 5, 5, 6, 3, 4, 4, 5, 4, 5, 5, 6, 4, 5, 5, 6, 5, 6, 6, 7, 2, 3, 3, 4, 3, 4, 4, 5, 3, 4, 4, 5, 4, 5, 5, 6, 3, 4, 4, 5, 4, 5, 5, 6, 4, 5, 5, 6, 5, 6, 6, 7, 3, 4, 4, 5, 4, 5, 5, 6, 4, 5, 5, 6, 5, 6, 6, 7, 4, 5, 5, 6, 5, 6, 6, 7, 5, 6, 6, 7, 6, 7, 7, 8] : List UInt8) x11).bind fun x12 =>
  (letV (IntKind.u8.wrap (x9 + (x12.toNat : Int))) fun x13 =>
  (letV (bitsOf .and .u32 x1 255) fun x14 =>
  ((idx ([0, 1, 1, 2, 1, 2, 2, 3, 1, 2, 2, 3, 2, 3, 3, 4, 1, 2, 2, 3, 2, 3, 3, 4, 2, 3, 3, 4, 3, 4, 4, 5, 1, 2, 2, 3, 2, 3, 3, 4, 2, 3, 3, 4, 3, 4, 4, 5, 2, 3, 3, 4, 3, 4, 4, 5, 3, 4, 4, 5, 4, 5, 5, 6, 1, 2, 2, 3, 2, 3, 3, 4, 2, 3, 3, 4, 3, 4, 4, 5, 2, 3, 3, 4, 3, 4, 4, 5, 3, 4, 4, 5, 4, 5, 5, 6, 2, 3, 3, 4, 3, 4, 4, 5, 3, 4, 4, 5, 4, 5, 5, 6, 3, 4, 4, 5, 4, 5, 5, 6, 4, 5, 5, 6, 5, 6, 6, 7, 1, 2, 2, 3, 2, 3, 3, 4, 2, 3, 3, 4, 3, 4, 4, 5, 2, 3, 3, 4, 3, 4, 4, 5, 3, 4, 4, 5, 4, 5, 5, 6, 2, 3, 3, 4, 3, 4, 4, 5, 3, 4, 4, 5, 4, 5, 5, 6, 3, 4, 4, 5, 4, 5, 5, 6, 4, 5, 5, 6, 5, 6, 6, 7, 2, 3, 3, 4, 3, 4, 4, 5, 3, 4, 4, 5, 4, 5, 5, 6, 3, 4, 4, 5, 4, 5, 5, 6, 4, 5, 5, 6, 5, 6, 6, 7, 3, 4, 4, 5, 4, 5, 5, 6, 4, 5, 5, 6, 5, 6, 6, 7, 4, 5, 5, 6, 5, 6, 6, 7, 5, 6, 6, 7, 6, 7, 7, 8] : List UInt8) x14).bind fun x15 =>
  (letV (IntKind.u8.wrap (x13 + (x15.toNat : Int))) fun x16 =>
  some (IntKind.i64.wrap x16)))))))))))
/-! math/bits.OnesCount64: function 67 -/
noncomputable def bits_OnesCount64 (x1 : Int) : Option Int :=
  (letV (bitsOf .and .u64 (shrI .u64 x1 1) 6148914691236517205) fun x5 =>
  (letV (bitsOf .and .u64 x1 6148914691236517205) fun x6 =>
  (letV (IntKind.u64.wrap (x5 + x6)) fun x7 =>
  (letV (bitsOf .and .u64 (shrI .u64 x7 2) 3689348814741910323) fun x10 =>
  (letV (bitsOf .and .u64 x7 3689348814741910323) fun x11 =>
  (letV (IntKind.u64.wrap (x10 + x11)) fun x12 =>
  (letV (IntKind.u64.wrap ((shrI .u64 x12 4) + x12)) fun x15 =>
  (letV (bitsOf .and .u64 x15 1085102592571150095) fun x16 =>
  (letV (IntKind.u64.wrap (x16 + (shrI .u64 x16 8))) fun x19 =>
  (letV (IntKind.u64.wrap (x19 + (shrI .u64 x19 16))) fun x22 =>
  (letV (IntKind.u64.wrap (x22 + (shrI .u64 x22 32))) fun x25 =>
  (letV (bitsOf .and .i64 (IntKind.i64.wrap x25) 127) fun x27 =>
  some x27))))))))))))
/-! math/bits.OnesCount: function 53 -/
noncomputable def bits_OnesCount (x1 : Int) : Option Int :=
  ((bits_OnesCount64 x1).bind fun x5 =>
  some x5)
/-! (elasticstore/quorum.set).size: function 42 -/
noncomputable def quorum_set_size (x1 : Int) : Option Int :=
  ((bits_OnesCount x1).bind fun x4 =>
  some x4)
/-! elasticstore/quorum.Overlap: function 25 -/
noncomputable def quorum_Overlap.j1  (x15 : Int) : Option Int :=
  some x15
noncomputable def quorum_Overlap.j2 (x97 : Int) (x104 : Int) : Option ((Int × Int) ⊕ (Int)) :=
  (letV (IntKind.i64.wrap (x97 + 1)) fun x106 =>
  some (.inl (x104, x106)))
noncomputable def quorum_Overlap.j3 (x118 : Int) (x125 : Int) : Option ((Int × Int) ⊕ (Int)) :=
  (letV (IntKind.i64.wrap (x118 + 1)) fun x127 =>
  some (.inl (x125, x127)))
noncomputable def quorum_Overlap.j4 (x117 : Int) (x118 : Int) (x134 : Int) (x137 : Bool) : Option ((Int × Int) ⊕ (Int)) :=
  (if x137 then quorum_Overlap.j3 x118 x134 else quorum_Overlap.j3 x118 x117)
noncomputable def quorum_Overlap.l1 (x97 : Int) (x108 : Int) (x113 : List Int) : (Int × Int) → Option ((Int × Int) ⊕ (Int)) := fun (x117, x118) =>
  (if (decide (x118 < (x113.length : Int))) then ((idx x113 x118).bind fun x129 =>
  (letV (bitsOf .and .u64 x108 x129) fun x133 =>
  ((quorum_set_size x133).bind fun x134 =>
  (if (x97 == 0) then (if (x118 == 0) then quorum_Overlap.j4 x117 x118 x134 true else quorum_Overlap.j4 x117 x118 x134 (decide (x134 < x117))) else quorum_Overlap.j4 x117 x118 x134 (decide (x134 < x117)))))) else some (.inr x117))
noncomputable def quorum_Overlap.l2 (x8 : List Int) : (Int × Int) → Option ((Int × Int) ⊕ (Int)) := fun (x96, x97) =>
  (if (decide (x97 < (x8.length : Int))) then ((idx x8 x97).bind fun x108 =>
  (letV (IntKind.i64.wrap (x97 + 1)) fun x112 =>
  ((cut x8 0 x112).bind fun x113 =>
  ((loopO (quorum_Overlap.l1 x97 x108 x113) (x96, 0)).bind fun x142 => quorum_Overlap.j2 x97 x142)))) else some (.inr x96))
noncomputable def quorum_Overlap (x1 : api_View) : Option Int :=
  ((quorum_minimal x1).bind fun x8 =>
  ((loopO (quorum_Overlap.l2 x8) (0, 0)).bind fun x143 => quorum_Overlap.j1 x143))
/-! elasticstore/quorum.Tolerance: function 27 -/
noncomputable def quorum_Tolerance.j1  (x13 : Int) : Option Int :=
  (letV (IntKind.i64.wrap (x13 - 1)) fun x16 =>
  some x16)
noncomputable def quorum_Tolerance.j2 (x20 : Int) (x27 : Int) : Option ((Int × Int) ⊕ (Int)) :=
  (letV (IntKind.u64.wrap (x20 + 1)) fun x29 =>
  some (.inl (x27, x29)))
noncomputable def quorum_Tolerance.j3 (x19 : Int) (x20 : Int) (x31 : Int) (x34 : Bool) : Option ((Int × Int) ⊕ (Int)) :=
  (if x34 then quorum_Tolerance.j2 x20 x31 else quorum_Tolerance.j2 x20 x19)
noncomputable def quorum_Tolerance.l1 (x1 : api_View) (x8 : Int) : (Int × Int) → Option ((Int × Int) ⊕ (Int)) := fun (x19, x20) =>
  (if (decide (x20 ≤ x8)) then ((quorum_set_size x20).bind fun x31 =>
  (if (decide (x31 < x19)) then (letV (bitsOf .andNot .u64 x8 x20) fun x38 =>
  ((quorum_holds x1 x38).bind fun x39 =>
  quorum_Tolerance.j3 x19 x20 x31 (!x39))) else quorum_Tolerance.j3 x19 x20 x31 false)) else some (.inr x19))
noncomputable def quorum_Tolerance (x1 : api_View) : Option Int :=
  ((quorum_full x1).bind fun x8 =>
  ((quorum_set_size x8).bind fun x10 =>
  ((loopO (quorum_Tolerance.l1 x1 x8) (x10, 0)).bind fun x40 => quorum_Tolerance.j1 x40)))
/-! elasticstore/quorum.Faulty: function 16 -/
noncomputable def quorum_Faulty (x1 : api_Rule) : Option Int :=
  some x1.Faulty
/-! elasticstore/elasticstorelaw04.awake: function 11 -/
noncomputable def eslaw04_awake.j1  (x10 : Bool) : Option Bool :=
  some x10
noncomputable def eslaw04_awake  : Option Bool :=
  ((quorum_IsQuorum (⟨[(⟨1, 1⟩ : api_Member), (⟨2, 1⟩ : api_Member), (⟨3, 1⟩ : api_Member), (⟨4, 1⟩ : api_Member)], (⟨3, 2, 0⟩ : api_Rule)⟩ : api_View) [1, 2, 3]).bind fun x13 =>
  (if x13 then ((quorum_IsQuorum (⟨[(⟨1, 1⟩ : api_Member), (⟨2, 1⟩ : api_Member), (⟨3, 1⟩ : api_Member), (⟨4, 1⟩ : api_Member)], (⟨3, 2, 0⟩ : api_Rule)⟩ : api_View) [1, 2]).bind fun x16 =>
  (if (!x16) then ((quorum_Minimal (⟨[(⟨1, 1⟩ : api_Member), (⟨2, 1⟩ : api_Member), (⟨3, 1⟩ : api_Member), (⟨4, 1⟩ : api_Member)], (⟨4, 0, 1⟩ : api_Rule)⟩ : api_View)).bind fun x18 =>
  (if ((x18.length : Int) == 4) then ((quorum_Overlap (⟨[(⟨1, 1⟩ : api_Member), (⟨2, 1⟩ : api_Member), (⟨3, 1⟩ : api_Member), (⟨4, 1⟩ : api_Member)], (⟨4, 0, 1⟩ : api_Rule)⟩ : api_View)).bind fun x23 =>
  (if (x23 == 2) then ((quorum_Tolerance (⟨[(⟨1, 1⟩ : api_Member), (⟨2, 1⟩ : api_Member), (⟨3, 1⟩ : api_Member), (⟨4, 1⟩ : api_Member)], (⟨4, 0, 1⟩ : api_Rule)⟩ : api_View)).bind fun x25 =>
  (if (x25 == 1) then ((quorum_ValidateRule (⟨0, 0, 0⟩ : api_Rule)).bind fun x27 =>
  (if (x27 == 10) then ((quorum_Faulty (⟨4, 0, 1⟩ : api_Rule)).bind fun x29 =>
  eslaw04_awake.j1 (x29 == 1)) else eslaw04_awake.j1 false)) else eslaw04_awake.j1 false)) else eslaw04_awake.j1 false)) else eslaw04_awake.j1 false)) else eslaw04_awake.j1 false)) else eslaw04_awake.j1 false))
/-! elasticstore/elasticstoreref06.Server: function 31 -/
noncomputable def esref06_Server.j1  (x5 : Bool) : Option Bool :=
  some x5
noncomputable def esref06_Server (x1 : Int) : Option Bool :=
  (if (decide (1 ≤ x1)) then esref06_Server.j1 (decide (x1 ≤ 12)) else esref06_Server.j1 false)
/-! elasticstore/elasticstoreref06.ValidateRule: function 13 -/
noncomputable def esref06_ValidateRule.j1  (x22 : Bool) : Option Int :=
  (if x22 then some 9 else some 0)
noncomputable def esref06_ValidateRule.j2 (x1 : api_Rule) (x16 : Bool) : Option Int :=
  (if x16 then some 9 else (if (x1.Kind == 4) then (if (decide (x1.Faulty < 0)) then esref06_ValidateRule.j1 true else (if (decide (12 < x1.Faulty)) then esref06_ValidateRule.j1 true else (if (x1.Kind != 4) then esref06_ValidateRule.j1 (x1.Faulty != 0) else esref06_ValidateRule.j1 false))) else (if (x1.Kind != 4) then esref06_ValidateRule.j1 (x1.Faulty != 0) else esref06_ValidateRule.j1 false)))
noncomputable def esref06_ValidateRule.j3 (x1 : api_Rule) (x10 : Bool) : Option Int :=
  (if x10 then some 10 else (if (x1.Kind == 3) then ((esref06_Server x1.Columns).bind fun x42 =>
  (if (!x42) then esref06_ValidateRule.j2 x1 true else (if (x1.Kind != 3) then esref06_ValidateRule.j2 x1 (x1.Columns != 0) else esref06_ValidateRule.j2 x1 false))) else (if (x1.Kind != 3) then esref06_ValidateRule.j2 x1 (x1.Columns != 0) else esref06_ValidateRule.j2 x1 false)))
noncomputable def esref06_ValidateRule (x1 : api_Rule) : Option Int :=
  (if (decide (x1.Kind < 1)) then esref06_ValidateRule.j3 x1 true else esref06_ValidateRule.j3 x1 (decide (4 < x1.Kind)))
/-! elasticstore/elasticstoreref06.ValidateView: function 15 -/
noncomputable def esref06_ValidateView.j1   : Option Int :=
  some 0
noncomputable def esref06_ValidateView.j2 (x22 : Int) (x50 : Bool) : Option ((Int) ⊕ (Unit ⊕ Int)) :=
  (if x50 then some (.inr (.inr 7)) else (letV (IntKind.i64.wrap (x22 + 1)) fun x54 =>
  some (.inl x54)))
noncomputable def esref06_ValidateView.j3 (x1 : api_View) (x22 : Int) (x35 : api_Member) (x44 : Bool) : Option ((Int) ⊕ (Unit ⊕ Int)) :=
  (if x44 then some (.inr (.inr 9)) else (if (decide (0 < x22)) then (letV (IntKind.i64.wrap (x22 - 1)) fun x59 =>
  ((idx x1.Members x59).bind fun x60 =>
  esref06_ValidateView.j2 x22 (decide (x35.Server ≤ x60.Server)))) else esref06_ValidateView.j2 x22 false))
noncomputable def esref06_ValidateView.l1 (x1 : api_View) : Int → Option ((Int) ⊕ (Unit ⊕ Int)) := fun x22 =>
  (if (decide (x22 < ((x1.Members).length : Int))) then ((idx x1.Members x22).bind fun x35 =>
  ((esref06_Server x35.Server).bind fun x153 =>
  (if (!x153) then esref06_ValidateView.j3 x1 x22 x35 true else (if (decide (x35.Weight < 1)) then esref06_ValidateView.j3 x1 x22 x35 true else esref06_ValidateView.j3 x1 x22 x35 (decide (9 < x35.Weight)))))) else some (.inr (.inl ())))
noncomputable def esref06_ValidateView (x1 : api_View) : Option Int :=
  ((esref06_ValidateRule x1.Rule).bind fun x12 =>
  (if (x12 != 0) then some x12 else ((loopO (esref06_ValidateView.l1 x1) 0).bind fun b => match b with | .inl _ => esref06_ValidateView.j1 | .inr x158 => some x158)))
/-! elasticstore/elasticstorelaw04.QuorumValidate: function 3 -/
noncomputable def eslaw04_QuorumValidate.j1  (x22 : Bool) : Option Bool :=
  some x22
noncomputable def eslaw04_QuorumValidate (x1 : api_Rule) (x5 : api_View) : Option Bool :=
  (if (decide (100 < ((x5.Members).length : Int))) then ((eslaw04_awake).bind fun x19 =>
  some x19) else ((quorum_ValidateRule x1).bind fun x24 =>
  ((esref06_ValidateRule x1).bind fun x25 =>
  (if (x24 == x25) then ((quorum_ValidateView x5).bind fun x27 =>
  ((esref06_ValidateView x5).bind fun x28 =>
  (if (x27 == x28) then ((esref06_ValidateRule x1).bind fun x30 =>
  (if (x30 != 0) then ((eslaw04_awake).bind fun x32 =>
  eslaw04_QuorumValidate.j1 x32) else ((quorum_Faulty x1).bind fun x103 =>
  (if (x103 == x1.Faulty) then ((eslaw04_awake).bind fun x106 =>
  eslaw04_QuorumValidate.j1 x106) else eslaw04_QuorumValidate.j1 false)))) else eslaw04_QuorumValidate.j1 false))) else eslaw04_QuorumValidate.j1 false))))
/-! elasticstore/elasticstorelaw04.small: function 17 -/
noncomputable def eslaw04_small.j1  (x10 : Bool) : Option Bool :=
  some x10
noncomputable def eslaw04_small (x1 : api_View) (x5 : Int) : Option Bool :=
  (if (decide (((x1.Members).length : Int) ≤ x5)) then ((esref06_ValidateView x1).bind fun x16 =>
  eslaw04_small.j1 (x16 == 0)) else eslaw04_small.j1 false)
/-! elasticstore/elasticstoreref06.In: function 23 -/
noncomputable def esref06_In.j1   : Option Bool :=
  some false
noncomputable def esref06_In.l1 (x1 : List Int) (x4 : Int) : Int → Option ((Int) ⊕ (Unit ⊕ Bool)) := fun x12 =>
  (if (decide (x12 < (x1.length : Int))) then ((idx x1 x12).bind fun x19 =>
  (if (x19 == x4) then some (.inr (.inr true)) else (letV (IntKind.i64.wrap (x12 + 1)) fun x24 =>
  some (.inl x24)))) else some (.inr (.inl ())))
noncomputable def esref06_In (x1 : List Int) (x4 : Int) : Option Bool :=
  ((loopO (esref06_In.l1 x1 x4) 0).bind fun b => match b with | .inl _ => esref06_In.j1 | .inr x25 => some x25)
/-! elasticstore/elasticstoreref06.grid: function 34 -/
noncomputable def esref06_grid.j1  (x13 : Bool) : Option Bool :=
  some x13
noncomputable def esref06_grid.j2 (x1 : api_View) (x19 : Int) (x29 : Bool) : Option ((Bool × Int) ⊕ (Bool ⊕ Bool)) :=
  (letV (IntKind.i64.wrap (x19 + x1.Rule.Columns)) fun x32 =>
  some (.inl (x29, x32)))
noncomputable def esref06_grid.j3 (x1 : api_View) (x18 : Bool) (x19 : Int) (x36 : Int) (x42 : Int) : Option ((Bool × Int) ⊕ (Bool ⊕ Bool)) :=
  (if (x42 == 0) then some (.inr (.inr false)) else (if x18 then esref06_grid.j2 x1 x19 true else (letV (IntKind.i64.wrap ((minI x36 ((x1.Members).length : Int)) - x19)) fun x49 =>
  esref06_grid.j2 x1 x19 (x42 == x49))))
noncomputable def esref06_grid.j4 (x53 : Int) (x60 : Int) : Option ((Int × Int) ⊕ (Int)) :=
  (letV (IntKind.i64.wrap (x53 + 1)) fun x62 =>
  some (.inl (x60, x62)))
noncomputable def esref06_grid.l1 (x1 : api_View) (x5 : List Int) (x36 : Int) : (Int × Int) → Option ((Int × Int) ⊕ (Int)) := fun (x52, x53) =>
  (if (decide (x53 < (minI x36 ((x1.Members).length : Int)))) then ((idx x1.Members x53).bind fun x67 =>
  ((esref06_In x5 x67.Server).bind fun x71 =>
  (if x71 then (letV (IntKind.i64.wrap (x52 + 1)) fun x73 =>
  esref06_grid.j4 x53 x73) else esref06_grid.j4 x53 x52))) else some (.inr x52))
noncomputable def esref06_grid.l2 (x1 : api_View) (x5 : List Int) : (Bool × Int) → Option ((Bool × Int) ⊕ (Bool ⊕ Bool)) := fun (x18, x19) =>
  (if (decide (x19 < ((x1.Members).length : Int))) then (letV (IntKind.i64.wrap (x19 + x1.Rule.Columns)) fun x36 =>
  ((loopO (esref06_grid.l1 x1 x5 x36) (0, x19)).bind fun x74 => esref06_grid.j3 x1 x18 x19 x36 x74)) else some (.inr (.inl x18)))
noncomputable def esref06_grid (x1 : api_View) (x5 : List Int) : Option Bool :=
  ((loopO (esref06_grid.l2 x1 x5) (false, 0)).bind fun b => match b with | .inl x75 => esref06_grid.j1 x75 | .inr x76 => some x76)
/-! elasticstore/elasticstoreref06.IsQuorum: function 19 -/
noncomputable def esref06_IsQuorum.j1 (x1 : api_View) (x5 : List Int) (x16 : Int) (x17 : Int) (x18 : Int) : Option Bool :=
  (if (((x1.Members).length : Int) == 0) then some false else (if (x1.Rule.Kind == 1) then (letV (IntKind.i64.wrap (2 * x16)) fun x28 =>
  some (decide (((x1.Members).length : Int) < x28))) else (if (x1.Rule.Kind == 2) then (letV (IntKind.i64.wrap (2 * x18)) fun x33 =>
  some (decide (x17 < x33))) else (if (x1.Rule.Kind == 4) then (letV (IntKind.i64.wrap (((x1.Members).length : Int) + x1.Rule.Faulty)) fun x39 =>
  (letV (IntKind.i64.wrap (x39 + 2)) fun x40 =>
  (letV (IntKind.i64.wrap (Int.tdiv x40 2)) fun x41 =>
  some (decide (x41 ≤ x16))))) else ((esref06_grid x1 x5).bind fun x43 =>
  some x43)))))
noncomputable def esref06_IsQuorum.j2 (x49 : Int) (x56 : Int) (x57 : Int) (x58 : Int) : Option ((Int × Int × Int × Int) ⊕ (Int × Int × Int)) :=
  (letV (IntKind.i64.wrap (x49 + 1)) fun x60 =>
  some (.inl (x56, x57, x58, x60)))
noncomputable def esref06_IsQuorum.l1 (x1 : api_View) (x5 : List Int) : (Int × Int × Int × Int) → Option ((Int × Int × Int × Int) ⊕ (Int × Int × Int)) := fun (x46, x47, x48, x49) =>
  (if (decide (x49 < ((x1.Members).length : Int))) then ((idx x1.Members x49).bind fun x65 =>
  (letV (IntKind.i64.wrap (x47 + x65.Weight)) fun x69 =>
  ((idx x1.Members x49).bind fun x74 =>
  ((esref06_In x5 x74.Server).bind fun x78 =>
  (if x78 then (letV (IntKind.i64.wrap (x46 + 1)) fun x81 =>
  ((idx x1.Members x49).bind fun x85 =>
  (letV (IntKind.i64.wrap (x48 + x85.Weight)) fun x89 =>
  esref06_IsQuorum.j2 x49 x81 x69 x89))) else esref06_IsQuorum.j2 x49 x46 x69 x48))))) else some (.inr (x46, x47, x48)))
noncomputable def esref06_IsQuorum (x1 : api_View) (x5 : List Int) : Option Bool :=
  ((loopO (esref06_IsQuorum.l1 x1 x5) (0, 0, 0, 0)).bind fun (x90, x91, x92) => esref06_IsQuorum.j1 x1 x5 x90 x91 x92)
/-! elasticstore/elasticstorelaw04.QuorumIs: function 4 -/
noncomputable def eslaw04_QuorumIs.j1  (x20 : Bool) : Option Bool :=
  some x20
noncomputable def eslaw04_QuorumIs.j2 (x1 : api_View) (x5 : List Int) (x13 : Bool) : Option Bool :=
  (if x13 then ((eslaw04_awake).bind fun x17 =>
  some x17) else ((quorum_IsQuorum x1 x5).bind fun x22 =>
  ((esref06_IsQuorum x1 x5).bind fun x23 =>
  (if (x22 == x23) then ((eslaw04_awake).bind fun x25 =>
  eslaw04_QuorumIs.j1 x25) else eslaw04_QuorumIs.j1 false))))
noncomputable def eslaw04_QuorumIs (x1 : api_View) (x5 : List Int) : Option Bool :=
  ((eslaw04_small x1 12).bind fun x68 =>
  (if (!x68) then eslaw04_QuorumIs.j2 x1 x5 true else eslaw04_QuorumIs.j2 x1 x5 (decide (60 < (x5.length : Int)))))
/-! elasticstore/elasticstoreref06.subset: function 38 -/
noncomputable def esref06_subset.j1  (x11 : List Int) : Option (List Int) :=
  some x11
noncomputable def esref06_subset.j2 (x23 : Int) (x33 : List Int) : Option (((List Int) × Int) ⊕ (List Int)) :=
  (letV (IntKind.i64.wrap (x23 + 1)) fun x38 =>
  some (.inl (x33, x38)))
noncomputable def esref06_subset.l1 (x1 : api_View) (x5 : Int) : ((List Int) × Int) → Option (((List Int) × Int) ⊕ (List Int)) := fun (x19, x23) =>
  (if (decide (x23 < ((x1.Members).length : Int))) then (if 0 ≤ (IntKind.u64.wrap x23) then (letV (shrI .i64 x5 (IntKind.u64.wrap x23)) fun x41 =>
  (if ((Int.tmod x41 2) == 1) then ((idx x1.Members x23).bind fun x46 =>
  ((app 8 x19 [x46.Server]).bind fun x51 =>
  esref06_subset.j2 x23 x51)) else esref06_subset.j2 x23 x19)) else none) else some (.inr x19))
noncomputable def esref06_subset (x1 : api_View) (x5 : Int) : Option (List Int) :=
  ((loopO (esref06_subset.l1 x1 x5) ([], 0)).bind fun x56 => esref06_subset.j1 x56)
/-! elasticstore/elasticstoreref06.without: function 39 -/
noncomputable def esref06_without (x1 : List Int) (x4 : Int) : Option (List Int) :=
  ((cut x1 0 x4).bind fun x8 =>
  ((app 8 [] x8).bind fun x11 =>
  (letV (IntKind.i64.wrap (x4 + 1)) fun x16 =>
  ((cut x1 x16 (x1.length : Int)).bind fun x17 =>
  ((app 8 x11 x17).bind fun x50 =>
  some x50)))))
/-! elasticstore/elasticstoreref06.Less: function 40 -/
noncomputable def esref06_Less.j1 (x1 : List Int) (x4 : List Int)  : Option Bool :=
  some (decide ((x1.length : Int) < (x4.length : Int)))
noncomputable def esref06_Less.j2 (x1 : List Int) (x4 : List Int) (x14 : Int) (x19 : Bool) : Option ((Int) ⊕ (Unit ⊕ Bool)) :=
  (if x19 then ((idx x1 x14).bind fun x24 =>
  ((idx x4 x14).bind fun x27 =>
  (if (x24 != x27) then ((idx x1 x14).bind fun x56 =>
  ((idx x4 x14).bind fun x59 =>
  some (.inr (.inr (decide (x56 < x59)))))) else (letV (IntKind.i64.wrap (x14 + 1)) fun x86 =>
  some (.inl x86))))) else some (.inr (.inl ())))
noncomputable def esref06_Less.l1 (x1 : List Int) (x4 : List Int) : Int → Option ((Int) ⊕ (Unit ⊕ Bool)) := fun x14 =>
  (if (decide (x14 < (x1.length : Int))) then esref06_Less.j2 x1 x4 x14 (decide (x14 < (x4.length : Int))) else esref06_Less.j2 x1 x4 x14 false)
noncomputable def esref06_Less (x1 : List Int) (x4 : List Int) : Option Bool :=
  ((loopO (esref06_Less.l1 x1 x4) 0).bind fun b => match b with | .inl _ => esref06_Less.j1 x1 x4 | .inr x88 => some x88)
/-! elasticstore/elasticstoreref06.Minimal: function 21 -/
noncomputable def esref06_Minimal.j1  (x10 : List (List Int)) : Option (List (List Int)) :=
  some x10
noncomputable def esref06_Minimal.j2 (x20 : Int) (x32 : List (List Int)) : Option (((List (List Int)) × Int) ⊕ (List (List Int))) :=
  (letV (IntKind.i64.wrap (x20 + 1)) fun x36 =>
  some (.inl (x32, x36)))
noncomputable def esref06_Minimal.j3 (x17 : List (List Int)) (x20 : Int) (x38 : List Int) (x232 : Int) : Option (((List (List Int)) × Int) ⊕ (List (List Int))) :=
  ((cut x17 x232 (x17.length : Int)).bind fun x236 =>
  ((app 24 [] x236).bind fun x239 =>
  ((cut x17 0 x232).bind fun x244 =>
  ((app 24 x244 [x38]).bind fun x247 =>
  ((app 24 x247 x239).bind fun x250 =>
  esref06_Minimal.j2 x20 x250)))))
noncomputable def esref06_Minimal.j4 (x256 : Int) (x261 : Bool) : Option ((Int) ⊕ (Int)) :=
  (if x261 then (letV (IntKind.i64.wrap (x256 - 1)) fun x264 =>
  some (.inl x264)) else some (.inr x256))
noncomputable def esref06_Minimal.l1 (x17 : List (List Int)) (x38 : List Int) : Int → Option ((Int) ⊕ (Int)) := fun x256 =>
  (if (decide (0 < x256)) then (letV (IntKind.i64.wrap (x256 - 1)) fun x266 =>
  ((idx x17 x266).bind fun x267 =>
  ((esref06_Less x38 x267).bind fun x272 =>
  esref06_Minimal.j4 x256 x272))) else esref06_Minimal.j4 x256 false)
noncomputable def esref06_Minimal.j5 (x17 : List (List Int)) (x20 : Int) (x38 : List Int) (x224 : Bool) : Option (((List (List Int)) × Int) ⊕ (List (List Int))) :=
  (if (!x224) then esref06_Minimal.j2 x20 x17 else ((loopO (esref06_Minimal.l1 x17 x38) (x17.length : Int)).bind fun x273 => esref06_Minimal.j3 x17 x20 x38 x273))
noncomputable def esref06_Minimal.j6 (x277 : Int) (x284 : Bool) : Option ((Bool × Int) ⊕ (Bool)) :=
  (letV (IntKind.i64.wrap (x277 + 1)) fun x286 =>
  some (.inl (x284, x286)))
noncomputable def esref06_Minimal.l2 (x1 : api_View) (x38 : List Int) : (Bool × Int) → Option ((Bool × Int) ⊕ (Bool)) := fun (x276, x277) =>
  (if (decide (x277 < (x38.length : Int))) then (if x276 then ((esref06_without x38 x277).bind fun x288 =>
  ((esref06_IsQuorum x1 x288).bind fun x291 =>
  esref06_Minimal.j6 x277 (!x291))) else esref06_Minimal.j6 x277 false) else some (.inr x276))
noncomputable def esref06_Minimal.l3 (x1 : api_View) : ((List (List Int)) × Int) → Option (((List (List Int)) × Int) ⊕ (List (List Int))) := fun (x17, x20) =>
  (letV (IntKind.u64.wrap ((x1.Members).length : Int)) fun x27 =>
  (if 0 ≤ x27 then (if (decide (x20 < shlI .i64 1 x27)) then ((esref06_subset x1 x20).bind fun x38 =>
  ((esref06_IsQuorum x1 x38).bind fun x44 =>
  (if (!x44) then esref06_Minimal.j2 x20 x17 else ((loopO (esref06_Minimal.l2 x1 x38) (true, 0)).bind fun x345 => esref06_Minimal.j5 x17 x20 x38 x345)))) else some (.inr x17)) else none))
noncomputable def esref06_Minimal (x1 : api_View) : Option (List (List Int)) :=
  ((loopO (esref06_Minimal.l3 x1) ([], 1)).bind fun x346 => esref06_Minimal.j1 x346)
/-! elasticstore/elasticstorelaw04.QuorumMinimal: function 5 -/
noncomputable def eslaw04_QuorumMinimal.j1   : Option Bool :=
  ((eslaw04_awake).bind fun x41 =>
  some x41)
noncomputable def eslaw04_QuorumMinimal.j2 (x205 : Int)  : Option ((Int) ⊕ (Unit ⊕ Bool)) :=
  (letV (IntKind.i64.wrap (x205 + 1)) fun x213 =>
  some (.inl x213))
noncomputable def eslaw04_QuorumMinimal.l1 (x14 : List (List Int)) (x18 : List (List Int)) (x205 : Int) : Int → Option ((Int) ⊕ (Unit ⊕ Bool)) := fun x268 =>
  ((idx x14 x205).bind fun x272 =>
  (if (decide (x268 < (x272.length : Int))) then ((idx x14 x205).bind fun x280 =>
  ((idx x280 x268).bind fun x285 =>
  ((idx x18 x205).bind fun x288 =>
  ((idx x288 x268).bind fun x293 =>
  (if (x285 != x293) then some (.inr (.inr false)) else (letV (IntKind.i64.wrap (x268 + 1)) fun x350 =>
  some (.inl x350))))))) else some (.inr (.inl ()))))
noncomputable def eslaw04_QuorumMinimal.l2 (x14 : List (List Int)) (x18 : List (List Int)) : Int → Option ((Int) ⊕ (Unit ⊕ Bool)) := fun x205 =>
  (if (decide (x205 < (x14.length : Int))) then ((idx x14 x205).bind fun x216 =>
  ((idx x18 x205).bind fun x221 =>
  (if ((x216.length : Int) != (x221.length : Int)) then some (.inr (.inr false)) else ((loopO (eslaw04_QuorumMinimal.l1 x14 x18 x205) 0).bind fun b => match b with | .inl _ => eslaw04_QuorumMinimal.j2 x205 | .inr x351 => some (.inr (.inr x351)))))) else some (.inr (.inl ())))
noncomputable def eslaw04_QuorumMinimal (x1 : api_View) : Option Bool :=
  ((eslaw04_small x1 8).bind fun x9 =>
  (if (!x9) then ((eslaw04_awake).bind fun x12 =>
  some x12) else ((quorum_Minimal x1).bind fun x14 =>
  ((esref06_Minimal x1).bind fun x18 =>
  (if ((x14.length : Int) != (x18.length : Int)) then some false else ((loopO (eslaw04_QuorumMinimal.l2 x14 x18) 0).bind fun b => match b with | .inl _ => eslaw04_QuorumMinimal.j1 | .inr x352 => some x352))))))
/-! elasticstore/elasticstorelaw00.Index: function 30 -/
noncomputable def eslaw00_Index (x1 : Int) (x2 : Int) : Option Int :=
  (if (decide (x2 < 1)) then some 0 else (if x2 ≠ 0 then (letV (IntKind.i64.wrap ((Int.tmod x1 x2) + x2)) fun x10 =>
  (if x2 ≠ 0 then some (Int.tmod x10 x2) else none)) else none))
/-! elasticstore/elasticstorelaw00.Digit: function 29 -/
noncomputable def eslaw00_Digit.j1 (x2 : Int) (x9 : Int) : Option Int :=
  (if x2 ≠ 0 then some (Int.tmod x9 x2) else none)
noncomputable def eslaw00_Digit.l1 (x2 : Int) (x3 : Int) : (Int × Int) → Option ((Int × Int) ⊕ (Int)) := fun (x15, x16) =>
  (if (decide (x16 < x3)) then (if x2 ≠ 0 then (letV (IntKind.i64.wrap (Int.tdiv x15 x2)) fun x22 =>
  (letV (IntKind.i64.wrap (x16 + 1)) fun x24 =>
  some (.inl (x22, x24)))) else none) else some (.inr x15))
noncomputable def eslaw00_Digit (x1 : Int) (x2 : Int) (x3 : Int) : Option Int :=
  ((eslaw00_Index x1 1099511627776).bind fun x6 =>
  ((loopO (eslaw00_Digit.l1 x2 x3) (x6, 0)).bind fun x25 => eslaw00_Digit.j1 x2 x25))
/-! elasticstore/elasticstorelaw00.Rule: function 41 -/
noncomputable def eslaw00_Rule.j1 (x1 : Int) (x6 : Int) (x9 : Bool) : Option api_Rule :=
  (if x9 then some (⟨2, 0, 0⟩ : api_Rule) else (if (x6 == 3) then ((eslaw00_Digit x1 4 2).bind fun x16 =>
  (letV (IntKind.i64.wrap (1 + x16)) fun x17 =>
  some (⟨3, x17, 0⟩ : api_Rule))) else (if (x6 == 4) then ((eslaw00_Digit x1 2 3).bind fun x21 =>
  some (⟨4, 0, x21⟩ : api_Rule)) else some (⟨1, 0, 0⟩ : api_Rule))))
noncomputable def eslaw00_Rule (x1 : Int) : Option api_Rule :=
  ((eslaw00_Digit x1 8 0).bind fun x6 =>
  (if (x6 == 1) then eslaw00_Rule.j1 x1 x6 true else eslaw00_Rule.j1 x1 x6 (x6 == 2)))
/-! elasticstore/elasticstorelaw04.view: function 22 -/
noncomputable def eslaw04_view.j1 (x6 : api_Rule) (x12 : List api_Member) : Option api_View :=
  some (⟨x12, (⟨x6.Kind, x6.Columns, x6.Faulty⟩ : api_Rule)⟩ : api_View)
noncomputable def eslaw04_view.j2 (x20 : Int) (x31 : List api_Member) : Option ((Int × (List api_Member)) ⊕ (List api_Member)) :=
  (letV (IntKind.i64.wrap (x20 + 1)) fun x36 =>
  some (.inl (x36, x31)))
noncomputable def eslaw04_view.l1 (x2 : Int) : (Int × (List api_Member)) → Option ((Int × (List api_Member)) ⊕ (List api_Member)) := fun (x20, x21) =>
  (if (decide (x20 < 7)) then ((eslaw00_Digit x2 4 x20).bind fun x38 =>
  (if (decide (0 < x38)) then (letV (IntKind.i64.wrap (x20 + 1)) fun x40 =>
  ((eslaw00_Digit x2 4 x20).bind fun x41 =>
  ((app 16 x21 [(⟨x40, x41⟩ : api_Member)]).bind fun x63 =>
  eslaw04_view.j2 x20 x63))) else eslaw04_view.j2 x20 x21)) else some (.inr x21))
noncomputable def eslaw04_view (x1 : Int) (x2 : Int) : Option api_View :=
  ((eslaw00_Rule x1).bind fun x6 =>
  ((loopO (eslaw04_view.l1 x2) (0, [])).bind fun x68 => eslaw04_view.j1 x6 x68))
/-! elasticstore/elasticstorelaw04.QuorumMonotone: function 6 -/
noncomputable def eslaw04_QuorumMonotone.j1  (x204 : Bool) : Option Bool :=
  some x204
noncomputable def eslaw04_QuorumMonotone.j2 (x37 : Bool) (x200 : Bool) : Option Bool :=
  (if (x200 == x37) then ((eslaw04_awake).bind fun x207 =>
  eslaw04_QuorumMonotone.j1 x207) else eslaw04_QuorumMonotone.j1 false)
noncomputable def eslaw04_QuorumMonotone.j3 (x211 : Int) (x218 : Bool) : Option ((Bool × Int) ⊕ (Bool)) :=
  (letV (IntKind.i64.wrap (x211 + 1)) fun x220 =>
  some (.inl (x218, x220)))
noncomputable def eslaw04_QuorumMonotone.j4 (x210 : Bool) (x211 : Int) (x224 : Bool) : Option ((Bool × Int) ⊕ (Bool)) :=
  (if x210 then eslaw04_QuorumMonotone.j3 x211 true else eslaw04_QuorumMonotone.j3 x211 x224)
noncomputable def eslaw04_QuorumMonotone.j5 (x230 : Int) (x242 : Bool) : Option ((Bool × Int) ⊕ (Bool)) :=
  (letV (IntKind.i64.wrap (x230 + 1)) fun x244 =>
  some (.inl (x242, x244)))
noncomputable def eslaw04_QuorumMonotone.l1 (x3 : List Int) (x194 : List (List Int)) (x211 : Int) : (Bool × Int) → Option ((Bool × Int) ⊕ (Bool)) := fun (x229, x230) =>
  ((idx x194 x211).bind fun x234 =>
  (if (decide (x230 < (x234.length : Int))) then (if x229 then ((idx x194 x211).bind fun x246 =>
  ((idx x246 x230).bind fun x251 =>
  ((esref06_In x3 x251).bind fun x254 =>
  eslaw04_QuorumMonotone.j5 x230 x254))) else eslaw04_QuorumMonotone.j5 x230 false) else some (.inr x229)))
noncomputable def eslaw04_QuorumMonotone.l2 (x3 : List Int) (x194 : List (List Int)) : (Bool × Int) → Option ((Bool × Int) ⊕ (Bool)) := fun (x210, x211) =>
  (if (decide (x211 < (x194.length : Int))) then ((loopO (eslaw04_QuorumMonotone.l1 x3 x194 x211) (true, 0)).bind fun x255 => eslaw04_QuorumMonotone.j4 x210 x211 x255) else some (.inr x210))
noncomputable def eslaw04_QuorumMonotone.j6 (x3 : List Int) (x19 : api_View) (x37 : Bool) (x188 : Bool) : Option Bool :=
  (if x188 then some false else ((quorum_Minimal (⟨x19.Members, (⟨x19.Rule.Kind, x19.Rule.Columns, x19.Rule.Faulty⟩ : api_Rule)⟩ : api_View)).bind fun x194 =>
  ((loopO (eslaw04_QuorumMonotone.l2 x3 x194) (false, 0)).bind fun x256 => eslaw04_QuorumMonotone.j2 x37 x256)))
noncomputable def eslaw04_QuorumMonotone.j7 (x1 : Int) (x2 : Int) (x3 : List Int) (x6 : List Int) (x13 : Bool) : Option Bool :=
  (if x13 then ((eslaw04_awake).bind fun x17 =>
  some x17) else ((eslaw04_view x1 x2).bind fun x19 =>
  ((app 8 [] x3).bind fun x26 =>
  ((app 8 x26 x6).bind fun x31 =>
  ((quorum_IsQuorum (⟨x19.Members, (⟨x19.Rule.Kind, x19.Rule.Columns, x19.Rule.Faulty⟩ : api_Rule)⟩ : api_View) x3).bind fun x37 =>
  (if x37 then ((quorum_IsQuorum (⟨x19.Members, (⟨x19.Rule.Kind, x19.Rule.Columns, x19.Rule.Faulty⟩ : api_Rule)⟩ : api_View) x31).bind fun x282 =>
  (if (!x282) then eslaw04_QuorumMonotone.j6 x3 x19 x37 true else ((app 8 [] x3).bind fun x334 =>
  ((app 8 x334 [0, 99, (-1)]).bind fun x341 =>
  ((quorum_IsQuorum (⟨x19.Members, (⟨x19.Rule.Kind, x19.Rule.Columns, x19.Rule.Faulty⟩ : api_Rule)⟩ : api_View) x341).bind fun x346 =>
  eslaw04_QuorumMonotone.j6 x3 x19 x37 (x346 != x37)))))) else ((app 8 [] x3).bind fun x419 =>
  ((app 8 x419 [0, 99, (-1)]).bind fun x426 =>
  ((quorum_IsQuorum (⟨x19.Members, (⟨x19.Rule.Kind, x19.Rule.Columns, x19.Rule.Faulty⟩ : api_Rule)⟩ : api_View) x426).bind fun x431 =>
  eslaw04_QuorumMonotone.j6 x3 x19 x37 (x431 != x37))))))))))
noncomputable def eslaw04_QuorumMonotone (x1 : Int) (x2 : Int) (x3 : List Int) (x6 : List Int) : Option Bool :=
  (if (decide (30 < (x3.length : Int))) then eslaw04_QuorumMonotone.j7 x1 x2 x3 x6 true else eslaw04_QuorumMonotone.j7 x1 x2 x3 x6 (decide (30 < (x6.length : Int))))
/-! elasticstore/elasticstorelaw04.chosen: function 24 -/
noncomputable def eslaw04_chosen.j1  (x6 : List Int) : Option (List Int) :=
  some x6
noncomputable def eslaw04_chosen.j2 (x18 : Int) (x25 : List Int) : Option (((List Int) × Int) ⊕ (List Int)) :=
  (letV (IntKind.i64.wrap (x18 + 1)) fun x30 =>
  some (.inl (x25, x30)))
noncomputable def eslaw04_chosen.l1 (x1 : Int) : ((List Int) × Int) → Option (((List Int) × Int) ⊕ (List Int)) := fun (x14, x18) =>
  (if (decide (x18 < 8)) then ((eslaw00_Digit x1 2 x18).bind fun x32 =>
  (if (x32 == 1) then (letV (IntKind.i64.wrap (x18 + 1)) fun x34 =>
  ((app 8 x14 [x34]).bind fun x36 =>
  eslaw04_chosen.j2 x18 x36)) else eslaw04_chosen.j2 x18 x14)) else some (.inr x14))
noncomputable def eslaw04_chosen (x1 : Int) : Option (List Int) :=
  ((loopO (eslaw04_chosen.l1 x1) ([], 0)).bind fun x41 => eslaw04_chosen.j1 x41)
/-! elasticstore/elasticstorelaw04.QuorumIntersect: function 7 -/
noncomputable def eslaw04_QuorumIntersect.j1  (x36 : Bool) : Option Bool :=
  some x36
noncomputable def eslaw04_QuorumIntersect.j2 (x7 : api_View) (x32 : Int) : Option Bool :=
  ((quorum_Faulty (⟨x7.Rule.Kind, x7.Rule.Columns, x7.Rule.Faulty⟩ : api_Rule)).bind fun x38 =>
  (if (decide (x38 < x32)) then ((quorum_Overlap (⟨x7.Members, (⟨x7.Rule.Kind, x7.Rule.Columns, x7.Rule.Faulty⟩ : api_Rule)⟩ : api_View)).bind fun x40 =>
  (if (decide (x40 ≤ x32)) then ((eslaw04_awake).bind fun x42 =>
  eslaw04_QuorumIntersect.j1 x42) else eslaw04_QuorumIntersect.j1 false)) else eslaw04_QuorumIntersect.j1 false))
noncomputable def eslaw04_QuorumIntersect.j3 (x46 : Int) (x53 : Int) : Option ((Int × Int) ⊕ (Int)) :=
  (letV (IntKind.i64.wrap (x46 + 1)) fun x55 =>
  some (.inl (x53, x55)))
noncomputable def eslaw04_QuorumIntersect.j4 (x45 : Int) (x46 : Int) (x58 : Bool) : Option ((Int × Int) ⊕ (Int)) :=
  (if x58 then (letV (IntKind.i64.wrap (x45 + 1)) fun x61 =>
  eslaw04_QuorumIntersect.j3 x46 x61) else eslaw04_QuorumIntersect.j3 x46 x45)
noncomputable def eslaw04_QuorumIntersect.l1 (x7 : api_View) (x13 : List Int) (x17 : List Int) : (Int × Int) → Option ((Int × Int) ⊕ (Int)) := fun (x45, x46) =>
  (if (decide (x46 < ((x7.Members).length : Int))) then ((idx x7.Members x46).bind fun x62 =>
  ((esref06_In x13 x62.Server).bind fun x66 =>
  (if x66 then ((idx x7.Members x46).bind fun x68 =>
  ((esref06_In x17 x68.Server).bind fun x72 =>
  eslaw04_QuorumIntersect.j4 x45 x46 x72)) else eslaw04_QuorumIntersect.j4 x45 x46 false))) else some (.inr x45))
noncomputable def eslaw04_QuorumIntersect.j5 (x7 : api_View) (x13 : List Int) (x17 : List Int) (x24 : Bool) : Option Bool :=
  (if x24 then ((eslaw04_awake).bind fun x28 =>
  some x28) else ((loopO (eslaw04_QuorumIntersect.l1 x7 x13 x17) (0, 0)).bind fun x73 => eslaw04_QuorumIntersect.j2 x7 x73))
noncomputable def eslaw04_QuorumIntersect (x1 : Int) (x2 : Int) (x3 : Int) (x4 : Int) : Option Bool :=
  ((eslaw04_view x1 x2).bind fun x7 =>
  ((eslaw04_chosen x3).bind fun x13 =>
  ((eslaw04_chosen x4).bind fun x17 =>
  ((quorum_IsQuorum (⟨x7.Members, (⟨x7.Rule.Kind, x7.Rule.Columns, x7.Rule.Faulty⟩ : api_Rule)⟩ : api_View) x13).bind fun x74 =>
  (if (!x74) then eslaw04_QuorumIntersect.j5 x7 x13 x17 true else ((quorum_IsQuorum (⟨x7.Members, (⟨x7.Rule.Kind, x7.Rule.Columns, x7.Rule.Faulty⟩ : api_Rule)⟩ : api_View) x17).bind fun x76 =>
  eslaw04_QuorumIntersect.j5 x7 x13 x17 (!x76)))))))
/-! elasticstore/elasticstoreref06.Overlap: function 26 -/
noncomputable def esref06_Overlap.j1  (x23 : Int) : Option Int :=
  some x23
noncomputable def esref06_Overlap.j2 (x29 : Int) (x36 : Int) : Option ((Int × Int) ⊕ (Int)) :=
  (letV (IntKind.i64.wrap (x29 + 1)) fun x38 =>
  some (.inl (x36, x38)))
noncomputable def esref06_Overlap.j3 (x42 : Int) (x49 : Int) : Option ((Int × Int) ⊕ (Int)) :=
  (letV (IntKind.i64.wrap (x42 + 1)) fun x51 =>
  some (.inl (x49, x51)))
noncomputable def esref06_Overlap.j4 (x41 : Int) (x42 : Int) (x55 : Int) : Option ((Int × Int) ⊕ (Int)) :=
  esref06_Overlap.j3 x42 (minI x41 x55)
noncomputable def esref06_Overlap.j5 (x60 : Int) (x72 : Int) : Option ((Int × Int) ⊕ (Int)) :=
  (letV (IntKind.i64.wrap (x60 + 1)) fun x74 =>
  some (.inl (x72, x74)))
noncomputable def esref06_Overlap.l1 (x8 : List (List Int)) (x29 : Int) (x42 : Int) : (Int × Int) → Option ((Int × Int) ⊕ (Int)) := fun (x59, x60) =>
  ((idx x8 x29).bind fun x64 =>
  (if (decide (x60 < (x64.length : Int))) then ((idx x8 x42).bind fun x76 =>
  ((idx x8 x29).bind fun x81 =>
  ((idx x81 x60).bind fun x86 =>
  ((esref06_In x76 x86).bind fun x89 =>
  (if x89 then (letV (IntKind.i64.wrap (x59 + 1)) fun x134 =>
  esref06_Overlap.j5 x60 x134) else esref06_Overlap.j5 x60 x59))))) else some (.inr x59)))
noncomputable def esref06_Overlap.l2 (x8 : List (List Int)) (x29 : Int) : (Int × Int) → Option ((Int × Int) ⊕ (Int)) := fun (x41, x42) =>
  (if (decide (x42 < (x8.length : Int))) then ((loopO (esref06_Overlap.l1 x8 x29 x42) (0, 0)).bind fun x135 => esref06_Overlap.j4 x41 x42 x135) else some (.inr x41))
noncomputable def esref06_Overlap.l3 (x8 : List (List Int)) : (Int × Int) → Option ((Int × Int) ⊕ (Int)) := fun (x28, x29) =>
  (if (decide (x29 < (x8.length : Int))) then ((loopO (esref06_Overlap.l2 x8 x29) (x28, x29)).bind fun x136 => esref06_Overlap.j2 x29 x136) else some (.inr x28))
noncomputable def esref06_Overlap (x1 : api_View) : Option Int :=
  ((esref06_Minimal x1).bind fun x8 =>
  (if ((x8.length : Int) == 0) then some 0 else ((idx x8 0).bind fun x16 =>
  ((loopO (esref06_Overlap.l3 x8) ((x16.length : Int), 0)).bind fun x137 => esref06_Overlap.j1 x137))))
/-! elasticstore/elasticstorelaw04.QuorumOverlap: function 8 -/
noncomputable def eslaw04_QuorumOverlap.j1  (x14 : Bool) : Option Bool :=
  some x14
noncomputable def eslaw04_QuorumOverlap (x1 : Int) (x2 : Int) : Option Bool :=
  ((eslaw04_view x1 x2).bind fun x5 =>
  ((quorum_Overlap (⟨x5.Members, (⟨x5.Rule.Kind, x5.Rule.Columns, x5.Rule.Faulty⟩ : api_Rule)⟩ : api_View)).bind fun x11 =>
  ((esref06_Overlap (⟨x5.Members, (⟨x5.Rule.Kind, x5.Rule.Columns, x5.Rule.Faulty⟩ : api_Rule)⟩ : api_View)).bind fun x16 =>
  (if (x11 == x16) then ((quorum_Minimal (⟨x5.Members, (⟨x5.Rule.Kind, x5.Rule.Columns, x5.Rule.Faulty⟩ : api_Rule)⟩ : api_View)).bind fun x18 =>
  (if (((x18.length : Int) == 0) == (x11 == 0)) then (if (x11 == 0) then ((eslaw04_awake).bind fun x24 =>
  eslaw04_QuorumOverlap.j1 x24) else (if (decide (x5.Rule.Faulty < x11)) then ((eslaw04_awake).bind fun x26 =>
  eslaw04_QuorumOverlap.j1 x26) else eslaw04_QuorumOverlap.j1 false)) else eslaw04_QuorumOverlap.j1 false)) else eslaw04_QuorumOverlap.j1 false))))
/-! elasticstore/elasticstoreref06.bits: function 45 -/
noncomputable def esref06_bits.j1  (x6 : Int) : Option Int :=
  some x6
noncomputable def esref06_bits.l1  : (Int × Int) → Option ((Int × Int) ⊕ (Int)) := fun (x10, x11) =>
  (if (decide (0 < x10)) then (letV (IntKind.i64.wrap (x11 + (Int.tmod x10 2))) fun x17 =>
  (letV (IntKind.i64.wrap (Int.tdiv x10 2)) fun x18 =>
  some (.inl (x18, x17)))) else some (.inr x11))
noncomputable def esref06_bits (x1 : Int) : Option Int :=
  ((loopO esref06_bits.l1 (x1, 0)).bind fun x19 => esref06_bits.j1 x19)
/-! elasticstore/elasticstoreref06.Tolerance: function 28 -/
noncomputable def esref06_Tolerance.j1  (x15 : Int) : Option Int :=
  (letV (IntKind.i64.wrap (x15 - 1)) fun x18 =>
  some x18)
noncomputable def esref06_Tolerance.j2 (x22 : Int) (x31 : Int) : Option ((Int × Int) ⊕ (Int)) :=
  (letV (IntKind.i64.wrap (x22 + 1)) fun x33 =>
  some (.inl (x31, x33)))
noncomputable def esref06_Tolerance.l1 (x1 : api_View) : (Int × Int) → Option ((Int × Int) ⊕ (Int)) := fun (x21, x22) =>
  (letV (IntKind.u64.wrap ((x1.Members).length : Int)) fun x26 =>
  (if 0 ≤ x26 then (if (decide (x22 < shlI .i64 1 x26)) then (letV (IntKind.u64.wrap ((x1.Members).length : Int)) fun x35 =>
  (if 0 ≤ x35 then (letV (IntKind.i64.wrap ((shlI .i64 1 x35) - 1)) fun x37 =>
  (letV (IntKind.i64.wrap (x37 - x22)) fun x38 =>
  ((esref06_subset x1 x38).bind fun x39 =>
  ((esref06_IsQuorum x1 x39).bind fun x42 =>
  (if (!x42) then ((esref06_bits x22).bind fun x71 =>
  esref06_Tolerance.j2 x22 (minI x21 x71)) else esref06_Tolerance.j2 x22 x21))))) else none)) else some (.inr x21)) else none))
noncomputable def esref06_Tolerance (x1 : api_View) : Option Int :=
  (letV (IntKind.i64.wrap (((x1.Members).length : Int) + 1)) fun x12 =>
  ((loopO (esref06_Tolerance.l1 x1) (x12, 0)).bind fun x72 => esref06_Tolerance.j1 x72))
/-! elasticstore/elasticstorelaw04.QuorumTolerance: function 9 -/
noncomputable def eslaw04_QuorumTolerance.j1  (x30 : Bool) : Option Bool :=
  some x30
noncomputable def eslaw04_QuorumTolerance.j2 (x6 : api_View) (x12 : Int) (x22 : List Int) (x26 : Int) : Option Bool :=
  (if (decide (x12 < x26)) then ((eslaw04_awake).bind fun x33 =>
  eslaw04_QuorumTolerance.j1 x33) else ((quorum_IsQuorum (⟨x6.Members, (⟨x6.Rule.Kind, x6.Rule.Columns, x6.Rule.Faulty⟩ : api_Rule)⟩ : api_View) x22).bind fun x34 =>
  (if x34 then ((eslaw04_awake).bind fun x36 =>
  eslaw04_QuorumTolerance.j1 x36) else eslaw04_QuorumTolerance.j1 false)))
noncomputable def eslaw04_QuorumTolerance.j3 (x44 : Int) (x51 : List Int) (x55 : Int) : Option (((List Int) × Int × Int) ⊕ ((List Int) × Int)) :=
  (letV (IntKind.i64.wrap (x44 + 1)) fun x57 =>
  some (.inl (x51, x55, x57)))
noncomputable def eslaw04_QuorumTolerance.l1 (x3 : Int) (x6 : api_View) : ((List Int) × Int × Int) → Option (((List Int) × Int × Int) ⊕ ((List Int) × Int)) := fun (x39, x43, x44) =>
  (if (decide (x44 < ((x6.Members).length : Int))) then ((eslaw00_Digit x3 2 x44).bind fun x59 =>
  (if (x59 == 1) then (letV (IntKind.i64.wrap (x43 + 1)) fun x61 =>
  eslaw04_QuorumTolerance.j3 x44 x39 x61) else ((idx x6.Members x44).bind fun x62 =>
  ((app 8 x39 [x62.Server]).bind fun x67 =>
  eslaw04_QuorumTolerance.j3 x44 x67 x43)))) else some (.inr (x39, x43)))
noncomputable def eslaw04_QuorumTolerance (x1 : Int) (x2 : Int) (x3 : Int) : Option Bool :=
  ((eslaw04_view x1 x2).bind fun x6 =>
  ((quorum_Tolerance (⟨x6.Members, (⟨x6.Rule.Kind, x6.Rule.Columns, x6.Rule.Faulty⟩ : api_Rule)⟩ : api_View)).bind fun x12 =>
  ((esref06_Tolerance (⟨x6.Members, (⟨x6.Rule.Kind, x6.Rule.Columns, x6.Rule.Faulty⟩ : api_Rule)⟩ : api_View)).bind fun x15 =>
  (if (x12 != x15) then some false else ((loopO (eslaw04_QuorumTolerance.l1 x3 x6) ([], 0, 0)).bind fun (x72, x73) => eslaw04_QuorumTolerance.j2 x6 x12 x72 x73)))))
/-! elasticstore/elasticstorelaw04.QuorumWeights: function 10 -/
noncomputable def eslaw04_QuorumWeights.j1  (x271 : Bool) : Option Bool :=
  some x271
noncomputable def eslaw04_QuorumWeights.j2 (x3 : Int) (x12 : List api_Member) (x234 : api_View) (x238 : api_View) : Option Bool :=
  ((eslaw04_chosen x3).bind fun x252 =>
  ((quorum_IsQuorum (⟨x234.Members, (⟨1, 0, 0⟩ : api_Rule)⟩ : api_View) x252).bind fun x255 =>
  ((eslaw04_chosen x3).bind fun x273 =>
  ((quorum_IsQuorum (⟨x238.Members, (⟨2, 0, 0⟩ : api_Rule)⟩ : api_View) x273).bind fun x276 =>
  (if (x276 == x255) then ((eslaw04_chosen x3).bind fun x278 =>
  ((quorum_IsQuorum (⟨x12, (⟨4, 0, 0⟩ : api_Rule)⟩ : api_View) x278).bind fun x281 =>
  (if (x281 == x255) then ((eslaw04_awake).bind fun x283 =>
  eslaw04_QuorumWeights.j1 x283) else eslaw04_QuorumWeights.j1 false))) else eslaw04_QuorumWeights.j1 false)))))
noncomputable def eslaw04_QuorumWeights.j3 (x3 : Int) (x6 : api_View) (x12 : List api_Member) : Option Bool :=
  eslaw04_QuorumWeights.j2 x3 x12 (⟨x12, (⟨x6.Rule.Kind, x6.Rule.Columns, x6.Rule.Faulty⟩ : api_Rule)⟩ : api_View) (⟨x12, (⟨x6.Rule.Kind, x6.Rule.Columns, x6.Rule.Faulty⟩ : api_Rule)⟩ : api_View)
noncomputable def eslaw04_QuorumWeights.l1 (x2 : Int) : ((List api_Member) × Int) → Option (((List api_Member) × Int) ⊕ (List api_Member)) := fun (x438, x440) =>
  (if (decide (x440 < (x438.length : Int))) then ((eslaw00_Index x2 9).bind fun x498 =>
  (letV (IntKind.i64.wrap (1 + x498)) fun x499 =>
  ((idx x438 x440).bind fun x510 =>
  (letV (x438.set (x440).toNat ({ x510 with Weight := x499 })) fun x513 =>
  (letV (IntKind.i64.wrap (x440 + 1)) fun x514 =>
  some (.inl (x513, x514))))))) else some (.inr x438))
noncomputable def eslaw04_QuorumWeights (x1 : Int) (x2 : Int) (x3 : Int) : Option Bool :=
  ((eslaw04_view 0 x1).bind fun x6 =>
  ((loopO (eslaw04_QuorumWeights.l1 x2) (x6.Members, 0)).bind fun x515 => eslaw04_QuorumWeights.j3 x3 x6 x515))
end Go.Proofs.Ytodebgfppmcjlaa
