import Derived.Test.YthfoljpjhegkmaaDoorLqa
import Derived.Test.YthfoljpjhegkmaaDoorLw
set_option linter.unusedVariables false
set_option linter.unusedSimpArgs false
namespace Go.Proofs.YthfoljpjhegkmaaDoor
open Go Go.RowKit Go.Proofs.YthfoljpjhegkmaaDoorL
structure api_Rule where
  Kind : Int
  Columns : Int
  Faulty : Int
  deriving DecidableEq
structure api_Change where
  Kind : Int
  Server : Int
  Weight : Int
  Version : Int
  Rule : api_Rule
  deriving DecidableEq
structure api_WeightEntry where
  Server : Int
  Weight : Int
  Version : Int
  Admin : Int
  Number : Int
  deriving DecidableEq
structure api_Summary where
  Joined : List Int
  Removed : List Int
  Weights : List api_WeightEntry
  Rule : api_Rule
  Version : Int
  Admin : Int
  Number : Int
  deriving DecidableEq
structure api_Member where
  Server : Int
  Weight : Int
  deriving DecidableEq
structure api_Genesis where
  Members : List api_Member
  Rule : api_Rule
  deriving DecidableEq
/-! strings.Split: function 36 -/
def spl (c : UInt8) : List UInt8 → List (List UInt8)
  | [] => [[]]
  | b :: l => if b = c then [] :: spl c l else match spl c l with | [] => [[b]] | h :: t => (b :: h) :: t
def strings_Split (x1 : List UInt8) (x2 : List UInt8) : Option (List (List UInt8)) := if x2.length = 1 ∧ x1.length < 4294967281 then some (spl (x2.headD 0) x1) else none
/-! elasticstore/command.number: function 64 -/
noncomputable def command_number.j1  (x13 : Int) : Option (Int × Bool) :=
  some (x13, true)
noncomputable def command_number.j2 (x1 : List UInt8) (x18 : Int) (x19 : Int) (x29 : Bool) : Option ((Int × Int) ⊕ (Int ⊕ (Int × Bool))) :=
  (if x29 then some (.inr (.inr (0, false))) else (letV (IntKind.i64.wrap (10 * x18)) fun x33 =>
  ((idx x1 x19).bind fun x34 =>
  (letV (IntKind.u8.wrap ((x34.toNat : Int) - 48)) fun x35 =>
  (letV (IntKind.i64.wrap (x33 + (IntKind.i64.wrap x35))) fun x36 =>
  (letV (IntKind.i64.wrap (x19 + 1)) fun x37 =>
  some (.inl (x36, x37))))))))
noncomputable def command_number.l1 (x1 : List UInt8) : (Int × Int) → Option ((Int × Int) ⊕ (Int ⊕ (Int × Bool))) := fun (x18, x19) =>
  (if (decide (x19 < (x1.length : Int))) then ((idx x1 x19).bind fun x38 =>
  (if (decide ((x38.toNat : Int) < 48)) then command_number.j2 x1 x18 x19 true else ((idx x1 x19).bind fun x40 =>
  command_number.j2 x1 x18 x19 (decide (57 < (x40.toNat : Int)))))) else some (.inr (.inl x18)))
noncomputable def command_number.j3 (x1 : List UInt8) (x6 : Bool) : Option (Int × Bool) :=
  (if x6 then some (0, false) else ((loopO (command_number.l1 x1) (0, 0)).bind fun b => match b with | .inl x41 => command_number.j1 x41 | .inr (x42, x43) => some (x42, x43)))
noncomputable def command_number (x1 : List UInt8) : Option (Int × Bool) :=
  (if (x1 == ([] : List UInt8)) then command_number.j3 x1 true else (if (decide (4 < (x1.length : Int))) then command_number.j3 x1 true else (if (decide (1 < (x1.length : Int))) then ((idx x1 0).bind fun x47 =>
  command_number.j3 x1 ((x47.toNat : Int) == 48)) else command_number.j3 x1 false)))
/-! elasticstore/command.numbers: function 63 -/
noncomputable def command_numbers.j1  (x11 : List Int) : Option ((List Int) × Bool) :=
  some (x11, true)
noncomputable def command_numbers.l1 (x1 : List (List UInt8)) (x4 : List Int) : ((List Int) × Int) → Option (((List Int) × Int) ⊕ ((List Int) ⊕ ((List Int) × Bool))) := fun (x19, x23) =>
  (if (decide (x23 < (x4.length : Int))) then ((idx x4 x23).bind fun x30 =>
  ((idx x1 x30).bind fun x34 =>
  ((command_number x34).bind fun (x37, x38) =>
  (if (!x38) then some (.inr (.inr ([], false))) else ((app 8 x19 [x37]).bind fun x44 =>
  (letV (IntKind.i64.wrap (x23 + 1)) fun x49 =>
  some (.inl (x44, x49)))))))) else some (.inr (.inl x19)))
noncomputable def command_numbers (x1 : List (List UInt8)) (x4 : List Int) : Option ((List Int) × Bool) :=
  ((loopO (command_numbers.l1 x1 x4) ([], 0)).bind fun b => match b with | .inl x50 => command_numbers.j1 x50 | .inr (x51, x52) => some (x51, x52))
/-! elasticstore/command.server: function 47 -/
noncomputable def command_server.j1 (x1 : api_Change) (x32 : Int) (x37 : Int) : Option (api_Change × Bool) :=
  some ((⟨x1.Kind, x32, x37, x1.Version, (⟨x1.Rule.Kind, x1.Rule.Columns, x1.Rule.Faulty⟩ : api_Rule)⟩ : api_Change), true)
noncomputable def command_server.j2 (x1 : api_Change) (x5 : List (List UInt8)) (x8 : Int) (x16 : List Int) : Option (api_Change × Bool) :=
  ((command_numbers x5 x16).bind fun (x22, x23) =>
  (if (!x23) then some ((⟨0, 0, 0, 0, (⟨0, 0, 0⟩ : api_Rule)⟩ : api_Change), false) else ((idx x22 0).bind fun x32 =>
  (if (decide (0 < x8)) then ((idx x22 1).bind fun x42 =>
  command_server.j1 x1 x32 x42) else command_server.j1 x1 x32 x1.Weight))))
noncomputable def command_server (x1 : api_Change) (x5 : List (List UInt8)) (x8 : Int) : Option (api_Change × Bool) :=
  (if (decide (0 < x8)) then ((app 8 [1] [x8]).bind fun x48 =>
  command_server.j2 x1 x5 x8 x48) else command_server.j2 x1 x5 x8 [1])
/-! elasticstore/command.rule: function 48 -/
noncomputable def command_rule.j1 (x34 : Int) (x45 : Bool) : Option (api_Rule × Bool) :=
  (if x45 then some ((⟨4, 0, x34⟩ : api_Rule), true) else some ((⟨0, 0, 0⟩ : api_Rule), false))
noncomputable def command_rule.j2 (x11 : List UInt8) (x34 : Int) (x35 : Bool) (x39 : Bool) : Option (api_Rule × Bool) :=
  (if x39 then some ((⟨3, x34, 0⟩ : api_Rule), true) else (if x35 then command_rule.j1 x34 (x11 == ([109, 97, 115, 107, 105, 110, 103] : List UInt8)) else command_rule.j1 x34 false))
noncomputable def command_rule.j3 (x1 : List (List UInt8)) (x11 : List UInt8) (x23 : Bool) : Option (api_Rule × Bool) :=
  (if x23 then some ((⟨2, 0, 0⟩ : api_Rule), true) else (if ((x1.length : Int) != 2) then some ((⟨0, 0, 0⟩ : api_Rule), false) else ((idx x1 1).bind fun x31 =>
  ((command_number x31).bind fun (x34, x35) =>
  (if x35 then command_rule.j2 x11 x34 x35 (x11 == ([103, 114, 105, 100] : List UInt8)) else command_rule.j2 x11 x34 x35 false)))))
noncomputable def command_rule.j4 (x1 : List (List UInt8)) (x11 : List UInt8) (x17 : Bool) : Option (api_Rule × Bool) :=
  (if x17 then some ((⟨1, 0, 0⟩ : api_Rule), true) else (if ((x1.length : Int) == 1) then command_rule.j3 x1 x11 (x11 == ([119, 101, 105, 103, 104, 116, 101, 100] : List UInt8)) else command_rule.j3 x1 x11 false))
noncomputable def command_rule (x1 : List (List UInt8)) : Option (api_Rule × Bool) :=
  (if ((x1.length : Int) == 0) then some ((⟨0, 0, 0⟩ : api_Rule), false) else ((idx x1 0).bind fun x11 =>
  (if ((x1.length : Int) == 1) then command_rule.j4 x1 x11 (x11 == ([109, 97, 106, 111, 114, 105, 116, 121] : List UInt8)) else command_rule.j4 x1 x11 false)))
/-! elasticstore/command.syntax: function 24 -/
noncomputable def command_syntax.j1 (x5 : List (List UInt8)) (x41 : Bool) : Option (api_Change × Bool) :=
  (if x41 then ((command_server (⟨3, 0, 0, 0, (⟨0, 0, 0⟩ : api_Rule)⟩ : api_Change) x5 2).bind fun (x45, x46) =>
  some (x45, x46)) else ((idx x5 0).bind fun x50 =>
  (if (x50 == ([114, 117, 108, 101] : List UInt8)) then ((cut x5 1 (x5.length : Int)).bind fun x55 =>
  ((command_rule x55).bind fun (x58, x59) =>
  (if (!x59) then some ((⟨0, 0, 0, 0, (⟨0, 0, 0⟩ : api_Rule)⟩ : api_Change), false) else some ((⟨4, 0, 0, 0, x58⟩ : api_Change), true)))) else some ((⟨0, 0, 0, 0, (⟨0, 0, 0⟩ : api_Rule)⟩ : api_Change), false))))
noncomputable def command_syntax.j2 (x5 : List (List UInt8)) (x31 : Bool) : Option (api_Change × Bool) :=
  (if x31 then ((command_server (⟨2, 0, 0, 0, (⟨0, 0, 0⟩ : api_Rule)⟩ : api_Change) x5 0).bind fun (x35, x36) =>
  some (x35, x36)) else ((idx x5 0).bind fun x69 =>
  (if (x69 == ([119, 101, 105, 103, 104, 116] : List UInt8)) then command_syntax.j1 x5 ((x5.length : Int) == 3) else command_syntax.j1 x5 false)))
noncomputable def command_syntax.j3 (x5 : List (List UInt8)) (x21 : Bool) : Option (api_Change × Bool) :=
  (if x21 then ((command_server (⟨1, 0, 0, 0, (⟨0, 0, 0⟩ : api_Rule)⟩ : api_Change) x5 3).bind fun (x25, x26) =>
  some (x25, x26)) else ((idx x5 0).bind fun x73 =>
  (if (x73 == ([114, 101, 109, 111, 118, 101] : List UInt8)) then command_syntax.j2 x5 ((x5.length : Int) == 2) else command_syntax.j2 x5 false)))
noncomputable def command_syntax.j4 (x5 : List (List UInt8)) (x11 : Bool) : Option (api_Change × Bool) :=
  (if x11 then ((command_server (⟨1, 0, 1, 0, (⟨0, 0, 0⟩ : api_Rule)⟩ : api_Change) x5 0).bind fun (x15, x16) =>
  some (x15, x16)) else ((idx x5 0).bind fun x77 =>
  (if (x77 == ([106, 111, 105, 110] : List UInt8)) then (if ((x5.length : Int) == 4) then ((idx x5 2).bind fun x82 =>
  command_syntax.j3 x5 (x82 == ([119, 101, 105, 103, 104, 116] : List UInt8))) else command_syntax.j3 x5 false) else command_syntax.j3 x5 false)))
noncomputable def command_syntax (x1 : List UInt8) : Option (api_Change × Bool) :=
  ((strings_Split x1 ([32] : List UInt8)).bind fun x5 =>
  ((idx x5 0).bind fun x85 =>
  (if (x85 == ([106, 111, 105, 110] : List UInt8)) then command_syntax.j4 x5 ((x5.length : Int) == 2) else command_syntax.j4 x5 false)))
/-! elasticstore/command.versioned: function 26 -/
noncomputable def command_versioned.j1 (x1 : api_Change) (x10 : Int) : Option api_Change :=
  some (⟨x1.Kind, x1.Server, x1.Weight, x10, (⟨x1.Rule.Kind, x1.Rule.Columns, x1.Rule.Faulty⟩ : api_Rule)⟩ : api_Change)
noncomputable def command_versioned.j2 (x1 : api_Change) (x19 : Int) : Option api_Change :=
  command_versioned.j1 x1 x19
noncomputable def command_versioned.j3 (x1 : api_Change)  : Option api_Change :=
  (if (x1.Version == 0) then command_versioned.j2 x1 1 else command_versioned.j2 x1 x1.Version)
noncomputable def command_versioned (x1 : api_Change) : Option api_Change :=
  (if (x1.Kind == 3) then command_versioned.j3 x1 else (if (x1.Kind == 4) then command_versioned.j3 x1 else command_versioned.j1 x1 x1.Version))
/-! elasticstore/proposal.within: function 49 -/
noncomputable def proposal_within.j1  (x12 : Bool) : Option Bool :=
  some x12
noncomputable def proposal_within (x1 : Int) (x2 : Int) (x3 : Int) (x4 : Bool) : Option Bool :=
  (if (!x4) then some (x1 == 0) else (if (decide (x2 ≤ x1)) then proposal_within.j1 (decide (x1 ≤ x3)) else proposal_within.j1 false))
/-! elasticstore/quorum.ValidateRule: function 50 -/
noncomputable def quorum_ValidateRule.j1  (x20 : Bool) : Option Int :=
  (if x20 then some 9 else some 0)
noncomputable def quorum_ValidateRule.j2  (x14 : Bool) (x15 : Bool) : Option Int :=
  (if (!x14) then quorum_ValidateRule.j1 true else quorum_ValidateRule.j1 (!x15))
noncomputable def quorum_ValidateRule.j3 (x1 : api_Rule) (x9 : Bool) (x10 : Bool) (x30 : Bool) : Option Int :=
  (if x30 then quorum_ValidateRule.j2 x9 x10 else (if (x1.Kind == 3) then (if (decide (1 ≤ x1.Columns)) then quorum_ValidateRule.j2 (decide (x1.Columns ≤ 12)) x10 else quorum_ValidateRule.j2 false x10) else (if (x1.Kind == 4) then (if (decide (0 ≤ x1.Faulty)) then quorum_ValidateRule.j2 x9 (decide (x1.Faulty ≤ 12)) else quorum_ValidateRule.j2 x9 false) else some 10)))
noncomputable def quorum_ValidateRule.j4 (x1 : api_Rule) (x9 : Bool) (x10 : Bool) : Option Int :=
  (if (x1.Kind == 1) then quorum_ValidateRule.j3 x1 x9 x10 true else quorum_ValidateRule.j3 x1 x9 x10 (x1.Kind == 2))
noncomputable def quorum_ValidateRule (x1 : api_Rule) : Option Int :=
  quorum_ValidateRule.j4 x1 (x1.Columns == 0) (x1.Faulty == 0)
/-! elasticstore/proposal.ValidateChange: function 25 -/
noncomputable def proposal_ValidateChange.j1 (x1 : api_Change) (x27 : Bool) : Option Int :=
  (if x27 then some 9 else (if (x1.Kind == 4) then ((quorum_ValidateRule x1.Rule).bind fun x38 =>
  some x38) else (if (!decide ((⟨x1.Rule.Kind, x1.Rule.Columns, x1.Rule.Faulty⟩ : api_Rule) = (⟨0, 0, 0⟩ : api_Rule))) then some 2 else some 0)))
noncomputable def proposal_ValidateChange.j2 (x1 : api_Change) (x18 : Bool) (x22 : Bool) : Option Int :=
  ((proposal_within x1.Server 1 12 (!(x1.Kind == 4))).bind fun x48 =>
  (if (!x48) then proposal_ValidateChange.j1 x1 true else ((proposal_within x1.Weight 1 9 x18).bind fun x51 =>
  (if (!x51) then proposal_ValidateChange.j1 x1 true else ((proposal_within x1.Version 1 1000 x22).bind fun x54 =>
  proposal_ValidateChange.j1 x1 (!x54))))))
noncomputable def proposal_ValidateChange.j3 (x1 : api_Change) (x18 : Bool) : Option Int :=
  (if (x1.Kind == 3) then proposal_ValidateChange.j2 x1 x18 true else proposal_ValidateChange.j2 x1 x18 (x1.Kind == 4))
noncomputable def proposal_ValidateChange.j4 (x1 : api_Change) (x10 : Bool) : Option Int :=
  (if x10 then some 10 else (if (x1.Kind == 1) then proposal_ValidateChange.j3 x1 true else proposal_ValidateChange.j3 x1 (x1.Kind == 3)))
noncomputable def proposal_ValidateChange (x1 : api_Change) : Option Int :=
  (if (decide (x1.Kind < 1)) then proposal_ValidateChange.j4 x1 true else proposal_ValidateChange.j4 x1 (decide (4 < x1.Kind)))
/-! elasticstore/command.Parse: function 9 -/
noncomputable def command_Parse (x1 : List UInt8) : Option (api_Change × Int) :=
  ((command_syntax x1).bind fun (x5, x6) =>
  (if (!x6) then some ((⟨0, 0, 0, 0, (⟨0, 0, 0⟩ : api_Rule)⟩ : api_Change), 11) else ((command_versioned x5).bind fun x16 =>
  ((proposal_ValidateChange x16).bind fun x19 =>
  (if (x19 != 0) then some ((⟨0, 0, 0, 0, (⟨0, 0, 0⟩ : api_Rule)⟩ : api_Change), x19) else some (x5, 0))))))
/-! elasticstore/elasticstoreref10.Initial: function 23 -/
noncomputable def esref10_Initial.j1 (x1 : api_Genesis) (x15 : List Int) (x19 : List api_WeightEntry) : Option api_Summary :=
  some (⟨x15, [], x19, (⟨x1.Rule.Kind, x1.Rule.Columns, x1.Rule.Faulty⟩ : api_Rule), 0, 0, 0⟩ : api_Summary)
noncomputable def esref10_Initial.l1 (x1 : api_Genesis) : (Int × (List Int) × (List api_WeightEntry)) → Option ((Int × (List Int) × (List api_WeightEntry)) ⊕ ((List Int) × (List api_WeightEntry))) := fun (x27, x28, x32) =>
  (if (decide (x27 < ((x1.Members).length : Int))) then ((idx x1.Members x27).bind fun x48 =>
  ((app 8 x28 [x48.Server]).bind fun x84 =>
  ((idx x1.Members x27).bind fun x92 =>
  ((idx x1.Members x27).bind fun x99 =>
  ((app 40 x32 [(⟨x92.Server, x99.Weight, 0, 0, 0⟩ : api_WeightEntry)]).bind fun x160 =>
  (letV (IntKind.i64.wrap (x27 + 1)) fun x165 =>
  some (.inl (x165, x84, x160)))))))) else some (.inr (x28, x32)))
noncomputable def esref10_Initial (x1 : api_Genesis) : Option api_Summary :=
  ((loopO (esref10_Initial.l1 x1) (0, [], [])).bind fun (x166, x167) => esref10_Initial.j1 x1 x166 x167)
/-! elasticstore/command.occurs$1: function 70 -/
noncomputable def command_occurs_1.j1  (x13 : Bool) : Option Bool :=
  some x13
noncomputable def command_occurs_1 (x1 : api_Change) (x5 : Int) (x7 : Int) : Option Bool :=
  (if (x1.Kind == x5) then command_occurs_1.j1 (x1.Server == x7) else command_occurs_1.j1 false)
/-! slices.IndexFunc[[]elasticstore/api.Change,elasticstore/api.Change]: function 80 -/
noncomputable def slices_IndexFunc_Change.j1   : Option Int :=
  some (-1)
noncomputable def slices_IndexFunc_Change.l1 (x1 : List api_Change) (x4 : api_Change → Option Bool) : Int → Option ((Int) ⊕ (Unit ⊕ Int)) := fun x13 =>
  (if (decide (x13 < (x1.length : Int))) then ((idx x1 x13).bind fun x21 =>
  ((x4 x21).bind fun x26 =>
  (if x26 then some (.inr (.inr x13)) else (letV (IntKind.i64.wrap (x13 + 1)) fun x29 =>
  some (.inl x29))))) else some (.inr (.inl ())))
noncomputable def slices_IndexFunc_Change (x1 : List api_Change) (x4 : api_Change → Option Bool) : Option Int :=
  ((loopO (slices_IndexFunc_Change.l1 x1 x4) 0).bind fun b => match b with | .inl _ => slices_IndexFunc_Change.j1 | .inr x30 => some x30)
/-! slices.ContainsFunc[[]elasticstore/api.Change,elasticstore/api.Change]: function 69 -/
noncomputable def slices_ContainsFunc_Change (x1 : List api_Change) (x4 : api_Change → Option Bool) : Option Bool :=
  ((slices_IndexFunc_Change x1 x4).bind fun x8 =>
  some (decide (0 ≤ x8)))
/-! elasticstore/command.occurs: function 56 -/
noncomputable def command_occurs (x1 : List api_Change) (x4 : Int) (x5 : Int) : Option Bool :=
  ((slices_ContainsFunc_Change x1 (fun p : api_Change => command_occurs_1 p x4 x5)).bind fun x10 =>
  some x10)
/-! slices.Index[[]int,int]: function 71 -/
noncomputable def slices_Index_int.j1   : Option Int :=
  some (-1)
noncomputable def slices_Index_int.l1 (x1 : List Int) (x4 : Int) : Int → Option ((Int) ⊕ (Unit ⊕ Int)) := fun x12 =>
  (if (decide (x12 < (x1.length : Int))) then ((idx x1 x12).bind fun x20 =>
  (if (x4 == x20) then some (.inr (.inr x12)) else (letV (IntKind.i64.wrap (x12 + 1)) fun x25 =>
  some (.inl x25)))) else some (.inr (.inl ())))
noncomputable def slices_Index_int (x1 : List Int) (x4 : Int) : Option Int :=
  ((loopO (slices_Index_int.l1 x1 x4) 0).bind fun b => match b with | .inl _ => slices_Index_int.j1 | .inr x26 => some x26)
/-! slices.Contains[[]int,int]: function 57 -/
noncomputable def slices_Contains_int (x1 : List Int) (x4 : Int) : Option Bool :=
  ((slices_Index_int x1 x4).bind fun x7 =>
  some (decide (0 ≤ x7)))
/-! elasticstore/command.version: function 58 -/
noncomputable def command_version.j1   : Option Int :=
  some 0
noncomputable def command_version.l1 (x1 : api_Change) (x5 : api_Summary) : Int → Option ((Int) ⊕ (Unit ⊕ Int)) := fun x27 =>
  (if (decide (x27 < ((x5.Weights).length : Int))) then ((idx x5.Weights x27).bind fun x34 =>
  (if (x34.Server == x1.Server) then some (.inr (.inr x34.Version)) else (letV (IntKind.i64.wrap (x27 + 1)) fun x46 =>
  some (.inl x46)))) else some (.inr (.inl ())))
noncomputable def command_version (x1 : api_Change) (x5 : api_Summary) : Option Int :=
  (if (x1.Kind == 4) then some x5.Version else ((loopO (command_version.l1 x1 x5) 0).bind fun b => match b with | .inl _ => command_version.j1 | .inr x47 => some x47))
/-! elasticstore/command.check: function 37 -/
noncomputable def command_check.j1 (x1 : api_Change) (x5 : api_Summary) (x71 : api_Change) : Option (api_Change × Int) :=
  ((command_version (⟨x1.Kind, x1.Server, x1.Weight, x1.Version, (⟨x1.Rule.Kind, x1.Rule.Columns, x1.Rule.Faulty⟩ : api_Rule)⟩ : api_Change) x5).bind fun x76 =>
  (if (decide (1000 ≤ x76)) then some ((⟨x1.Kind, x1.Server, x1.Weight, x76, (⟨x1.Rule.Kind, x1.Rule.Columns, x1.Rule.Faulty⟩ : api_Rule)⟩ : api_Change), 9) else (letV (IntKind.i64.wrap (x76 + 1)) fun x82 =>
  some ((⟨x1.Kind, x1.Server, x1.Weight, x82, (⟨x1.Rule.Kind, x1.Rule.Columns, x1.Rule.Faulty⟩ : api_Rule)⟩ : api_Change), 0))))
noncomputable def command_check.j2 (x1 : api_Change) (x95 : Bool) : Option (api_Change × Int) :=
  (if x95 then some ((⟨x1.Kind, x1.Server, x1.Weight, x1.Version, (⟨x1.Rule.Kind, x1.Rule.Columns, x1.Rule.Faulty⟩ : api_Rule)⟩ : api_Change), 5) else some ((⟨x1.Kind, x1.Server, x1.Weight, x1.Version, (⟨x1.Rule.Kind, x1.Rule.Columns, x1.Rule.Faulty⟩ : api_Rule)⟩ : api_Change), 0))
noncomputable def command_check.j3 (x1 : api_Change) (x5 : api_Summary) (x29 : Bool) (x33 : Bool) (x65 : Bool) : Option (api_Change × Int) :=
  (if (x1.Kind == 1) then (if x29 then command_check.j2 x1 true else command_check.j2 x1 x33) else (if (x1.Kind == 2) then (if (!x65) then some ((⟨x1.Kind, x1.Server, x1.Weight, x1.Version, (⟨x1.Rule.Kind, x1.Rule.Columns, x1.Rule.Faulty⟩ : api_Rule)⟩ : api_Change), 6) else some ((⟨x1.Kind, x1.Server, x1.Weight, x1.Version, (⟨x1.Rule.Kind, x1.Rule.Columns, x1.Rule.Faulty⟩ : api_Rule)⟩ : api_Change), 0)) else (if (x1.Kind == 3) then (if (!x65) then some ((⟨x1.Kind, x1.Server, x1.Weight, x1.Version, (⟨x1.Rule.Kind, x1.Rule.Columns, x1.Rule.Faulty⟩ : api_Rule)⟩ : api_Change), 6) else command_check.j1 x1 x5 (⟨0, 0, 0, 0, (⟨0, 0, 0⟩ : api_Rule)⟩ : api_Change)) else command_check.j1 x1 x5 (⟨0, 0, 0, 0, (⟨0, 0, 0⟩ : api_Rule)⟩ : api_Change))))
noncomputable def command_check (x1 : api_Change) (x5 : api_Summary) (x9 : List api_Change) : Option (api_Change × Int) :=
  (if (decide (6 ≤ (x9.length : Int))) then some ((⟨x1.Kind, x1.Server, x1.Weight, x1.Version, (⟨x1.Rule.Kind, x1.Rule.Columns, x1.Rule.Faulty⟩ : api_Rule)⟩ : api_Change), 3) else ((command_occurs x9 x1.Kind x1.Server).bind fun x22 =>
  (if x22 then some ((⟨x1.Kind, x1.Server, x1.Weight, x1.Version, (⟨x1.Rule.Kind, x1.Rule.Columns, x1.Rule.Faulty⟩ : api_Rule)⟩ : api_Change), 5) else ((slices_Contains_int x5.Joined x1.Server).bind fun x29 =>
  ((slices_Contains_int x5.Removed x1.Server).bind fun x33 =>
  (if x29 then (if (!x33) then command_check.j3 x1 x5 x29 x33 true else ((command_occurs x9 1 x1.Server).bind fun x117 =>
  command_check.j3 x1 x5 x29 x33 x117)) else ((command_occurs x9 1 x1.Server).bind fun x118 =>
  command_check.j3 x1 x5 x29 x33 x118)))))))
/-! elasticstore/command.Compile: function 14 -/
noncomputable def command_Compile.j1  (x11 : List api_Change) : Option ((List api_Change) × Int × Int) :=
  (if ((x11.length : Int) == 0) then some ([], 0, 2) else some (x11, 0, 0))
noncomputable def command_Compile.j2 (x30 : Int) (x37 : List api_Change) : Option (((List api_Change) × Int) ⊕ ((List api_Change) ⊕ ((List api_Change) × Int × Int))) :=
  (letV (IntKind.i64.wrap (x30 + 1)) fun x42 =>
  some (.inl (x37, x42)))
noncomputable def command_Compile.j3 (x26 : List api_Change) (x30 : Int) (x61 : Int) (x62 : api_Change) : Option (((List api_Change) × Int) ⊕ ((List api_Change) ⊕ ((List api_Change) × Int × Int))) :=
  (if (x61 != 0) then (letV (IntKind.i64.wrap (x30 + 1)) fun x70 =>
  some (.inr (.inr ([], x70, x61)))) else ((app 56 x26 [x62]).bind fun x72 =>
  command_Compile.j2 x30 x72))
noncomputable def command_Compile.j4 (x2 : api_Summary) (x26 : List api_Change) (x30 : Int) (x44 : List UInt8) (x50 : Bool) : Option (((List api_Change) × Int) ⊕ ((List api_Change) ⊕ ((List api_Change) × Int × Int))) :=
  (if x50 then command_Compile.j2 x30 x26 else ((command_Parse x44).bind fun (x54, x55) =>
  (if (x55 == 0) then ((command_check x54 x2 x26).bind fun (x79, x80) =>
  command_Compile.j3 x26 x30 x80 x79) else command_Compile.j3 x26 x30 x55 x54)))
noncomputable def command_Compile.l1 (x2 : api_Summary) (x22 : List (List UInt8)) : ((List api_Change) × Int) → Option (((List api_Change) × Int) ⊕ ((List api_Change) ⊕ ((List api_Change) × Int × Int))) := fun (x26, x30) =>
  (if (decide (x30 < (x22.length : Int))) then ((idx x22 x30).bind fun x44 =>
  (if (x44 == ([] : List UInt8)) then command_Compile.j4 x2 x26 x30 x44 true else ((idx x44 0).bind fun x84 =>
  command_Compile.j4 x2 x26 x30 x44 ((x84.toNat : Int) == 35)))) else some (.inr (.inl x26)))
noncomputable def command_Compile (x1 : List UInt8) (x2 : api_Summary) : Option ((List api_Change) × Int × Int) :=
  ((strings_Split x1 ([10] : List UInt8)).bind fun x22 =>
  ((loopO (command_Compile.l1 x2 x22) ([], 0)).bind fun b => match b with | .inl x85 => command_Compile.j1 x85 | .inr (x86, x87, x88) => some (x86, x87, x88)))
/-! strconv.Itoa: function 30 -/
def dec2 (n : Nat) : List UInt8 := if n < 10 then [UInt8.ofNat (48 + n)] else [UInt8.ofNat (48 + n / 10), UInt8.ofNat (48 + n % 10)]
def strconv_Itoa (x1 : Int) : Option (List UInt8) := if 0 ≤ x1 ∧ x1 < 100 then some (dec2 x1.toNat) else none
/-! elasticstore/command.Format: function 11 -/
noncomputable def command_Format (x1 : api_Change) : Option (List UInt8) :=
  ((command_versioned x1).bind fun x9 =>
  ((proposal_ValidateChange x9).bind fun x12 =>
  (if (x12 != 0) then some ([] : List UInt8) else ((strconv_Itoa x1.Server).bind fun x17 =>
  ((strconv_Itoa x1.Weight).bind fun x19 =>
  (if (x1.Kind == 1) then ((cat ([106, 111, 105, 110, 32] : List UInt8) x17).bind fun x37 =>
  ((cat x37 ([32, 119, 101, 105, 103, 104, 116, 32] : List UInt8)).bind fun x38 =>
  ((cat x38 x19).bind fun x39 =>
  some x39))) else (if (x1.Kind == 2) then ((cat ([114, 101, 109, 111, 118, 101, 32] : List UInt8) x17).bind fun x43 =>
  some x43) else (if (x1.Kind == 3) then ((cat ([119, 101, 105, 103, 104, 116, 32] : List UInt8) x17).bind fun x47 =>
  ((cat x47 ([32] : List UInt8)).bind fun x48 =>
  ((cat x48 x19).bind fun x49 =>
  some x49))) else (if (x1.Rule.Kind == 1) then some ([114, 117, 108, 101, 32, 109, 97, 106, 111, 114, 105, 116, 121] : List UInt8) else (if (x1.Rule.Kind == 2) then some ([114, 117, 108, 101, 32, 119, 101, 105, 103, 104, 116, 101, 100] : List UInt8) else (if (x1.Rule.Kind == 3) then ((strconv_Itoa x1.Rule.Columns).bind fun x63 =>
  ((cat ([114, 117, 108, 101, 32, 103, 114, 105, 100, 32] : List UInt8) x63).bind fun x64 =>
  some x64)) else ((strconv_Itoa x1.Rule.Faulty).bind fun x67 =>
  ((cat ([114, 117, 108, 101, 32, 109, 97, 115, 107, 105, 110, 103, 32] : List UInt8) x67).bind fun x68 =>
  some x68)))))))))))))
/-! elasticstore/elasticstorelaw08.awake: function 8 -/
noncomputable def eslaw08_awake.j1  (x41 : Bool) : Option Bool :=
  some x41
noncomputable def eslaw08_awake  : Option Bool :=
  ((command_Parse ([106, 111, 105, 110, 32, 52, 32, 119, 101, 105, 103, 104, 116, 32, 50] : List UInt8)).bind fun (x3, x4) =>
  ((command_Parse ([106, 111, 105, 110, 32, 52, 32, 32, 119, 101, 105, 103, 104, 116, 32, 50] : List UInt8)).bind fun (x9, x10) =>
  ((esref10_Initial (⟨[(⟨1, 1⟩ : api_Member)], (⟨1, 0, 0⟩ : api_Rule)⟩ : api_Genesis)).bind fun x16 =>
  ((command_Compile ([35, 32, 114, 101, 112, 108, 97, 99, 101, 10, 106, 111, 105, 110, 32, 52, 10, 114, 101, 109, 111, 118, 101, 32, 49, 10] : List UInt8) (⟨x16.Joined, x16.Removed, x16.Weights, (⟨x16.Rule.Kind, x16.Rule.Columns, x16.Rule.Faulty⟩ : api_Rule), x16.Version, x16.Admin, x16.Number⟩ : api_Summary)).bind fun (x26, x27, x28) =>
  ((command_Compile ([10, 114, 101, 109, 111, 118, 101, 32, 57] : List UInt8) (⟨[], [], [], (⟨0, 0, 0⟩ : api_Rule), 0, 0, 0⟩ : api_Summary)).bind fun (x33, x34, x35) =>
  (if (decide ((⟨x3.Kind, x3.Server, x3.Weight, x3.Version, (⟨x3.Rule.Kind, x3.Rule.Columns, x3.Rule.Faulty⟩ : api_Rule)⟩ : api_Change) = (⟨1, 4, 2, 0, (⟨0, 0, 0⟩ : api_Rule)⟩ : api_Change))) then (if (x4 == 0) then (if (x10 == 11) then ((command_Format (⟨x3.Kind, x3.Server, x3.Weight, x3.Version, (⟨x3.Rule.Kind, x3.Rule.Columns, x3.Rule.Faulty⟩ : api_Rule)⟩ : api_Change)).bind fun x46 =>
  (if (x46 == ([106, 111, 105, 110, 32, 52, 32, 119, 101, 105, 103, 104, 116, 32, 50] : List UInt8)) then (if ((x26.length : Int) == 2) then (if (x27 == 0) then (if (x28 == 0) then (if (x34 == 2) then eslaw08_awake.j1 (x35 == 6) else eslaw08_awake.j1 false) else eslaw08_awake.j1 false) else eslaw08_awake.j1 false) else eslaw08_awake.j1 false) else eslaw08_awake.j1 false)) else eslaw08_awake.j1 false) else eslaw08_awake.j1 false) else eslaw08_awake.j1 false))))))
/-! elasticstore/elasticstoreref10.words: function 51 -/
noncomputable def esref10_words.j1  (x7 : List (List UInt8)) : Option (List (List UInt8)) :=
  some x7
noncomputable def esref10_words.j2 (x20 : Int) (x27 : List (List UInt8)) (x31 : Int) : Option (((List (List UInt8)) × Int × Int) ⊕ (List (List UInt8))) :=
  (letV (IntKind.i64.wrap (x20 + 1)) fun x33 =>
  some (.inl (x27, x31, x33)))
noncomputable def esref10_words.j3 (x1 : List UInt8) (x15 : List (List UInt8)) (x19 : Int) (x20 : Int) (x36 : Bool) : Option (((List (List UInt8)) × Int × Int) ⊕ (List (List UInt8))) :=
  (if x36 then ((cut x1 x19 x20).bind fun x40 =>
  ((app 16 x15 [x40]).bind fun x42 =>
  (letV (IntKind.i64.wrap (x20 + 1)) fun x47 =>
  esref10_words.j2 x20 x42 x47))) else esref10_words.j2 x20 x15 x19)
noncomputable def esref10_words.l1 (x1 : List UInt8) : ((List (List UInt8)) × Int × Int) → Option (((List (List UInt8)) × Int × Int) ⊕ (List (List UInt8))) := fun (x15, x19, x20) =>
  (if (decide (x20 ≤ (x1.length : Int))) then (if (x20 == (x1.length : Int)) then esref10_words.j3 x1 x15 x19 x20 true else ((idx x1 x20).bind fun x49 =>
  esref10_words.j3 x1 x15 x19 x20 ((x49.toNat : Int) == 32))) else some (.inr x15))
noncomputable def esref10_words (x1 : List UInt8) : Option (List (List UInt8)) :=
  ((loopO (esref10_words.l1 x1) ([], 0, 0)).bind fun x50 => esref10_words.j1 x50)
/-! elasticstore/elasticstoreref10.number: function 53 -/
noncomputable def esref10_number.j1  (x13 : Int) : Option Int :=
  some x13
noncomputable def esref10_number.j2 (x1 : List UInt8) (x18 : Int) (x19 : Int) (x28 : Bool) : Option ((Int × Int) ⊕ (Int ⊕ Int)) :=
  (if x28 then some (.inr (.inr (-1))) else (letV (IntKind.i64.wrap (10 * x18)) fun x32 =>
  ((idx x1 x19).bind fun x33 =>
  (letV (IntKind.u8.wrap ((x33.toNat : Int) - 48)) fun x34 =>
  (letV (IntKind.i64.wrap (x32 + (IntKind.i64.wrap x34))) fun x35 =>
  (letV (IntKind.i64.wrap (x19 + 1)) fun x36 =>
  some (.inl (x35, x36))))))))
noncomputable def esref10_number.l1 (x1 : List UInt8) : (Int × Int) → Option ((Int × Int) ⊕ (Int ⊕ Int)) := fun (x18, x19) =>
  (if (decide (x19 < (x1.length : Int))) then ((idx x1 x19).bind fun x37 =>
  (if (decide ((x37.toNat : Int) < 48)) then esref10_number.j2 x1 x18 x19 true else ((idx x1 x19).bind fun x39 =>
  esref10_number.j2 x1 x18 x19 (decide (57 < (x39.toNat : Int)))))) else some (.inr (.inl x18)))
noncomputable def esref10_number.j3 (x1 : List UInt8) (x6 : Bool) : Option Int :=
  (if x6 then some (-1) else ((loopO (esref10_number.l1 x1) (0, 0)).bind fun b => match b with | .inl x40 => esref10_number.j1 x40 | .inr x41 => some x41))
noncomputable def esref10_number (x1 : List UInt8) : Option Int :=
  (if ((x1.length : Int) == 0) then esref10_number.j3 x1 true else (if (decide (4 < (x1.length : Int))) then esref10_number.j3 x1 true else (if (decide (1 < (x1.length : Int))) then ((idx x1 0).bind fun x45 =>
  esref10_number.j3 x1 ((x45.toNat : Int) == 48)) else esref10_number.j3 x1 false)))
/-! elasticstore/elasticstoreref10.parseRule: function 52 -/
noncomputable def esref10_parseRule.j1 (x1 : List (List UInt8)) (x31 : Bool) : Option (api_Rule × Bool) :=
  (if x31 then ((idx x1 1).bind fun x35 =>
  ((esref10_number x35).bind fun x38 =>
  some ((⟨4, 0, x38⟩ : api_Rule), true))) else some ((⟨0, 0, 0⟩ : api_Rule), false))
noncomputable def esref10_parseRule.j2 (x1 : List (List UInt8)) (x21 : Bool) : Option (api_Rule × Bool) :=
  (if x21 then ((idx x1 1).bind fun x25 =>
  ((esref10_number x25).bind fun x28 =>
  some ((⟨3, x28, 0⟩ : api_Rule), true))) else (if ((x1.length : Int) == 2) then ((idx x1 0).bind fun x41 =>
  (if (x41 == ([109, 97, 115, 107, 105, 110, 103] : List UInt8)) then ((idx x1 1).bind fun x45 =>
  ((esref10_number x45).bind fun x48 =>
  esref10_parseRule.j1 x1 (decide (0 ≤ x48)))) else esref10_parseRule.j1 x1 false)) else esref10_parseRule.j1 x1 false))
noncomputable def esref10_parseRule.j3 (x1 : List (List UInt8)) (x15 : Bool) : Option (api_Rule × Bool) :=
  (if x15 then some ((⟨2, 0, 0⟩ : api_Rule), true) else (if ((x1.length : Int) == 2) then ((idx x1 0).bind fun x50 =>
  (if (x50 == ([103, 114, 105, 100] : List UInt8)) then ((idx x1 1).bind fun x54 =>
  ((esref10_number x54).bind fun x57 =>
  esref10_parseRule.j2 x1 (decide (0 ≤ x57)))) else esref10_parseRule.j2 x1 false)) else esref10_parseRule.j2 x1 false))
noncomputable def esref10_parseRule.j4 (x1 : List (List UInt8)) (x9 : Bool) : Option (api_Rule × Bool) :=
  (if x9 then some ((⟨1, 0, 0⟩ : api_Rule), true) else (if ((x1.length : Int) == 1) then ((idx x1 0).bind fun x59 =>
  esref10_parseRule.j3 x1 (x59 == ([119, 101, 105, 103, 104, 116, 101, 100] : List UInt8))) else esref10_parseRule.j3 x1 false))
noncomputable def esref10_parseRule (x1 : List (List UInt8)) : Option (api_Rule × Bool) :=
  (if ((x1.length : Int) == 1) then ((idx x1 0).bind fun x63 =>
  esref10_parseRule.j4 x1 (x63 == ([109, 97, 106, 111, 114, 105, 116, 121] : List UInt8))) else esref10_parseRule.j4 x1 false)
/-! elasticstore/elasticstoreref10.form: function 27 -/
noncomputable def esref10_form.j1 (x5 : List (List UInt8)) (x36 : Int) (x62 : Bool) : Option (api_Change × Bool) :=
  (if x62 then ((idx x5 2).bind fun x66 =>
  ((esref10_number x66).bind fun x69 =>
  some ((⟨3, x36, x69, 0, (⟨0, 0, 0⟩ : api_Rule)⟩ : api_Change), true))) else some ((⟨0, 0, 0, 0, (⟨0, 0, 0⟩ : api_Rule)⟩ : api_Change), false))
noncomputable def esref10_form.j2 (x5 : List (List UInt8)) (x36 : Int) (x56 : Bool) : Option (api_Change × Bool) :=
  (if x56 then some ((⟨2, x36, 0, 0, (⟨0, 0, 0⟩ : api_Rule)⟩ : api_Change), true) else ((idx x5 0).bind fun x71 =>
  (if (x71 == ([119, 101, 105, 103, 104, 116] : List UInt8)) then (if ((x5.length : Int) == 3) then ((idx x5 2).bind fun x76 =>
  ((esref10_number x76).bind fun x79 =>
  esref10_form.j1 x5 x36 (decide (0 ≤ x79)))) else esref10_form.j1 x5 x36 false) else esref10_form.j1 x5 x36 false)))
noncomputable def esref10_form.j3 (x5 : List (List UInt8)) (x36 : Int) (x46 : Bool) : Option (api_Change × Bool) :=
  (if x46 then ((idx x5 3).bind fun x50 =>
  ((esref10_number x50).bind fun x53 =>
  some ((⟨1, x36, x53, 0, (⟨0, 0, 0⟩ : api_Rule)⟩ : api_Change), true))) else ((idx x5 0).bind fun x80 =>
  (if (x80 == ([114, 101, 109, 111, 118, 101] : List UInt8)) then esref10_form.j2 x5 x36 ((x5.length : Int) == 2) else esref10_form.j2 x5 x36 false)))
noncomputable def esref10_form.j4 (x5 : List (List UInt8)) (x36 : Int) (x40 : Bool) : Option (api_Change × Bool) :=
  (if x40 then some ((⟨1, x36, 1, 0, (⟨0, 0, 0⟩ : api_Rule)⟩ : api_Change), true) else ((idx x5 0).bind fun x84 =>
  (if (x84 == ([106, 111, 105, 110] : List UInt8)) then (if ((x5.length : Int) == 4) then ((idx x5 2).bind fun x89 =>
  (if (x89 == ([119, 101, 105, 103, 104, 116] : List UInt8)) then ((idx x5 3).bind fun x93 =>
  ((esref10_number x93).bind fun x96 =>
  esref10_form.j3 x5 x36 (decide (0 ≤ x96)))) else esref10_form.j3 x5 x36 false)) else esref10_form.j3 x5 x36 false) else esref10_form.j3 x5 x36 false)))
noncomputable def esref10_form.j5 (x5 : List (List UInt8)) (x28 : Bool) : Option (api_Change × Bool) :=
  (if x28 then some ((⟨0, 0, 0, 0, (⟨0, 0, 0⟩ : api_Rule)⟩ : api_Change), false) else ((idx x5 1).bind fun x33 =>
  ((esref10_number x33).bind fun x36 =>
  ((idx x5 0).bind fun x97 =>
  (if (x97 == ([106, 111, 105, 110] : List UInt8)) then esref10_form.j4 x5 x36 ((x5.length : Int) == 2) else esref10_form.j4 x5 x36 false)))))
noncomputable def esref10_form (x1 : List UInt8) : Option (api_Change × Bool) :=
  ((esref10_words x1).bind fun x5 =>
  ((idx x5 0).bind fun x11 =>
  (if (x11 == ([114, 117, 108, 101] : List UInt8)) then ((cut x5 1 (x5.length : Int)).bind fun x16 =>
  ((esref10_parseRule x16).bind fun (x19, x20) =>
  some ((⟨4, 0, 0, 0, x19⟩ : api_Change), x20))) else (if (decide ((x5.length : Int) < 2)) then esref10_form.j5 x5 true else ((idx x5 1).bind fun x102 =>
  ((esref10_number x102).bind fun x105 =>
  esref10_form.j5 x5 (decide (x105 < 0))))))))
/-! elasticstore/elasticstoreref10.versioned: function 29 -/
noncomputable def esref10_versioned.j1 (x1 : api_Change) (x10 : Int) : Option api_Change :=
  some (⟨x1.Kind, x1.Server, x1.Weight, x10, (⟨x1.Rule.Kind, x1.Rule.Columns, x1.Rule.Faulty⟩ : api_Rule)⟩ : api_Change)
noncomputable def esref10_versioned.j2 (x1 : api_Change) (x15 : Bool) : Option api_Change :=
  (if x15 then esref10_versioned.j1 x1 1 else esref10_versioned.j1 x1 x1.Version)
noncomputable def esref10_versioned (x1 : api_Change) : Option api_Change :=
  (if (x1.Kind == 3) then esref10_versioned.j2 x1 (x1.Version == 0) else (if (x1.Kind == 4) then esref10_versioned.j2 x1 (x1.Version == 0) else esref10_versioned.j2 x1 false))
/-! elasticstore/elasticstoreref06.Server: function 34 -/
noncomputable def esref06_Server.j1  (x5 : Bool) : Option Bool :=
  some x5
noncomputable def esref06_Server (x1 : Int) : Option Bool :=
  (if (decide (1 ≤ x1)) then esref06_Server.j1 (decide (x1 ≤ 12)) else esref06_Server.j1 false)
/-! elasticstore/elasticstoreref06.ValidateRule: function 35 -/
noncomputable def esref06_ValidateRule.j1  (x22 : Bool) : Option Int :=
  (if x22 then some 9 else some 0)
noncomputable def esref06_ValidateRule.j2 (x1 : api_Rule) (x16 : Bool) : Option Int :=
  (if x16 then some 9 else (if (x1.Kind == 4) then (if (decide (x1.Faulty < 0)) then esref06_ValidateRule.j1 true else (if (decide (12 < x1.Faulty)) then esref06_ValidateRule.j1 true else (if (x1.Kind != 4) then esref06_ValidateRule.j1 (x1.Faulty != 0) else esref06_ValidateRule.j1 false))) else (if (x1.Kind != 4) then esref06_ValidateRule.j1 (x1.Faulty != 0) else esref06_ValidateRule.j1 false)))
noncomputable def esref06_ValidateRule.j3 (x1 : api_Rule) (x10 : Bool) : Option Int :=
  (if x10 then some 10 else (if (x1.Kind == 3) then ((esref06_Server x1.Columns).bind fun x42 =>
  (if (!x42) then esref06_ValidateRule.j2 x1 true else (if (x1.Kind != 3) then esref06_ValidateRule.j2 x1 (x1.Columns != 0) else esref06_ValidateRule.j2 x1 false))) else (if (x1.Kind != 3) then esref06_ValidateRule.j2 x1 (x1.Columns != 0) else esref06_ValidateRule.j2 x1 false)))
noncomputable def esref06_ValidateRule (x1 : api_Rule) : Option Int :=
  (if (decide (x1.Kind < 1)) then esref06_ValidateRule.j3 x1 true else esref06_ValidateRule.j3 x1 (decide (4 < x1.Kind)))
/-! elasticstore/elasticstoreref06.ValidateChange: function 28 -/
noncomputable def esref06_ValidateChange.j1 (x1 : api_Change) (x12 : Bool) (x35 : Bool) : Option Int :=
  (if x35 then some 9 else (if x12 then ((esref06_ValidateRule x1.Rule).bind fun x45 =>
  some x45) else (if (!decide ((⟨x1.Rule.Kind, x1.Rule.Columns, x1.Rule.Faulty⟩ : api_Rule) = (⟨0, 0, 0⟩ : api_Rule))) then some 2 else some 0)))
noncomputable def esref06_ValidateChange.j2 (x1 : api_Change) (x9 : Bool) (x10 : Bool) (x11 : Bool) (x12 : Bool) (x29 : Bool) : Option Int :=
  (if x29 then some 9 else (if x11 then (if (decide (x1.Version < 1)) then esref06_ValidateChange.j1 x1 x12 true else (if (decide (1000 < x1.Version)) then esref06_ValidateChange.j1 x1 x12 true else (if x9 then esref06_ValidateChange.j1 x1 x12 (x1.Version != 0) else (if x10 then esref06_ValidateChange.j1 x1 x12 (x1.Version != 0) else esref06_ValidateChange.j1 x1 x12 false)))) else (if x12 then (if (decide (x1.Version < 1)) then esref06_ValidateChange.j1 x1 x12 true else (if (decide (1000 < x1.Version)) then esref06_ValidateChange.j1 x1 x12 true else (if x9 then esref06_ValidateChange.j1 x1 x12 (x1.Version != 0) else (if x10 then esref06_ValidateChange.j1 x1 x12 (x1.Version != 0) else esref06_ValidateChange.j1 x1 x12 false)))) else (if x9 then esref06_ValidateChange.j1 x1 x12 (x1.Version != 0) else (if x10 then esref06_ValidateChange.j1 x1 x12 (x1.Version != 0) else esref06_ValidateChange.j1 x1 x12 false)))))
noncomputable def esref06_ValidateChange.j3 (x1 : api_Change) (x9 : Bool) (x10 : Bool) (x11 : Bool) (x12 : Bool) (x23 : Bool) : Option Int :=
  (if x23 then some 9 else (if x9 then (if (decide (x1.Weight < 1)) then esref06_ValidateChange.j2 x1 x9 x10 x11 x12 true else (if (decide (9 < x1.Weight)) then esref06_ValidateChange.j2 x1 x9 x10 x11 x12 true else (if x10 then esref06_ValidateChange.j2 x1 x9 x10 x11 x12 (x1.Weight != 0) else (if x12 then esref06_ValidateChange.j2 x1 x9 x10 x11 x12 (x1.Weight != 0) else esref06_ValidateChange.j2 x1 x9 x10 x11 x12 false)))) else (if x11 then (if (decide (x1.Weight < 1)) then esref06_ValidateChange.j2 x1 x9 x10 x11 x12 true else (if (decide (9 < x1.Weight)) then esref06_ValidateChange.j2 x1 x9 x10 x11 x12 true else (if x10 then esref06_ValidateChange.j2 x1 x9 x10 x11 x12 (x1.Weight != 0) else (if x12 then esref06_ValidateChange.j2 x1 x9 x10 x11 x12 (x1.Weight != 0) else esref06_ValidateChange.j2 x1 x9 x10 x11 x12 false)))) else (if x10 then esref06_ValidateChange.j2 x1 x9 x10 x11 x12 (x1.Weight != 0) else (if x12 then esref06_ValidateChange.j2 x1 x9 x10 x11 x12 (x1.Weight != 0) else esref06_ValidateChange.j2 x1 x9 x10 x11 x12 false)))))
noncomputable def esref06_ValidateChange.j4 (x1 : api_Change) (x9 : Bool) (x10 : Bool) (x11 : Bool) (x12 : Bool) (x17 : Bool) : Option Int :=
  (if x17 then some 10 else (if (!x12) then ((esref06_Server x1.Server).bind fun x99 =>
  (if (!x99) then esref06_ValidateChange.j3 x1 x9 x10 x11 x12 true else (if x12 then esref06_ValidateChange.j3 x1 x9 x10 x11 x12 (x1.Server != 0) else esref06_ValidateChange.j3 x1 x9 x10 x11 x12 false))) else (if x12 then esref06_ValidateChange.j3 x1 x9 x10 x11 x12 (x1.Server != 0) else esref06_ValidateChange.j3 x1 x9 x10 x11 x12 false)))
noncomputable def esref06_ValidateChange.j5 (x1 : api_Change) (x9 : Bool) (x10 : Bool) (x11 : Bool) (x12 : Bool) : Option Int :=
  (if (!x9) then (if (!x10) then (if (!x11) then esref06_ValidateChange.j4 x1 x9 x10 x11 x12 (!x12) else esref06_ValidateChange.j4 x1 x9 x10 x11 x12 false) else esref06_ValidateChange.j4 x1 x9 x10 x11 x12 false) else esref06_ValidateChange.j4 x1 x9 x10 x11 x12 false)
noncomputable def esref06_ValidateChange (x1 : api_Change) : Option Int :=
  esref06_ValidateChange.j5 x1 (x1.Kind == 1) (x1.Kind == 2) (x1.Kind == 3) (x1.Kind == 4)
/-! elasticstore/elasticstoreref10.ParseCommand: function 10 -/
noncomputable def esref10_ParseCommand (x1 : List UInt8) : Option (api_Change × Int) :=
  ((esref10_form x1).bind fun (x5, x6) =>
  (if (!x6) then some ((⟨0, 0, 0, 0, (⟨0, 0, 0⟩ : api_Rule)⟩ : api_Change), 11) else ((esref10_versioned x5).bind fun x16 =>
  ((esref06_ValidateChange x16).bind fun x19 =>
  (if (x19 != 0) then some ((⟨0, 0, 0, 0, (⟨0, 0, 0⟩ : api_Rule)⟩ : api_Change), x19) else some (x5, 0))))))
/-! elasticstore/elasticstorelaw08.CommandParse: function 3 -/
noncomputable def eslaw08_CommandParse.j1  (x22 : Bool) : Option Bool :=
  some x22
noncomputable def eslaw08_CommandParse (x1 : List UInt8) : Option Bool :=
  (if (decide (300 < (x1.length : Int))) then ((eslaw08_awake).bind fun x7 =>
  some x7) else ((command_Parse x1).bind fun (x9, x10) =>
  ((esref10_ParseCommand x1).bind fun (x15, x16) =>
  (if (decide ((⟨x9.Kind, x9.Server, x9.Weight, x9.Version, (⟨x9.Rule.Kind, x9.Rule.Columns, x9.Rule.Faulty⟩ : api_Rule)⟩ : api_Change) = (⟨x15.Kind, x15.Server, x15.Weight, x15.Version, (⟨x15.Rule.Kind, x15.Rule.Columns, x15.Rule.Faulty⟩ : api_Rule)⟩ : api_Change))) then (if (x10 == x16) then ((eslaw08_awake).bind fun x26 =>
  eslaw08_CommandParse.j1 x26) else eslaw08_CommandParse.j1 false) else eslaw08_CommandParse.j1 false))))
/-! elasticstore/elasticstoreref10.decimal: function 31 -/
noncomputable def esref10_decimal.j1  (x8 : List UInt8) : Option (List UInt8) :=
  some x8
noncomputable def esref10_decimal.l1  : (Int × (List UInt8)) → Option ((Int × (List UInt8)) ⊕ (List UInt8)) := fun (x12, x13) =>
  (if (decide (10 ≤ x12)) then (letV (IntKind.i64.wrap (Int.tdiv x12 10)) fun x19 =>
  (letV (IntKind.i64.wrap (48 + (Int.tmod x19 10))) fun x20 =>
  ((cat (bts [(IntKind.u8.wrap x20)]) x13).bind fun x22 =>
  some (.inl (x19, x22))))) else some (.inr x13))
noncomputable def esref10_decimal (x1 : Int) : Option (List UInt8) :=
  (letV (IntKind.i64.wrap (48 + (Int.tmod x1 10))) fun x4 =>
  ((loopO esref10_decimal.l1 (x1, (bts [(IntKind.u8.wrap x4)]))).bind fun x23 => esref10_decimal.j1 x23))
/-! elasticstore/elasticstoreref10.FormatCommand: function 12 -/
noncomputable def esref10_FormatCommand (x1 : api_Change) : Option (List UInt8) :=
  ((esref10_versioned x1).bind fun x9 =>
  ((esref06_ValidateChange x9).bind fun x12 =>
  (if (x12 != 0) then some ([] : List UInt8) else (if (x1.Kind == 1) then ((esref10_decimal x1.Server).bind fun x21 =>
  ((cat ([106, 111, 105, 110, 32] : List UInt8) x21).bind fun x22 =>
  ((cat x22 ([32, 119, 101, 105, 103, 104, 116, 32] : List UInt8)).bind fun x23 =>
  ((esref10_decimal x1.Weight).bind fun x25 =>
  ((cat x23 x25).bind fun x26 =>
  some x26))))) else (if (x1.Kind == 2) then ((esref10_decimal x1.Server).bind fun x50 =>
  ((cat ([114, 101, 109, 111, 118, 101, 32] : List UInt8) x50).bind fun x51 =>
  some x51)) else (if (x1.Kind == 3) then ((esref10_decimal x1.Server).bind fun x57 =>
  ((cat ([119, 101, 105, 103, 104, 116, 32] : List UInt8) x57).bind fun x58 =>
  ((cat x58 ([32] : List UInt8)).bind fun x59 =>
  ((esref10_decimal x1.Weight).bind fun x61 =>
  ((cat x59 x61).bind fun x62 =>
  some x62))))) else (if (x1.Rule.Kind == 1) then some ([114, 117, 108, 101, 32, 109, 97, 106, 111, 114, 105, 116, 121] : List UInt8) else (if (x1.Rule.Kind == 2) then some ([114, 117, 108, 101, 32, 119, 101, 105, 103, 104, 116, 101, 100] : List UInt8) else (if (x1.Rule.Kind == 3) then ((esref10_decimal x1.Rule.Columns).bind fun x94 =>
  ((cat ([114, 117, 108, 101, 32, 103, 114, 105, 100, 32] : List UInt8) x94).bind fun x95 =>
  some x95)) else ((esref10_decimal x1.Rule.Faulty).bind fun x98 =>
  ((cat ([114, 117, 108, 101, 32, 109, 97, 115, 107, 105, 110, 103, 32] : List UInt8) x98).bind fun x99 =>
  some x99)))))))))))
/-! elasticstore/elasticstorelaw08.CommandFormat: function 4 -/
noncomputable def eslaw08_CommandFormat.j1  (x28 : Bool) : Option Bool :=
  some x28
noncomputable def eslaw08_CommandFormat (x1 : api_Change) : Option Bool :=
  ((command_Format (⟨x1.Kind, x1.Server, x1.Weight, x1.Version, (⟨x1.Rule.Kind, x1.Rule.Columns, x1.Rule.Faulty⟩ : api_Rule)⟩ : api_Change)).bind fun x8 =>
  ((esref10_FormatCommand (⟨x1.Kind, x1.Server, x1.Weight, x1.Version, (⟨x1.Rule.Kind, x1.Rule.Columns, x1.Rule.Faulty⟩ : api_Rule)⟩ : api_Change)).bind fun x11 =>
  (if (x8 != x11) then some false else (if (x8 == ([] : List UInt8)) then ((eslaw08_awake).bind fun x18 =>
  some x18) else ((command_Parse x8).bind fun (x20, x21) =>
  (if (x21 == 0) then (if (decide ((⟨x20.Kind, x20.Server, x20.Weight, x20.Version, (⟨x20.Rule.Kind, x20.Rule.Columns, x20.Rule.Faulty⟩ : api_Rule)⟩ : api_Change) = (⟨x1.Kind, x1.Server, x1.Weight, 0, (⟨x1.Rule.Kind, x1.Rule.Columns, x1.Rule.Faulty⟩ : api_Rule)⟩ : api_Change))) then ((command_Format (⟨x20.Kind, x20.Server, x20.Weight, x20.Version, (⟨x20.Rule.Kind, x20.Rule.Columns, x20.Rule.Faulty⟩ : api_Rule)⟩ : api_Change)).bind fun x32 =>
  (if (x32 == x8) then ((eslaw08_awake).bind fun x34 =>
  eslaw08_CommandFormat.j1 x34) else eslaw08_CommandFormat.j1 false)) else eslaw08_CommandFormat.j1 false) else eslaw08_CommandFormat.j1 false))))))
/-! elasticstore/elasticstoreref10.servers: function 32 -/
noncomputable def esref10_servers.j1   : Option Bool :=
  some true
noncomputable def esref10_servers.l1 (x1 : List Int) : Int → Option ((Int) ⊕ (Unit ⊕ Bool)) := fun x11 =>
  (if (decide (x11 < (x1.length : Int))) then ((idx x1 x11).bind fun x18 =>
  ((esref06_Server x18).bind fun x21 =>
  (if (!x21) then some (.inr (.inr false)) else (letV (IntKind.i64.wrap (x11 + 1)) fun x24 =>
  some (.inl x24))))) else some (.inr (.inl ())))
noncomputable def esref10_servers (x1 : List Int) : Option Bool :=
  ((loopO (esref10_servers.l1 x1) 0).bind fun b => match b with | .inl _ => esref10_servers.j1 | .inr x25 => some x25)
/-! elasticstore/elasticstoreref10.Ascending: function 33 -/
noncomputable def esref10_Ascending.j1   : Option Bool :=
  some true
noncomputable def esref10_Ascending.l1 (x1 : List Int) : Int → Option ((Int) ⊕ (Unit ⊕ Bool)) := fun x11 =>
  (if (decide (x11 < (x1.length : Int))) then (letV (IntKind.i64.wrap (x11 - 1)) fun x18 =>
  ((idx x1 x18).bind fun x19 =>
  ((idx x1 x11).bind fun x22 =>
  (if (decide (x22 ≤ x19)) then some (.inr (.inr false)) else (letV (IntKind.i64.wrap (x11 + 1)) fun x53 =>
  some (.inl x53)))))) else some (.inr (.inl ())))
noncomputable def esref10_Ascending (x1 : List Int) : Option Bool :=
  ((loopO (esref10_Ascending.l1 x1) 1).bind fun b => match b with | .inl _ => esref10_Ascending.j1 | .inr x54 => some x54)
/-! elasticstore/elasticstoreref10.ValidateSummary: function 13 -/
noncomputable def esref10_ValidateSummary.j1  (x29 : Bool) : Option Int :=
  (if x29 then some 9 else some 0)
noncomputable def esref10_ValidateSummary.j2 (x1 : api_Summary)  : Option Int :=
  (if (decide (x1.Version < 0)) then esref10_ValidateSummary.j1 true else (if (decide (x1.Admin < 0)) then esref10_ValidateSummary.j1 true else (if (decide (x1.Number < 0)) then esref10_ValidateSummary.j1 true else (if (decide ((⟨x1.Rule.Kind, x1.Rule.Columns, x1.Rule.Faulty⟩ : api_Rule) = (⟨0, 0, 0⟩ : api_Rule))) then (if (x1.Version != 0) then esref10_ValidateSummary.j1 true else (if (x1.Admin != 0) then esref10_ValidateSummary.j1 true else esref10_ValidateSummary.j1 (x1.Number != 0))) else esref10_ValidateSummary.j1 false))))
noncomputable def esref10_ValidateSummary.j3 (x1 : api_Summary)  : Option Int :=
  (if (!decide ((⟨x1.Rule.Kind, x1.Rule.Columns, x1.Rule.Faulty⟩ : api_Rule) = (⟨0, 0, 0⟩ : api_Rule))) then ((esref06_ValidateRule x1.Rule).bind fun x58 =>
  (if (x58 != 0) then some x58 else esref10_ValidateSummary.j2 x1)) else esref10_ValidateSummary.j2 x1)
noncomputable def esref10_ValidateSummary.j4 (x64 : Int) (x92 : Bool) : Option ((Int) ⊕ (Unit ⊕ Int)) :=
  (if x92 then some (.inr (.inr 7)) else (letV (IntKind.i64.wrap (x64 + 1)) fun x96 =>
  some (.inl x96)))
noncomputable def esref10_ValidateSummary.j5 (x1 : api_Summary) (x64 : Int) (x77 : api_WeightEntry) (x86 : Bool) : Option ((Int) ⊕ (Unit ⊕ Int)) :=
  (if x86 then some (.inr (.inr 9)) else (if (decide (0 < x64)) then (letV (IntKind.i64.wrap (x64 - 1)) fun x101 =>
  ((idx x1.Weights x101).bind fun x102 =>
  esref10_ValidateSummary.j4 x64 (decide (x77.Server ≤ x102.Server)))) else esref10_ValidateSummary.j4 x64 false))
noncomputable def esref10_ValidateSummary.l1 (x1 : api_Summary) : Int → Option ((Int) ⊕ (Unit ⊕ Int)) := fun x64 =>
  (if (decide (x64 < ((x1.Weights).length : Int))) then ((idx x1.Weights x64).bind fun x77 =>
  ((esref06_Server x77.Server).bind fun x195 =>
  (if (!x195) then esref10_ValidateSummary.j5 x1 x64 x77 true else (if (decide (x77.Weight < 1)) then esref10_ValidateSummary.j5 x1 x64 x77 true else (if (decide (9 < x77.Weight)) then esref10_ValidateSummary.j5 x1 x64 x77 true else (if (decide (x77.Version < 0)) then esref10_ValidateSummary.j5 x1 x64 x77 true else (if (decide (x77.Admin < 0)) then esref10_ValidateSummary.j5 x1 x64 x77 true else esref10_ValidateSummary.j5 x1 x64 x77 (decide (x77.Number < 0))))))))) else some (.inr (.inl ())))
noncomputable def esref10_ValidateSummary.j6 (x1 : api_Summary) (x16 : Bool) : Option Int :=
  (if x16 then some 7 else ((loopO (esref10_ValidateSummary.l1 x1) 0).bind fun b => match b with | .inl _ => esref10_ValidateSummary.j3 x1 | .inr x206 => some x206))
noncomputable def esref10_ValidateSummary.j7 (x1 : api_Summary) (x10 : Bool) : Option Int :=
  (if x10 then some 9 else ((esref10_Ascending x1.Joined).bind fun x210 =>
  (if (!x210) then esref10_ValidateSummary.j6 x1 true else ((esref10_Ascending x1.Removed).bind fun x215 =>
  esref10_ValidateSummary.j6 x1 (!x215)))))
noncomputable def esref10_ValidateSummary (x1 : api_Summary) : Option Int :=
  ((esref10_servers x1.Joined).bind fun x219 =>
  (if (!x219) then esref10_ValidateSummary.j7 x1 true else ((esref10_servers x1.Removed).bind fun x224 =>
  esref10_ValidateSummary.j7 x1 (!x224))))
/-! elasticstore/elasticstoreref06.In: function 59 -/
noncomputable def esref06_In.j1   : Option Bool :=
  some false
noncomputable def esref06_In.l1 (x1 : List Int) (x4 : Int) : Int → Option ((Int) ⊕ (Unit ⊕ Bool)) := fun x12 =>
  (if (decide (x12 < (x1.length : Int))) then ((idx x1 x12).bind fun x19 =>
  (if (x19 == x4) then some (.inr (.inr true)) else (letV (IntKind.i64.wrap (x12 + 1)) fun x24 =>
  some (.inl x24)))) else some (.inr (.inl ())))
noncomputable def esref06_In (x1 : List Int) (x4 : Int) : Option Bool :=
  ((loopO (esref06_In.l1 x1 x4) 0).bind fun b => match b with | .inl _ => esref06_In.j1 | .inr x25 => some x25)
/-! elasticstore/elasticstoreref10.joins: function 60 -/
noncomputable def esref10_joins.j1   : Option Bool :=
  some false
noncomputable def esref10_joins.j2 (x12 : Int) (x20 : Bool) : Option ((Int) ⊕ (Unit ⊕ Bool)) :=
  (if x20 then some (.inr (.inr true)) else (letV (IntKind.i64.wrap (x12 + 1)) fun x24 =>
  some (.inl x24)))
noncomputable def esref10_joins.l1 (x1 : List api_Change) (x4 : Int) : Int → Option ((Int) ⊕ (Unit ⊕ Bool)) := fun x12 =>
  (if (decide (x12 < (x1.length : Int))) then ((idx x1 x12).bind fun x25 =>
  (if (x25.Kind == 1) then ((idx x1 x12).bind fun x30 =>
  esref10_joins.j2 x12 (x30.Server == x4)) else esref10_joins.j2 x12 false)) else some (.inr (.inl ())))
noncomputable def esref10_joins (x1 : List api_Change) (x4 : Int) : Option Bool :=
  ((loopO (esref10_joins.l1 x1 x4) 0).bind fun b => match b with | .inl _ => esref10_joins.j1 | .inr x34 => some x34)
/-! elasticstore/elasticstoreref10.entryVersion: function 61 -/
noncomputable def esref10_entryVersion.j1   : Option Int :=
  some 0
noncomputable def esref10_entryVersion.l1 (x1 : api_Summary) (x5 : Int) : Int → Option ((Int) ⊕ (Unit ⊕ Int)) := fun x14 =>
  (if (decide (x14 < ((x1.Weights).length : Int))) then ((idx x1.Weights x14).bind fun x27 =>
  (if (x27.Server == x5) then ((idx x1.Weights x14).bind fun x36 =>
  some (.inr (.inr x36.Version))) else (letV (IntKind.i64.wrap (x14 + 1)) fun x40 =>
  some (.inl x40)))) else some (.inr (.inl ())))
noncomputable def esref10_entryVersion (x1 : api_Summary) (x5 : Int) : Option Int :=
  ((loopO (esref10_entryVersion.l1 x1 x5) 0).bind fun b => match b with | .inl _ => esref10_entryVersion.j1 | .inr x41 => some x41)
/-! elasticstore/elasticstoreref10.placed: function 38 -/
noncomputable def esref10_placed.j1 (x1 : api_Change) (x66 : api_Change) (x69 : Int) : Option (api_Change × Int) :=
  some ((⟨x1.Kind, x1.Server, x1.Weight, x69, (⟨x1.Rule.Kind, x1.Rule.Columns, x1.Rule.Faulty⟩ : api_Rule)⟩ : api_Change), 0)
noncomputable def esref10_placed.j2 (x1 : api_Change) (x78 : Bool) : Option (api_Change × Int) :=
  (if x78 then some ((⟨x1.Kind, x1.Server, x1.Weight, x1.Version, (⟨x1.Rule.Kind, x1.Rule.Columns, x1.Rule.Faulty⟩ : api_Rule)⟩ : api_Change), 5) else some ((⟨x1.Kind, x1.Server, x1.Weight, x1.Version, (⟨x1.Rule.Kind, x1.Rule.Columns, x1.Rule.Faulty⟩ : api_Rule)⟩ : api_Change), 0))
noncomputable def esref10_placed.j3 (x1 : api_Change) (x8 : api_Summary) (x22 : api_Change) (x103 : Bool) : Option (api_Change × Int) :=
  (if x103 then some ((⟨x1.Kind, x1.Server, x1.Weight, x1.Version, (⟨x1.Rule.Kind, x1.Rule.Columns, x1.Rule.Faulty⟩ : api_Rule)⟩ : api_Change), 9) else (if (x1.Kind == 3) then ((esref10_entryVersion x8 x1.Server).bind fun x109 =>
  (letV (IntKind.i64.wrap (x109 + 1)) fun x110 =>
  esref10_placed.j1 x1 x22 x110)) else esref10_placed.j1 x1 x22 x1.Version))
noncomputable def esref10_placed.j4 (x1 : api_Change) (x8 : api_Summary) (x22 : api_Change) (x96 : Bool) : Option (api_Change × Int) :=
  (if x96 then some ((⟨x1.Kind, x1.Server, x1.Weight, x1.Version, (⟨x1.Rule.Kind, x1.Rule.Columns, x1.Rule.Faulty⟩ : api_Rule)⟩ : api_Change), 6) else (if (x1.Kind == 3) then ((esref10_entryVersion x8 x1.Server).bind fun x112 =>
  esref10_placed.j3 x1 x8 x22 (decide (1000 ≤ x112))) else esref10_placed.j3 x1 x8 x22 false))
noncomputable def esref10_placed.j5 (x1 : api_Change) (x5 : List api_Change) (x8 : api_Summary) (x22 : api_Change) : Option (api_Change × Int) :=
  ((esref06_In x8.Joined x1.Server).bind fun x30 =>
  ((esref06_In x8.Removed x1.Server).bind fun x34 =>
  (if (x1.Kind == 1) then (if x30 then esref10_placed.j2 x1 true else esref10_placed.j2 x1 x34) else (if (x1.Kind == 4) then (if (decide (1000 ≤ x8.Version)) then some ((⟨x1.Kind, x1.Server, x1.Weight, x1.Version, (⟨x1.Rule.Kind, x1.Rule.Columns, x1.Rule.Faulty⟩ : api_Rule)⟩ : api_Change), 9) else (letV (IntKind.i64.wrap (x8.Version + 1)) fun x92 =>
  esref10_placed.j1 x1 x22 x92)) else (if x30 then (if (!(!x34)) then ((esref10_joins x5 x1.Server).bind fun x115 =>
  esref10_placed.j4 x1 x8 x22 (!x115)) else esref10_placed.j4 x1 x8 x22 false) else ((esref10_joins x5 x1.Server).bind fun x116 =>
  esref10_placed.j4 x1 x8 x22 (!x116)))))))
noncomputable def esref10_placed.j6 (x1 : api_Change) (x119 : Int) (x120 : api_Change) (x130 : Bool) : Option ((Int × api_Change) ⊕ (api_Change ⊕ (api_Change × Int))) :=
  (if x130 then some (.inr (.inr ((⟨x1.Kind, x1.Server, x1.Weight, x1.Version, (⟨x1.Rule.Kind, x1.Rule.Columns, x1.Rule.Faulty⟩ : api_Rule)⟩ : api_Change), 5))) else (letV (IntKind.i64.wrap (x119 + 1)) fun x134 =>
  some (.inl (x134, x120))))
noncomputable def esref10_placed.l1 (x1 : api_Change) (x5 : List api_Change) : (Int × api_Change) → Option ((Int × api_Change) ⊕ (api_Change ⊕ (api_Change × Int))) := fun (x119, x120) =>
  (if (decide (x119 < (x5.length : Int))) then ((idx x5 x119).bind fun x135 =>
  (if (x135.Kind == x1.Kind) then ((idx x5 x119).bind fun x140 =>
  esref10_placed.j6 x1 x119 x120 (x140.Server == x1.Server)) else esref10_placed.j6 x1 x119 x120 false)) else some (.inr (.inl x120)))
noncomputable def esref10_placed (x1 : api_Change) (x5 : List api_Change) (x8 : api_Summary) : Option (api_Change × Int) :=
  (if (decide (6 ≤ (x5.length : Int))) then some ((⟨x1.Kind, x1.Server, x1.Weight, x1.Version, (⟨x1.Rule.Kind, x1.Rule.Columns, x1.Rule.Faulty⟩ : api_Rule)⟩ : api_Change), 3) else ((loopO (esref10_placed.l1 x1 x5) (0, (⟨0, 0, 0, 0, (⟨0, 0, 0⟩ : api_Rule)⟩ : api_Change))).bind fun b => match b with | .inl x250 => esref10_placed.j5 x1 x5 x8 x250 | .inr (x251, x252) => some (x251, x252)))
/-! elasticstore/elasticstoreref10.CompileCommands: function 15 -/
noncomputable def esref10_CompileCommands.j1  (x12 : List api_Change) : Option ((List api_Change) × Int × Int) :=
  (if ((x12.length : Int) == 0) then some ([], 0, 2) else some (x12, 0, 0))
noncomputable def esref10_CompileCommands.j2 (x30 : Int) (x37 : List api_Change) (x41 : Int) (x42 : Int) : Option (((List api_Change) × Int × Int × Int) ⊕ ((List api_Change) ⊕ ((List api_Change) × Int × Int))) :=
  (letV (IntKind.i64.wrap (x30 + 1)) fun x44 =>
  some (.inl (x37, x41, x42, x44)))
noncomputable def esref10_CompileCommands.j3 (x2 : api_Summary) (x24 : List api_Change) (x30 : Int) (x52 : List UInt8) (x54 : Int) (x56 : Int) (x60 : Bool) : Option (((List api_Change) × Int × Int × Int) ⊕ ((List api_Change) ⊕ ((List api_Change) × Int × Int))) :=
  (if x60 then esref10_CompileCommands.j2 x30 x24 x54 x56 else ((esref10_ParseCommand x52).bind fun (x64, x65) =>
  (if (x65 != 0) then some (.inr (.inr ([], x56, x65))) else ((esref10_placed x64 x24 x2).bind fun (x74, x75) =>
  (if (x75 != 0) then some (.inr (.inr ([], x56, x75))) else ((app 56 x24 [x74]).bind fun x83 =>
  esref10_CompileCommands.j2 x30 x83 x54 x56))))))
noncomputable def esref10_CompileCommands.j4 (x1 : List UInt8) (x2 : api_Summary) (x24 : List api_Change) (x28 : Int) (x29 : Int) (x30 : Int) (x48 : Bool) : Option (((List api_Change) × Int × Int × Int) ⊕ ((List api_Change) ⊕ ((List api_Change) × Int × Int))) :=
  (if x48 then esref10_CompileCommands.j2 x30 x24 x28 x29 else ((cut x1 x28 x30).bind fun x52 =>
  (letV (IntKind.i64.wrap (x30 + 1)) fun x54 =>
  (letV (IntKind.i64.wrap (x29 + 1)) fun x56 =>
  (if (x52 == ([] : List UInt8)) then esref10_CompileCommands.j3 x2 x24 x30 x52 x54 x56 true else ((idx x52 0).bind fun x89 =>
  esref10_CompileCommands.j3 x2 x24 x30 x52 x54 x56 ((x89.toNat : Int) == 35)))))))
noncomputable def esref10_CompileCommands.l1 (x1 : List UInt8) (x2 : api_Summary) : ((List api_Change) × Int × Int × Int) → Option (((List api_Change) × Int × Int × Int) ⊕ ((List api_Change) ⊕ ((List api_Change) × Int × Int))) := fun (x24, x28, x29, x30) =>
  (if (decide (x30 ≤ (x1.length : Int))) then (if (decide (x30 < (x1.length : Int))) then ((idx x1 x30).bind fun x91 =>
  esref10_CompileCommands.j4 x1 x2 x24 x28 x29 x30 ((x91.toNat : Int) != 10)) else esref10_CompileCommands.j4 x1 x2 x24 x28 x29 x30 false) else some (.inr (.inl x24)))
noncomputable def esref10_CompileCommands (x1 : List UInt8) (x2 : api_Summary) : Option ((List api_Change) × Int × Int) :=
  ((loopO (esref10_CompileCommands.l1 x1 x2) ([], 0, 0, 0)).bind fun b => match b with | .inl x92 => esref10_CompileCommands.j1 x92 | .inr (x93, x94, x95) => some (x93, x94, x95))
/-! elasticstore/elasticstorelaw08.same: function 16 -/
noncomputable def eslaw08_same.j1   : Option Bool :=
  some true
noncomputable def eslaw08_same.l1 (x1 : List api_Change) (x4 : List api_Change) : Int → Option ((Int) ⊕ (Unit ⊕ Bool)) := fun x18 =>
  (if (decide (x18 < (x1.length : Int))) then ((idx x1 x18).bind fun x25 =>
  ((idx x4 x18).bind fun x30 =>
  (if (!decide ((⟨x25.Kind, x25.Server, x25.Weight, x25.Version, (⟨x25.Rule.Kind, x25.Rule.Columns, x25.Rule.Faulty⟩ : api_Rule)⟩ : api_Change) = (⟨x30.Kind, x30.Server, x30.Weight, x30.Version, (⟨x30.Rule.Kind, x30.Rule.Columns, x30.Rule.Faulty⟩ : api_Rule)⟩ : api_Change))) then some (.inr (.inr false)) else (letV (IntKind.i64.wrap (x18 + 1)) fun x71 =>
  some (.inl x71))))) else some (.inr (.inl ())))
noncomputable def eslaw08_same (x1 : List api_Change) (x4 : List api_Change) : Option Bool :=
  (if ((x1.length : Int) != (x4.length : Int)) then some false else ((loopO (eslaw08_same.l1 x1 x4) 0).bind fun b => match b with | .inl _ => eslaw08_same.j1 | .inr x72 => some x72))
/-! elasticstore/elasticstorelaw08.CommandCompile: function 5 -/
noncomputable def eslaw08_CommandCompile.j1  (x32 : Bool) : Option Bool :=
  some x32
noncomputable def eslaw08_CommandCompile.j2 (x1 : List UInt8) (x2 : api_Summary) (x11 : Bool) : Option Bool :=
  (if x11 then ((eslaw08_awake).bind fun x15 =>
  some x15) else ((command_Compile x1 x2).bind fun (x17, x18, x19) =>
  ((esref10_CompileCommands x1 x2).bind fun (x24, x25, x26) =>
  ((eslaw08_same x17 x24).bind fun x34 =>
  (if x34 then (if (x18 == x25) then (if (x19 == x26) then ((eslaw08_awake).bind fun x38 =>
  eslaw08_CommandCompile.j1 x38) else eslaw08_CommandCompile.j1 false) else eslaw08_CommandCompile.j1 false) else eslaw08_CommandCompile.j1 false)))))
noncomputable def eslaw08_CommandCompile (x1 : List UInt8) (x2 : api_Summary) : Option Bool :=
  (if (decide (600 < (x1.length : Int))) then eslaw08_CommandCompile.j2 x1 x2 true else (if (decide (40 < ((x2.Joined).length : Int))) then eslaw08_CommandCompile.j2 x1 x2 true else (if (decide (40 < ((x2.Removed).length : Int))) then eslaw08_CommandCompile.j2 x1 x2 true else (if (decide (40 < ((x2.Weights).length : Int))) then eslaw08_CommandCompile.j2 x1 x2 true else ((esref10_ValidateSummary x2).bind fun x52 =>
  eslaw08_CommandCompile.j2 x1 x2 (x52 != 0))))))
/-! elasticstore/elasticstorelaw08.CommandLines: function 7 -/
noncomputable def eslaw08_CommandLines.j1  (x50 : Bool) : Option Bool :=
  some x50
noncomputable def eslaw08_CommandLines.j2 (x23 : List api_Change) (x25 : Int) (x33 : List api_Change) (x34 : Int) (x35 : Int) (x46 : Int) : Option Bool :=
  ((eslaw08_same x23 x33).bind fun x52 =>
  (if x52 then (if (x25 == x35) then (if (x34 == x46) then ((eslaw08_awake).bind fun x56 =>
  eslaw08_CommandLines.j1 x56) else eslaw08_CommandLines.j1 false) else eslaw08_CommandLines.j1 false) else eslaw08_CommandLines.j1 false))
noncomputable def eslaw08_CommandLines.j3 (x23 : List api_Change) (x24 : Int) (x25 : Int) (x33 : List api_Change) (x34 : Int) (x35 : Int) (x42 : Int) : Option Bool :=
  (if (decide (1 < x24)) then (letV (IntKind.i64.wrap (x24 + 3)) fun x59 =>
  eslaw08_CommandLines.j2 x23 x25 x33 x34 x35 x59) else eslaw08_CommandLines.j2 x23 x25 x33 x34 x35 x42)
noncomputable def eslaw08_CommandLines.j4 (x1 : List UInt8) (x2 : List UInt8) (x3 : api_Summary)  : Option Bool :=
  ((cat x1 ([10] : List UInt8)).bind fun x21 =>
  ((cat x21 x2).bind fun x22 =>
  ((command_Compile x22 x3).bind fun (x23, x24, x25) =>
  ((cat ([10] : List UInt8) x1).bind fun x30 =>
  ((cat x30 ([10, 35, 32, 120, 10, 10] : List UInt8)).bind fun x31 =>
  ((cat x31 x2).bind fun x32 =>
  ((command_Compile x32 x3).bind fun (x33, x34, x35) =>
  (if (x24 == 1) then eslaw08_CommandLines.j3 x23 x24 x25 x33 x34 x35 2 else eslaw08_CommandLines.j3 x23 x24 x25 x33 x34 x35 x24))))))))
noncomputable def eslaw08_CommandLines.l1 (x1 : List UInt8) : Int → Option ((Int) ⊕ (Unit ⊕ Bool)) := fun x64 =>
  (if (decide (x64 < (x1.length : Int))) then ((idx x1 x64).bind fun x71 =>
  (if ((x71.toNat : Int) == 10) then ((eslaw08_awake).bind fun x74 =>
  some (.inr (.inr x74))) else (letV (IntKind.i64.wrap (x64 + 1)) fun x75 =>
  some (.inl x75)))) else some (.inr (.inl ())))
noncomputable def eslaw08_CommandLines.j5 (x1 : List UInt8) (x2 : List UInt8) (x3 : api_Summary) (x12 : Bool) : Option Bool :=
  (if x12 then ((eslaw08_awake).bind fun x16 =>
  some x16) else ((loopO (eslaw08_CommandLines.l1 x1) 0).bind fun b => match b with | .inl _ => eslaw08_CommandLines.j4 x1 x2 x3 | .inr x76 => some x76))
noncomputable def eslaw08_CommandLines (x1 : List UInt8) (x2 : List UInt8) (x3 : api_Summary) : Option Bool :=
  (if (decide (300 < (x1.length : Int))) then eslaw08_CommandLines.j5 x1 x2 x3 true else (if (decide (300 < (x2.length : Int))) then eslaw08_CommandLines.j5 x1 x2 x3 true else ((esref10_ValidateSummary x3).bind fun x79 =>
  eslaw08_CommandLines.j5 x1 x2 x3 (x79 != 0))))
end Go.Proofs.YthfoljpjhegkmaaDoor
