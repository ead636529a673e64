import Derived.Test.YthfoljpjhegkmaaDoorLqa
import Derived.Test.YthfoljpjhegkmaaDoorLw
set_option linter.unusedVariables false
set_option linter.unusedSimpArgs false
namespace Go.Proofs.YthfoljpjhegkmaaDoor
open Go Go.RowKit Go.Proofs.YthfoljpjhegkmaaDoorL
structure api_Rule where
  Kind : Int
  Columns : Int
  Faulty : Int
  deriving DecidableEq
structure api_Change where
  Kind : Int
  Server : Int
  Weight : Int
  Version : Int
  Rule : api_Rule
  deriving DecidableEq
structure api_WeightEntry where
  Server : Int
  Weight : Int
  Version : Int
  Admin : Int
  Number : Int
  deriving DecidableEq
structure api_Summary where
  Joined : List Int
  Removed : List Int
  Weights : List api_WeightEntry
  Rule : api_Rule
  Version : Int
  Admin : Int
  Number : Int
  deriving DecidableEq
structure api_Member where
  Server : Int
  Weight : Int
  deriving DecidableEq
structure api_Genesis where
  Members : List api_Member
  Rule : api_Rule
  deriving DecidableEq
structure api_Proposal where
  Admin : Int
  Number : Int
  Changes : List api_Change
  deriving DecidableEq
/-! strings.Split: function 36 -/
def spl (c : UInt8) : List UInt8 → List (List UInt8)
  | [] => [[]]
  | b :: l => if b = c then [] :: spl c l else match spl c l with | [] => [[b]] | h :: t => (b :: h) :: t
def strings_Split (x1 : List UInt8) (x2 : List UInt8) : Option (List (List UInt8)) := if x2.length = 1 ∧ x1.length < 4294967281 then some (spl (x2.headD 0) x1) else none
/-! elasticstore/command.number: function 64 -/
noncomputable def command_number.j1  (x13 : Int) : Option (Int × Bool) :=
  some (x13, true)
noncomputable def command_number.j2 (x1 : List UInt8) (x18 : Int) (x19 : Int) (x29 : Bool) : Option ((Int × Int) ⊕ (Int ⊕ (Int × Bool))) :=
  (if x29 then some (.inr (.inr (0, false))) else (letV (IntKind.i64.wrap (10 * x18)) fun x33 =>
  ((idx x1 x19).bind fun x34 =>
  (letV (IntKind.u8.wrap ((x34.toNat : Int) - 48)) fun x35 =>
  (letV (IntKind.i64.wrap (x33 + (IntKind.i64.wrap x35))) fun x36 =>
  (letV (IntKind.i64.wrap (x19 + 1)) fun x37 =>
  some (.inl (x36, x37))))))))
noncomputable def command_number.l1 (x1 : List UInt8) : (Int × Int) → Option ((Int × Int) ⊕ (Int ⊕ (Int × Bool))) := fun (x18, x19) =>
  (if (decide (x19 < (x1.length : Int))) then ((idx x1 x19).bind fun x38 =>
  (if (decide ((x38.toNat : Int) < 48)) then command_number.j2 x1 x18 x19 true else ((idx x1 x19).bind fun x40 =>
  command_number.j2 x1 x18 x19 (decide (57 < (x40.toNat : Int)))))) else some (.inr (.inl x18)))
noncomputable def command_number.j3 (x1 : List UInt8) (x6 : Bool) : Option (Int × Bool) :=
  (if x6 then some (0, false) else ((loopO (command_number.l1 x1) (0, 0)).bind fun b => match b with | .inl x41 => command_number.j1 x41 | .inr (x42, x43) => some (x42, x43)))
noncomputable def command_number (x1 : List UInt8) : Option (Int × Bool) :=
  (if (x1 == ([] : List UInt8)) then command_number.j3 x1 true else (if (decide (4 < (x1.length : Int))) then command_number.j3 x1 true else (if (decide (1 < (x1.length : Int))) then ((idx x1 0).bind fun x47 =>
  command_number.j3 x1 ((x47.toNat : Int) == 48)) else command_number.j3 x1 false)))
/-! elasticstore/command.numbers: function 63 -/
noncomputable def command_numbers.j1  (x11 : List Int) : Option ((List Int) × Bool) :=
  some (x11, true)
noncomputable def command_numbers.l1 (x1 : List (List UInt8)) (x4 : List Int) : ((List Int) × Int) → Option (((List Int) × Int) ⊕ ((List Int) ⊕ ((List Int) × Bool))) := fun (x19, x23) =>
  (if (decide (x23 < (x4.length : Int))) then ((idx x4 x23).bind fun x30 =>
  ((idx x1 x30).bind fun x34 =>
  ((command_number x34).bind fun (x37, x38) =>
  (if (!x38) then some (.inr (.inr ([], false))) else ((app 8 x19 [x37]).bind fun x44 =>
  (letV (IntKind.i64.wrap (x23 + 1)) fun x49 =>
  some (.inl (x44, x49)))))))) else some (.inr (.inl x19)))
noncomputable def command_numbers (x1 : List (List UInt8)) (x4 : List Int) : Option ((List Int) × Bool) :=
  ((loopO (command_numbers.l1 x1 x4) ([], 0)).bind fun b => match b with | .inl x50 => command_numbers.j1 x50 | .inr (x51, x52) => some (x51, x52))
/-! elasticstore/command.server: function 47 -/
noncomputable def command_server.j1 (x1 : api_Change) (x32 : Int) (x37 : Int) : Option (api_Change × Bool) :=
  some ((⟨x1.Kind, x32, x37, x1.Version, (⟨x1.Rule.Kind, x1.Rule.Columns, x1.Rule.Faulty⟩ : api_Rule)⟩ : api_Change), true)
noncomputable def command_server.j2 (x1 : api_Change) (x5 : List (List UInt8)) (x8 : Int) (x16 : List Int) : Option (api_Change × Bool) :=
  ((command_numbers x5 x16).bind fun (x22, x23) =>
  (if (!x23) then some ((⟨0, 0, 0, 0, (⟨0, 0, 0⟩ : api_Rule)⟩ : api_Change), false) else ((idx x22 0).bind fun x32 =>
  (if (decide (0 < x8)) then ((idx x22 1).bind fun x42 =>
  command_server.j1 x1 x32 x42) else command_server.j1 x1 x32 x1.Weight))))
noncomputable def command_server (x1 : api_Change) (x5 : List (List UInt8)) (x8 : Int) : Option (api_Change × Bool) :=
  (if (decide (0 < x8)) then ((app 8 [1] [x8]).bind fun x48 =>
  command_server.j2 x1 x5 x8 x48) else command_server.j2 x1 x5 x8 [1])
/-! elasticstore/command.rule: function 48 -/
noncomputable def command_rule.j1 (x34 : Int) (x45 : Bool) : Option (api_Rule × Bool) :=
  (if x45 then some ((⟨4, 0, x34⟩ : api_Rule), true) else some ((⟨0, 0, 0⟩ : api_Rule), false))
noncomputable def command_rule.j2 (x11 : List UInt8) (x34 : Int) (x35 : Bool) (x39 : Bool) : Option (api_Rule × Bool) :=
  (if x39 then some ((⟨3, x34, 0⟩ : api_Rule), true) else (if x35 then command_rule.j1 x34 (x11 == ([109, 97, 115, 107, 105, 110, 103] : List UInt8)) else command_rule.j1 x34 false))
noncomputable def command_rule.j3 (x1 : List (List UInt8)) (x11 : List UInt8) (x23 : Bool) : Option (api_Rule × Bool) :=
  (if x23 then some ((⟨2, 0, 0⟩ : api_Rule), true) else (if ((x1.length : Int) != 2) then some ((⟨0, 0, 0⟩ : api_Rule), false) else ((idx x1 1).bind fun x31 =>
  ((command_number x31).bind fun (x34, x35) =>
  (if x35 then command_rule.j2 x11 x34 x35 (x11 == ([103, 114, 105, 100] : List UInt8)) else command_rule.j2 x11 x34 x35 false)))))
noncomputable def command_rule.j4 (x1 : List (List UInt8)) (x11 : List UInt8) (x17 : Bool) : Option (api_Rule × Bool) :=
  (if x17 then some ((⟨1, 0, 0⟩ : api_Rule), true) else (if ((x1.length : Int) == 1) then command_rule.j3 x1 x11 (x11 == ([119, 101, 105, 103, 104, 116, 101, 100] : List UInt8)) else command_rule.j3 x1 x11 false))
noncomputable def command_rule (x1 : List (List UInt8)) : Option (api_Rule × Bool) :=
  (if ((x1.length : Int) == 0) then some ((⟨0, 0, 0⟩ : api_Rule), false) else ((idx x1 0).bind fun x11 =>
  (if ((x1.length : Int) == 1) then command_rule.j4 x1 x11 (x11 == ([109, 97, 106, 111, 114, 105, 116, 121] : List UInt8)) else command_rule.j4 x1 x11 false)))
/-! elasticstore/command.syntax: function 24 -/
noncomputable def command_syntax.j1 (x5 : List (List UInt8)) (x41 : Bool) : Option (api_Change × Bool) :=
  (if x41 then ((command_server (⟨3, 0, 0, 0, (⟨0, 0, 0⟩ : api_Rule)⟩ : api_Change) x5 2).bind fun (x45, x46) =>
  some (x45, x46)) else ((idx x5 0).bind fun x50 =>
  (if (x50 == ([114, 117, 108, 101] : List UInt8)) then ((cut x5 1 (x5.length : Int)).bind fun x55 =>
  ((command_rule x55).bind fun (x58, x59) =>
  (if (!x59) then some ((⟨0, 0, 0, 0, (⟨0, 0, 0⟩ : api_Rule)⟩ : api_Change), false) else some ((⟨4, 0, 0, 0, x58⟩ : api_Change), true)))) else some ((⟨0, 0, 0, 0, (⟨0, 0, 0⟩ : api_Rule)⟩ : api_Change), false))))
noncomputable def command_syntax.j2 (x5 : List (List UInt8)) (x31 : Bool) : Option (api_Change × Bool) :=
  (if x31 then ((command_server (⟨2, 0, 0, 0, (⟨0, 0, 0⟩ : api_Rule)⟩ : api_Change) x5 0).bind fun (x35, x36) =>
  some (x35, x36)) else ((idx x5 0).bind fun x69 =>
  (if (x69 == ([119, 101, 105, 103, 104, 116] : List UInt8)) then command_syntax.j1 x5 ((x5.length : Int) == 3) else command_syntax.j1 x5 false)))
noncomputable def command_syntax.j3 (x5 : List (List UInt8)) (x21 : Bool) : Option (api_Change × Bool) :=
  (if x21 then ((command_server (⟨1, 0, 0, 0, (⟨0, 0, 0⟩ : api_Rule)⟩ : api_Change) x5 3).bind fun (x25, x26) =>
  some (x25, x26)) else ((idx x5 0).bind fun x73 =>
  (if (x73 == ([114, 101, 109, 111, 118, 101] : List UInt8)) then command_syntax.j2 x5 ((x5.length : Int) == 2) else command_syntax.j2 x5 false)))
noncomputable def command_syntax.j4 (x5 : List (List UInt8)) (x11 : Bool) : Option (api_Change × Bool) :=
  (if x11 then ((command_server (⟨1, 0, 1, 0, (⟨0, 0, 0⟩ : api_Rule)⟩ : api_Change) x5 0).bind fun (x15, x16) =>
  some (x15, x16)) else ((idx x5 0).bind fun x77 =>
  (if (x77 == ([106, 111, 105, 110] : List UInt8)) then (if ((x5.length : Int) == 4) then ((idx x5 2).bind fun x82 =>
  command_syntax.j3 x5 (x82 == ([119, 101, 105, 103, 104, 116] : List UInt8))) else command_syntax.j3 x5 false) else command_syntax.j3 x5 false)))
noncomputable def command_syntax (x1 : List UInt8) : Option (api_Change × Bool) :=
  ((strings_Split x1 ([32] : List UInt8)).bind fun x5 =>
  ((idx x5 0).bind fun x85 =>
  (if (x85 == ([106, 111, 105, 110] : List UInt8)) then command_syntax.j4 x5 ((x5.length : Int) == 2) else command_syntax.j4 x5 false)))
/-! elasticstore/command.versioned: function 26 -/
noncomputable def command_versioned.j1 (x1 : api_Change) (x10 : Int) : Option api_Change :=
  some (⟨x1.Kind, x1.Server, x1.Weight, x10, (⟨x1.Rule.Kind, x1.Rule.Columns, x1.Rule.Faulty⟩ : api_Rule)⟩ : api_Change)
noncomputable def command_versioned.j2 (x1 : api_Change) (x19 : Int) : Option api_Change :=
  command_versioned.j1 x1 x19
noncomputable def command_versioned.j3 (x1 : api_Change)  : Option api_Change :=
  (if (x1.Version == 0) then command_versioned.j2 x1 1 else command_versioned.j2 x1 x1.Version)
noncomputable def command_versioned (x1 : api_Change) : Option api_Change :=
  (if (x1.Kind == 3) then command_versioned.j3 x1 else (if (x1.Kind == 4) then command_versioned.j3 x1 else command_versioned.j1 x1 x1.Version))
/-! elasticstore/proposal.within: function 49 -/
noncomputable def proposal_within.j1  (x12 : Bool) : Option Bool :=
  some x12
noncomputable def proposal_within (x1 : Int) (x2 : Int) (x3 : Int) (x4 : Bool) : Option Bool :=
  (if (!x4) then some (x1 == 0) else (if (decide (x2 ≤ x1)) then proposal_within.j1 (decide (x1 ≤ x3)) else proposal_within.j1 false))
/-! elasticstore/quorum.ValidateRule: function 50 -/
noncomputable def quorum_ValidateRule.j1  (x20 : Bool) : Option Int :=
  (if x20 then some 9 else some 0)
noncomputable def quorum_ValidateRule.j2  (x14 : Bool) (x15 : Bool) : Option Int :=
  (if (!x14) then quorum_ValidateRule.j1 true else quorum_ValidateRule.j1 (!x15))
noncomputable def quorum_ValidateRule.j3 (x1 : api_Rule) (x9 : Bool) (x10 : Bool) (x30 : Bool) : Option Int :=
  (if x30 then quorum_ValidateRule.j2 x9 x10 else (if (x1.Kind == 3) then (if (decide (1 ≤ x1.Columns)) then quorum_ValidateRule.j2 (decide (x1.Columns ≤ 12)) x10 else quorum_ValidateRule.j2 false x10) else (if (x1.Kind == 4) then (if (decide (0 ≤ x1.Faulty)) then quorum_ValidateRule.j2 x9 (decide (x1.Faulty ≤ 12)) else quorum_ValidateRule.j2 x9 false) else some 10)))
noncomputable def quorum_ValidateRule.j4 (x1 : api_Rule) (x9 : Bool) (x10 : Bool) : Option Int :=
  (if (x1.Kind == 1) then quorum_ValidateRule.j3 x1 x9 x10 true else quorum_ValidateRule.j3 x1 x9 x10 (x1.Kind == 2))
noncomputable def quorum_ValidateRule (x1 : api_Rule) : Option Int :=
  quorum_ValidateRule.j4 x1 (x1.Columns == 0) (x1.Faulty == 0)
/-! elasticstore/proposal.ValidateChange: function 25 -/
noncomputable def proposal_ValidateChange.j1 (x1 : api_Change) (x27 : Bool) : Option Int :=
  (if x27 then some 9 else (if (x1.Kind == 4) then ((quorum_ValidateRule x1.Rule).bind fun x38 =>
  some x38) else (if (!decide ((⟨x1.Rule.Kind, x1.Rule.Columns, x1.Rule.Faulty⟩ : api_Rule) = (⟨0, 0, 0⟩ : api_Rule))) then some 2 else some 0)))
noncomputable def proposal_ValidateChange.j2 (x1 : api_Change) (x18 : Bool) (x22 : Bool) : Option Int :=
  ((proposal_within x1.Server 1 12 (!(x1.Kind == 4))).bind fun x48 =>
  (if (!x48) then proposal_ValidateChange.j1 x1 true else ((proposal_within x1.Weight 1 9 x18).bind fun x51 =>
  (if (!x51) then proposal_ValidateChange.j1 x1 true else ((proposal_within x1.Version 1 1000 x22).bind fun x54 =>
  proposal_ValidateChange.j1 x1 (!x54))))))
noncomputable def proposal_ValidateChange.j3 (x1 : api_Change) (x18 : Bool) : Option Int :=
  (if (x1.Kind == 3) then proposal_ValidateChange.j2 x1 x18 true else proposal_ValidateChange.j2 x1 x18 (x1.Kind == 4))
noncomputable def proposal_ValidateChange.j4 (x1 : api_Change) (x10 : Bool) : Option Int :=
  (if x10 then some 10 else (if (x1.Kind == 1) then proposal_ValidateChange.j3 x1 true else proposal_ValidateChange.j3 x1 (x1.Kind == 3)))
noncomputable def proposal_ValidateChange (x1 : api_Change) : Option Int :=
  (if (decide (x1.Kind < 1)) then proposal_ValidateChange.j4 x1 true else proposal_ValidateChange.j4 x1 (decide (4 < x1.Kind)))
/-! elasticstore/command.Parse: function 9 -/
noncomputable def command_Parse (x1 : List UInt8) : Option (api_Change × Int) :=
  ((command_syntax x1).bind fun (x5, x6) =>
  (if (!x6) then some ((⟨0, 0, 0, 0, (⟨0, 0, 0⟩ : api_Rule)⟩ : api_Change), 11) else ((command_versioned x5).bind fun x16 =>
  ((proposal_ValidateChange x16).bind fun x19 =>
  (if (x19 != 0) then some ((⟨0, 0, 0, 0, (⟨0, 0, 0⟩ : api_Rule)⟩ : api_Change), x19) else some (x5, 0))))))
/-! elasticstore/elasticstoreref10.Initial: function 23 -/
noncomputable def esref10_Initial.j1 (x1 : api_Genesis) (x15 : List Int) (x19 : List api_WeightEntry) : Option api_Summary :=
  some (⟨x15, [], x19, (⟨x1.Rule.Kind, x1.Rule.Columns, x1.Rule.Faulty⟩ : api_Rule), 0, 0, 0⟩ : api_Summary)
noncomputable def esref10_Initial.l1 (x1 : api_Genesis) : (Int × (List Int) × (List api_WeightEntry)) → Option ((Int × (List Int) × (List api_WeightEntry)) ⊕ ((List Int) × (List api_WeightEntry))) := fun (x27, x28, x32) =>
  (if (decide (x27 < ((x1.Members).length : Int))) then ((idx x1.Members x27).bind fun x48 =>
  ((app 8 x28 [x48.Server]).bind fun x84 =>
  ((idx x1.Members x27).bind fun x92 =>
  ((idx x1.Members x27).bind fun x99 =>
  ((app 40 x32 [(⟨x92.Server, x99.Weight, 0, 0, 0⟩ : api_WeightEntry)]).bind fun x160 =>
  (letV (IntKind.i64.wrap (x27 + 1)) fun x165 =>
  some (.inl (x165, x84, x160)))))))) else some (.inr (x28, x32)))
noncomputable def esref10_Initial (x1 : api_Genesis) : Option api_Summary :=
  ((loopO (esref10_Initial.l1 x1) (0, [], [])).bind fun (x166, x167) => esref10_Initial.j1 x1 x166 x167)
/-! elasticstore/command.occurs$1: function 70 -/
noncomputable def command_occurs_1.j1  (x13 : Bool) : Option Bool :=
  some x13
noncomputable def command_occurs_1 (x1 : api_Change) (x5 : Int) (x7 : Int) : Option Bool :=
  (if (x1.Kind == x5) then command_occurs_1.j1 (x1.Server == x7) else command_occurs_1.j1 false)
/-! slices.IndexFunc[[]elasticstore/api.Change,elasticstore/api.Change]: function 80 -/
noncomputable def slices_IndexFunc_Change.j1   : Option Int :=
  some (-1)
noncomputable def slices_IndexFunc_Change.l1 (x1 : List api_Change) (x4 : api_Change → Option Bool) : Int → Option ((Int) ⊕ (Unit ⊕ Int)) := fun x13 =>
  (if (decide (x13 < (x1.length : Int))) then ((idx x1 x13).bind fun x21 =>
  ((x4 x21).bind fun x26 =>
  (if x26 then some (.inr (.inr x13)) else (letV (IntKind.i64.wrap (x13 + 1)) fun x29 =>
  some (.inl x29))))) else some (.inr (.inl ())))
noncomputable def slices_IndexFunc_Change (x1 : List api_Change) (x4 : api_Change → Option Bool) : Option Int :=
  ((loopO (slices_IndexFunc_Change.l1 x1 x4) 0).bind fun b => match b with | .inl _ => slices_IndexFunc_Change.j1 | .inr x30 => some x30)
/-! slices.ContainsFunc[[]elasticstore/api.Change,elasticstore/api.Change]: function 69 -/
noncomputable def slices_ContainsFunc_Change (x1 : List api_Change) (x4 : api_Change → Option Bool) : Option Bool :=
  ((slices_IndexFunc_Change x1 x4).bind fun x8 =>
  some (decide (0 ≤ x8)))
/-! elasticstore/command.occurs: function 56 -/
noncomputable def command_occurs (x1 : List api_Change) (x4 : Int) (x5 : Int) : Option Bool :=
  ((slices_ContainsFunc_Change x1 (fun p : api_Change => command_occurs_1 p x4 x5)).bind fun x10 =>
  some x10)
/-! slices.Index[[]int,int]: function 71 -/
noncomputable def slices_Index_int.j1   : Option Int :=
  some (-1)
noncomputable def slices_Index_int.l1 (x1 : List Int) (x4 : Int) : Int → Option ((Int) ⊕ (Unit ⊕ Int)) := fun x12 =>
  (if (decide (x12 < (x1.length : Int))) then ((idx x1 x12).bind fun x20 =>
  (if (x4 == x20) then some (.inr (.inr x12)) else (letV (IntKind.i64.wrap (x12 + 1)) fun x25 =>
  some (.inl x25)))) else some (.inr (.inl ())))
noncomputable def slices_Index_int (x1 : List Int) (x4 : Int) : Option Int :=
  ((loopO (slices_Index_int.l1 x1 x4) 0).bind fun b => match b with | .inl _ => slices_Index_int.j1 | .inr x26 => some x26)
/-! slices.Contains[[]int,int]: function 57 -/
noncomputable def slices_Contains_int (x1 : List Int) (x4 : Int) : Option Bool :=
  ((slices_Index_int x1 x4).bind fun x7 =>
  some (decide (0 ≤ x7)))
/-! elasticstore/command.version: function 58 -/
noncomputable def command_version.j1   : Option Int :=
  some 0
noncomputable def command_version.l1 (x1 : api_Change) (x5 : api_Summary) : Int → Option ((Int) ⊕ (Unit ⊕ Int)) := fun x27 =>
  (if (decide (x27 < ((x5.Weights).length : Int))) then ((idx x5.Weights x27).bind fun x34 =>
  (if (x34.Server == x1.Server) then some (.inr (.inr x34.Version)) else (letV (IntKind.i64.wrap (x27 + 1)) fun x46 =>
  some (.inl x46)))) else some (.inr (.inl ())))
noncomputable def command_version (x1 : api_Change) (x5 : api_Summary) : Option Int :=
  (if (x1.Kind == 4) then some x5.Version else ((loopO (command_version.l1 x1 x5) 0).bind fun b => match b with | .inl _ => command_version.j1 | .inr x47 => some x47))
/-! elasticstore/command.check: function 37 -/
noncomputable def command_check.j1 (x1 : api_Change) (x5 : api_Summary) (x71 : api_Change) : Option (api_Change × Int) :=
  ((command_version (⟨x1.Kind, x1.Server, x1.Weight, x1.Version, (⟨x1.Rule.Kind, x1.Rule.Columns, x1.Rule.Faulty⟩ : api_Rule)⟩ : api_Change) x5).bind fun x76 =>
  (if (decide (1000 ≤ x76)) then some ((⟨x1.Kind, x1.Server, x1.Weight, x76, (⟨x1.Rule.Kind, x1.Rule.Columns, x1.Rule.Faulty⟩ : api_Rule)⟩ : api_Change), 9) else (letV (IntKind.i64.wrap (x76 + 1)) fun x82 =>
  some ((⟨x1.Kind, x1.Server, x1.Weight, x82, (⟨x1.Rule.Kind, x1.Rule.Columns, x1.Rule.Faulty⟩ : api_Rule)⟩ : api_Change), 0))))
noncomputable def command_check.j2 (x1 : api_Change) (x95 : Bool) : Option (api_Change × Int) :=
  (if x95 then some ((⟨x1.Kind, x1.Server, x1.Weight, x1.Version, (⟨x1.Rule.Kind, x1.Rule.Columns, x1.Rule.Faulty⟩ : api_Rule)⟩ : api_Change), 5) else some ((⟨x1.Kind, x1.Server, x1.Weight, x1.Version, (⟨x1.Rule.Kind, x1.Rule.Columns, x1.Rule.Faulty⟩ : api_Rule)⟩ : api_Change), 0))
noncomputable def command_check.j3 (x1 : api_Change) (x5 : api_Summary) (x29 : Bool) (x33 : Bool) (x65 : Bool) : Option (api_Change × Int) :=
  (if (x1.Kind == 1) then (if x29 then command_check.j2 x1 true else command_check.j2 x1 x33) else (if (x1.Kind == 2) then (if (!x65) then some ((⟨x1.Kind, x1.Server, x1.Weight, x1.Version, (⟨x1.Rule.Kind, x1.Rule.Columns, x1.Rule.Faulty⟩ : api_Rule)⟩ : api_Change), 6) else some ((⟨x1.Kind, x1.Server, x1.Weight, x1.Version, (⟨x1.Rule.Kind, x1.Rule.Columns, x1.Rule.Faulty⟩ : api_Rule)⟩ : api_Change), 0)) else (if (x1.Kind == 3) then (if (!x65) then some ((⟨x1.Kind, x1.Server, x1.Weight, x1.Version, (⟨x1.Rule.Kind, x1.Rule.Columns, x1.Rule.Faulty⟩ : api_Rule)⟩ : api_Change), 6) else command_check.j1 x1 x5 (⟨0, 0, 0, 0, (⟨0, 0, 0⟩ : api_Rule)⟩ : api_Change)) else command_check.j1 x1 x5 (⟨0, 0, 0, 0, (⟨0, 0, 0⟩ : api_Rule)⟩ : api_Change))))
noncomputable def command_check (x1 : api_Change) (x5 : api_Summary) (x9 : List api_Change) : Option (api_Change × Int) :=
  (if (decide (6 ≤ (x9.length : Int))) then some ((⟨x1.Kind, x1.Server, x1.Weight, x1.Version, (⟨x1.Rule.Kind, x1.Rule.Columns, x1.Rule.Faulty⟩ : api_Rule)⟩ : api_Change), 3) else ((command_occurs x9 x1.Kind x1.Server).bind fun x22 =>
  (if x22 then some ((⟨x1.Kind, x1.Server, x1.Weight, x1.Version, (⟨x1.Rule.Kind, x1.Rule.Columns, x1.Rule.Faulty⟩ : api_Rule)⟩ : api_Change), 5) else ((slices_Contains_int x5.Joined x1.Server).bind fun x29 =>
  ((slices_Contains_int x5.Removed x1.Server).bind fun x33 =>
  (if x29 then (if (!x33) then command_check.j3 x1 x5 x29 x33 true else ((command_occurs x9 1 x1.Server).bind fun x117 =>
  command_check.j3 x1 x5 x29 x33 x117)) else ((command_occurs x9 1 x1.Server).bind fun x118 =>
  command_check.j3 x1 x5 x29 x33 x118)))))))
/-! elasticstore/command.Compile: function 14 -/
noncomputable def command_Compile.j1  (x11 : List api_Change) : Option ((List api_Change) × Int × Int) :=
  (if ((x11.length : Int) == 0) then some ([], 0, 2) else some (x11, 0, 0))
noncomputable def command_Compile.j2 (x30 : Int) (x37 : List api_Change) : Option (((List api_Change) × Int) ⊕ ((List api_Change) ⊕ ((List api_Change) × Int × Int))) :=
  (letV (IntKind.i64.wrap (x30 + 1)) fun x42 =>
  some (.inl (x37, x42)))
noncomputable def command_Compile.j3 (x26 : List api_Change) (x30 : Int) (x61 : Int) (x62 : api_Change) : Option (((List api_Change) × Int) ⊕ ((List api_Change) ⊕ ((List api_Change) × Int × Int))) :=
  (if (x61 != 0) then (letV (IntKind.i64.wrap (x30 + 1)) fun x70 =>
  some (.inr (.inr ([], x70, x61)))) else ((app 56 x26 [x62]).bind fun x72 =>
  command_Compile.j2 x30 x72))
noncomputable def command_Compile.j4 (x2 : api_Summary) (x26 : List api_Change) (x30 : Int) (x44 : List UInt8) (x50 : Bool) : Option (((List api_Change) × Int) ⊕ ((List api_Change) ⊕ ((List api_Change) × Int × Int))) :=
  (if x50 then command_Compile.j2 x30 x26 else ((command_Parse x44).bind fun (x54, x55) =>
  (if (x55 == 0) then ((command_check x54 x2 x26).bind fun (x79, x80) =>
  command_Compile.j3 x26 x30 x80 x79) else command_Compile.j3 x26 x30 x55 x54)))
noncomputable def command_Compile.l1 (x2 : api_Summary) (x22 : List (List UInt8)) : ((List api_Change) × Int) → Option (((List api_Change) × Int) ⊕ ((List api_Change) ⊕ ((List api_Change) × Int × Int))) := fun (x26, x30) =>
  (if (decide (x30 < (x22.length : Int))) then ((idx x22 x30).bind fun x44 =>
  (if (x44 == ([] : List UInt8)) then command_Compile.j4 x2 x26 x30 x44 true else ((idx x44 0).bind fun x84 =>
  command_Compile.j4 x2 x26 x30 x44 ((x84.toNat : Int) == 35)))) else some (.inr (.inl x26)))
noncomputable def command_Compile (x1 : List UInt8) (x2 : api_Summary) : Option ((List api_Change) × Int × Int) :=
  ((strings_Split x1 ([10] : List UInt8)).bind fun x22 =>
  ((loopO (command_Compile.l1 x2 x22) ([], 0)).bind fun b => match b with | .inl x85 => command_Compile.j1 x85 | .inr (x86, x87, x88) => some (x86, x87, x88)))
/-! strconv.Itoa: function 30 -/
def dec2 (n : Nat) : List UInt8 := if n < 10 then [UInt8.ofNat (48 + n)] else [UInt8.ofNat (48 + n / 10), UInt8.ofNat (48 + n % 10)]
def strconv_Itoa (x1 : Int) : Option (List UInt8) := if 0 ≤ x1 ∧ x1 < 100 then some (dec2 x1.toNat) else none
/-! elasticstore/command.Format: function 11 -/
noncomputable def command_Format (x1 : api_Change) : Option (List UInt8) :=
  ((command_versioned x1).bind fun x9 =>
  ((proposal_ValidateChange x9).bind fun x12 =>
  (if (x12 != 0) then some ([] : List UInt8) else ((strconv_Itoa x1.Server).bind fun x17 =>
  ((strconv_Itoa x1.Weight).bind fun x19 =>
  (if (x1.Kind == 1) then ((cat ([106, 111, 105, 110, 32] : List UInt8) x17).bind fun x37 =>
  ((cat x37 ([32, 119, 101, 105, 103, 104, 116, 32] : List UInt8)).bind fun x38 =>
  ((cat x38 x19).bind fun x39 =>
  some x39))) else (if (x1.Kind == 2) then ((cat ([114, 101, 109, 111, 118, 101, 32] : List UInt8) x17).bind fun x43 =>
  some x43) else (if (x1.Kind == 3) then ((cat ([119, 101, 105, 103, 104, 116, 32] : List UInt8) x17).bind fun x47 =>
  ((cat x47 ([32] : List UInt8)).bind fun x48 =>
  ((cat x48 x19).bind fun x49 =>
  some x49))) else (if (x1.Rule.Kind == 1) then some ([114, 117, 108, 101, 32, 109, 97, 106, 111, 114, 105, 116, 121] : List UInt8) else (if (x1.Rule.Kind == 2) then some ([114, 117, 108, 101, 32, 119, 101, 105, 103, 104, 116, 101, 100] : List UInt8) else (if (x1.Rule.Kind == 3) then ((strconv_Itoa x1.Rule.Columns).bind fun x63 =>
  ((cat ([114, 117, 108, 101, 32, 103, 114, 105, 100, 32] : List UInt8) x63).bind fun x64 =>
  some x64)) else ((strconv_Itoa x1.Rule.Faulty).bind fun x67 =>
  ((cat ([114, 117, 108, 101, 32, 109, 97, 115, 107, 105, 110, 103, 32] : List UInt8) x67).bind fun x68 =>
  some x68)))))))))))))
/-! elasticstore/elasticstorelaw08.awake: function 8 -/
noncomputable def eslaw08_awake.j1  (x41 : Bool) : Option Bool :=
  some x41
noncomputable def eslaw08_awake  : Option Bool :=
  ((command_Parse ([106, 111, 105, 110, 32, 52, 32, 119, 101, 105, 103, 104, 116, 32, 50] : List UInt8)).bind fun (x3, x4) =>
  ((command_Parse ([106, 111, 105, 110, 32, 52, 32, 32, 119, 101, 105, 103, 104, 116, 32, 50] : List UInt8)).bind fun (x9, x10) =>
  ((esref10_Initial (⟨[(⟨1, 1⟩ : api_Member)], (⟨1, 0, 0⟩ : api_Rule)⟩ : api_Genesis)).bind fun x16 =>
  ((command_Compile ([35, 32, 114, 101, 112, 108, 97, 99, 101, 10, 106, 111, 105, 110, 32, 52, 10, 114, 101, 109, 111, 118, 101, 32, 49, 10] : List UInt8) (⟨x16.Joined, x16.Removed, x16.Weights, (⟨x16.Rule.Kind, x16.Rule.Columns, x16.Rule.Faulty⟩ : api_Rule), x16.Version, x16.Admin, x16.Number⟩ : api_Summary)).bind fun (x26, x27, x28) =>
  ((command_Compile ([10, 114, 101, 109, 111, 118, 101, 32, 57] : List UInt8) (⟨[], [], [], (⟨0, 0, 0⟩ : api_Rule), 0, 0, 0⟩ : api_Summary)).bind fun (x33, x34, x35) =>
  (if (decide ((⟨x3.Kind, x3.Server, x3.Weight, x3.Version, (⟨x3.Rule.Kind, x3.Rule.Columns, x3.Rule.Faulty⟩ : api_Rule)⟩ : api_Change) = (⟨1, 4, 2, 0, (⟨0, 0, 0⟩ : api_Rule)⟩ : api_Change))) then (if (x4 == 0) then (if (x10 == 11) then ((command_Format (⟨x3.Kind, x3.Server, x3.Weight, x3.Version, (⟨x3.Rule.Kind, x3.Rule.Columns, x3.Rule.Faulty⟩ : api_Rule)⟩ : api_Change)).bind fun x46 =>
  (if (x46 == ([106, 111, 105, 110, 32, 52, 32, 119, 101, 105, 103, 104, 116, 32, 50] : List UInt8)) then (if ((x26.length : Int) == 2) then (if (x27 == 0) then (if (x28 == 0) then (if (x34 == 2) then eslaw08_awake.j1 (x35 == 6) else eslaw08_awake.j1 false) else eslaw08_awake.j1 false) else eslaw08_awake.j1 false) else eslaw08_awake.j1 false) else eslaw08_awake.j1 false)) else eslaw08_awake.j1 false) else eslaw08_awake.j1 false) else eslaw08_awake.j1 false))))))
/-! elasticstore/elasticstorelaw00.Index: function 62 -/
noncomputable def eslaw00_Index (x1 : Int) (x2 : Int) : Option Int :=
  (if (decide (x2 < 1)) then some 0 else (if x2 ≠ 0 then (letV (IntKind.i64.wrap ((Int.tmod x1 x2) + x2)) fun x10 =>
  (if x2 ≠ 0 then some (Int.tmod x10 x2) else none)) else none))
/-! elasticstore/elasticstorelaw00.Digit: function 40 -/
noncomputable def eslaw00_Digit.j1 (x2 : Int) (x9 : Int) : Option Int :=
  (if x2 ≠ 0 then some (Int.tmod x9 x2) else none)
noncomputable def eslaw00_Digit.l1 (x2 : Int) (x3 : Int) : (Int × Int) → Option ((Int × Int) ⊕ (Int)) := fun (x15, x16) =>
  (if (decide (x16 < x3)) then (if x2 ≠ 0 then (letV (IntKind.i64.wrap (Int.tdiv x15 x2)) fun x22 =>
  (letV (IntKind.i64.wrap (x16 + 1)) fun x24 =>
  some (.inl (x22, x24)))) else none) else some (.inr x15))
noncomputable def eslaw00_Digit (x1 : Int) (x2 : Int) (x3 : Int) : Option Int :=
  ((eslaw00_Index x1 1099511627776).bind fun x6 =>
  ((loopO (eslaw00_Digit.l1 x2 x3) (x6, 0)).bind fun x25 => eslaw00_Digit.j1 x2 x25))
/-! elasticstore/elasticstorelaw00.Rule: function 39 -/
noncomputable def eslaw00_Rule.j1 (x1 : Int) (x6 : Int) (x9 : Bool) : Option api_Rule :=
  (if x9 then some (⟨2, 0, 0⟩ : api_Rule) else (if (x6 == 3) then ((eslaw00_Digit x1 4 2).bind fun x16 =>
  (letV (IntKind.i64.wrap (1 + x16)) fun x17 =>
  some (⟨3, x17, 0⟩ : api_Rule))) else (if (x6 == 4) then ((eslaw00_Digit x1 2 3).bind fun x21 =>
  some (⟨4, 0, x21⟩ : api_Rule)) else some (⟨1, 0, 0⟩ : api_Rule))))
noncomputable def eslaw00_Rule (x1 : Int) : Option api_Rule :=
  ((eslaw00_Digit x1 8 0).bind fun x6 =>
  (if (x6 == 1) then eslaw00_Rule.j1 x1 x6 true else eslaw00_Rule.j1 x1 x6 (x6 == 2)))
/-! elasticstore/elasticstorelaw00.Genesis: function 17 -/
noncomputable def eslaw00_Genesis.j1 (x5 : api_Rule) (x11 : List api_Member) : Option api_Genesis :=
  some (⟨x11, (⟨x5.Kind, x5.Columns, x5.Faulty⟩ : api_Rule)⟩ : api_Genesis)
noncomputable def eslaw00_Genesis.l1 (x1 : Int) : (Int × (List api_Member)) → Option ((Int × (List api_Member)) ⊕ (List api_Member)) := fun (x19, x20) =>
  ((eslaw00_Digit x1 5 4).bind fun x27 =>
  (if (decide (x19 ≤ x27)) then (letV (IntKind.i64.wrap (x19 + 1)) fun x30 =>
  (letV (IntKind.i64.wrap (6 + x19)) fun x31 =>
  ((eslaw00_Digit x1 3 x31).bind fun x32 =>
  (letV (IntKind.i64.wrap (1 + x32)) fun x33 =>
  ((app 16 x20 [(⟨x30, x33⟩ : api_Member)]).bind fun x59 =>
  (letV (IntKind.i64.wrap (x19 + 1)) fun x64 =>
  some (.inl (x64, x59)))))))) else some (.inr x20)))
noncomputable def eslaw00_Genesis (x1 : Int) : Option api_Genesis :=
  ((eslaw00_Rule x1).bind fun x5 =>
  ((loopO (eslaw00_Genesis.l1 x1) (0, [])).bind fun x65 => eslaw00_Genesis.j1 x5 x65))
/-! elasticstore/elasticstorelaw00.At: function 41 -/
noncomputable def eslaw00_At (x1 : List Int) (x4 : Int) : Option Int :=
  (if ((x1.length : Int) == 0) then some 0 else ((eslaw00_Index x4 (x1.length : Int)).bind fun x11 =>
  ((idx x1 x11).bind fun x12 =>
  some x12)))
/-! elasticstore/elasticstorelaw00.Change: function 42 -/
noncomputable def eslaw00_Change.j1 (x1 : Int) (x6 : Int) (x9 : Int) (x20 : Bool) : Option api_Change :=
  (if x20 then some (⟨2, x6, 0, 0, (⟨0, 0, 0⟩ : api_Rule)⟩ : api_Change) else (if (x9 == 5) then ((eslaw00_Digit x1 4 3).bind fun x27 =>
  (letV (IntKind.i64.wrap (1 + x27)) fun x28 =>
  ((eslaw00_Digit x1 2 9).bind fun x29 =>
  (letV (IntKind.i64.wrap (1 + x29)) fun x30 =>
  some (⟨3, x6, x28, x30, (⟨0, 0, 0⟩ : api_Rule)⟩ : api_Change))))) else (if (x9 == 6) then ((eslaw00_Digit x1 2 9).bind fun x34 =>
  (letV (IntKind.i64.wrap (1 + x34)) fun x35 =>
  ((eslaw00_Index x1 1099511627776).bind fun x36 =>
  (letV (IntKind.i64.wrap (Int.tdiv x36 64)) fun x37 =>
  ((eslaw00_Rule x37).bind fun x38 =>
  some (⟨4, 0, 0, x35, x38⟩ : api_Change)))))) else ((eslaw00_Digit x1 12 1).bind fun x42 =>
  (letV (IntKind.i64.wrap (1 + x42)) fun x43 =>
  some (⟨1, x43, 1, 0, (⟨0, 0, 0⟩ : api_Rule)⟩ : api_Change))))))
noncomputable def eslaw00_Change.j2 (x1 : Int) (x6 : Int) (x9 : Int) (x12 : Bool) : Option api_Change :=
  (if x12 then ((eslaw00_Digit x1 4 3).bind fun x16 =>
  (letV (IntKind.i64.wrap (1 + x16)) fun x17 =>
  some (⟨1, x6, x17, 0, (⟨0, 0, 0⟩ : api_Rule)⟩ : api_Change))) else (if (x9 == 3) then eslaw00_Change.j1 x1 x6 x9 true else eslaw00_Change.j1 x1 x6 x9 (x9 == 4)))
noncomputable def eslaw00_Change (x1 : Int) : Option api_Change :=
  ((eslaw00_Digit x1 8 1).bind fun x5 =>
  (letV (IntKind.i64.wrap (1 + x5)) fun x6 =>
  ((eslaw00_Digit x1 8 0).bind fun x9 =>
  (if (x9 == 0) then eslaw00_Change.j2 x1 x6 x9 true else (if (x9 == 1) then eslaw00_Change.j2 x1 x6 x9 true else eslaw00_Change.j2 x1 x6 x9 (x9 == 2))))))
/-! elasticstore/elasticstorelaw00.Pool: function 18 -/
noncomputable def eslaw00_Pool.j1  (x9 : List api_Proposal) : Option (List api_Proposal) :=
  some x9
noncomputable def eslaw00_Pool.j2 (x22 : Int) (x29 : List api_Proposal) (x33 : Int) : Option (((List api_Proposal) × Int × Int) ⊕ (List api_Proposal)) :=
  (letV (IntKind.i64.wrap (x22 + 1)) fun x35 =>
  some (.inl (x29, x33, x35)))
noncomputable def eslaw00_Pool.j3 (x38 : List api_Proposal) (x42 : Int) (x43 : Int) (x52 : Int) (x53 : Int) (x69 : List api_Change) : Option (((List api_Proposal) × Int × Int) ⊕ ((List api_Proposal) × Int)) :=
  ((app 40 x38 [(⟨x52, x53, x69⟩ : api_Proposal)]).bind fun x76 =>
  (letV (IntKind.i64.wrap (x42 + 2)) fun x81 =>
  (letV (IntKind.i64.wrap (x43 + 1)) fun x82 =>
  some (.inl (x76, x81, x82)))))
noncomputable def eslaw00_Pool.j4 (x38 : List api_Proposal) (x42 : Int) (x43 : Int) (x52 : Int) (x53 : Int) (x55 : api_Change) (x63 : api_Change) (x85 : Bool) : Option (((List api_Proposal) × Int × Int) ⊕ ((List api_Proposal) × Int)) :=
  (if x85 then ((app 56 [x55] [x63]).bind fun x89 =>
  eslaw00_Pool.j3 x38 x42 x43 x52 x53 x89) else eslaw00_Pool.j3 x38 x42 x43 x52 x53 [x55])
noncomputable def eslaw00_Pool.l1 (x1 : List Int) (x22 : Int) : ((List api_Proposal) × Int × Int) → Option (((List api_Proposal) × Int × Int) ⊕ ((List api_Proposal) × Int)) := fun (x38, x42, x43) =>
  ((eslaw00_At x1 x22).bind fun x47 =>
  ((eslaw00_Digit x47 4 0).bind fun x48 =>
  (if (decide (x43 < x48)) then (letV (IntKind.i64.wrap (201 + x22)) fun x52 =>
  (letV (IntKind.i64.wrap (x43 + 1)) fun x53 =>
  ((eslaw00_At x1 x42).bind fun x54 =>
  ((eslaw00_Change x54).bind fun x55 =>
  (letV (IntKind.i64.wrap (x42 + 1)) fun x61 =>
  ((eslaw00_At x1 x61).bind fun x62 =>
  ((eslaw00_Change x62).bind fun x63 =>
  ((eslaw00_At x1 x42).bind fun x94 =>
  ((eslaw00_Digit x94 2 12).bind fun x95 =>
  (if (x95 == 1) then ((idx [x55] 0).bind fun x98 =>
  (if (x63.Kind != x98.Kind) then eslaw00_Pool.j4 x38 x42 x43 x52 x53 x55 x63 true else ((idx [x55] 0).bind fun x172 =>
  eslaw00_Pool.j4 x38 x42 x43 x52 x53 x55 x63 (x63.Server != x172.Server)))) else eslaw00_Pool.j4 x38 x42 x43 x52 x53 x55 x63 false)))))))))) else some (.inr (x38, x42)))))
noncomputable def eslaw00_Pool.l2 (x1 : List Int) : ((List api_Proposal) × Int × Int) → Option (((List api_Proposal) × Int × Int) ⊕ (List api_Proposal)) := fun (x17, x21, x22) =>
  (if (decide (x22 < 3)) then ((loopO (eslaw00_Pool.l1 x1 x22) (x17, x21, 0)).bind fun (x312, x313) => eslaw00_Pool.j2 x22 x312 x313) else some (.inr x17))
noncomputable def eslaw00_Pool (x1 : List Int) : Option (List api_Proposal) :=
  ((loopO (eslaw00_Pool.l2 x1) ([], 3, 0)).bind fun x314 => eslaw00_Pool.j1 x314)
/-! elasticstore/elasticstoreref10.Insert: function 44 -/
noncomputable def esref10_Insert.j1  (x18 : List Int) : Option (List Int) :=
  some x18
noncomputable def esref10_Insert.j2 (x4 : Int) (x10 : List Int) (x14 : Bool) : Option (List Int) :=
  (if (!x14) then ((app 8 x10 [x4]).bind fun x27 =>
  esref10_Insert.j1 x27) else esref10_Insert.j1 x10)
noncomputable def esref10_Insert.j3 (x39 : Int) (x46 : List Int) (x50 : Bool) : Option (((List Int) × Bool × Int) ⊕ ((List Int) × Bool)) :=
  (letV (IntKind.i64.wrap (x39 + 1)) fun x52 =>
  some (.inl (x46, x50, x52)))
noncomputable def esref10_Insert.j4 (x1 : List Int) (x4 : Int) (x39 : Int) (x55 : List Int) (x59 : Bool) : Option (((List Int) × Bool × Int) ⊕ ((List Int) × Bool)) :=
  ((idx x1 x39).bind fun x62 =>
  (if (x62 != x4) then ((idx x1 x39).bind fun x66 =>
  ((app 8 x55 [x66]).bind fun x70 =>
  esref10_Insert.j3 x39 x70 x59)) else esref10_Insert.j3 x39 x55 x59))
noncomputable def esref10_Insert.j5 (x1 : List Int) (x4 : Int) (x34 : List Int) (x38 : Bool) (x39 : Int) (x77 : Bool) : Option (((List Int) × Bool × Int) ⊕ ((List Int) × Bool)) :=
  (if x77 then ((app 8 x34 [x4]).bind fun x82 =>
  esref10_Insert.j4 x1 x4 x39 x82 true) else esref10_Insert.j4 x1 x4 x39 x34 x38)
noncomputable def esref10_Insert.l1 (x1 : List Int) (x4 : Int) : ((List Int) × Bool × Int) → Option (((List Int) × Bool × Int) ⊕ ((List Int) × Bool)) := fun (x34, x38, x39) =>
  (if (decide (x39 < (x1.length : Int))) then (if (!x38) then ((idx x1 x39).bind fun x88 =>
  esref10_Insert.j5 x1 x4 x34 x38 x39 (decide (x4 ≤ x88))) else esref10_Insert.j5 x1 x4 x34 x38 x39 false) else some (.inr (x34, x38)))
noncomputable def esref10_Insert (x1 : List Int) (x4 : Int) : Option (List Int) :=
  ((loopO (esref10_Insert.l1 x1 x4) ([], false, 0)).bind fun (x91, x92) => esref10_Insert.j2 x4 x91 x92)
/-! elasticstore/elasticstoreref10.later: function 46 -/
noncomputable def esref10_later (x1 : api_WeightEntry) (x5 : api_WeightEntry) : Option Bool :=
  (if (x1.Version != x5.Version) then some (decide (x5.Version < x1.Version)) else (if (x1.Admin != x5.Admin) then some (decide (x5.Admin < x1.Admin)) else some (decide (x5.Number < x1.Number))))
/-! elasticstore/elasticstoreref10.Weigh: function 45 -/
noncomputable def esref10_Weigh.j1  (x22 : List api_WeightEntry) : Option (List api_WeightEntry) :=
  some x22
noncomputable def esref10_Weigh.j2 (x4 : api_WeightEntry) (x14 : List api_WeightEntry) (x18 : Bool) : Option (List api_WeightEntry) :=
  (if (!x18) then ((app 40 x14 [x4]).bind fun x31 =>
  esref10_Weigh.j1 x31) else esref10_Weigh.j1 x14)
noncomputable def esref10_Weigh.j3 (x43 : Int) (x50 : List api_WeightEntry) (x54 : Bool) : Option (((List api_WeightEntry) × Bool × Int) ⊕ ((List api_WeightEntry) × Bool)) :=
  (letV (IntKind.i64.wrap (x43 + 1)) fun x56 =>
  some (.inl (x50, x54, x56)))
noncomputable def esref10_Weigh.j4 (x1 : List api_WeightEntry) (x4 : api_WeightEntry) (x38 : List api_WeightEntry) (x42 : Bool) (x43 : Int) (x112 : Bool) : Option (((List api_WeightEntry) × Bool × Int) ⊕ ((List api_WeightEntry) × Bool)) :=
  (if x112 then ((idx x1 x43).bind fun x116 =>
  ((app 40 x38 [x4, x116]).bind fun x146 =>
  esref10_Weigh.j3 x43 x146 true)) else ((idx x1 x43).bind fun x151 =>
  ((app 40 x38 [x151]).bind fun x157 =>
  esref10_Weigh.j3 x43 x157 x42)))
noncomputable def esref10_Weigh.j5 (x1 : List api_WeightEntry) (x4 : api_WeightEntry) (x38 : List api_WeightEntry) (x42 : Bool) (x43 : Int) (x59 : Bool) : Option (((List api_WeightEntry) × Bool × Int) ⊕ ((List api_WeightEntry) × Bool)) :=
  (if x59 then ((app 40 x38 [x4]).bind fun x64 =>
  esref10_Weigh.j3 x43 x64 true) else ((idx x1 x43).bind fun x70 =>
  (if (x70.Server == x4.Server) then ((idx x1 x43).bind fun x99 =>
  ((app 40 x38 [x99]).bind fun x105 =>
  esref10_Weigh.j3 x43 x105 true)) else (if (!x42) then ((idx x1 x43).bind fun x163 =>
  esref10_Weigh.j4 x1 x4 x38 x42 x43 (decide (x4.Server < x163.Server))) else esref10_Weigh.j4 x1 x4 x38 x42 x43 false))))
noncomputable def esref10_Weigh.l1 (x1 : List api_WeightEntry) (x4 : api_WeightEntry) : ((List api_WeightEntry) × Bool × Int) → Option (((List api_WeightEntry) × Bool × Int) ⊕ ((List api_WeightEntry) × Bool)) := fun (x38, x42, x43) =>
  (if (decide (x43 < (x1.length : Int))) then ((idx x1 x43).bind fun x238 =>
  (if (x238.Server == x4.Server) then ((idx x1 x43).bind fun x244 =>
  ((esref10_later x4 x244).bind fun x249 =>
  esref10_Weigh.j5 x1 x4 x38 x42 x43 x249)) else esref10_Weigh.j5 x1 x4 x38 x42 x43 false)) else some (.inr (x38, x42)))
noncomputable def esref10_Weigh (x1 : List api_WeightEntry) (x4 : api_WeightEntry) : Option (List api_WeightEntry) :=
  ((loopO (esref10_Weigh.l1 x1 x4) ([], false, 0)).bind fun (x346, x347) => esref10_Weigh.j2 x4 x346 x347)
/-! elasticstore/elasticstoreref10.Of: function 22 -/
noncomputable def esref10_Of.j1  (x12 : api_Summary) : Option api_Summary :=
  some x12
noncomputable def esref10_Of.j2 (x19 : Int) (x32 : api_Summary) : Option ((Int × api_Summary) ⊕ (api_Summary)) :=
  (letV (IntKind.i64.wrap (x19 + 1)) fun x36 =>
  some (.inl (x36, x32)))
noncomputable def esref10_Of.l1 (x1 : api_Proposal) : (Int × api_Summary) → Option ((Int × api_Summary) ⊕ (api_Summary)) := fun (x19, x20) =>
  (if (decide (x19 < ((x1.Changes).length : Int))) then ((idx x1.Changes x19).bind fun x41 =>
  (if (x41.Kind == 1) then ((esref10_Insert x20.Joined x41.Server).bind fun x56 =>
  ((esref10_Weigh x20.Weights (⟨x41.Server, x41.Weight, 0, x1.Admin, x1.Number⟩ : api_WeightEntry)).bind fun x70 =>
  esref10_Of.j2 x19 (⟨x56, x20.Removed, x70, (⟨x20.Rule.Kind, x20.Rule.Columns, x20.Rule.Faulty⟩ : api_Rule), x20.Version, x20.Admin, x20.Number⟩ : api_Summary))) else (if (x41.Kind == 2) then ((esref10_Insert x20.Removed x41.Server).bind fun x80 =>
  esref10_Of.j2 x19 (⟨x20.Joined, x80, x20.Weights, (⟨x20.Rule.Kind, x20.Rule.Columns, x20.Rule.Faulty⟩ : api_Rule), x20.Version, x20.Admin, x20.Number⟩ : api_Summary)) else (if (x41.Kind == 3) then ((esref10_Weigh x20.Weights (⟨x41.Server, x41.Weight, x41.Version, x1.Admin, x1.Number⟩ : api_WeightEntry)).bind fun x100 =>
  esref10_Of.j2 x19 (⟨x20.Joined, x20.Removed, x100, (⟨x20.Rule.Kind, x20.Rule.Columns, x20.Rule.Faulty⟩ : api_Rule), x20.Version, x20.Admin, x20.Number⟩ : api_Summary)) else (if (x41.Kind == 4) then esref10_Of.j2 x19 (⟨x20.Joined, x20.Removed, x20.Weights, (⟨x41.Rule.Kind, x41.Rule.Columns, x41.Rule.Faulty⟩ : api_Rule), x41.Version, x1.Admin, x1.Number⟩ : api_Summary) else esref10_Of.j2 x19 x20))))) else some (.inr x20))
noncomputable def esref10_Of (x1 : api_Proposal) : Option api_Summary :=
  ((loopO (esref10_Of.l1 x1) (0, (⟨[], [], [], (⟨0, 0, 0⟩ : api_Rule), 0, 0, 0⟩ : api_Summary))).bind fun x127 => esref10_Of.j1 x127)
/-! elasticstore/elasticstoreref10.Join: function 21 -/
noncomputable def esref10_Join.j1 (x23 : List Int) (x29 : List Int) (x35 : List api_WeightEntry) (x48 : Int) (x49 : Int) (x50 : Int) (x51 : Int) (x52 : Int) (x53 : Int) : Option api_Summary :=
  some (⟨x23, x29, x35, (⟨x48, x49, x50⟩ : api_Rule), x51, x52, x53⟩ : api_Summary)
noncomputable def esref10_Join.j2 (x1 : api_Summary) (x5 : api_Summary) (x23 : List Int) (x29 : List Int) (x35 : List api_WeightEntry) (x58 : Bool) : Option api_Summary :=
  (if x58 then esref10_Join.j1 x23 x29 x35 x5.Rule.Kind x5.Rule.Columns x5.Rule.Faulty x5.Version x5.Admin x5.Number else esref10_Join.j1 x23 x29 x35 x1.Rule.Kind x1.Rule.Columns x1.Rule.Faulty x1.Version x1.Admin x1.Number)
noncomputable def esref10_Join.j3 (x1 : api_Summary) (x5 : api_Summary) (x23 : List Int) (x29 : List Int) (x35 : List api_WeightEntry) : Option api_Summary :=
  (if (!decide ((⟨x5.Rule.Kind, x5.Rule.Columns, x5.Rule.Faulty⟩ : api_Rule) = (⟨0, 0, 0⟩ : api_Rule))) then (if (decide ((⟨x1.Rule.Kind, x1.Rule.Columns, x1.Rule.Faulty⟩ : api_Rule) = (⟨0, 0, 0⟩ : api_Rule))) then esref10_Join.j2 x1 x5 x23 x29 x35 true else ((esref10_later (⟨0, 0, x5.Version, x5.Admin, x5.Number⟩ : api_WeightEntry) (⟨0, 0, x1.Version, x1.Admin, x1.Number⟩ : api_WeightEntry)).bind fun x75 =>
  esref10_Join.j2 x1 x5 x23 x29 x35 x75)) else esref10_Join.j2 x1 x5 x23 x29 x35 false)
noncomputable def esref10_Join.l1 (x5 : api_Summary) : (Int × (List api_WeightEntry)) → Option ((Int × (List api_WeightEntry)) ⊕ (List api_WeightEntry)) := fun (x78, x79) =>
  (if (decide (x78 < ((x5.Weights).length : Int))) then ((idx x5.Weights x78).bind fun x93 =>
  ((esref10_Weigh x79 x93).bind fun x98 =>
  (letV (IntKind.i64.wrap (x78 + 1)) fun x135 =>
  some (.inl (x135, x98))))) else some (.inr x79))
noncomputable def esref10_Join.j4 (x1 : api_Summary) (x5 : api_Summary) (x23 : List Int) (x29 : List Int) : Option api_Summary :=
  ((loopO (esref10_Join.l1 x5) (0, x1.Weights)).bind fun x136 => esref10_Join.j3 x1 x5 x23 x29 x136)
noncomputable def esref10_Join.l2 (x5 : api_Summary) : (Int × (List Int)) → Option ((Int × (List Int)) ⊕ (List Int)) := fun (x139, x140) =>
  (if (decide (x139 < ((x5.Removed).length : Int))) then ((idx x5.Removed x139).bind fun x154 =>
  ((esref10_Insert x140 x154).bind fun x157 =>
  (letV (IntKind.i64.wrap (x139 + 1)) fun x189 =>
  some (.inl (x189, x157))))) else some (.inr x140))
noncomputable def esref10_Join.j5 (x1 : api_Summary) (x5 : api_Summary) (x23 : List Int) : Option api_Summary :=
  ((loopO (esref10_Join.l2 x5) (0, x1.Removed)).bind fun x190 => esref10_Join.j4 x1 x5 x23 x190)
noncomputable def esref10_Join.l3 (x5 : api_Summary) : (Int × (List Int)) → Option ((Int × (List Int)) ⊕ (List Int)) := fun (x193, x194) =>
  (if (decide (x193 < ((x5.Joined).length : Int))) then ((idx x5.Joined x193).bind fun x208 =>
  ((esref10_Insert x194 x208).bind fun x211 =>
  (letV (IntKind.i64.wrap (x193 + 1)) fun x243 =>
  some (.inl (x243, x211))))) else some (.inr x194))
noncomputable def esref10_Join (x1 : api_Summary) (x5 : api_Summary) : Option api_Summary :=
  ((loopO (esref10_Join.l3 x5) (0, x1.Joined)).bind fun x244 => esref10_Join.j5 x1 x5 x244)
/-! elasticstore/elasticstoreref10.Summarize: function 19 -/
noncomputable def esref10_Summarize.j1  (x25 : api_Summary) : Option api_Summary :=
  some x25
noncomputable def esref10_Summarize.l1 (x5 : List api_Proposal) : (Int × api_Summary) → Option ((Int × api_Summary) ⊕ (api_Summary)) := fun (x32, x33) =>
  (if (decide (x32 < (x5.length : Int))) then ((idx x5 x32).bind fun x41 =>
  ((esref10_Of x41).bind fun x46 =>
  ((esref10_Join x33 x46).bind fun x49 =>
  (letV (IntKind.i64.wrap (x32 + 1)) fun x81 =>
  some (.inl (x81, x49)))))) else some (.inr x33))
noncomputable def esref10_Summarize (x1 : api_Genesis) (x5 : List api_Proposal) : Option api_Summary :=
  ((esref10_Initial x1).bind fun x12 =>
  ((loopO (esref10_Summarize.l1 x5) (0, (⟨x12.Joined, x12.Removed, x12.Weights, (⟨x12.Rule.Kind, x12.Rule.Columns, x12.Rule.Faulty⟩ : api_Rule), x12.Version, x12.Admin, x12.Number⟩ : api_Summary))).bind fun x82 => esref10_Summarize.j1 x82))
/-! elasticstore/elasticstoreref06.Admin: function 43 -/
noncomputable def esref06_Admin.j1  (x5 : Bool) : Option Bool :=
  some x5
noncomputable def esref06_Admin (x1 : Int) : Option Bool :=
  (if (decide (201 ≤ x1)) then esref06_Admin.j1 (decide (x1 < 204)) else esref06_Admin.j1 false)
/-! elasticstore/elasticstoreref06.Server: function 34 -/
noncomputable def esref06_Server.j1  (x5 : Bool) : Option Bool :=
  some x5
noncomputable def esref06_Server (x1 : Int) : Option Bool :=
  (if (decide (1 ≤ x1)) then esref06_Server.j1 (decide (x1 ≤ 12)) else esref06_Server.j1 false)
/-! elasticstore/elasticstoreref06.ValidateRule: function 35 -/
noncomputable def esref06_ValidateRule.j1  (x22 : Bool) : Option Int :=
  (if x22 then some 9 else some 0)
noncomputable def esref06_ValidateRule.j2 (x1 : api_Rule) (x16 : Bool) : Option Int :=
  (if x16 then some 9 else (if (x1.Kind == 4) then (if (decide (x1.Faulty < 0)) then esref06_ValidateRule.j1 true else (if (decide (12 < x1.Faulty)) then esref06_ValidateRule.j1 true else (if (x1.Kind != 4) then esref06_ValidateRule.j1 (x1.Faulty != 0) else esref06_ValidateRule.j1 false))) else (if (x1.Kind != 4) then esref06_ValidateRule.j1 (x1.Faulty != 0) else esref06_ValidateRule.j1 false)))
noncomputable def esref06_ValidateRule.j3 (x1 : api_Rule) (x10 : Bool) : Option Int :=
  (if x10 then some 10 else (if (x1.Kind == 3) then ((esref06_Server x1.Columns).bind fun x42 =>
  (if (!x42) then esref06_ValidateRule.j2 x1 true else (if (x1.Kind != 3) then esref06_ValidateRule.j2 x1 (x1.Columns != 0) else esref06_ValidateRule.j2 x1 false))) else (if (x1.Kind != 3) then esref06_ValidateRule.j2 x1 (x1.Columns != 0) else esref06_ValidateRule.j2 x1 false)))
noncomputable def esref06_ValidateRule (x1 : api_Rule) : Option Int :=
  (if (decide (x1.Kind < 1)) then esref06_ValidateRule.j3 x1 true else esref06_ValidateRule.j3 x1 (decide (4 < x1.Kind)))
/-! elasticstore/elasticstoreref06.ValidateChange: function 28 -/
noncomputable def esref06_ValidateChange.j1 (x1 : api_Change) (x12 : Bool) (x35 : Bool) : Option Int :=
  (if x35 then some 9 else (if x12 then ((esref06_ValidateRule x1.Rule).bind fun x45 =>
  some x45) else (if (!decide ((⟨x1.Rule.Kind, x1.Rule.Columns, x1.Rule.Faulty⟩ : api_Rule) = (⟨0, 0, 0⟩ : api_Rule))) then some 2 else some 0)))
noncomputable def esref06_ValidateChange.j2 (x1 : api_Change) (x9 : Bool) (x10 : Bool) (x11 : Bool) (x12 : Bool) (x29 : Bool) : Option Int :=
  (if x29 then some 9 else (if x11 then (if (decide (x1.Version < 1)) then esref06_ValidateChange.j1 x1 x12 true else (if (decide (1000 < x1.Version)) then esref06_ValidateChange.j1 x1 x12 true else (if x9 then esref06_ValidateChange.j1 x1 x12 (x1.Version != 0) else (if x10 then esref06_ValidateChange.j1 x1 x12 (x1.Version != 0) else esref06_ValidateChange.j1 x1 x12 false)))) else (if x12 then (if (decide (x1.Version < 1)) then esref06_ValidateChange.j1 x1 x12 true else (if (decide (1000 < x1.Version)) then esref06_ValidateChange.j1 x1 x12 true else (if x9 then esref06_ValidateChange.j1 x1 x12 (x1.Version != 0) else (if x10 then esref06_ValidateChange.j1 x1 x12 (x1.Version != 0) else esref06_ValidateChange.j1 x1 x12 false)))) else (if x9 then esref06_ValidateChange.j1 x1 x12 (x1.Version != 0) else (if x10 then esref06_ValidateChange.j1 x1 x12 (x1.Version != 0) else esref06_ValidateChange.j1 x1 x12 false)))))
noncomputable def esref06_ValidateChange.j3 (x1 : api_Change) (x9 : Bool) (x10 : Bool) (x11 : Bool) (x12 : Bool) (x23 : Bool) : Option Int :=
  (if x23 then some 9 else (if x9 then (if (decide (x1.Weight < 1)) then esref06_ValidateChange.j2 x1 x9 x10 x11 x12 true else (if (decide (9 < x1.Weight)) then esref06_ValidateChange.j2 x1 x9 x10 x11 x12 true else (if x10 then esref06_ValidateChange.j2 x1 x9 x10 x11 x12 (x1.Weight != 0) else (if x12 then esref06_ValidateChange.j2 x1 x9 x10 x11 x12 (x1.Weight != 0) else esref06_ValidateChange.j2 x1 x9 x10 x11 x12 false)))) else (if x11 then (if (decide (x1.Weight < 1)) then esref06_ValidateChange.j2 x1 x9 x10 x11 x12 true else (if (decide (9 < x1.Weight)) then esref06_ValidateChange.j2 x1 x9 x10 x11 x12 true else (if x10 then esref06_ValidateChange.j2 x1 x9 x10 x11 x12 (x1.Weight != 0) else (if x12 then esref06_ValidateChange.j2 x1 x9 x10 x11 x12 (x1.Weight != 0) else esref06_ValidateChange.j2 x1 x9 x10 x11 x12 false)))) else (if x10 then esref06_ValidateChange.j2 x1 x9 x10 x11 x12 (x1.Weight != 0) else (if x12 then esref06_ValidateChange.j2 x1 x9 x10 x11 x12 (x1.Weight != 0) else esref06_ValidateChange.j2 x1 x9 x10 x11 x12 false)))))
noncomputable def esref06_ValidateChange.j4 (x1 : api_Change) (x9 : Bool) (x10 : Bool) (x11 : Bool) (x12 : Bool) (x17 : Bool) : Option Int :=
  (if x17 then some 10 else (if (!x12) then ((esref06_Server x1.Server).bind fun x99 =>
  (if (!x99) then esref06_ValidateChange.j3 x1 x9 x10 x11 x12 true else (if x12 then esref06_ValidateChange.j3 x1 x9 x10 x11 x12 (x1.Server != 0) else esref06_ValidateChange.j3 x1 x9 x10 x11 x12 false))) else (if x12 then esref06_ValidateChange.j3 x1 x9 x10 x11 x12 (x1.Server != 0) else esref06_ValidateChange.j3 x1 x9 x10 x11 x12 false)))
noncomputable def esref06_ValidateChange.j5 (x1 : api_Change) (x9 : Bool) (x10 : Bool) (x11 : Bool) (x12 : Bool) : Option Int :=
  (if (!x9) then (if (!x10) then (if (!x11) then esref06_ValidateChange.j4 x1 x9 x10 x11 x12 (!x12) else esref06_ValidateChange.j4 x1 x9 x10 x11 x12 false) else esref06_ValidateChange.j4 x1 x9 x10 x11 x12 false) else esref06_ValidateChange.j4 x1 x9 x10 x11 x12 false)
noncomputable def esref06_ValidateChange (x1 : api_Change) : Option Int :=
  esref06_ValidateChange.j5 x1 (x1.Kind == 1) (x1.Kind == 2) (x1.Kind == 3) (x1.Kind == 4)
/-! elasticstore/elasticstoreref06.ValidateProposal: function 20 -/
noncomputable def esref06_ValidateProposal.j1   : Option Int :=
  some 0
noncomputable def esref06_ValidateProposal.j2 (x32 : Int)  : Option ((Int) ⊕ (Unit ⊕ Int)) :=
  (letV (IntKind.i64.wrap (x32 + 1)) fun x43 =>
  some (.inl x43))
noncomputable def esref06_ValidateProposal.j3 (x60 : Int) (x68 : Bool) : Option ((Int) ⊕ (Unit ⊕ Int)) :=
  (if x68 then some (.inr (.inr 5)) else (letV (IntKind.i64.wrap (x60 + 1)) fun x72 =>
  some (.inl x72)))
noncomputable def esref06_ValidateProposal.l1 (x1 : api_Proposal) (x32 : Int) : Int → Option ((Int) ⊕ (Unit ⊕ Int)) := fun x60 =>
  (if (decide (x60 < x32)) then ((idx x1.Changes x60).bind fun x76 =>
  ((idx x1.Changes x32).bind fun x83 =>
  (if (x76.Kind == x83.Kind) then ((idx x1.Changes x60).bind fun x91 =>
  ((idx x1.Changes x32).bind fun x98 =>
  esref06_ValidateProposal.j3 x60 (x91.Server == x98.Server))) else esref06_ValidateProposal.j3 x60 false))) else some (.inr (.inl ())))
noncomputable def esref06_ValidateProposal.l2 (x1 : api_Proposal) : Int → Option ((Int) ⊕ (Unit ⊕ Int)) := fun x32 =>
  (if (decide (x32 < ((x1.Changes).length : Int))) then ((idx x1.Changes x32).bind fun x49 =>
  ((esref06_ValidateChange x49).bind fun x54 =>
  (if (x54 != 0) then some (.inr (.inr x54)) else ((loopO (esref06_ValidateProposal.l1 x1 x32) 0).bind fun b => match b with | .inl _ => esref06_ValidateProposal.j2 x32 | .inr x306 => some (.inr (.inr x306)))))) else some (.inr (.inl ())))
noncomputable def esref06_ValidateProposal.j4 (x1 : api_Proposal) (x10 : Bool) : Option Int :=
  (if x10 then some 9 else (if (((x1.Changes).length : Int) == 0) then some 2 else (if (decide (6 < ((x1.Changes).length : Int))) then some 3 else ((loopO (esref06_ValidateProposal.l2 x1) 0).bind fun b => match b with | .inl _ => esref06_ValidateProposal.j1 | .inr x307 => some x307))))
noncomputable def esref06_ValidateProposal (x1 : api_Proposal) : Option Int :=
  ((esref06_Admin x1.Admin).bind fun x309 =>
  (if (!x309) then esref06_ValidateProposal.j4 x1 true else (if (decide (x1.Number < 1)) then esref06_ValidateProposal.j4 x1 true else esref06_ValidateProposal.j4 x1 (decide (3 < x1.Number)))))
/-! elasticstore/elasticstorelaw08.CommandProposal: function 6 -/
noncomputable def eslaw08_CommandProposal.j1  (x48 : Bool) : Option Bool :=
  some x48
noncomputable def eslaw08_CommandProposal.j2   : Option Bool :=
  ((eslaw08_awake).bind fun x88 =>
  some x88)
noncomputable def eslaw08_CommandProposal.j3 (x91 : Int)  : Option ((Int) ⊕ (Unit ⊕ Bool)) :=
  (letV (IntKind.i64.wrap (x91 + 1)) fun x99 =>
  some (.inl x99))
noncomputable def eslaw08_CommandProposal.j4 (x109 : Int) (x120 : Bool) : Option ((Int) ⊕ (Unit ⊕ Bool)) :=
  (if x120 then some (.inr (.inr false)) else (letV (IntKind.i64.wrap (x109 + 1)) fun x124 =>
  some (.inl x124)))
noncomputable def eslaw08_CommandProposal.l1 (x37 : List api_Change) (x63 : api_Summary) (x91 : Int) : Int → Option ((Int) ⊕ (Unit ⊕ Bool)) := fun x109 =>
  (if (decide (x109 < ((x63.Weights).length : Int))) then ((idx x37 x91).bind fun x125 =>
  (if (x125.Kind == 3) then ((idx x63.Weights x109).bind fun x133 =>
  ((idx x37 x91).bind fun x137 =>
  (if (x133.Server == x137.Server) then ((idx x63.Weights x109).bind fun x145 =>
  ((idx x37 x91).bind fun x149 =>
  eslaw08_CommandProposal.j4 x109 (x145.Weight != x149.Weight))) else eslaw08_CommandProposal.j4 x109 false))) else eslaw08_CommandProposal.j4 x109 false)) else some (.inr (.inl ())))
noncomputable def eslaw08_CommandProposal.j5 (x37 : List api_Change) (x63 : api_Summary) (x91 : Int) (x103 : Bool) : Option ((Int) ⊕ (Unit ⊕ Bool)) :=
  (if x103 then some (.inr (.inr false)) else ((loopO (eslaw08_CommandProposal.l1 x37 x63 x91) 0).bind fun b => match b with | .inl _ => eslaw08_CommandProposal.j3 x91 | .inr x498 => some (.inr (.inr x498))))
noncomputable def eslaw08_CommandProposal.l2 (x37 : List api_Change) (x63 : api_Summary) : Int → Option ((Int) ⊕ (Unit ⊕ Bool)) := fun x91 =>
  (if (decide (x91 < (x37.length : Int))) then ((idx x37 x91).bind fun x499 =>
  (if (x499.Kind == 4) then ((idx x37 x91).bind fun x507 =>
  eslaw08_CommandProposal.j5 x37 x63 x91 (!decide ((⟨x63.Rule.Kind, x63.Rule.Columns, x63.Rule.Faulty⟩ : api_Rule) = (⟨x507.Rule.Kind, x507.Rule.Columns, x507.Rule.Faulty⟩ : api_Rule)))) else eslaw08_CommandProposal.j5 x37 x63 x91 false)) else some (.inr (.inl ())))
noncomputable def eslaw08_CommandProposal.j6 (x1 : Int) (x2 : List Int) (x19 : List UInt8) : Option Bool :=
  ((eslaw00_Genesis x1).bind fun x22 =>
  ((eslaw00_Pool x2).bind fun x26 =>
  ((esref10_Summarize (⟨x22.Members, (⟨x22.Rule.Kind, x22.Rule.Columns, x22.Rule.Faulty⟩ : api_Rule)⟩ : api_Genesis) x26).bind fun x32 =>
  ((command_Compile x19 x32).bind fun (x37, x38, x39) =>
  (if (x39 != 0) then (if ((x37.length : Int) == 0) then ((eslaw08_awake).bind fun x51 =>
  eslaw08_CommandProposal.j1 x51) else eslaw08_CommandProposal.j1 false) else ((esref06_ValidateProposal (⟨201, 1, x37⟩ : api_Proposal)).bind fun x56 =>
  (if (x56 != 0) then some false else ((esref10_Of (⟨201, 1, x37⟩ : api_Proposal)).bind fun x60 =>
  ((esref10_Join x32 x60).bind fun x63 =>
  ((loopO (eslaw08_CommandProposal.l2 x37 x63) 0).bind fun b => match b with | .inl _ => eslaw08_CommandProposal.j2 | .inr x621 => some x621))))))))))
noncomputable def eslaw08_CommandProposal.l3 (x5 : List Int) : ((List UInt8) × Int) → Option (((List UInt8) × Int) ⊕ (List UInt8)) := fun (x624, x625) =>
  (if (decide (x625 < (x5.length : Int))) then ((idx x5 x625).bind fun x631 =>
  (if (([([106, 111, 105, 110, 32, 57] : List UInt8), ([106, 111, 105, 110, 32, 49, 48, 32, 119, 101, 105, 103, 104, 116, 32, 51] : List UInt8), ([114, 101, 109, 111, 118, 101, 32, 49] : List UInt8), ([114, 101, 109, 111, 118, 101, 32, 50] : List UInt8), ([119, 101, 105, 103, 104, 116, 32, 49, 32, 52] : List UInt8), ([119, 101, 105, 103, 104, 116, 32, 50, 32, 50] : List UInt8), ([114, 117, 108, 101, 32, 119, 101, 105, 103, 104, 116, 101, 100] : List UInt8), ([114, 117, 108, 101, 32, 103, 114, 105, 100, 32, 50] : List UInt8), ([114, 117, 108, 101, 32, 109, 97, 115, 107, 105, 110, 103, 32, 49] : List UInt8), ([] : List UInt8), ([35, 32, 110, 111, 116, 101] : List UInt8), ([106, 111, 105, 110, 32, 52] : List UInt8)]).length : Int) ≠ 0 then (letV (Int.tmod (IntKind.i64.wrap x631) (([([106, 111, 105, 110, 32, 57] : List UInt8), ([106, 111, 105, 110, 32, 49, 48, 32, 119, 101, 105, 103, 104, 116, 32, 51] : List UInt8), ([114, 101, 109, 111, 118, 101, 32, 49] : List UInt8), ([114, 101, 109, 111, 118, 101, 32, 50] : List UInt8), ([119, 101, 105, 103, 104, 116, 32, 49, 32, 52] : List UInt8), ([119, 101, 105, 103, 104, 116, 32, 50, 32, 50] : List UInt8), ([114, 117, 108, 101, 32, 119, 101, 105, 103, 104, 116, 101, 100] : List UInt8), ([114, 117, 108, 101, 32, 103, 114, 105, 100, 32, 50] : List UInt8), ([114, 117, 108, 101, 32, 109, 97, 115, 107, 105, 110, 103, 32, 49] : List UInt8), ([] : List UInt8), ([35, 32, 110, 111, 116, 101] : List UInt8), ([106, 111, 105, 110, 32, 52] : List UInt8)]).length : Int)) fun x634 =>
  ((idx ([([106, 111, 105, 110, 32, 57] : List UInt8), ([106, 111, 105, 110, 32, 49, 48, 32, 119, 101, 105, 103, 104, 116, 32, 51] : List UInt8), ([114, 101, 109, 111, 118, 101, 32, 49] : List UInt8), ([114, 101, 109, 111, 118, 101, 32, 50] : List UInt8), ([119, 101, 105, 103, 104, 116, 32, 49, 32, 52] : List UInt8), ([119, 101, 105, 103, 104, 116, 32, 50, 32, 50] : List UInt8), ([114, 117, 108, 101, 32, 119, 101, 105, 103, 104, 116, 101, 100] : List UInt8), ([114, 117, 108, 101, 32, 103, 114, 105, 100, 32, 50] : List UInt8), ([114, 117, 108, 101, 32, 109, 97, 115, 107, 105, 110, 103, 32, 49] : List UInt8), ([] : List UInt8), ([35, 32, 110, 111, 116, 101] : List UInt8), ([106, 111, 105, 110, 32, 52] : List UInt8)]) x634).bind fun x636 =>
  ((cat x624 x636).bind fun x639 =>
  ((cat x639 ([10] : List UInt8)).bind fun x640 =>
  (letV (IntKind.i64.wrap (x625 + 1)) fun x641 =>
  some (.inl (x640, x641))))))) else none)) else some (.inr x624))
noncomputable def eslaw08_CommandProposal (x1 : Int) (x2 : List Int) (x5 : List Int) : Option Bool :=
  (if (decide (12 < (x5.length : Int))) then ((eslaw08_awake).bind fun x13 =>
  some x13) else ((loopO (eslaw08_CommandProposal.l3 x5) (([] : List UInt8), 0)).bind fun x642 => eslaw08_CommandProposal.j6 x1 x2 x642))
/-! elasticstore/elasticstoreref10.words: function 51 -/
noncomputable def esref10_words.j1  (x7 : List (List UInt8)) : Option (List (List UInt8)) :=
  some x7
noncomputable def esref10_words.j2 (x20 : Int) (x27 : List (List UInt8)) (x31 : Int) : Option (((List (List UInt8)) × Int × Int) ⊕ (List (List UInt8))) :=
  (letV (IntKind.i64.wrap (x20 + 1)) fun x33 =>
  some (.inl (x27, x31, x33)))
noncomputable def esref10_words.j3 (x1 : List UInt8) (x15 : List (List UInt8)) (x19 : Int) (x20 : Int) (x36 : Bool) : Option (((List (List UInt8)) × Int × Int) ⊕ (List (List UInt8))) :=
  (if x36 then ((cut x1 x19 x20).bind fun x40 =>
  ((app 16 x15 [x40]).bind fun x42 =>
  (letV (IntKind.i64.wrap (x20 + 1)) fun x47 =>
  esref10_words.j2 x20 x42 x47))) else esref10_words.j2 x20 x15 x19)
noncomputable def esref10_words.l1 (x1 : List UInt8) : ((List (List UInt8)) × Int × Int) → Option (((List (List UInt8)) × Int × Int) ⊕ (List (List UInt8))) := fun (x15, x19, x20) =>
  (if (decide (x20 ≤ (x1.length : Int))) then (if (x20 == (x1.length : Int)) then esref10_words.j3 x1 x15 x19 x20 true else ((idx x1 x20).bind fun x49 =>
  esref10_words.j3 x1 x15 x19 x20 ((x49.toNat : Int) == 32))) else some (.inr x15))
noncomputable def esref10_words (x1 : List UInt8) : Option (List (List UInt8)) :=
  ((loopO (esref10_words.l1 x1) ([], 0, 0)).bind fun x50 => esref10_words.j1 x50)
/-! elasticstore/elasticstoreref10.number: function 53 -/
noncomputable def esref10_number.j1  (x13 : Int) : Option Int :=
  some x13
noncomputable def esref10_number.j2 (x1 : List UInt8) (x18 : Int) (x19 : Int) (x28 : Bool) : Option ((Int × Int) ⊕ (Int ⊕ Int)) :=
  (if x28 then some (.inr (.inr (-1))) else (letV (IntKind.i64.wrap (10 * x18)) fun x32 =>
  ((idx x1 x19).bind fun x33 =>
  (letV (IntKind.u8.wrap ((x33.toNat : Int) - 48)) fun x34 =>
  (letV (IntKind.i64.wrap (x32 + (IntKind.i64.wrap x34))) fun x35 =>
  (letV (IntKind.i64.wrap (x19 + 1)) fun x36 =>
  some (.inl (x35, x36))))))))
noncomputable def esref10_number.l1 (x1 : List UInt8) : (Int × Int) → Option ((Int × Int) ⊕ (Int ⊕ Int)) := fun (x18, x19) =>
  (if (decide (x19 < (x1.length : Int))) then ((idx x1 x19).bind fun x37 =>
  (if (decide ((x37.toNat : Int) < 48)) then esref10_number.j2 x1 x18 x19 true else ((idx x1 x19).bind fun x39 =>
  esref10_number.j2 x1 x18 x19 (decide (57 < (x39.toNat : Int)))))) else some (.inr (.inl x18)))
noncomputable def esref10_number.j3 (x1 : List UInt8) (x6 : Bool) : Option Int :=
  (if x6 then some (-1) else ((loopO (esref10_number.l1 x1) (0, 0)).bind fun b => match b with | .inl x40 => esref10_number.j1 x40 | .inr x41 => some x41))
noncomputable def esref10_number (x1 : List UInt8) : Option Int :=
  (if ((x1.length : Int) == 0) then esref10_number.j3 x1 true else (if (decide (4 < (x1.length : Int))) then esref10_number.j3 x1 true else (if (decide (1 < (x1.length : Int))) then ((idx x1 0).bind fun x45 =>
  esref10_number.j3 x1 ((x45.toNat : Int) == 48)) else esref10_number.j3 x1 false)))
/-! elasticstore/elasticstoreref10.parseRule: function 52 -/
noncomputable def esref10_parseRule.j1 (x1 : List (List UInt8)) (x31 : Bool) : Option (api_Rule × Bool) :=
  (if x31 then ((idx x1 1).bind fun x35 =>
  ((esref10_number x35).bind fun x38 =>
  some ((⟨4, 0, x38⟩ : api_Rule), true))) else some ((⟨0, 0, 0⟩ : api_Rule), false))
noncomputable def esref10_parseRule.j2 (x1 : List (List UInt8)) (x21 : Bool) : Option (api_Rule × Bool) :=
  (if x21 then ((idx x1 1).bind fun x25 =>
  ((esref10_number x25).bind fun x28 =>
  some ((⟨3, x28, 0⟩ : api_Rule), true))) else (if ((x1.length : Int) == 2) then ((idx x1 0).bind fun x41 =>
  (if (x41 == ([109, 97, 115, 107, 105, 110, 103] : List UInt8)) then ((idx x1 1).bind fun x45 =>
  ((esref10_number x45).bind fun x48 =>
  esref10_parseRule.j1 x1 (decide (0 ≤ x48)))) else esref10_parseRule.j1 x1 false)) else esref10_parseRule.j1 x1 false))
noncomputable def esref10_parseRule.j3 (x1 : List (List UInt8)) (x15 : Bool) : Option (api_Rule × Bool) :=
  (if x15 then some ((⟨2, 0, 0⟩ : api_Rule), true) else (if ((x1.length : Int) == 2) then ((idx x1 0).bind fun x50 =>
  (if (x50 == ([103, 114, 105, 100] : List UInt8)) then ((idx x1 1).bind fun x54 =>
  ((esref10_number x54).bind fun x57 =>
  esref10_parseRule.j2 x1 (decide (0 ≤ x57)))) else esref10_parseRule.j2 x1 false)) else esref10_parseRule.j2 x1 false))
noncomputable def esref10_parseRule.j4 (x1 : List (List UInt8)) (x9 : Bool) : Option (api_Rule × Bool) :=
  (if x9 then some ((⟨1, 0, 0⟩ : api_Rule), true) else (if ((x1.length : Int) == 1) then ((idx x1 0).bind fun x59 =>
  esref10_parseRule.j3 x1 (x59 == ([119, 101, 105, 103, 104, 116, 101, 100] : List UInt8))) else esref10_parseRule.j3 x1 false))
noncomputable def esref10_parseRule (x1 : List (List UInt8)) : Option (api_Rule × Bool) :=
  (if ((x1.length : Int) == 1) then ((idx x1 0).bind fun x63 =>
  esref10_parseRule.j4 x1 (x63 == ([109, 97, 106, 111, 114, 105, 116, 121] : List UInt8))) else esref10_parseRule.j4 x1 false)
/-! elasticstore/elasticstoreref10.form: function 27 -/
noncomputable def esref10_form.j1 (x5 : List (List UInt8)) (x36 : Int) (x62 : Bool) : Option (api_Change × Bool) :=
  (if x62 then ((idx x5 2).bind fun x66 =>
  ((esref10_number x66).bind fun x69 =>
  some ((⟨3, x36, x69, 0, (⟨0, 0, 0⟩ : api_Rule)⟩ : api_Change), true))) else some ((⟨0, 0, 0, 0, (⟨0, 0, 0⟩ : api_Rule)⟩ : api_Change), false))
noncomputable def esref10_form.j2 (x5 : List (List UInt8)) (x36 : Int) (x56 : Bool) : Option (api_Change × Bool) :=
  (if x56 then some ((⟨2, x36, 0, 0, (⟨0, 0, 0⟩ : api_Rule)⟩ : api_Change), true) else ((idx x5 0).bind fun x71 =>
  (if (x71 == ([119, 101, 105, 103, 104, 116] : List UInt8)) then (if ((x5.length : Int) == 3) then ((idx x5 2).bind fun x76 =>
  ((esref10_number x76).bind fun x79 =>
  esref10_form.j1 x5 x36 (decide (0 ≤ x79)))) else esref10_form.j1 x5 x36 false) else esref10_form.j1 x5 x36 false)))
noncomputable def esref10_form.j3 (x5 : List (List UInt8)) (x36 : Int) (x46 : Bool) : Option (api_Change × Bool) :=
  (if x46 then ((idx x5 3).bind fun x50 =>
  ((esref10_number x50).bind fun x53 =>
  some ((⟨1, x36, x53, 0, (⟨0, 0, 0⟩ : api_Rule)⟩ : api_Change), true))) else ((idx x5 0).bind fun x80 =>
  (if (x80 == ([114, 101, 109, 111, 118, 101] : List UInt8)) then esref10_form.j2 x5 x36 ((x5.length : Int) == 2) else esref10_form.j2 x5 x36 false)))
noncomputable def esref10_form.j4 (x5 : List (List UInt8)) (x36 : Int) (x40 : Bool) : Option (api_Change × Bool) :=
  (if x40 then some ((⟨1, x36, 1, 0, (⟨0, 0, 0⟩ : api_Rule)⟩ : api_Change), true) else ((idx x5 0).bind fun x84 =>
  (if (x84 == ([106, 111, 105, 110] : List UInt8)) then (if ((x5.length : Int) == 4) then ((idx x5 2).bind fun x89 =>
  (if (x89 == ([119, 101, 105, 103, 104, 116] : List UInt8)) then ((idx x5 3).bind fun x93 =>
  ((esref10_number x93).bind fun x96 =>
  esref10_form.j3 x5 x36 (decide (0 ≤ x96)))) else esref10_form.j3 x5 x36 false)) else esref10_form.j3 x5 x36 false) else esref10_form.j3 x5 x36 false)))
noncomputable def esref10_form.j5 (x5 : List (List UInt8)) (x28 : Bool) : Option (api_Change × Bool) :=
  (if x28 then some ((⟨0, 0, 0, 0, (⟨0, 0, 0⟩ : api_Rule)⟩ : api_Change), false) else ((idx x5 1).bind fun x33 =>
  ((esref10_number x33).bind fun x36 =>
  ((idx x5 0).bind fun x97 =>
  (if (x97 == ([106, 111, 105, 110] : List UInt8)) then esref10_form.j4 x5 x36 ((x5.length : Int) == 2) else esref10_form.j4 x5 x36 false)))))
noncomputable def esref10_form (x1 : List UInt8) : Option (api_Change × Bool) :=
  ((esref10_words x1).bind fun x5 =>
  ((idx x5 0).bind fun x11 =>
  (if (x11 == ([114, 117, 108, 101] : List UInt8)) then ((cut x5 1 (x5.length : Int)).bind fun x16 =>
  ((esref10_parseRule x16).bind fun (x19, x20) =>
  some ((⟨4, 0, 0, 0, x19⟩ : api_Change), x20))) else (if (decide ((x5.length : Int) < 2)) then esref10_form.j5 x5 true else ((idx x5 1).bind fun x102 =>
  ((esref10_number x102).bind fun x105 =>
  esref10_form.j5 x5 (decide (x105 < 0))))))))
/-! elasticstore/elasticstoreref10.versioned: function 29 -/
noncomputable def esref10_versioned.j1 (x1 : api_Change) (x10 : Int) : Option api_Change :=
  some (⟨x1.Kind, x1.Server, x1.Weight, x10, (⟨x1.Rule.Kind, x1.Rule.Columns, x1.Rule.Faulty⟩ : api_Rule)⟩ : api_Change)
noncomputable def esref10_versioned.j2 (x1 : api_Change) (x15 : Bool) : Option api_Change :=
  (if x15 then esref10_versioned.j1 x1 1 else esref10_versioned.j1 x1 x1.Version)
noncomputable def esref10_versioned (x1 : api_Change) : Option api_Change :=
  (if (x1.Kind == 3) then esref10_versioned.j2 x1 (x1.Version == 0) else (if (x1.Kind == 4) then esref10_versioned.j2 x1 (x1.Version == 0) else esref10_versioned.j2 x1 false))
/-! elasticstore/elasticstoreref10.ParseCommand: function 10 -/
noncomputable def esref10_ParseCommand (x1 : List UInt8) : Option (api_Change × Int) :=
  ((esref10_form x1).bind fun (x5, x6) =>
  (if (!x6) then some ((⟨0, 0, 0, 0, (⟨0, 0, 0⟩ : api_Rule)⟩ : api_Change), 11) else ((esref10_versioned x5).bind fun x16 =>
  ((esref06_ValidateChange x16).bind fun x19 =>
  (if (x19 != 0) then some ((⟨0, 0, 0, 0, (⟨0, 0, 0⟩ : api_Rule)⟩ : api_Change), x19) else some (x5, 0))))))
/-! elasticstore/elasticstorelaw08.CommandParse: function 3 -/
noncomputable def eslaw08_CommandParse.j1  (x22 : Bool) : Option Bool :=
  some x22
noncomputable def eslaw08_CommandParse (x1 : List UInt8) : Option Bool :=
  (if (decide (300 < (x1.length : Int))) then ((eslaw08_awake).bind fun x7 =>
  some x7) else ((command_Parse x1).bind fun (x9, x10) =>
  ((esref10_ParseCommand x1).bind fun (x15, x16) =>
  (if (decide ((⟨x9.Kind, x9.Server, x9.Weight, x9.Version, (⟨x9.Rule.Kind, x9.Rule.Columns, x9.Rule.Faulty⟩ : api_Rule)⟩ : api_Change) = (⟨x15.Kind, x15.Server, x15.Weight, x15.Version, (⟨x15.Rule.Kind, x15.Rule.Columns, x15.Rule.Faulty⟩ : api_Rule)⟩ : api_Change))) then (if (x10 == x16) then ((eslaw08_awake).bind fun x26 =>
  eslaw08_CommandParse.j1 x26) else eslaw08_CommandParse.j1 false) else eslaw08_CommandParse.j1 false))))
/-! elasticstore/elasticstoreref10.decimal: function 31 -/
noncomputable def esref10_decimal.j1  (x8 : List UInt8) : Option (List UInt8) :=
  some x8
noncomputable def esref10_decimal.l1  : (Int × (List UInt8)) → Option ((Int × (List UInt8)) ⊕ (List UInt8)) := fun (x12, x13) =>
  (if (decide (10 ≤ x12)) then (letV (IntKind.i64.wrap (Int.tdiv x12 10)) fun x19 =>
  (letV (IntKind.i64.wrap (48 + (Int.tmod x19 10))) fun x20 =>
  ((cat (bts [(IntKind.u8.wrap x20)]) x13).bind fun x22 =>
  some (.inl (x19, x22))))) else some (.inr x13))
noncomputable def esref10_decimal (x1 : Int) : Option (List UInt8) :=
  (letV (IntKind.i64.wrap (48 + (Int.tmod x1 10))) fun x4 =>
  ((loopO esref10_decimal.l1 (x1, (bts [(IntKind.u8.wrap x4)]))).bind fun x23 => esref10_decimal.j1 x23))
/-! elasticstore/elasticstoreref10.FormatCommand: function 12 -/
noncomputable def esref10_FormatCommand (x1 : api_Change) : Option (List UInt8) :=
  ((esref10_versioned x1).bind fun x9 =>
  ((esref06_ValidateChange x9).bind fun x12 =>
  (if (x12 != 0) then some ([] : List UInt8) else (if (x1.Kind == 1) then ((esref10_decimal x1.Server).bind fun x21 =>
  ((cat ([106, 111, 105, 110, 32] : List UInt8) x21).bind fun x22 =>
  ((cat x22 ([32, 119, 101, 105, 103, 104, 116, 32] : List UInt8)).bind fun x23 =>
  ((esref10_decimal x1.Weight).bind fun x25 =>
  ((cat x23 x25).bind fun x26 =>
  some x26))))) else (if (x1.Kind == 2) then ((esref10_decimal x1.Server).bind fun x50 =>
  ((cat ([114, 101, 109, 111, 118, 101, 32] : List UInt8) x50).bind fun x51 =>
  some x51)) else (if (x1.Kind == 3) then ((esref10_decimal x1.Server).bind fun x57 =>
  ((cat ([119, 101, 105, 103, 104, 116, 32] : List UInt8) x57).bind fun x58 =>
  ((cat x58 ([32] : List UInt8)).bind fun x59 =>
  ((esref10_decimal x1.Weight).bind fun x61 =>
  ((cat x59 x61).bind fun x62 =>
  some x62))))) else (if (x1.Rule.Kind == 1) then some ([114, 117, 108, 101, 32, 109, 97, 106, 111, 114, 105, 116, 121] : List UInt8) else (if (x1.Rule.Kind == 2) then some ([114, 117, 108, 101, 32, 119, 101, 105, 103, 104, 116, 101, 100] : List UInt8) else (if (x1.Rule.Kind == 3) then ((esref10_decimal x1.Rule.Columns).bind fun x94 =>
  ((cat ([114, 117, 108, 101, 32, 103, 114, 105, 100, 32] : List UInt8) x94).bind fun x95 =>
  some x95)) else ((esref10_decimal x1.Rule.Faulty).bind fun x98 =>
  ((cat ([114, 117, 108, 101, 32, 109, 97, 115, 107, 105, 110, 103, 32] : List UInt8) x98).bind fun x99 =>
  some x99)))))))))))
/-! elasticstore/elasticstorelaw08.CommandFormat: function 4 -/
noncomputable def eslaw08_CommandFormat.j1  (x28 : Bool) : Option Bool :=
  some x28
noncomputable def eslaw08_CommandFormat (x1 : api_Change) : Option Bool :=
  ((command_Format (⟨x1.Kind, x1.Server, x1.Weight, x1.Version, (⟨x1.Rule.Kind, x1.Rule.Columns, x1.Rule.Faulty⟩ : api_Rule)⟩ : api_Change)).bind fun x8 =>
  ((esref10_FormatCommand (⟨x1.Kind, x1.Server, x1.Weight, x1.Version, (⟨x1.Rule.Kind, x1.Rule.Columns, x1.Rule.Faulty⟩ : api_Rule)⟩ : api_Change)).bind fun x11 =>
  (if (x8 != x11) then some false else (if (x8 == ([] : List UInt8)) then ((eslaw08_awake).bind fun x18 =>
  some x18) else ((command_Parse x8).bind fun (x20, x21) =>
  (if (x21 == 0) then (if (decide ((⟨x20.Kind, x20.Server, x20.Weight, x20.Version, (⟨x20.Rule.Kind, x20.Rule.Columns, x20.Rule.Faulty⟩ : api_Rule)⟩ : api_Change) = (⟨x1.Kind, x1.Server, x1.Weight, 0, (⟨x1.Rule.Kind, x1.Rule.Columns, x1.Rule.Faulty⟩ : api_Rule)⟩ : api_Change))) then ((command_Format (⟨x20.Kind, x20.Server, x20.Weight, x20.Version, (⟨x20.Rule.Kind, x20.Rule.Columns, x20.Rule.Faulty⟩ : api_Rule)⟩ : api_Change)).bind fun x32 =>
  (if (x32 == x8) then ((eslaw08_awake).bind fun x34 =>
  eslaw08_CommandFormat.j1 x34) else eslaw08_CommandFormat.j1 false)) else eslaw08_CommandFormat.j1 false) else eslaw08_CommandFormat.j1 false))))))
/-! elasticstore/elasticstoreref10.servers: function 32 -/
noncomputable def esref10_servers.j1   : Option Bool :=
  some true
noncomputable def esref10_servers.l1 (x1 : List Int) : Int → Option ((Int) ⊕ (Unit ⊕ Bool)) := fun x11 =>
  (if (decide (x11 < (x1.length : Int))) then ((idx x1 x11).bind fun x18 =>
  ((esref06_Server x18).bind fun x21 =>
  (if (!x21) then some (.inr (.inr false)) else (letV (IntKind.i64.wrap (x11 + 1)) fun x24 =>
  some (.inl x24))))) else some (.inr (.inl ())))
noncomputable def esref10_servers (x1 : List Int) : Option Bool :=
  ((loopO (esref10_servers.l1 x1) 0).bind fun b => match b with | .inl _ => esref10_servers.j1 | .inr x25 => some x25)
/-! elasticstore/elasticstoreref10.Ascending: function 33 -/
noncomputable def esref10_Ascending.j1   : Option Bool :=
  some true
noncomputable def esref10_Ascending.l1 (x1 : List Int) : Int → Option ((Int) ⊕ (Unit ⊕ Bool)) := fun x11 =>
  (if (decide (x11 < (x1.length : Int))) then (letV (IntKind.i64.wrap (x11 - 1)) fun x18 =>
  ((idx x1 x18).bind fun x19 =>
  ((idx x1 x11).bind fun x22 =>
  (if (decide (x22 ≤ x19)) then some (.inr (.inr false)) else (letV (IntKind.i64.wrap (x11 + 1)) fun x53 =>
  some (.inl x53)))))) else some (.inr (.inl ())))
noncomputable def esref10_Ascending (x1 : List Int) : Option Bool :=
  ((loopO (esref10_Ascending.l1 x1) 1).bind fun b => match b with | .inl _ => esref10_Ascending.j1 | .inr x54 => some x54)
/-! elasticstore/elasticstoreref10.ValidateSummary: function 13 -/
noncomputable def esref10_ValidateSummary.j1  (x29 : Bool) : Option Int :=
  (if x29 then some 9 else some 0)
noncomputable def esref10_ValidateSummary.j2 (x1 : api_Summary)  : Option Int :=
  (if (decide (x1.Version < 0)) then esref10_ValidateSummary.j1 true else (if (decide (x1.Admin < 0)) then esref10_ValidateSummary.j1 true else (if (decide (x1.Number < 0)) then esref10_ValidateSummary.j1 true else (if (decide ((⟨x1.Rule.Kind, x1.Rule.Columns, x1.Rule.Faulty⟩ : api_Rule) = (⟨0, 0, 0⟩ : api_Rule))) then (if (x1.Version != 0) then esref10_ValidateSummary.j1 true else (if (x1.Admin != 0) then esref10_ValidateSummary.j1 true else esref10_ValidateSummary.j1 (x1.Number != 0))) else esref10_ValidateSummary.j1 false))))
noncomputable def esref10_ValidateSummary.j3 (x1 : api_Summary)  : Option Int :=
  (if (!decide ((⟨x1.Rule.Kind, x1.Rule.Columns, x1.Rule.Faulty⟩ : api_Rule) = (⟨0, 0, 0⟩ : api_Rule))) then ((esref06_ValidateRule x1.Rule).bind fun x58 =>
  (if (x58 != 0) then some x58 else esref10_ValidateSummary.j2 x1)) else esref10_ValidateSummary.j2 x1)
noncomputable def esref10_ValidateSummary.j4 (x64 : Int) (x92 : Bool) : Option ((Int) ⊕ (Unit ⊕ Int)) :=
  (if x92 then some (.inr (.inr 7)) else (letV (IntKind.i64.wrap (x64 + 1)) fun x96 =>
  some (.inl x96)))
noncomputable def esref10_ValidateSummary.j5 (x1 : api_Summary) (x64 : Int) (x77 : api_WeightEntry) (x86 : Bool) : Option ((Int) ⊕ (Unit ⊕ Int)) :=
  (if x86 then some (.inr (.inr 9)) else (if (decide (0 < x64)) then (letV (IntKind.i64.wrap (x64 - 1)) fun x101 =>
  ((idx x1.Weights x101).bind fun x102 =>
  esref10_ValidateSummary.j4 x64 (decide (x77.Server ≤ x102.Server)))) else esref10_ValidateSummary.j4 x64 false))
noncomputable def esref10_ValidateSummary.l1 (x1 : api_Summary) : Int → Option ((Int) ⊕ (Unit ⊕ Int)) := fun x64 =>
  (if (decide (x64 < ((x1.Weights).length : Int))) then ((idx x1.Weights x64).bind fun x77 =>
  ((esref06_Server x77.Server).bind fun x195 =>
  (if (!x195) then esref10_ValidateSummary.j5 x1 x64 x77 true else (if (decide (x77.Weight < 1)) then esref10_ValidateSummary.j5 x1 x64 x77 true else (if (decide (9 < x77.Weight)) then esref10_ValidateSummary.j5 x1 x64 x77 true else (if (decide (x77.Version < 0)) then esref10_ValidateSummary.j5 x1 x64 x77 true else (if (decide (x77.Admin < 0)) then esref10_ValidateSummary.j5 x1 x64 x77 true else esref10_ValidateSummary.j5 x1 x64 x77 (decide (x77.Number < 0))))))))) else some (.inr (.inl ())))
noncomputable def esref10_ValidateSummary.j6 (x1 : api_Summary) (x16 : Bool) : Option Int :=
  (if x16 then some 7 else ((loopO (esref10_ValidateSummary.l1 x1) 0).bind fun b => match b with | .inl _ => esref10_ValidateSummary.j3 x1 | .inr x206 => some x206))
noncomputable def esref10_ValidateSummary.j7 (x1 : api_Summary) (x10 : Bool) : Option Int :=
  (if x10 then some 9 else ((esref10_Ascending x1.Joined).bind fun x210 =>
  (if (!x210) then esref10_ValidateSummary.j6 x1 true else ((esref10_Ascending x1.Removed).bind fun x215 =>
  esref10_ValidateSummary.j6 x1 (!x215)))))
noncomputable def esref10_ValidateSummary (x1 : api_Summary) : Option Int :=
  ((esref10_servers x1.Joined).bind fun x219 =>
  (if (!x219) then esref10_ValidateSummary.j7 x1 true else ((esref10_servers x1.Removed).bind fun x224 =>
  esref10_ValidateSummary.j7 x1 (!x224))))
/-! elasticstore/elasticstoreref06.In: function 59 -/
noncomputable def esref06_In.j1   : Option Bool :=
  some false
noncomputable def esref06_In.l1 (x1 : List Int) (x4 : Int) : Int → Option ((Int) ⊕ (Unit ⊕ Bool)) := fun x12 =>
  (if (decide (x12 < (x1.length : Int))) then ((idx x1 x12).bind fun x19 =>
  (if (x19 == x4) then some (.inr (.inr true)) else (letV (IntKind.i64.wrap (x12 + 1)) fun x24 =>
  some (.inl x24)))) else some (.inr (.inl ())))
noncomputable def esref06_In (x1 : List Int) (x4 : Int) : Option Bool :=
  ((loopO (esref06_In.l1 x1 x4) 0).bind fun b => match b with | .inl _ => esref06_In.j1 | .inr x25 => some x25)
/-! elasticstore/elasticstoreref10.joins: function 60 -/
noncomputable def esref10_joins.j1   : Option Bool :=
  some false
noncomputable def esref10_joins.j2 (x12 : Int) (x20 : Bool) : Option ((Int) ⊕ (Unit ⊕ Bool)) :=
  (if x20 then some (.inr (.inr true)) else (letV (IntKind.i64.wrap (x12 + 1)) fun x24 =>
  some (.inl x24)))
noncomputable def esref10_joins.l1 (x1 : List api_Change) (x4 : Int) : Int → Option ((Int) ⊕ (Unit ⊕ Bool)) := fun x12 =>
  (if (decide (x12 < (x1.length : Int))) then ((idx x1 x12).bind fun x25 =>
  (if (x25.Kind == 1) then ((idx x1 x12).bind fun x30 =>
  esref10_joins.j2 x12 (x30.Server == x4)) else esref10_joins.j2 x12 false)) else some (.inr (.inl ())))
noncomputable def esref10_joins (x1 : List api_Change) (x4 : Int) : Option Bool :=
  ((loopO (esref10_joins.l1 x1 x4) 0).bind fun b => match b with | .inl _ => esref10_joins.j1 | .inr x34 => some x34)
/-! elasticstore/elasticstoreref10.entryVersion: function 61 -/
noncomputable def esref10_entryVersion.j1   : Option Int :=
  some 0
noncomputable def esref10_entryVersion.l1 (x1 : api_Summary) (x5 : Int) : Int → Option ((Int) ⊕ (Unit ⊕ Int)) := fun x14 =>
  (if (decide (x14 < ((x1.Weights).length : Int))) then ((idx x1.Weights x14).bind fun x27 =>
  (if (x27.Server == x5) then ((idx x1.Weights x14).bind fun x36 =>
  some (.inr (.inr x36.Version))) else (letV (IntKind.i64.wrap (x14 + 1)) fun x40 =>
  some (.inl x40)))) else some (.inr (.inl ())))
noncomputable def esref10_entryVersion (x1 : api_Summary) (x5 : Int) : Option Int :=
  ((loopO (esref10_entryVersion.l1 x1 x5) 0).bind fun b => match b with | .inl _ => esref10_entryVersion.j1 | .inr x41 => some x41)
/-! elasticstore/elasticstoreref10.placed: function 38 -/
noncomputable def esref10_placed.j1 (x1 : api_Change) (x66 : api_Change) (x69 : Int) : Option (api_Change × Int) :=
  some ((⟨x1.Kind, x1.Server, x1.Weight, x69, (⟨x1.Rule.Kind, x1.Rule.Columns, x1.Rule.Faulty⟩ : api_Rule)⟩ : api_Change), 0)
noncomputable def esref10_placed.j2 (x1 : api_Change) (x78 : Bool) : Option (api_Change × Int) :=
  (if x78 then some ((⟨x1.Kind, x1.Server, x1.Weight, x1.Version, (⟨x1.Rule.Kind, x1.Rule.Columns, x1.Rule.Faulty⟩ : api_Rule)⟩ : api_Change), 5) else some ((⟨x1.Kind, x1.Server, x1.Weight, x1.Version, (⟨x1.Rule.Kind, x1.Rule.Columns, x1.Rule.Faulty⟩ : api_Rule)⟩ : api_Change), 0))
noncomputable def esref10_placed.j3 (x1 : api_Change) (x8 : api_Summary) (x22 : api_Change) (x103 : Bool) : Option (api_Change × Int) :=
  (if x103 then some ((⟨x1.Kind, x1.Server, x1.Weight, x1.Version, (⟨x1.Rule.Kind, x1.Rule.Columns, x1.Rule.Faulty⟩ : api_Rule)⟩ : api_Change), 9) else (if (x1.Kind == 3) then ((esref10_entryVersion x8 x1.Server).bind fun x109 =>
  (letV (IntKind.i64.wrap (x109 + 1)) fun x110 =>
  esref10_placed.j1 x1 x22 x110)) else esref10_placed.j1 x1 x22 x1.Version))
noncomputable def esref10_placed.j4 (x1 : api_Change) (x8 : api_Summary) (x22 : api_Change) (x96 : Bool) : Option (api_Change × Int) :=
  (if x96 then some ((⟨x1.Kind, x1.Server, x1.Weight, x1.Version, (⟨x1.Rule.Kind, x1.Rule.Columns, x1.Rule.Faulty⟩ : api_Rule)⟩ : api_Change), 6) else (if (x1.Kind == 3) then ((esref10_entryVersion x8 x1.Server).bind fun x112 =>
  esref10_placed.j3 x1 x8 x22 (decide (1000 ≤ x112))) else esref10_placed.j3 x1 x8 x22 false))
noncomputable def esref10_placed.j5 (x1 : api_Change) (x5 : List api_Change) (x8 : api_Summary) (x22 : api_Change) : Option (api_Change × Int) :=
  ((esref06_In x8.Joined x1.Server).bind fun x30 =>
  ((esref06_In x8.Removed x1.Server).bind fun x34 =>
  (if (x1.Kind == 1) then (if x30 then esref10_placed.j2 x1 true else esref10_placed.j2 x1 x34) else (if (x1.Kind == 4) then (if (decide (1000 ≤ x8.Version)) then some ((⟨x1.Kind, x1.Server, x1.Weight, x1.Version, (⟨x1.Rule.Kind, x1.Rule.Columns, x1.Rule.Faulty⟩ : api_Rule)⟩ : api_Change), 9) else (letV (IntKind.i64.wrap (x8.Version + 1)) fun x92 =>
  esref10_placed.j1 x1 x22 x92)) else (if x30 then (if (!(!x34)) then ((esref10_joins x5 x1.Server).bind fun x115 =>
  esref10_placed.j4 x1 x8 x22 (!x115)) else esref10_placed.j4 x1 x8 x22 false) else ((esref10_joins x5 x1.Server).bind fun x116 =>
  esref10_placed.j4 x1 x8 x22 (!x116)))))))
noncomputable def esref10_placed.j6 (x1 : api_Change) (x119 : Int) (x120 : api_Change) (x130 : Bool) : Option ((Int × api_Change) ⊕ (api_Change ⊕ (api_Change × Int))) :=
  (if x130 then some (.inr (.inr ((⟨x1.Kind, x1.Server, x1.Weight, x1.Version, (⟨x1.Rule.Kind, x1.Rule.Columns, x1.Rule.Faulty⟩ : api_Rule)⟩ : api_Change), 5))) else (letV (IntKind.i64.wrap (x119 + 1)) fun x134 =>
  some (.inl (x134, x120))))
noncomputable def esref10_placed.l1 (x1 : api_Change) (x5 : List api_Change) : (Int × api_Change) → Option ((Int × api_Change) ⊕ (api_Change ⊕ (api_Change × Int))) := fun (x119, x120) =>
  (if (decide (x119 < (x5.length : Int))) then ((idx x5 x119).bind fun x135 =>
  (if (x135.Kind == x1.Kind) then ((idx x5 x119).bind fun x140 =>
  esref10_placed.j6 x1 x119 x120 (x140.Server == x1.Server)) else esref10_placed.j6 x1 x119 x120 false)) else some (.inr (.inl x120)))
noncomputable def esref10_placed (x1 : api_Change) (x5 : List api_Change) (x8 : api_Summary) : Option (api_Change × Int) :=
  (if (decide (6 ≤ (x5.length : Int))) then some ((⟨x1.Kind, x1.Server, x1.Weight, x1.Version, (⟨x1.Rule.Kind, x1.Rule.Columns, x1.Rule.Faulty⟩ : api_Rule)⟩ : api_Change), 3) else ((loopO (esref10_placed.l1 x1 x5) (0, (⟨0, 0, 0, 0, (⟨0, 0, 0⟩ : api_Rule)⟩ : api_Change))).bind fun b => match b with | .inl x250 => esref10_placed.j5 x1 x5 x8 x250 | .inr (x251, x252) => some (x251, x252)))
/-! elasticstore/elasticstoreref10.CompileCommands: function 15 -/
noncomputable def esref10_CompileCommands.j1  (x12 : List api_Change) : Option ((List api_Change) × Int × Int) :=
  (if ((x12.length : Int) == 0) then some ([], 0, 2) else some (x12, 0, 0))
noncomputable def esref10_CompileCommands.j2 (x30 : Int) (x37 : List api_Change) (x41 : Int) (x42 : Int) : Option (((List api_Change) × Int × Int × Int) ⊕ ((List api_Change) ⊕ ((List api_Change) × Int × Int))) :=
  (letV (IntKind.i64.wrap (x30 + 1)) fun x44 =>
  some (.inl (x37, x41, x42, x44)))
noncomputable def esref10_CompileCommands.j3 (x2 : api_Summary) (x24 : List api_Change) (x30 : Int) (x52 : List UInt8) (x54 : Int) (x56 : Int) (x60 : Bool) : Option (((List api_Change) × Int × Int × Int) ⊕ ((List api_Change) ⊕ ((List api_Change) × Int × Int))) :=
  (if x60 then esref10_CompileCommands.j2 x30 x24 x54 x56 else ((esref10_ParseCommand x52).bind fun (x64, x65) =>
  (if (x65 != 0) then some (.inr (.inr ([], x56, x65))) else ((esref10_placed x64 x24 x2).bind fun (x74, x75) =>
  (if (x75 != 0) then some (.inr (.inr ([], x56, x75))) else ((app 56 x24 [x74]).bind fun x83 =>
  esref10_CompileCommands.j2 x30 x83 x54 x56))))))
noncomputable def esref10_CompileCommands.j4 (x1 : List UInt8) (x2 : api_Summary) (x24 : List api_Change) (x28 : Int) (x29 : Int) (x30 : Int) (x48 : Bool) : Option (((List api_Change) × Int × Int × Int) ⊕ ((List api_Change) ⊕ ((List api_Change) × Int × Int))) :=
  (if x48 then esref10_CompileCommands.j2 x30 x24 x28 x29 else ((cut x1 x28 x30).bind fun x52 =>
  (letV (IntKind.i64.wrap (x30 + 1)) fun x54 =>
  (letV (IntKind.i64.wrap (x29 + 1)) fun x56 =>
  (if (x52 == ([] : List UInt8)) then esref10_CompileCommands.j3 x2 x24 x30 x52 x54 x56 true else ((idx x52 0).bind fun x89 =>
  esref10_CompileCommands.j3 x2 x24 x30 x52 x54 x56 ((x89.toNat : Int) == 35)))))))
noncomputable def esref10_CompileCommands.l1 (x1 : List UInt8) (x2 : api_Summary) : ((List api_Change) × Int × Int × Int) → Option (((List api_Change) × Int × Int × Int) ⊕ ((List api_Change) ⊕ ((List api_Change) × Int × Int))) := fun (x24, x28, x29, x30) =>
  (if (decide (x30 ≤ (x1.length : Int))) then (if (decide (x30 < (x1.length : Int))) then ((idx x1 x30).bind fun x91 =>
  esref10_CompileCommands.j4 x1 x2 x24 x28 x29 x30 ((x91.toNat : Int) != 10)) else esref10_CompileCommands.j4 x1 x2 x24 x28 x29 x30 false) else some (.inr (.inl x24)))
noncomputable def esref10_CompileCommands (x1 : List UInt8) (x2 : api_Summary) : Option ((List api_Change) × Int × Int) :=
  ((loopO (esref10_CompileCommands.l1 x1 x2) ([], 0, 0, 0)).bind fun b => match b with | .inl x92 => esref10_CompileCommands.j1 x92 | .inr (x93, x94, x95) => some (x93, x94, x95))
/-! elasticstore/elasticstorelaw08.same: function 16 -/
noncomputable def eslaw08_same.j1   : Option Bool :=
  some true
noncomputable def eslaw08_same.l1 (x1 : List api_Change) (x4 : List api_Change) : Int → Option ((Int) ⊕ (Unit ⊕ Bool)) := fun x18 =>
  (if (decide (x18 < (x1.length : Int))) then ((idx x1 x18).bind fun x25 =>
  ((idx x4 x18).bind fun x30 =>
  (if (!decide ((⟨x25.Kind, x25.Server, x25.Weight, x25.Version, (⟨x25.Rule.Kind, x25.Rule.Columns, x25.Rule.Faulty⟩ : api_Rule)⟩ : api_Change) = (⟨x30.Kind, x30.Server, x30.Weight, x30.Version, (⟨x30.Rule.Kind, x30.Rule.Columns, x30.Rule.Faulty⟩ : api_Rule)⟩ : api_Change))) then some (.inr (.inr false)) else (letV (IntKind.i64.wrap (x18 + 1)) fun x71 =>
  some (.inl x71))))) else some (.inr (.inl ())))
noncomputable def eslaw08_same (x1 : List api_Change) (x4 : List api_Change) : Option Bool :=
  (if ((x1.length : Int) != (x4.length : Int)) then some false else ((loopO (eslaw08_same.l1 x1 x4) 0).bind fun b => match b with | .inl _ => eslaw08_same.j1 | .inr x72 => some x72))
/-! elasticstore/elasticstorelaw08.CommandCompile: function 5 -/
noncomputable def eslaw08_CommandCompile.j1  (x32 : Bool) : Option Bool :=
  some x32
noncomputable def eslaw08_CommandCompile.j2 (x1 : List UInt8) (x2 : api_Summary) (x11 : Bool) : Option Bool :=
  (if x11 then ((eslaw08_awake).bind fun x15 =>
  some x15) else ((command_Compile x1 x2).bind fun (x17, x18, x19) =>
  ((esref10_CompileCommands x1 x2).bind fun (x24, x25, x26) =>
  ((eslaw08_same x17 x24).bind fun x34 =>
  (if x34 then (if (x18 == x25) then (if (x19 == x26) then ((eslaw08_awake).bind fun x38 =>
  eslaw08_CommandCompile.j1 x38) else eslaw08_CommandCompile.j1 false) else eslaw08_CommandCompile.j1 false) else eslaw08_CommandCompile.j1 false)))))
noncomputable def eslaw08_CommandCompile (x1 : List UInt8) (x2 : api_Summary) : Option Bool :=
  (if (decide (600 < (x1.length : Int))) then eslaw08_CommandCompile.j2 x1 x2 true else (if (decide (40 < ((x2.Joined).length : Int))) then eslaw08_CommandCompile.j2 x1 x2 true else (if (decide (40 < ((x2.Removed).length : Int))) then eslaw08_CommandCompile.j2 x1 x2 true else (if (decide (40 < ((x2.Weights).length : Int))) then eslaw08_CommandCompile.j2 x1 x2 true else ((esref10_ValidateSummary x2).bind fun x52 =>
  eslaw08_CommandCompile.j2 x1 x2 (x52 != 0))))))
/-! elasticstore/elasticstorelaw08.CommandLines: function 7 -/
noncomputable def eslaw08_CommandLines.j1  (x50 : Bool) : Option Bool :=
  some x50
noncomputable def eslaw08_CommandLines.j2 (x23 : List api_Change) (x25 : Int) (x33 : List api_Change) (x34 : Int) (x35 : Int) (x46 : Int) : Option Bool :=
  ((eslaw08_same x23 x33).bind fun x52 =>
  (if x52 then (if (x25 == x35) then (if (x34 == x46) then ((eslaw08_awake).bind fun x56 =>
  eslaw08_CommandLines.j1 x56) else eslaw08_CommandLines.j1 false) else eslaw08_CommandLines.j1 false) else eslaw08_CommandLines.j1 false))
noncomputable def eslaw08_CommandLines.j3 (x23 : List api_Change) (x24 : Int) (x25 : Int) (x33 : List api_Change) (x34 : Int) (x35 : Int) (x42 : Int) : Option Bool :=
  (if (decide (1 < x24)) then (letV (IntKind.i64.wrap (x24 + 3)) fun x59 =>
  eslaw08_CommandLines.j2 x23 x25 x33 x34 x35 x59) else eslaw08_CommandLines.j2 x23 x25 x33 x34 x35 x42)
noncomputable def eslaw08_CommandLines.j4 (x1 : List UInt8) (x2 : List UInt8) (x3 : api_Summary)  : Option Bool :=
  ((cat x1 ([10] : List UInt8)).bind fun x21 =>
  ((cat x21 x2).bind fun x22 =>
  ((command_Compile x22 x3).bind fun (x23, x24, x25) =>
  ((cat ([10] : List UInt8) x1).bind fun x30 =>
  ((cat x30 ([10, 35, 32, 120, 10, 10] : List UInt8)).bind fun x31 =>
  ((cat x31 x2).bind fun x32 =>
  ((command_Compile x32 x3).bind fun (x33, x34, x35) =>
  (if (x24 == 1) then eslaw08_CommandLines.j3 x23 x24 x25 x33 x34 x35 2 else eslaw08_CommandLines.j3 x23 x24 x25 x33 x34 x35 x24))))))))
noncomputable def eslaw08_CommandLines.l1 (x1 : List UInt8) : Int → Option ((Int) ⊕ (Unit ⊕ Bool)) := fun x64 =>
  (if (decide (x64 < (x1.length : Int))) then ((idx x1 x64).bind fun x71 =>
  (if ((x71.toNat : Int) == 10) then ((eslaw08_awake).bind fun x74 =>
  some (.inr (.inr x74))) else (letV (IntKind.i64.wrap (x64 + 1)) fun x75 =>
  some (.inl x75)))) else some (.inr (.inl ())))
noncomputable def eslaw08_CommandLines.j5 (x1 : List UInt8) (x2 : List UInt8) (x3 : api_Summary) (x12 : Bool) : Option Bool :=
  (if x12 then ((eslaw08_awake).bind fun x16 =>
  some x16) else ((loopO (eslaw08_CommandLines.l1 x1) 0).bind fun b => match b with | .inl _ => eslaw08_CommandLines.j4 x1 x2 x3 | .inr x76 => some x76))
noncomputable def eslaw08_CommandLines (x1 : List UInt8) (x2 : List UInt8) (x3 : api_Summary) : Option Bool :=
  (if (decide (300 < (x1.length : Int))) then eslaw08_CommandLines.j5 x1 x2 x3 true else (if (decide (300 < (x2.length : Int))) then eslaw08_CommandLines.j5 x1 x2 x3 true else ((esref10_ValidateSummary x3).bind fun x79 =>
  eslaw08_CommandLines.j5 x1 x2 x3 (x79 != 0))))
end Go.Proofs.YthfoljpjhegkmaaDoor
