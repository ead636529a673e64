import Derived.Test.YtahobbichanccaaLq
set_option linter.unusedVariables false
set_option linter.unusedSimpArgs false
namespace Go.Proofs.Ytahobbichanccaa
open Go Go.RowKit Go.Proofs.YtahobbichanccaaL
structure api_AccessID where
  Process : Int
  Number : Int
  deriving DecidableEq
structure api_Rule where
  Kind : Int
  Columns : Int
  Faulty : Int
  deriving DecidableEq
structure api_Change where
  Kind : Int
  Server : Int
  Weight : Int
  Version : Int
  Rule : api_Rule
  deriving DecidableEq
structure api_Proposal where
  Admin : Int
  Number : Int
  Changes : List api_Change
  deriving DecidableEq
structure api_Certificate where
  From : List api_Proposal
  To : List api_Proposal
  deriving DecidableEq
structure api_Effect where
  Kind : Int
  Object : List UInt8
  Field : List UInt8
  N : Int
  S : List UInt8
  deriving DecidableEq
structure api_Update where
  Client : Int
  Seq : Int
  Tag : Int
  Effects : List api_Effect
  deriving DecidableEq
structure api_Entry where
  Author : Int
  Count : Int
  deriving DecidableEq
structure api_Message where
  Kind : Int
  From : Int
  To : Int
  Access : api_AccessID
  Round : Int
  Mode : Int
  Cert : api_Certificate
  Base : api_Certificate
  HasBase : Bool
  Established : api_Certificate
  Config : List api_Proposal
  State : List api_Update
  Have : List api_Entry
  More : Bool
  deriving DecidableEq
structure network_Packet where
  ID : Int
  Message : api_Message
  deriving DecidableEq
structure network_Side where
  Process : Int
  Side : Int
  deriving DecidableEq
structure network_Network where
  Next : Int
  Packets : List network_Packet
  Sides : List network_Side
  deriving DecidableEq
structure elasticstorelaw34_Act where
  Kind : Int
  N : Int
  M : Int
  Sides : List network_Side
  deriving DecidableEq
/-! elasticstore/network.New: function 9 -/
noncomputable def network_New  : Option network_Network :=
  some (⟨1, [], []⟩ : network_Network)
/-! slices.Clone[[]elasticstore/network.Packet,elasticstore/network.Packet]: function 48 -/
noncomputable def slices_Clone_Packet (x1 : List network_Packet) : Option (List network_Packet) :=
  ((app 296 [] x1).bind fun x11 =>
  some x11)
/-! slices.Clone[[]elasticstore/network.Side,elasticstore/network.Side]: function 49 -/
noncomputable def slices_Clone_Side (x1 : List network_Side) : Option (List network_Side) :=
  ((app 16 [] x1).bind fun x11 =>
  some x11)
/-! elasticstore/network.clone: function 27 -/
noncomputable def network_clone (x1 : network_Network) : Option network_Network :=
  ((slices_Clone_Packet x1.Packets).bind fun x13 =>
  ((slices_Clone_Side x1.Sides).bind fun x17 =>
  some (⟨x1.Next, x13, x17⟩ : network_Network)))
/-! elasticstore/network.Send: function 10 -/
noncomputable def network_Send.j1 (x16 : network_Network) (x25 : Int) (x26 : List network_Packet) : Option network_Network :=
  some (⟨x25, x26, x16.Sides⟩ : network_Network)
noncomputable def network_Send.l1 (x5 : List api_Message) : (Int × Int × (List network_Packet)) → Option ((Int × Int × (List network_Packet)) ⊕ (Int × (List network_Packet))) := fun (x34, x35, x36) =>
  (if (decide (x34 < (x5.length : Int))) then ((idx x5 x34).bind fun x46 =>
  (if (decide (4096 ≤ (x36.length : Int))) then some (.inr (x35, x36)) else ((app 296 x36 [(⟨x35, x46⟩ : network_Packet)]).bind fun x57 =>
  (letV (IntKind.i64.wrap (x35 + 1)) fun x62 =>
  (letV (IntKind.i64.wrap (x34 + 1)) fun x63 =>
  some (.inl (x63, x62, x57))))))) else some (.inr (x35, x36)))
noncomputable def network_Send (x1 : network_Network) (x5 : List api_Message) : Option network_Network :=
  ((network_clone (⟨x1.Next, x1.Packets, x1.Sides⟩ : network_Network)).bind fun x16 =>
  ((loopO (network_Send.l1 x5) (0, x16.Next, x16.Packets)).bind fun (x64, x65) => network_Send.j1 x16 x64 x65))
/-! slices.SortFunc[[]elasticstore/network.Side,elasticstore/network.Side]: function 28 -/
def slices_SortFunc_Side (x1 : List network_Side) : Option (List network_Side) := sortU (fun a b => decide (a.Process < b.Process)) x1
/-! cmp.isNaN[int]: function 52 -/
noncomputable def cmp_isNaN_int (x1 : Int) : Option Bool :=
  some (x1 != x1)
/-! cmp.Compare[int]: function 30 -/
noncomputable def cmp_Compare_int (x1 : Int) (x2 : Int) : Option Int :=
  ((cmp_isNaN_int x1).bind fun x5 =>
  ((cmp_isNaN_int x2).bind fun x7 =>
  (if x5 then (if x7 then some 0 else some (-1)) else (if x7 then some 1 else (if (decide (x1 < x2)) then some (-1) else (if (decide (x2 < x1)) then some 1 else some 0))))))
/-! elasticstore/network.Partition$1: function 29 -/
noncomputable def network_Partition_1 (x1 : network_Side) (x5 : network_Side) : Option Int :=
  ((cmp_Compare_int x1.Process x5.Process).bind fun x15 =>
  some x15)
/-! elasticstore/network.Partition: function 12 -/
noncomputable def network_Partition.j1 (x16 : network_Network) (x32 : List network_Side) : Option network_Network :=
  ((slices_SortFunc_Side x32).bind fun x38 =>
  some (⟨x16.Next, x16.Packets, x38⟩ : network_Network))
noncomputable def network_Partition.l1  (x49 : Int) (x50 : Int) : List network_Side → Option ((List network_Side) ⊕ (Unit)) := fun x44 =>
  (if (x50 != 0) then ((app 16 x44 [(⟨x49, x50⟩ : network_Side)]).bind fun x60 =>
  some (.inl x60)) else some (.inl x44))
noncomputable def network_Partition.j2 (x16 : network_Network) (x26 : List (Int × Int)) : Option network_Network :=
  (permO x26 fun t42 =>
  ((foldO (fun p : Int × Int => network_Partition.l1 p.1 p.2) t42 []).bind fun b => match b with | .inl x44 => network_Partition.j1 x16 x44 | .inr _ => none))
noncomputable def network_Partition.l2 (x5 : List network_Side) : ((List (Int × Int)) × Int) → Option (((List (Int × Int)) × Int) ⊕ (List (Int × Int))) := fun (x66, x68) =>
  (if (decide (x68 < (x5.length : Int))) then ((idx x5 x68).bind fun x75 =>
  (letV (mset x66 x75.Process x75.Side) fun x83 =>
  (letV (IntKind.i64.wrap (x68 + 1)) fun x84 =>
  some (.inl (x83, x84))))) else some (.inr x66))
noncomputable def network_Partition (x1 : network_Network) (x5 : List network_Side) : Option network_Network :=
  ((network_clone (⟨x1.Next, x1.Packets, x1.Sides⟩ : network_Network)).bind fun x16 =>
  ((loopO (network_Partition.l2 x5) (([] : List (Int × Int)), 0)).bind fun x85 => network_Partition.j2 x16 x85))
/-! elasticstore/network.side: function 31 -/
noncomputable def network_side.j1   : Option Int :=
  some 0
noncomputable def network_side.l1 (x1 : network_Network) (x5 : Int) : Int → Option ((Int) ⊕ (Unit ⊕ Int)) := fun x17 =>
  (if (decide (x17 < ((x1.Sides).length : Int))) then ((idx x1.Sides x17).bind fun x24 =>
  (if (x24.Process == x5) then some (.inr (.inr x24.Side)) else (letV (IntKind.i64.wrap (x17 + 1)) fun x35 =>
  some (.inl x35)))) else some (.inr (.inl ())))
noncomputable def network_side (x1 : network_Network) (x5 : Int) : Option Int :=
  ((loopO (network_side.l1 x1 x5) 0).bind fun b => match b with | .inl _ => network_side.j1 | .inr x36 => some x36)
/-! elasticstore/network.Blocked: function 13 -/
noncomputable def network_Blocked (x1 : network_Network) (x5 : Int) (x6 : Int) : Option Bool :=
  ((network_side x1 x5).bind fun x10 =>
  ((network_side x1 x6).bind fun x11 =>
  some (x10 != x11)))
/-! elasticstore/network.Deliverable: function 14 -/
noncomputable def network_Deliverable.j1  (x10 : List Int) : Option (List Int) :=
  some x10
noncomputable def network_Deliverable.j2 (x25 : Int) (x32 : List Int) : Option (((List Int) × Int) ⊕ (List Int)) :=
  (letV (IntKind.i64.wrap (x25 + 1)) fun x37 =>
  some (.inl (x32, x37)))
noncomputable def network_Deliverable.l1 (x1 : network_Network) : ((List Int) × Int) → Option (((List Int) × Int) ⊕ (List Int)) := fun (x21, x25) =>
  (if (decide (x25 < ((x1.Packets).length : Int))) then ((idx x1.Packets x25).bind fun x39 =>
  ((network_Blocked x1 x39.Message.From x39.Message.To).bind fun x48 =>
  (if (!x48) then ((app 8 x21 [x39.ID]).bind fun x52 =>
  network_Deliverable.j2 x25 x52) else network_Deliverable.j2 x25 x21))) else some (.inr x21))
noncomputable def network_Deliverable (x1 : network_Network) : Option (List Int) :=
  ((loopO (network_Deliverable.l1 x1) ([], 0)).bind fun x57 => network_Deliverable.j1 x57)
/-! slices.BinarySearchFunc[[]elasticstore/network.Packet,elasticstore/network.Packet,int]: function 56 -/
noncomputable def slices_BinarySearchFunc_int.j1  (x16 : Int) (x17 : Bool) : Option (Int × Bool) :=
  some (x16, x17)
noncomputable def slices_BinarySearchFunc_int.j2 (x1 : List network_Packet) (x4 : Int) (x5 : network_Packet × Int → Option Int) (x12 : Int) : Option (Int × Bool) :=
  (if (decide (x12 < (x1.length : Int))) then ((idx x1 x12).bind fun x20 =>
  ((x5 (x20, x4)).bind fun x25 =>
  slices_BinarySearchFunc_int.j1 x12 (x25 == 0))) else slices_BinarySearchFunc_int.j1 x12 false)
noncomputable def slices_BinarySearchFunc_int.l1 (x1 : List network_Packet) (x4 : Int) (x5 : network_Packet × Int → Option Int) : (Int × Int) → Option ((Int × Int) ⊕ (Int)) := fun (x27, x28) =>
  (if (decide (x27 < x28)) then (letV (IntKind.i64.wrap (x27 + x28)) fun x34 =>
  (letV (shrI .u64 (IntKind.u64.wrap x34) 1) fun x36 =>
  ((idx x1 (IntKind.i64.wrap x36)).bind fun x38 =>
  ((x5 (x38, x4)).bind fun x43 =>
  (if (decide (x43 < 0)) then (letV (IntKind.i64.wrap ((IntKind.i64.wrap x36) + 1)) fun x45 =>
  some (.inl (x45, x28))) else some (.inl (x27, (IntKind.i64.wrap x36)))))))) else some (.inr x27))
noncomputable def slices_BinarySearchFunc_int (x1 : List network_Packet) (x4 : Int) (x5 : network_Packet × Int → Option Int) : Option (Int × Bool) :=
  ((loopO (slices_BinarySearchFunc_int.l1 x1 x4 x5) (0, (x1.length : Int))).bind fun x46 => slices_BinarySearchFunc_int.j2 x1 x4 x5 x46)
/-! elasticstore/network.position$1: function 57 -/
noncomputable def network_position_1 (x1 : network_Packet) (x5 : Int) : Option Int :=
  ((cmp_Compare_int x1.ID x5).bind fun x10 =>
  some x10)
/-! elasticstore/network.position: function 40 -/
noncomputable def network_position (x1 : network_Network) (x5 : Int) : Option (Int × Bool) :=
  ((slices_BinarySearchFunc_int x1.Packets x5 (fun p : network_Packet × Int => network_position_1 p.1 p.2)).bind fun (x12, x13) =>
  some (x12, x13))
/-! elasticstore/network.remove: function 47 -/
noncomputable def network_remove (x1 : network_Network) (x5 : Int) : Option network_Network :=
  ((network_clone (⟨x1.Next, x1.Packets, x1.Sides⟩ : network_Network)).bind fun x14 =>
  ((cut x14.Packets 0 x5).bind fun x22 =>
  (letV (IntKind.i64.wrap (x5 + 1)) fun x24 =>
  ((cut x14.Packets x24 ((x14.Packets).length : Int)).bind fun x25 =>
  ((app 296 x22 x25).bind fun x50 =>
  some (⟨x14.Next, x50, x14.Sides⟩ : network_Network))))))
/-! elasticstore/network.Deliver: function 26 -/
noncomputable def network_Deliver.j1 (x1 : network_Network) (x11 : Int) (x16 : Bool) : Option (network_Network × api_Message × Bool) :=
  (if x16 then ((network_clone x1).bind fun x20 =>
  some ((⟨x20.Next, x20.Packets, x20.Sides⟩ : network_Network), (⟨0, 0, 0, (⟨0, 0⟩ : api_AccessID), 0, 0, (⟨[], []⟩ : api_Certificate), (⟨[], []⟩ : api_Certificate), false, (⟨[], []⟩ : api_Certificate), [], [], [], false⟩ : api_Message), false)) else ((network_remove x1 x11).bind fun x28 =>
  ((idx x1.Packets x11).bind fun x34 =>
  some (x28, x34.Message, true))))
noncomputable def network_Deliver (x1 : network_Network) (x5 : Int) : Option (network_Network × api_Message × Bool) :=
  ((network_position x1 x5).bind fun (x11, x12) =>
  (if (!x12) then network_Deliver.j1 x1 x11 true else ((idx x1.Packets x11).bind fun x138 =>
  ((idx x1.Packets x11).bind fun x146 =>
  ((network_Blocked x1 x138.Message.From x146.Message.To).bind fun x151 =>
  network_Deliver.j1 x1 x11 x151)))))
/-! elasticstore/network.Heal: function 15 -/
noncomputable def network_Heal (x1 : network_Network) : Option network_Network :=
  ((network_Partition x1 []).bind fun x9 =>
  some (⟨x9.Next, x9.Packets, x9.Sides⟩ : network_Network))
/-! elasticstore/elasticstorelaw34.awake: function 8 -/
noncomputable def eslaw34_awake.j1  (x56 : Bool) : Option Bool :=
  some x56
noncomputable def eslaw34_awake  : Option Bool :=
  ((network_New).bind fun x3 =>
  ((network_Send (⟨x3.Next, x3.Packets, x3.Sides⟩ : network_Network) ([(⟨1, 1, 2, (⟨0, 0⟩ : api_AccessID), 0, 0, (⟨[], []⟩ : api_Certificate), (⟨[], []⟩ : api_Certificate), false, (⟨[], []⟩ : api_Certificate), [], [], [], false⟩ : api_Message), (⟨2, 2, 3, (⟨0, 0⟩ : api_AccessID), 0, 0, (⟨[], []⟩ : api_Certificate), (⟨[], []⟩ : api_Certificate), false, (⟨[], []⟩ : api_Certificate), [], [], [], false⟩ : api_Message)])).bind fun x11 =>
  ((network_Partition (⟨x11.Next, x11.Packets, x11.Sides⟩ : network_Network) [(⟨1, 4⟩ : network_Side)]).bind fun x21 =>
  ((network_Deliverable (⟨x21.Next, x21.Packets, x21.Sides⟩ : network_Network)).bind fun x30 =>
  ((network_Deliver (⟨x21.Next, x21.Packets, x21.Sides⟩ : network_Network) 1).bind fun (x35, x36, x37) =>
  ((network_Deliver (⟨x21.Next, x21.Packets, x21.Sides⟩ : network_Network) 2).bind fun (x45, x46, x47) =>
  (if (((x11.Packets).length : Int) == 2) then (if (x11.Next == 3) then (if ((x30.length : Int) == 1) then ((idx x30 0).bind fun x61 =>
  (if (x61 == 2) then (if (!x37) then (if x47 then (if (x46.Kind == 2) then (if (((x45.Packets).length : Int) == 1) then ((network_Heal x45).bind fun x73 =>
  ((network_Deliverable (⟨x73.Next, x73.Packets, x73.Sides⟩ : network_Network)).bind fun x80 =>
  (if ((x80.length : Int) == 1) then eslaw34_awake.j1 (((x21.Packets).length : Int) == 2) else eslaw34_awake.j1 false))) else eslaw34_awake.j1 false) else eslaw34_awake.j1 false) else eslaw34_awake.j1 false) else eslaw34_awake.j1 false) else eslaw34_awake.j1 false)) else eslaw34_awake.j1 false) else eslaw34_awake.j1 false) else eslaw34_awake.j1 false)))))))
/-! elasticstore/elasticstorelaw00.Index: function 17 -/
noncomputable def eslaw00_Index (x1 : Int) (x2 : Int) : Option Int :=
  (if (decide (x2 < 1)) then some 0 else (if x2 ≠ 0 then (letV (IntKind.i64.wrap ((Int.tmod x1 x2) + x2)) fun x10 =>
  (if x2 ≠ 0 then some (Int.tmod x10 x2) else none)) else none))
/-! elasticstore/elasticstoreref36.find: function 41 -/
noncomputable def esref36_find.j1   : Option Int :=
  some (-1)
noncomputable def esref36_find.l1 (x1 : network_Network) (x5 : Int) : Int → Option ((Int) ⊕ (Unit ⊕ Int)) := fun x14 =>
  (if (decide (x14 < ((x1.Packets).length : Int))) then ((idx x1.Packets x14).bind fun x27 =>
  (if (x27.ID == x5) then some (.inr (.inr x14)) else (letV (IntKind.i64.wrap (x14 + 1)) fun x33 =>
  some (.inl x33)))) else some (.inr (.inl ())))
noncomputable def esref36_find (x1 : network_Network) (x5 : Int) : Option Int :=
  ((loopO (esref36_find.l1 x1 x5) 0).bind fun b => match b with | .inl _ => esref36_find.j1 | .inr x34 => some x34)
/-! elasticstore/elasticstoreref36.side: function 46 -/
noncomputable def esref36_side.j1   : Option Int :=
  some 0
noncomputable def esref36_side.l1 (x1 : network_Network) (x5 : Int) : Int → Option ((Int) ⊕ (Unit ⊕ Int)) := fun x14 =>
  (if (decide (x14 < ((x1.Sides).length : Int))) then ((idx x1.Sides x14).bind fun x27 =>
  (if (x27.Process == x5) then ((idx x1.Sides x14).bind fun x36 =>
  some (.inr (.inr x36.Side))) else (letV (IntKind.i64.wrap (x14 + 1)) fun x40 =>
  some (.inl x40)))) else some (.inr (.inl ())))
noncomputable def esref36_side (x1 : network_Network) (x5 : Int) : Option Int :=
  ((loopO (esref36_side.l1 x1 x5) 0).bind fun b => match b with | .inl _ => esref36_side.j1 | .inr x41 => some x41)
/-! elasticstore/elasticstoreref36.Blocked: function 25 -/
noncomputable def esref36_Blocked (x1 : network_Network) (x5 : Int) (x6 : Int) : Option Bool :=
  ((esref36_side x1 x5).bind fun x10 =>
  ((esref36_side x1 x6).bind fun x11 =>
  some (x10 != x11)))
/-! elasticstore/elasticstoreref36.Send: function 39 -/
noncomputable def esref36_Send.j1 (x26 : List network_Side) (x88 : Int) (x89 : List network_Packet) : Option network_Network :=
  some (⟨x88, x89, x26⟩ : network_Network)
noncomputable def esref36_Send.j2 (x5 : List api_Message) (x97 : Int) (x98 : Int) (x99 : List network_Packet) (x107 : Bool) : Option ((Int × Int × (List network_Packet)) ⊕ (Int × (List network_Packet))) :=
  (if x107 then ((idx x5 x97).bind fun x112 =>
  ((app 296 x99 [(⟨x98, x112⟩ : network_Packet)]).bind fun x152 =>
  (letV (IntKind.i64.wrap (x98 + 1)) fun x157 =>
  (letV (IntKind.i64.wrap (x97 + 1)) fun x158 =>
  some (.inl (x158, x157, x152)))))) else some (.inr (x98, x99)))
noncomputable def esref36_Send.l1 (x5 : List api_Message) : (Int × Int × (List network_Packet)) → Option ((Int × Int × (List network_Packet)) ⊕ (Int × (List network_Packet))) := fun (x97, x98, x99) =>
  (if (decide (x97 < (x5.length : Int))) then esref36_Send.j2 x5 x97 x98 x99 (decide ((x99.length : Int) < 4096)) else esref36_Send.j2 x5 x97 x98 x99 false)
noncomputable def esref36_Send (x1 : network_Network) (x5 : List api_Message) : Option network_Network :=
  ((app 296 [] x1.Packets).bind fun x17 =>
  ((app 16 [] x1.Sides).bind fun x26 =>
  ((loopO (esref36_Send.l1 x5) (0, x1.Next, x17)).bind fun (x160, x161) => esref36_Send.j1 x26 x160 x161)))
/-! elasticstore/elasticstoreref36.without: function 53 -/
noncomputable def esref36_without (x1 : network_Network) (x5 : Int) : Option network_Network :=
  ((esref36_Send x1 []).bind fun x10 =>
  ((cut x1.Packets 0 x5).bind fun x23 =>
  ((app 296 [] x23).bind fun x26 =>
  (letV (IntKind.i64.wrap (x5 + 1)) fun x34 =>
  ((cut x1.Packets x34 ((x1.Packets).length : Int)).bind fun x35 =>
  ((app 296 x26 x35).bind fun x82 =>
  some (⟨x10.Next, x82, x10.Sides⟩ : network_Network)))))))
/-! elasticstore/elasticstoreref36.Deliver: function 32 -/
noncomputable def esref36_Deliver.j1 (x1 : network_Network) (x11 : Int) (x15 : Bool) : Option (network_Network × api_Message × Bool) :=
  (if x15 then some (x1, (⟨0, 0, 0, (⟨0, 0⟩ : api_AccessID), 0, 0, (⟨[], []⟩ : api_Certificate), (⟨[], []⟩ : api_Certificate), false, (⟨[], []⟩ : api_Certificate), [], [], [], false⟩ : api_Message), false) else ((esref36_without x1 x11).bind fun x20 =>
  ((idx x1.Packets x11).bind fun x26 =>
  some (x20, x26.Message, true))))
noncomputable def esref36_Deliver (x1 : network_Network) (x5 : Int) : Option (network_Network × api_Message × Bool) :=
  ((esref36_find x1 x5).bind fun x11 =>
  (if (decide (x11 < 0)) then esref36_Deliver.j1 x1 x11 true else ((idx x1.Packets x11).bind fun x130 =>
  ((idx x1.Packets x11).bind fun x138 =>
  ((esref36_Blocked x1 x130.Message.From x138.Message.To).bind fun x143 =>
  esref36_Deliver.j1 x1 x11 x143)))))
/-! elasticstore/elasticstoreref06.EqualProposal: function 58 -/
noncomputable def esref06_EqualProposal.j1   : Option Bool :=
  some true
noncomputable def esref06_EqualProposal.l1 (x1 : api_Proposal) (x5 : api_Proposal) : Int → Option ((Int) ⊕ (Unit ⊕ Bool)) := fun x25 =>
  (if (decide (x25 < ((x1.Changes).length : Int))) then ((idx x1.Changes x25).bind fun x38 =>
  ((idx x5.Changes x25).bind fun x46 =>
  (if (!decide ((⟨x38.Kind, x38.Server, x38.Weight, x38.Version, (⟨x38.Rule.Kind, x38.Rule.Columns, x38.Rule.Faulty⟩ : api_Rule)⟩ : api_Change) = (⟨x46.Kind, x46.Server, x46.Weight, x46.Version, (⟨x46.Rule.Kind, x46.Rule.Columns, x46.Rule.Faulty⟩ : api_Rule)⟩ : api_Change))) then some (.inr (.inr false)) else (letV (IntKind.i64.wrap (x25 + 1)) fun x101 =>
  some (.inl x101))))) else some (.inr (.inl ())))
noncomputable def esref06_EqualProposal.j2 (x1 : api_Proposal) (x5 : api_Proposal) (x15 : Bool) : Option Bool :=
  (if x15 then some false else ((loopO (esref06_EqualProposal.l1 x1 x5) 0).bind fun b => match b with | .inl _ => esref06_EqualProposal.j1 | .inr x102 => some x102))
noncomputable def esref06_EqualProposal (x1 : api_Proposal) (x5 : api_Proposal) : Option Bool :=
  (if (x1.Admin != x5.Admin) then esref06_EqualProposal.j2 x1 x5 true else (if (x1.Number != x5.Number) then esref06_EqualProposal.j2 x1 x5 true else esref06_EqualProposal.j2 x1 x5 (((x1.Changes).length : Int) != ((x5.Changes).length : Int))))
/-! elasticstore/elasticstoreref06.EqualConfig: function 43 -/
noncomputable def esref06_EqualConfig.j1   : Option Bool :=
  some true
noncomputable def esref06_EqualConfig.l1 (x1 : List api_Proposal) (x4 : List api_Proposal) : Int → Option ((Int) ⊕ (Unit ⊕ Bool)) := fun x18 =>
  (if (decide (x18 < (x1.length : Int))) then ((idx x1 x18).bind fun x25 =>
  ((idx x4 x18).bind fun x30 =>
  ((esref06_EqualProposal x25 x30).bind fun x35 =>
  (if (!x35) then some (.inr (.inr false)) else (letV (IntKind.i64.wrap (x18 + 1)) fun x74 =>
  some (.inl x74)))))) else some (.inr (.inl ())))
noncomputable def esref06_EqualConfig (x1 : List api_Proposal) (x4 : List api_Proposal) : Option Bool :=
  (if ((x1.length : Int) != (x4.length : Int)) then some false else ((loopO (esref06_EqualConfig.l1 x1 x4) 0).bind fun b => match b with | .inl _ => esref06_EqualConfig.j1 | .inr x75 => some x75))
/-! elasticstore/elasticstoreref14.EqualCert: function 42 -/
noncomputable def esref14_EqualCert.j1  (x14 : Bool) : Option Bool :=
  some x14
noncomputable def esref14_EqualCert (x1 : api_Certificate) (x5 : api_Certificate) : Option Bool :=
  ((esref06_EqualConfig x1.From x5.From).bind fun x22 =>
  (if x22 then ((esref06_EqualConfig x1.To x5.To).bind fun x30 =>
  esref14_EqualCert.j1 x30) else esref14_EqualCert.j1 false))
/-! elasticstore/elasticstoreref14.EqualUpdate: function 59 -/
noncomputable def esref14_EqualUpdate.j1   : Option Bool :=
  some true
noncomputable def esref14_EqualUpdate.l1 (x1 : api_Update) (x5 : api_Update) : Int → Option ((Int) ⊕ (Unit ⊕ Bool)) := fun x25 =>
  (if (decide (x25 < ((x1.Effects).length : Int))) then ((idx x1.Effects x25).bind fun x38 =>
  ((idx x5.Effects x25).bind fun x46 =>
  (if (!decide ((⟨x38.Kind, x38.Object, x38.Field, x38.N, x38.S⟩ : api_Effect) = (⟨x46.Kind, x46.Object, x46.Field, x46.N, x46.S⟩ : api_Effect))) then some (.inr (.inr false)) else (letV (IntKind.i64.wrap (x25 + 1)) fun x101 =>
  some (.inl x101))))) else some (.inr (.inl ())))
noncomputable def esref14_EqualUpdate.j2 (x1 : api_Update) (x5 : api_Update) (x15 : Bool) : Option Bool :=
  (if x15 then some false else ((loopO (esref14_EqualUpdate.l1 x1 x5) 0).bind fun b => match b with | .inl _ => esref14_EqualUpdate.j1 | .inr x102 => some x102))
noncomputable def esref14_EqualUpdate (x1 : api_Update) (x5 : api_Update) : Option Bool :=
  (if (x1.Client != x5.Client) then esref14_EqualUpdate.j2 x1 x5 true else (if (x1.Seq != x5.Seq) then esref14_EqualUpdate.j2 x1 x5 true else (if (x1.Tag != x5.Tag) then esref14_EqualUpdate.j2 x1 x5 true else esref14_EqualUpdate.j2 x1 x5 (((x1.Effects).length : Int) != ((x5.Effects).length : Int)))))
/-! elasticstore/elasticstoreref14.EqualState: function 44 -/
noncomputable def esref14_EqualState.j1   : Option Bool :=
  some true
noncomputable def esref14_EqualState.l1 (x1 : List api_Update) (x4 : List api_Update) : Int → Option ((Int) ⊕ (Unit ⊕ Bool)) := fun x18 =>
  (if (decide (x18 < (x1.length : Int))) then ((idx x1 x18).bind fun x25 =>
  ((idx x4 x18).bind fun x30 =>
  ((esref14_EqualUpdate x25 x30).bind fun x35 =>
  (if (!x35) then some (.inr (.inr false)) else (letV (IntKind.i64.wrap (x18 + 1)) fun x74 =>
  some (.inl x74)))))) else some (.inr (.inl ())))
noncomputable def esref14_EqualState (x1 : List api_Update) (x4 : List api_Update) : Option Bool :=
  (if ((x1.length : Int) != (x4.length : Int)) then some false else ((loopO (esref14_EqualState.l1 x1 x4) 0).bind fun b => match b with | .inl _ => esref14_EqualState.j1 | .inr x75 => some x75))
/-! elasticstore/elasticstoreref03.EqualVector: function 45 -/
noncomputable def esref03_EqualVector.j1   : Option Bool :=
  some true
noncomputable def esref03_EqualVector.l1 (x1 : List api_Entry) (x4 : List api_Entry) : Int → Option ((Int) ⊕ (Unit ⊕ Bool)) := fun x18 =>
  (if (decide (x18 < (x1.length : Int))) then ((idx x1 x18).bind fun x25 =>
  ((idx x4 x18).bind fun x30 =>
  (if (!decide ((⟨x25.Author, x25.Count⟩ : api_Entry) = (⟨x30.Author, x30.Count⟩ : api_Entry))) then some (.inr (.inr false)) else (letV (IntKind.i64.wrap (x18 + 1)) fun x71 =>
  some (.inl x71))))) else some (.inr (.inl ())))
noncomputable def esref03_EqualVector (x1 : List api_Entry) (x4 : List api_Entry) : Option Bool :=
  (if ((x1.length : Int) != (x4.length : Int)) then some false else ((loopO (esref03_EqualVector.l1 x1 x4) 0).bind fun b => match b with | .inl _ => esref03_EqualVector.j1 | .inr x72 => some x72))
/-! elasticstore/elasticstoreref14.EqualMessage: function 24 -/
noncomputable def esref14_EqualMessage.j1  (x21 : Bool) : Option Bool :=
  some x21
noncomputable def esref14_EqualMessage.j2 (x1 : api_Message) (x5 : api_Message) (x15 : Bool) : Option Bool :=
  (if x15 then some false else ((esref14_EqualCert x1.Cert x5.Cert).bind fun x29 =>
  (if x29 then ((esref14_EqualCert x1.Base x5.Base).bind fun x37 =>
  (if x37 then ((esref14_EqualCert x1.Established x5.Established).bind fun x45 =>
  (if x45 then ((esref06_EqualConfig x1.Config x5.Config).bind fun x53 =>
  (if x53 then ((esref14_EqualState x1.State x5.State).bind fun x61 =>
  (if x61 then ((esref03_EqualVector x1.Have x5.Have).bind fun x69 =>
  esref14_EqualMessage.j1 x69) else esref14_EqualMessage.j1 false)) else esref14_EqualMessage.j1 false)) else esref14_EqualMessage.j1 false)) else esref14_EqualMessage.j1 false)) else esref14_EqualMessage.j1 false)))
noncomputable def esref14_EqualMessage (x1 : api_Message) (x5 : api_Message) : Option Bool :=
  (if (x1.Kind != x5.Kind) then esref14_EqualMessage.j2 x1 x5 true else (if (x1.From != x5.From) then esref14_EqualMessage.j2 x1 x5 true else (if (x1.To != x5.To) then esref14_EqualMessage.j2 x1 x5 true else (if (!decide ((⟨x1.Access.Process, x1.Access.Number⟩ : api_AccessID) = (⟨x5.Access.Process, x5.Access.Number⟩ : api_AccessID))) then esref14_EqualMessage.j2 x1 x5 true else (if (x1.Round != x5.Round) then esref14_EqualMessage.j2 x1 x5 true else (if (x1.Mode != x5.Mode) then esref14_EqualMessage.j2 x1 x5 true else (if (x1.HasBase != x5.HasBase) then esref14_EqualMessage.j2 x1 x5 true else esref14_EqualMessage.j2 x1 x5 (x1.More != x5.More))))))))
/-! elasticstore/network.Drop: function 33 -/
noncomputable def network_Drop (x1 : network_Network) (x5 : Int) : Option (network_Network × Bool) :=
  ((network_position x1 x5).bind fun (x10, x11) =>
  (if (!x11) then ((network_clone x1).bind fun x16 =>
  some ((⟨x16.Next, x16.Packets, x16.Sides⟩ : network_Network), false)) else ((network_remove x1 x10).bind fun x24 =>
  some (x24, true))))
/-! elasticstore/elasticstoreref36.Drop: function 34 -/
noncomputable def esref36_Drop (x1 : network_Network) (x5 : Int) : Option (network_Network × Bool) :=
  ((esref36_find x1 x5).bind fun x10 =>
  (if (decide (x10 < 0)) then some (x1, false) else ((esref36_without x1 x10).bind fun x16 =>
  some ((⟨x16.Next, x16.Packets, x16.Sides⟩ : network_Network), true))))
/-! elasticstore/network.Find: function 22 -/
noncomputable def network_Find (x1 : network_Network) (x5 : Int) : Option (api_Message × Bool) :=
  ((network_position x1 x5).bind fun (x10, x11) =>
  (if (!x11) then some ((⟨0, 0, 0, (⟨0, 0⟩ : api_AccessID), 0, 0, (⟨[], []⟩ : api_Certificate), (⟨[], []⟩ : api_Certificate), false, (⟨[], []⟩ : api_Certificate), [], [], [], false⟩ : api_Message), false) else ((idx x1.Packets x10).bind fun x20 =>
  some (x20.Message, true))))
/-! elasticstore/network.Duplicate: function 18 -/
noncomputable def network_Duplicate.j1 (x1 : network_Network) (x10 : api_Message) (x18 : Bool) : Option (network_Network × Int × Bool) :=
  (if x18 then ((network_clone x1).bind fun x22 =>
  some ((⟨x22.Next, x22.Packets, x22.Sides⟩ : network_Network), 0, false)) else ((network_Send x1 [x10]).bind fun x32 =>
  some (x32, x1.Next, true)))
noncomputable def network_Duplicate (x1 : network_Network) (x5 : Int) : Option (network_Network × Int × Bool) :=
  ((network_Find x1 x5).bind fun (x10, x11) =>
  (if (!x11) then network_Duplicate.j1 x1 x10 true else network_Duplicate.j1 x1 x10 (decide (4096 ≤ ((x1.Packets).length : Int)))))
/-! elasticstore/elasticstoreref36.Duplicate: function 35 -/
noncomputable def esref36_Duplicate.j1 (x1 : network_Network) (x10 : Int) (x14 : Bool) : Option (network_Network × Int × Bool) :=
  (if x14 then some (x1, 0, false) else ((idx x1.Packets x10).bind fun x22 =>
  ((esref36_Send x1 [x22.Message]).bind fun x30 =>
  some (x30, x1.Next, true))))
noncomputable def esref36_Duplicate (x1 : network_Network) (x5 : Int) : Option (network_Network × Int × Bool) :=
  ((esref36_find x1 x5).bind fun x10 =>
  (if (decide (x10 < 0)) then esref36_Duplicate.j1 x1 x10 true else esref36_Duplicate.j1 x1 x10 (decide (4096 ≤ ((x1.Packets).length : Int)))))
/-! elasticstore/elasticstoreref36.Partition: function 36 -/
noncomputable def esref36_Partition.j1 (x12 : network_Network) (x23 : List network_Side) : Option network_Network :=
  some (⟨x12.Next, x12.Packets, x23⟩ : network_Network)
noncomputable def esref36_Partition.j2 (x30 : Int) (x40 : List network_Side) : Option ((Int × (List network_Side)) ⊕ (List network_Side)) :=
  (letV (IntKind.i64.wrap (x30 + 1)) fun x44 =>
  some (.inl (x44, x40)))
noncomputable def esref36_Partition.j3 (x30 : Int) (x62 : List network_Side) : Option ((Int × (List network_Side)) ⊕ (List network_Side)) :=
  esref36_Partition.j2 x30 x62
noncomputable def esref36_Partition.j4 (x73 : Int) (x80 : List network_Side) : Option (((List network_Side) × Int) ⊕ (List network_Side)) :=
  (letV (IntKind.i64.wrap (x73 + 1)) fun x85 =>
  some (.inl (x80, x85)))
noncomputable def esref36_Partition.l1 (x5 : List network_Side) (x30 : Int) (x31 : List network_Side) : ((List network_Side) × Int) → Option (((List network_Side) × Int) ⊕ (List network_Side)) := fun (x69, x73) =>
  (if (decide (x73 < (x31.length : Int))) then ((idx x31 x73).bind fun x87 =>
  ((idx x5 x30).bind fun x91 =>
  (if (decide (x91.Process < x87.Process)) then ((idx x31 x73).bind fun x132 =>
  ((app 16 x69 [x132]).bind fun x138 =>
  esref36_Partition.j4 x73 x138)) else esref36_Partition.j4 x73 x69))) else some (.inr x69))
noncomputable def esref36_Partition.j5 (x5 : List network_Side) (x30 : Int) (x31 : List network_Side) (x55 : List network_Side) : Option ((Int × (List network_Side)) ⊕ (List network_Side)) :=
  ((loopO (esref36_Partition.l1 x5 x30 x31) (x55, 0)).bind fun x143 => esref36_Partition.j3 x30 x143)
noncomputable def esref36_Partition.j6 (x5 : List network_Side) (x30 : Int) (x31 : List network_Side) (x48 : List network_Side) : Option ((Int × (List network_Side)) ⊕ (List network_Side)) :=
  ((idx x5 x30).bind fun x145 =>
  (if (x145.Side != 0) then ((idx x5 x30).bind fun x150 =>
  ((app 16 x48 [x150]).bind fun x156 =>
  esref36_Partition.j5 x5 x30 x31 x156)) else esref36_Partition.j5 x5 x30 x31 x48))
noncomputable def esref36_Partition.j7 (x167 : Int) (x174 : List network_Side) : Option (((List network_Side) × Int) ⊕ (List network_Side)) :=
  (letV (IntKind.i64.wrap (x167 + 1)) fun x179 =>
  some (.inl (x174, x179)))
noncomputable def esref36_Partition.l2 (x5 : List network_Side) (x30 : Int) (x31 : List network_Side) : ((List network_Side) × Int) → Option (((List network_Side) × Int) ⊕ (List network_Side)) := fun (x163, x167) =>
  (if (decide (x167 < (x31.length : Int))) then ((idx x31 x167).bind fun x181 =>
  ((idx x5 x30).bind fun x185 =>
  (if (decide (x181.Process < x185.Process)) then ((idx x31 x167).bind fun x226 =>
  ((app 16 x163 [x226]).bind fun x232 =>
  esref36_Partition.j7 x167 x232)) else esref36_Partition.j7 x167 x163))) else some (.inr x163))
noncomputable def esref36_Partition.l3 (x5 : List network_Side) : (Int × (List network_Side)) → Option ((Int × (List network_Side)) ⊕ (List network_Side)) := fun (x30, x31) =>
  (if (decide (x30 < (x5.length : Int))) then ((loopO (esref36_Partition.l2 x5 x30 x31) ([], 0)).bind fun x237 => esref36_Partition.j6 x5 x30 x31 x237) else some (.inr x31))
noncomputable def esref36_Partition (x1 : network_Network) (x5 : List network_Side) : Option network_Network :=
  ((esref36_Send x1 []).bind fun x12 =>
  ((loopO (esref36_Partition.l3 x5) (0, [])).bind fun x238 => esref36_Partition.j1 x12 x238))
/-! elasticstore/network.Purge$1: function 55 -/
noncomputable def network_Purge_1 (x1 : network_Packet) (x5 : Int) : Option Bool :=
  some (x1.Message.To == x5)
/-! slices.IndexFunc[[]elasticstore/network.Packet,elasticstore/network.Packet]: function 70 -/
noncomputable def slices_IndexFunc_Packet.j1   : Option Int :=
  some (-1)
noncomputable def slices_IndexFunc_Packet.l1 (x1 : List network_Packet) (x4 : network_Packet → Option Bool) : Int → Option ((Int) ⊕ (Unit ⊕ Int)) := fun x13 =>
  (if (decide (x13 < (x1.length : Int))) then ((idx x1 x13).bind fun x21 =>
  ((x4 x21).bind fun x26 =>
  (if x26 then some (.inr (.inr x13)) else (letV (IntKind.i64.wrap (x13 + 1)) fun x29 =>
  some (.inl x29))))) else some (.inr (.inl ())))
noncomputable def slices_IndexFunc_Packet (x1 : List network_Packet) (x4 : network_Packet → Option Bool) : Option Int :=
  ((loopO (slices_IndexFunc_Packet.l1 x1 x4) 0).bind fun b => match b with | .inl _ => slices_IndexFunc_Packet.j1 | .inr x30 => some x30)
/-! slices.DeleteFunc[[]elasticstore/network.Packet,elasticstore/network.Packet]: function 54 -/
noncomputable def slices_DeleteFunc_Packet.j1  (x15 : List network_Packet) (x17 : Int) : Option (List network_Packet) :=
  (if 0 ≤ x17 ∧ x17 ≤ (x15.length : Int) then ((clr x15 x17 (⟨0, ⟨0, 0, 0, ⟨0, 0⟩, 0, 0, ⟨[], []⟩, ⟨[], []⟩, false, ⟨[], []⟩, [], [], [], false⟩⟩ : network_Packet)).bind fun x21 =>
  ((cut x21 0 x17).bind fun x23 =>
  some x23)) else none)
noncomputable def slices_DeleteFunc_Packet.j2 (x29 : Int) (x35 : List network_Packet) (x37 : Int) : Option (((List network_Packet) × Int × Int) ⊕ ((List network_Packet) × Int)) :=
  (letV (IntKind.i64.wrap (x29 + 1)) fun x39 =>
  some (.inl (x35, x37, x39)))
noncomputable def slices_DeleteFunc_Packet.l1 (x5 : network_Packet → Option Bool) : ((List network_Packet) × Int × Int) → Option (((List network_Packet) × Int × Int) ⊕ ((List network_Packet) × Int)) := fun (x26, x28, x29) =>
  (if (decide (x29 < (x26.length : Int))) then ((idx x26 x29).bind fun x41 =>
  ((x5 x41).bind fun x48 =>
  (if (!x48) then ((idx x26 x28).bind fun x51 =>
  (letV (x26.set (x28).toNat x41) fun x53 =>
  (letV (IntKind.i64.wrap (x28 + 1)) fun x54 =>
  slices_DeleteFunc_Packet.j2 x29 x53 x54))) else slices_DeleteFunc_Packet.j2 x29 x26 x28))) else some (.inr (x26, x28)))
noncomputable def slices_DeleteFunc_Packet (x1 : List network_Packet) (x5 : network_Packet → Option Bool) : Option (List network_Packet) :=
  ((slices_IndexFunc_Packet x1 x5).bind fun x9 =>
  (if (x9 == (-1)) then some x1 else (letV (IntKind.i64.wrap (x9 + 1)) fun x25 =>
  ((loopO (slices_DeleteFunc_Packet.l1 x5) (x1, x9, x25)).bind fun (x55, x56) => slices_DeleteFunc_Packet.j1 x55 x56))))
/-! elasticstore/network.Purge: function 37 -/
noncomputable def network_Purge (x1 : network_Network) (x5 : Int) : Option network_Network :=
  ((network_clone (⟨x1.Next, x1.Packets, x1.Sides⟩ : network_Network)).bind fun x15 =>
  ((slices_DeleteFunc_Packet x15.Packets (fun p : network_Packet => network_Purge_1 p x5)).bind fun x23 =>
  some (⟨x15.Next, x23, x15.Sides⟩ : network_Network)))
/-! elasticstore/elasticstoreref36.Purge: function 38 -/
noncomputable def esref36_Purge.j1 (x10 : network_Network) (x21 : List network_Packet) : Option network_Network :=
  some (⟨x10.Next, x21, x10.Sides⟩ : network_Network)
noncomputable def esref36_Purge.j2 (x29 : Int) (x43 : List network_Packet) : Option ((Int × (List network_Packet)) ⊕ (List network_Packet)) :=
  (letV (IntKind.i64.wrap (x29 + 1)) fun x48 =>
  some (.inl (x48, x43)))
noncomputable def esref36_Purge.l1 (x1 : network_Network) (x5 : Int) : (Int × (List network_Packet)) → Option ((Int × (List network_Packet)) ⊕ (List network_Packet)) := fun (x29, x30) =>
  (if (decide (x29 < ((x1.Packets).length : Int))) then ((idx x1.Packets x29).bind fun x53 =>
  (if (x53.Message.To != x5) then ((idx x1.Packets x29).bind fun x62 =>
  ((app 296 x30 [x62]).bind fun x99 =>
  esref36_Purge.j2 x29 x99)) else esref36_Purge.j2 x29 x30)) else some (.inr x30))
noncomputable def esref36_Purge (x1 : network_Network) (x5 : Int) : Option network_Network :=
  ((esref36_Send x1 []).bind fun x10 =>
  ((loopO (esref36_Purge.l1 x1 x5) (0, [])).bind fun x104 => esref36_Purge.j1 x10 x104))
/-! elasticstore/elasticstorelaw34.messages: function 11 -/
noncomputable def eslaw34_messages.j1  (x10 : List api_Message) : Option (List api_Message) :=
  some x10
noncomputable def eslaw34_messages.l1 (x1 : elasticstorelaw34_Act) : ((List api_Message) × Int) → Option (((List api_Message) × Int) ⊕ (List api_Message)) := fun (x18, x22) =>
  ((eslaw00_Index x1.M 4).bind fun x27 =>
  (if (decide (x22 < x27)) then (letV (IntKind.i64.wrap (1 + x22)) fun x30 =>
  (letV (IntKind.i64.wrap (x22 + 1)) fun x32 =>
  (if x32 ≠ 0 then (letV (IntKind.i64.wrap (Int.tdiv x1.N x32)) fun x33 =>
  ((eslaw00_Index x33 5).bind fun x35 =>
  (letV (IntKind.i64.wrap (1 + x35)) fun x36 =>
  (letV (IntKind.i64.wrap (x22 + 7)) fun x38 =>
  (if x38 ≠ 0 then (letV (IntKind.i64.wrap (Int.tdiv x1.N x38)) fun x39 =>
  ((eslaw00_Index x39 5).bind fun x41 =>
  (letV (IntKind.i64.wrap (1 + x41)) fun x42 =>
  ((app 288 x18 ([(⟨x30, x36, x42, (⟨0, 0⟩ : api_AccessID), x22, 0, (⟨[], []⟩ : api_Certificate), (⟨[], []⟩ : api_Certificate), false, (⟨[], []⟩ : api_Certificate), [], [], [], false⟩ : api_Message)])).bind fun x86 =>
  (letV (IntKind.i64.wrap (x22 + 1)) fun x91 =>
  some (.inl (x86, x91))))))) else none))))) else none))) else some (.inr x18)))
noncomputable def eslaw34_messages (x1 : elasticstorelaw34_Act) : Option (List api_Message) :=
  ((loopO (eslaw34_messages.l1 x1) ([], 0)).bind fun x92 => eslaw34_messages.j1 x92)
/-! elasticstore/elasticstorelaw34.step: function 19 -/
noncomputable def eslaw34_step.j1  (x53 : Bool) (x54 : Int) (x55 : List network_Packet) (x58 : List network_Side) (x61 : Int) (x62 : List network_Packet) (x65 : List network_Side) : Option (network_Network × network_Network × Bool) :=
  some ((⟨x61, x62, x65⟩ : network_Network), (⟨x54, x55, x58⟩ : network_Network), x53)
noncomputable def eslaw34_step.j2  (x192 : Bool) (x193 : Int) (x194 : List network_Packet) (x197 : List network_Side) (x200 : Int) (x201 : List network_Packet) (x204 : List network_Side) : Option (network_Network × network_Network × Bool) :=
  some ((⟨x200, x201, x204⟩ : network_Network), (⟨x193, x194, x197⟩ : network_Network), x192)
noncomputable def eslaw34_step (x1 : network_Network) (x5 : network_Network) (x9 : elasticstorelaw34_Act) : Option (network_Network × network_Network × Bool) :=
  (letV (IntKind.i64.wrap (x1.Next + 2)) fun x22 =>
  ((eslaw00_Index x9.N (maxI 2 x22)).bind fun x23 =>
  (letV (IntKind.i64.wrap (x23 - 1)) fun x24 =>
  ((eslaw00_Index x9.Kind 9).bind fun x28 =>
  (if (x28 == 0) then ((network_Deliver x1 x24).bind fun (x32, x33, x34) =>
  ((esref36_Deliver x5 x24).bind fun (x42, x43, x44) =>
  (if (x34 == x44) then ((esref14_EqualMessage x33 x43).bind fun x70 =>
  eslaw34_step.j1 x70 x42.Next x42.Packets x42.Sides x32.Next x32.Packets x32.Sides) else eslaw34_step.j1 false x42.Next x42.Packets x42.Sides x32.Next x32.Packets x32.Sides))) else (if (x28 == 1) then ((network_Drop x1 x24).bind fun (x152, x153) =>
  ((esref36_Drop x5 x24).bind fun (x158, x159) =>
  some (x152, x158, (x153 == x159)))) else (if (x28 == 2) then ((network_Duplicate x1 x24).bind fun (x177, x178, x179) =>
  ((esref36_Duplicate x5 x24).bind fun (x184, x185, x186) =>
  (if (x179 == x186) then eslaw34_step.j2 (x178 == x185) x184.Next x184.Packets x184.Sides x177.Next x177.Packets x177.Sides else eslaw34_step.j2 false x184.Next x184.Packets x184.Sides x177.Next x177.Packets x177.Sides))) else (if (x28 == 3) then ((cut x9.Sides 0 (minI ((x9.Sides).length : Int) 8)).bind fun x296 =>
  ((network_Partition x1 x296).bind fun x300 =>
  ((esref36_Partition x5 x296).bind fun x303 =>
  some (x300, x303, true)))) else (if (x28 == 4) then ((eslaw00_Index x9.N 5).bind fun x325 =>
  (letV (IntKind.i64.wrap (1 + x325)) fun x326 =>
  ((eslaw00_Index x9.M 3).bind fun x328 =>
  ((eslaw00_Index x9.M 5).bind fun x330 =>
  (letV (IntKind.i64.wrap (1 + x330)) fun x331 =>
  ((network_Partition x1 [(⟨x326, x328⟩ : network_Side), (⟨x331, 1⟩ : network_Side)]).bind fun x365 =>
  ((esref36_Partition x5 [(⟨x326, x328⟩ : network_Side), (⟨x331, 1⟩ : network_Side)]).bind fun x368 =>
  some (x365, x368, true)))))))) else (if (x28 == 5) then ((network_Heal x1).bind fun x389 =>
  ((esref36_Partition x5 []).bind fun x392 =>
  some (x389, x392, true))) else (if (x28 == 6) then ((eslaw00_Index x9.M 5).bind fun x410 =>
  (letV (IntKind.i64.wrap (1 + x410)) fun x411 =>
  ((network_Purge x1 x411).bind fun x412 =>
  ((eslaw00_Index x9.M 5).bind fun x416 =>
  (letV (IntKind.i64.wrap (1 + x416)) fun x417 =>
  ((esref36_Purge x5 x417).bind fun x418 =>
  some (x412, x418, true))))))) else ((eslaw34_messages x9).bind fun x449 =>
  ((network_Send x1 x449).bind fun x452 =>
  ((eslaw34_messages x9).bind fun x455 =>
  ((esref36_Send x5 x455).bind fun x458 =>
  some (x452, x458, true))))))))))))))))
/-! elasticstore/elasticstorelaw34.Equal: function 16 -/
noncomputable def eslaw34_Equal.j1   : Option Bool :=
  some true
noncomputable def eslaw34_Equal.l1 (x1 : network_Network) (x5 : network_Network) : Int → Option ((Int) ⊕ (Unit ⊕ Bool)) := fun x28 =>
  (if (decide (x28 < ((x1.Sides).length : Int))) then ((idx x1.Sides x28).bind fun x41 =>
  ((idx x5.Sides x28).bind fun x49 =>
  (if (!decide ((⟨x41.Process, x41.Side⟩ : network_Side) = (⟨x49.Process, x49.Side⟩ : network_Side))) then some (.inr (.inr false)) else (letV (IntKind.i64.wrap (x28 + 1)) fun x104 =>
  some (.inl x104))))) else some (.inr (.inl ())))
noncomputable def eslaw34_Equal.j2 (x1 : network_Network) (x5 : network_Network)  : Option Bool :=
  ((loopO (eslaw34_Equal.l1 x1 x5) 0).bind fun b => match b with | .inl _ => eslaw34_Equal.j1 | .inr x105 => some x105)
noncomputable def eslaw34_Equal.j3 (x108 : Int) (x119 : Bool) : Option ((Int) ⊕ (Unit ⊕ Bool)) :=
  (if x119 then some (.inr (.inr false)) else (letV (IntKind.i64.wrap (x108 + 1)) fun x123 =>
  some (.inl x123)))
noncomputable def eslaw34_Equal.l2 (x1 : network_Network) (x5 : network_Network) : Int → Option ((Int) ⊕ (Unit ⊕ Bool)) := fun x108 =>
  (if (decide (x108 < ((x1.Packets).length : Int))) then ((idx x1.Packets x108).bind fun x127 =>
  ((idx x5.Packets x108).bind fun x134 =>
  (if (x127.ID != x134.ID) then eslaw34_Equal.j3 x108 true else ((idx x1.Packets x108).bind fun x236 =>
  ((idx x5.Packets x108).bind fun x245 =>
  ((esref14_EqualMessage x236.Message x245.Message).bind fun x251 =>
  eslaw34_Equal.j3 x108 (!x251))))))) else some (.inr (.inl ())))
noncomputable def eslaw34_Equal.j4 (x1 : network_Network) (x5 : network_Network) (x15 : Bool) : Option Bool :=
  (if x15 then some false else ((loopO (eslaw34_Equal.l2 x1 x5) 0).bind fun b => match b with | .inl _ => eslaw34_Equal.j2 x1 x5 | .inr x378 => some x378))
noncomputable def eslaw34_Equal (x1 : network_Network) (x5 : network_Network) : Option Bool :=
  (if (x1.Next != x5.Next) then eslaw34_Equal.j4 x1 x5 true else (if (((x1.Packets).length : Int) != ((x5.Packets).length : Int)) then eslaw34_Equal.j4 x1 x5 true else eslaw34_Equal.j4 x1 x5 (((x1.Sides).length : Int) != ((x5.Sides).length : Int))))
/-! elasticstore/elasticstoreref36.Deliverable: function 21 -/
noncomputable def esref36_Deliverable.j1  (x10 : List Int) : Option (List Int) :=
  some x10
noncomputable def esref36_Deliverable.j2 (x22 : Int) (x32 : List Int) : Option (((List Int) × Int) ⊕ (List Int)) :=
  (letV (IntKind.i64.wrap (x22 + 1)) fun x37 =>
  some (.inl (x32, x37)))
noncomputable def esref36_Deliverable.l1 (x1 : network_Network) : ((List Int) × Int) → Option (((List Int) × Int) ⊕ (List Int)) := fun (x18, x22) =>
  (if (decide (x22 < ((x1.Packets).length : Int))) then ((idx x1.Packets x22).bind fun x42 =>
  ((esref36_Blocked x1 x42.Message.From x42.Message.To).bind fun x52 =>
  (if (!x52) then ((idx x1.Packets x22).bind fun x57 =>
  ((app 8 x18 [x57.ID]).bind fun x62 =>
  esref36_Deliverable.j2 x22 x62)) else esref36_Deliverable.j2 x22 x18))) else some (.inr x18))
noncomputable def esref36_Deliverable (x1 : network_Network) : Option (List Int) :=
  ((loopO (esref36_Deliverable.l1 x1) ([], 0)).bind fun x67 => esref36_Deliverable.j1 x67)
/-! elasticstore/elasticstorelaw34.equalInts: function 20 -/
noncomputable def eslaw34_equalInts.j1   : Option Bool :=
  some true
noncomputable def eslaw34_equalInts.l1 (x1 : List Int) (x4 : List Int) : Int → Option ((Int) ⊕ (Unit ⊕ Bool)) := fun x18 =>
  (if (decide (x18 < (x1.length : Int))) then ((idx x1 x18).bind fun x25 =>
  ((idx x4 x18).bind fun x28 =>
  (if (x25 != x28) then some (.inr (.inr false)) else (letV (IntKind.i64.wrap (x18 + 1)) fun x57 =>
  some (.inl x57))))) else some (.inr (.inl ())))
noncomputable def eslaw34_equalInts (x1 : List Int) (x4 : List Int) : Option Bool :=
  (if ((x1.length : Int) != (x4.length : Int)) then some false else ((loopO (eslaw34_equalInts.l1 x1 x4) 0).bind fun b => match b with | .inl _ => eslaw34_equalInts.j1 | .inr x58 => some x58))
/-! elasticstore/elasticstoreref36.Find: function 23 -/
noncomputable def esref36_Find (x1 : network_Network) (x5 : Int) : Option (api_Message × Bool) :=
  ((esref36_find x1 x5).bind fun x11 =>
  (if (decide (0 ≤ x11)) then ((idx x1.Packets x11).bind fun x18 =>
  some (x18.Message, true)) else some ((⟨0, 0, 0, (⟨0, 0⟩ : api_AccessID), 0, 0, (⟨[], []⟩ : api_Certificate), (⟨[], []⟩ : api_Certificate), false, (⟨[], []⟩ : api_Certificate), [], [], [], false⟩ : api_Message), false)))
/-! elasticstore/elasticstorelaw34.NetworkPlays: function 5 -/
noncomputable def eslaw34_NetworkPlays.j1   : Option Bool :=
  ((eslaw34_awake).bind fun x24 =>
  some x24)
noncomputable def eslaw34_NetworkPlays.j2 (x27 : Int) (x51 : Int) (x52 : List network_Packet) (x55 : List network_Side) (x58 : Int) (x59 : List network_Packet) (x62 : List network_Side) (x118 : Bool) : Option ((Int × Int × (List network_Packet) × (List network_Side) × Int × (List network_Packet) × (List network_Side)) ⊕ (Unit ⊕ Bool)) :=
  (if x118 then some (.inr (.inr false)) else (letV (IntKind.i64.wrap (x27 + 1)) fun x122 =>
  some (.inl (x122, x51, x52, x55, x58, x59, x62))))
noncomputable def eslaw34_NetworkPlays.j3 (x1 : List elasticstorelaw34_Act) (x27 : Int) (x51 : Int) (x52 : List network_Packet) (x55 : List network_Side) (x58 : Int) (x59 : List network_Packet) (x62 : List network_Side) (x69 : Bool) : Option ((Int × Int × (List network_Packet) × (List network_Side) × Int × (List network_Packet) × (List network_Side)) ⊕ (Unit ⊕ Bool)) :=
  (if x69 then some (.inr (.inr false)) else ((idx x1 x27).bind fun x74 =>
  (letV (IntKind.i64.wrap (x58 + 1)) fun x78 =>
  ((eslaw00_Index x74.M x78).bind fun x79 =>
  ((network_Find (⟨x58, x59, x62⟩ : network_Network) x79).bind fun (x105, x106) =>
  ((esref36_Find (⟨x51, x52, x55⟩ : network_Network) x79).bind fun (x111, x112) =>
  (if (x106 != x112) then eslaw34_NetworkPlays.j2 x27 x51 x52 x55 x58 x59 x62 true else ((esref14_EqualMessage x105 x111).bind fun x237 =>
  (if (!x237) then eslaw34_NetworkPlays.j2 x27 x51 x52 x55 x58 x59 x62 true else ((idx x1 x27).bind fun x352 =>
  ((eslaw00_Index x352.N 7).bind fun x356 =>
  ((idx x1 x27).bind fun x357 =>
  ((eslaw00_Index x357.M 7).bind fun x361 =>
  ((network_Blocked (⟨x58, x59, x62⟩ : network_Network) x356 x361).bind fun x362 =>
  ((idx x1 x27).bind fun x363 =>
  ((eslaw00_Index x363.N 7).bind fun x367 =>
  ((idx x1 x27).bind fun x368 =>
  ((eslaw00_Index x368.M 7).bind fun x372 =>
  ((esref36_Blocked (⟨x51, x52, x55⟩ : network_Network) x367 x372).bind fun x373 =>
  eslaw34_NetworkPlays.j2 x27 x51 x52 x55 x58 x59 x62 (x362 != x373))))))))))))))))))))
noncomputable def eslaw34_NetworkPlays.j4 (x1 : List elasticstorelaw34_Act) (x27 : Int) (x50 : Bool) (x51 : Int) (x52 : List network_Packet) (x55 : List network_Side) (x58 : Int) (x59 : List network_Packet) (x62 : List network_Side) : Option ((Int × Int × (List network_Packet) × (List network_Side) × Int × (List network_Packet) × (List network_Side)) ⊕ (Unit ⊕ Bool)) :=
  (if (!x50) then eslaw34_NetworkPlays.j3 x1 x27 x51 x52 x55 x58 x59 x62 true else ((eslaw34_Equal (⟨x58, x59, x62⟩ : network_Network) (⟨x51, x52, x55⟩ : network_Network)).bind fun x554 =>
  (if (!x554) then eslaw34_NetworkPlays.j3 x1 x27 x51 x52 x55 x58 x59 x62 true else ((network_Deliverable (⟨x58, x59, x62⟩ : network_Network)).bind fun x598 =>
  ((esref36_Deliverable (⟨x51, x52, x55⟩ : network_Network)).bind fun x601 =>
  ((eslaw34_equalInts x598 x601).bind fun x604 =>
  eslaw34_NetworkPlays.j3 x1 x27 x51 x52 x55 x58 x59 x62 (!x604)))))))
noncomputable def eslaw34_NetworkPlays.l1 (x1 : List elasticstorelaw34_Act) : (Int × Int × (List network_Packet) × (List network_Side) × Int × (List network_Packet) × (List network_Side)) → Option ((Int × Int × (List network_Packet) × (List network_Side) × Int × (List network_Packet) × (List network_Side)) ⊕ (Unit ⊕ Bool)) := fun (x27, x28, x29, x32, x35, x36, x39) =>
  (if (decide (x27 < (x1.length : Int))) then ((idx x1 x27).bind fun x657 =>
  ((eslaw34_step (⟨x35, x36, x39⟩ : network_Network) (⟨x28, x29, x32⟩ : network_Network) x657).bind fun (x662, x663, x664) =>
  eslaw34_NetworkPlays.j4 x1 x27 x664 x663.Next x663.Packets x663.Sides x662.Next x662.Packets x662.Sides)) else some (.inr (.inl ())))
noncomputable def eslaw34_NetworkPlays (x1 : List elasticstorelaw34_Act) : Option Bool :=
  (if (decide (60 < (x1.length : Int))) then ((eslaw34_awake).bind fun x9 =>
  some x9) else ((network_New).bind fun x11 =>
  ((loopO (eslaw34_NetworkPlays.l1 x1) (0, 1, [], [], x11.Next, x11.Packets, x11.Sides)).bind fun b => match b with | .inl _ => eslaw34_NetworkPlays.j1 | .inr x718 => some x718)))
/-! elasticstore/elasticstorelaw34.NetworkValues: function 6 -/
noncomputable def eslaw34_NetworkValues.j1   : Option Bool :=
  ((eslaw34_awake).bind fun x47 =>
  some x47)
noncomputable def eslaw34_NetworkValues.l1 (x4 : List elasticstorelaw34_Act) (x28 : Int) (x29 : List network_Packet) (x32 : List network_Side) (x35 : Int) (x36 : List network_Packet) (x39 : List network_Side) : Int → Option ((Int) ⊕ (Unit ⊕ Bool)) := fun x50 =>
  (if (decide (x50 < (x4.length : Int))) then ((idx x4 x50).bind fun x57 =>
  ((eslaw34_step (⟨x35, x36, x39⟩ : network_Network) (⟨x28, x29, x32⟩ : network_Network) x57).bind fun (x62, x63, x64) =>
  ((eslaw34_Equal (⟨x35, x36, x39⟩ : network_Network) (⟨x28, x29, x32⟩ : network_Network)).bind fun x96 =>
  (if (!x96) then some (.inr (.inr false)) else (letV (IntKind.i64.wrap (x50 + 1)) fun x99 =>
  some (.inl x99)))))) else some (.inr (.inl ())))
noncomputable def eslaw34_NetworkValues.j2 (x4 : List elasticstorelaw34_Act) (x28 : Int) (x29 : List network_Packet) (x32 : List network_Side) (x35 : Int) (x36 : List network_Packet) (x39 : List network_Side) : Option Bool :=
  ((loopO (eslaw34_NetworkValues.l1 x4 x28 x29 x32 x35 x36 x39) 0).bind fun b => match b with | .inl _ => eslaw34_NetworkValues.j1 | .inr x100 => some x100)
noncomputable def eslaw34_NetworkValues.j3 (x103 : Int) (x124 : Int) (x125 : List network_Packet) (x128 : List network_Side) (x131 : Int) (x132 : List network_Packet) (x135 : List network_Side) : Option ((Int × Int × (List network_Packet) × (List network_Side) × Int × (List network_Packet) × (List network_Side)) ⊕ (Int × (List network_Packet) × (List network_Side) × Int × (List network_Packet) × (List network_Side))) :=
  (letV (IntKind.i64.wrap (x103 + 1)) fun x139 =>
  some (.inl (x139, x124, x125, x128, x131, x132, x135)))
noncomputable def eslaw34_NetworkValues.l2 (x1 : List elasticstorelaw34_Act) : (Int × Int × (List network_Packet) × (List network_Side) × Int × (List network_Packet) × (List network_Side)) → Option ((Int × Int × (List network_Packet) × (List network_Side) × Int × (List network_Packet) × (List network_Side)) ⊕ (Int × (List network_Packet) × (List network_Side) × Int × (List network_Packet) × (List network_Side))) := fun (x103, x104, x105, x108, x111, x112, x115) =>
  (if (decide (x103 < (x1.length : Int))) then ((idx x1 x103).bind fun x140 =>
  ((eslaw34_step (⟨x111, x112, x115⟩ : network_Network) (⟨x104, x105, x108⟩ : network_Network) x140).bind fun (x145, x146, x147) =>
  eslaw34_NetworkValues.j3 x103 x146.Next x146.Packets x146.Sides x145.Next x145.Packets x145.Sides)) else some (.inr (x104, x105, x108, x111, x112, x115)))
noncomputable def eslaw34_NetworkValues.j4 (x1 : List elasticstorelaw34_Act) (x4 : List elasticstorelaw34_Act) (x11 : Bool) : Option Bool :=
  (if x11 then ((eslaw34_awake).bind fun x15 =>
  some x15) else ((network_New).bind fun x17 =>
  ((loopO (eslaw34_NetworkValues.l2 x1) (0, 1, [], [], x17.Next, x17.Packets, x17.Sides)).bind fun (x201, x202, x203, x204, x205, x206) => eslaw34_NetworkValues.j2 x4 x201 x202 x203 x204 x205 x206)))
noncomputable def eslaw34_NetworkValues (x1 : List elasticstorelaw34_Act) (x4 : List elasticstorelaw34_Act) : Option Bool :=
  (if (decide (30 < (x1.length : Int))) then eslaw34_NetworkValues.j4 x1 x4 true else eslaw34_NetworkValues.j4 x1 x4 (decide (20 < (x4.length : Int))))
/-! elasticstore/elasticstorelaw34.NetworkCounts: function 7 -/
noncomputable def eslaw34_NetworkCounts.j1  (x22 : List (Int × Bool)) : Option Bool :=
  ((eslaw34_awake).bind fun x26 =>
  some x26)
noncomputable def eslaw34_NetworkCounts.j2 (x30 : Int) (x43 : List (Int × Bool)) (x45 : Int) (x46 : List network_Packet) (x49 : List network_Side) : Option (((List (Int × Bool)) × Int × Int × (List network_Packet) × (List network_Side)) ⊕ ((List (Int × Bool)) ⊕ Bool)) :=
  (letV (IntKind.i64.wrap (x30 + 1)) fun x53 =>
  some (.inl (x43, x53, x45, x46, x49)))
noncomputable def eslaw34_NetworkCounts.j3 (x30 : Int) (x58 : Int) (x59 : List network_Packet) (x62 : List network_Side) (x69 : List (Int × Bool)) (x73 : List (Int × Bool)) : Option (((List (Int × Bool)) × Int × Int × (List network_Packet) × (List network_Side)) ⊕ ((List (Int × Bool)) ⊕ Bool)) :=
  (letV (IntKind.i64.wrap ((x73.length : Int) + (x69.length : Int))) fun x77 =>
  (letV (IntKind.i64.wrap (x58 - 1)) fun x78 =>
  (if (x77 != x78) then some (.inr (.inr false)) else eslaw34_NetworkCounts.j2 x30 x73 x58 x59 x62)))
noncomputable def eslaw34_NetworkCounts.j4 (x84 : Int) (x90 : List (Int × Bool)) : Option (((List (Int × Bool)) × Int) ⊕ (List (Int × Bool))) :=
  (letV (IntKind.i64.wrap (x84 + 1)) fun x93 =>
  some (.inl (x90, x93)))
noncomputable def eslaw34_NetworkCounts.l1 (x32 : List network_Packet) (x69 : List (Int × Bool)) : ((List (Int × Bool)) × Int) → Option (((List (Int × Bool)) × Int) ⊕ (List (Int × Bool))) := fun (x82, x84) =>
  (if (decide (x84 < (x32.length : Int))) then ((idx x32 x84).bind fun x95 =>
  (letV ((List.lookup x95.ID x69).getD false) fun x99 =>
  (if (!x99) then ((idx x32 x84).bind fun x102 =>
  (letV (mset x82 x102.ID true) fun x106 =>
  eslaw34_NetworkCounts.j4 x84 x106)) else eslaw34_NetworkCounts.j4 x84 x82))) else some (.inr x82))
noncomputable def eslaw34_NetworkCounts.j5 (x28 : List (Int × Bool)) (x30 : Int) (x32 : List network_Packet) (x58 : Int) (x59 : List network_Packet) (x62 : List network_Side) (x69 : List (Int × Bool)) : Option (((List (Int × Bool)) × Int × Int × (List network_Packet) × (List network_Side)) ⊕ ((List (Int × Bool)) ⊕ Bool)) :=
  ((loopO (eslaw34_NetworkCounts.l1 x32 x69) (x28, 0)).bind fun x107 => eslaw34_NetworkCounts.j3 x30 x58 x59 x62 x69 x107)
noncomputable def eslaw34_NetworkCounts.j6 (x59 : List network_Packet) (x109 : List (Int × Bool)) (x111 : Int) (x125 : Bool) : Option (((List (Int × Bool)) × Int) ⊕ ((List (Int × Bool)) ⊕ Bool)) :=
  (if x125 then some (.inr (.inr false)) else ((idx x59 x111).bind fun x129 =>
  (letV (mset x109 x129.ID true) fun x133 =>
  (letV (IntKind.i64.wrap (x111 + 1)) fun x134 =>
  some (.inl (x133, x134))))))
noncomputable def eslaw34_NetworkCounts.l2 (x28 : List (Int × Bool)) (x58 : Int) (x59 : List network_Packet) : ((List (Int × Bool)) × Int) → Option (((List (Int × Bool)) × Int) ⊕ ((List (Int × Bool)) ⊕ Bool)) := fun (x109, x111) =>
  (if (decide (x111 < (x59.length : Int))) then ((idx x59 x111).bind fun x119 =>
  (letV ((List.lookup x119.ID x109).getD false) fun x135 =>
  (if x135 then eslaw34_NetworkCounts.j6 x59 x109 x111 true else (letV ((List.lookup x119.ID x28).getD false) fun x138 =>
  (if x138 then eslaw34_NetworkCounts.j6 x59 x109 x111 true else (if (decide (x119.ID < 1)) then eslaw34_NetworkCounts.j6 x59 x109 x111 true else (if (decide (x58 ≤ x119.ID)) then eslaw34_NetworkCounts.j6 x59 x109 x111 true else (if (decide (0 < x111)) then (letV (IntKind.i64.wrap (x111 - 1)) fun x144 =>
  ((idx x59 x144).bind fun x145 =>
  eslaw34_NetworkCounts.j6 x59 x109 x111 (decide (x119.ID ≤ x145.ID)))) else eslaw34_NetworkCounts.j6 x59 x109 x111 false)))))))) else some (.inr (.inl x109)))
noncomputable def eslaw34_NetworkCounts.j7 (x28 : List (Int × Bool)) (x30 : Int) (x32 : List network_Packet) (x58 : Int) (x59 : List network_Packet) (x62 : List network_Side) : Option (((List (Int × Bool)) × Int × Int × (List network_Packet) × (List network_Side)) ⊕ ((List (Int × Bool)) ⊕ Bool)) :=
  ((loopO (eslaw34_NetworkCounts.l2 x28 x58 x59) (([] : List (Int × Bool)), 0)).bind fun b => match b with | .inl x149 => eslaw34_NetworkCounts.j5 x28 x30 x32 x58 x59 x62 x149 | .inr x150 => some (.inr (.inr x150)))
noncomputable def eslaw34_NetworkCounts.l3 (x1 : List elasticstorelaw34_Act) : ((List (Int × Bool)) × Int × Int × (List network_Packet) × (List network_Side)) → Option (((List (Int × Bool)) × Int × Int × (List network_Packet) × (List network_Side)) ⊕ ((List (Int × Bool)) ⊕ Bool)) := fun (x28, x30, x31, x32, x35) =>
  (if (decide (x30 < (x1.length : Int))) then ((idx x1 x30).bind fun x151 =>
  ((eslaw34_step (⟨x31, x32, x35⟩ : network_Network) (⟨x31, x32, x35⟩ : network_Network) x151).bind fun (x156, x157, x158) =>
  eslaw34_NetworkCounts.j7 x28 x30 x32 x156.Next x156.Packets x156.Sides)) else some (.inr (.inl x28)))
noncomputable def eslaw34_NetworkCounts (x1 : List elasticstorelaw34_Act) : Option Bool :=
  (if (decide (60 < (x1.length : Int))) then ((eslaw34_awake).bind fun x9 =>
  some x9) else ((network_New).bind fun x11 =>
  ((loopO (eslaw34_NetworkCounts.l3 x1) (([] : List (Int × Bool)), 0, x11.Next, x11.Packets, x11.Sides)).bind fun b => match b with | .inl x204 => eslaw34_NetworkCounts.j1 x204 | .inr x205 => some x205)))
end Go.Proofs.Ytahobbichanccaa
