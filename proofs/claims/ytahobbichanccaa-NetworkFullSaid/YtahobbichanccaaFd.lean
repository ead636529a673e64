import Derived.Test.YtahobbichanccaaLq
set_option linter.unusedVariables false
set_option linter.unusedSimpArgs false
namespace Go.Proofs.Ytahobbichanccaa
open Go Go.RowKit Go.Proofs.YtahobbichanccaaL
structure api_AccessID where
  Process : Int
  Number : Int
  deriving DecidableEq
structure api_Rule where
  Kind : Int
  Columns : Int
  Faulty : Int
  deriving DecidableEq
structure api_Change where
  Kind : Int
  Server : Int
  Weight : Int
  Version : Int
  Rule : api_Rule
  deriving DecidableEq
structure api_Proposal where
  Admin : Int
  Number : Int
  Changes : List api_Change
  deriving DecidableEq
structure api_Certificate where
  From : List api_Proposal
  To : List api_Proposal
  deriving DecidableEq
structure api_Effect where
  Kind : Int
  Object : List UInt8
  Field : List UInt8
  N : Int
  S : List UInt8
  deriving DecidableEq
structure api_Update where
  Client : Int
  Seq : Int
  Tag : Int
  Effects : List api_Effect
  deriving DecidableEq
structure api_Entry where
  Author : Int
  Count : Int
  deriving DecidableEq
structure api_Message where
  Kind : Int
  From : Int
  To : Int
  Access : api_AccessID
  Round : Int
  Mode : Int
  Cert : api_Certificate
  Base : api_Certificate
  HasBase : Bool
  Established : api_Certificate
  Config : List api_Proposal
  State : List api_Update
  Have : List api_Entry
  More : Bool
  deriving DecidableEq
structure network_Packet where
  ID : Int
  Message : api_Message
  deriving DecidableEq
structure network_Side where
  Process : Int
  Side : Int
  deriving DecidableEq
structure network_Network where
  Next : Int
  Packets : List network_Packet
  Sides : List network_Side
  deriving DecidableEq
structure elasticstorelaw34_Act where
  Kind : Int
  N : Int
  M : Int
  Sides : List network_Side
  deriving DecidableEq
/-! elasticstore/network.New: function 9 -/
noncomputable def network_New  : Option network_Network :=
  some (⟨1, [], []⟩ : network_Network)
/-! slices.Clone[[]elasticstore/network.Packet,elasticstore/network.Packet]: function 48 -/
noncomputable def slices_Clone_Packet (x1 : List network_Packet) : Option (List network_Packet) :=
  ((app 296 [] x1).bind fun x11 =>
  some x11)
/-! slices.Clone[[]elasticstore/network.Side,elasticstore/network.Side]: function 49 -/
noncomputable def slices_Clone_Side (x1 : List network_Side) : Option (List network_Side) :=
  ((app 16 [] x1).bind fun x11 =>
  some x11)
/-! elasticstore/network.clone: function 27 -/
noncomputable def network_clone (x1 : network_Network) : Option network_Network :=
  ((slices_Clone_Packet x1.Packets).bind fun x13 =>
  ((slices_Clone_Side x1.Sides).bind fun x17 =>
  some (⟨x1.Next, x13, x17⟩ : network_Network)))
/-! elasticstore/network.Send: function 10 -/
noncomputable def network_Send.j1 (x16 : network_Network) (x25 : Int) (x26 : List network_Packet) : Option network_Network :=
  some (⟨x25, x26, x16.Sides⟩ : network_Network)
noncomputable def network_Send.l1 (x5 : List api_Message) : (Int × Int × (List network_Packet)) → Option ((Int × Int × (List network_Packet)) ⊕ (Int × (List network_Packet))) := fun (x34, x35, x36) =>
  (if (decide (x34 < (x5.length : Int))) then ((idx x5 x34).bind fun x46 =>
  (if (decide (4096 ≤ (x36.length : Int))) then some (.inr (x35, x36)) else ((app 296 x36 [(⟨x35, x46⟩ : network_Packet)]).bind fun x57 =>
  (letV (IntKind.i64.wrap (x35 + 1)) fun x62 =>
  (letV (IntKind.i64.wrap (x34 + 1)) fun x63 =>
  some (.inl (x63, x62, x57))))))) else some (.inr (x35, x36)))
noncomputable def network_Send (x1 : network_Network) (x5 : List api_Message) : Option network_Network :=
  ((network_clone (⟨x1.Next, x1.Packets, x1.Sides⟩ : network_Network)).bind fun x16 =>
  ((loopO (network_Send.l1 x5) (0, x16.Next, x16.Packets)).bind fun (x64, x65) => network_Send.j1 x16 x64 x65))
/-! slices.SortFunc[[]elasticstore/network.Side,elasticstore/network.Side]: function 28 -/
def slices_SortFunc_Side (x1 : List network_Side) : Option (List network_Side) := sortU (fun a b => decide (a.Process < b.Process)) x1
/-! cmp.isNaN[int]: function 52 -/
noncomputable def cmp_isNaN_int (x1 : Int) : Option Bool :=
  some (x1 != x1)
/-! cmp.Compare[int]: function 30 -/
noncomputable def cmp_Compare_int (x1 : Int) (x2 : Int) : Option Int :=
  ((cmp_isNaN_int x1).bind fun x5 =>
  ((cmp_isNaN_int x2).bind fun x7 =>
  (if x5 then (if x7 then some 0 else some (-1)) else (if x7 then some 1 else (if (decide (x1 < x2)) then some (-1) else (if (decide (x2 < x1)) then some 1 else some 0))))))
/-! elasticstore/network.Partition$1: function 29 -/
noncomputable def network_Partition_1 (x1 : network_Side) (x5 : network_Side) : Option Int :=
  ((cmp_Compare_int x1.Process x5.Process).bind fun x15 =>
  some x15)
/-! elasticstore/network.Partition: function 12 -/
noncomputable def network_Partition.j1 (x16 : network_Network) (x32 : List network_Side) : Option network_Network :=
  ((slices_SortFunc_Side x32).bind fun x38 =>
  some (⟨x16.Next, x16.Packets, x38⟩ : network_Network))
noncomputable def network_Partition.l1  (x49 : Int) (x50 : Int) : List network_Side → Option ((List network_Side) ⊕ (Unit)) := fun x44 =>
  (if (x50 != 0) then ((app 16 x44 [(⟨x49, x50⟩ : network_Side)]).bind fun x60 =>
  some (.inl x60)) else some (.inl x44))
noncomputable def network_Partition.j2 (x16 : network_Network) (x26 : List (Int × Int)) : Option network_Network :=
  (permO x26 fun t42 =>
  ((foldO (fun p : Int × Int => network_Partition.l1 p.1 p.2) t42 []).bind fun b => match b with | .inl x44 => network_Partition.j1 x16 x44 | .inr _ => none))
noncomputable def network_Partition.l2 (x5 : List network_Side) : ((List (Int × Int)) × Int) → Option (((List (Int × Int)) × Int) ⊕ (List (Int × Int))) := fun (x66, x68) =>
  (if (decide (x68 < (x5.length : Int))) then ((idx x5 x68).bind fun x75 =>
  (letV (mset x66 x75.Process x75.Side) fun x83 =>
  (letV (IntKind.i64.wrap (x68 + 1)) fun x84 =>
  some (.inl (x83, x84))))) else some (.inr x66))
noncomputable def network_Partition (x1 : network_Network) (x5 : List network_Side) : Option network_Network :=
  ((network_clone (⟨x1.Next, x1.Packets, x1.Sides⟩ : network_Network)).bind fun x16 =>
  ((loopO (network_Partition.l2 x5) (([] : List (Int × Int)), 0)).bind fun x85 => network_Partition.j2 x16 x85))
/-! elasticstore/network.side: function 31 -/
noncomputable def network_side.j1   : Option Int :=
  some 0
noncomputable def network_side.l1 (x1 : network_Network) (x5 : Int) : Int → Option ((Int) ⊕ (Unit ⊕ Int)) := fun x17 =>
  (if (decide (x17 < ((x1.Sides).length : Int))) then ((idx x1.Sides x17).bind fun x24 =>
  (if (x24.Process == x5) then some (.inr (.inr x24.Side)) else (letV (IntKind.i64.wrap (x17 + 1)) fun x35 =>
  some (.inl x35)))) else some (.inr (.inl ())))
noncomputable def network_side (x1 : network_Network) (x5 : Int) : Option Int :=
  ((loopO (network_side.l1 x1 x5) 0).bind fun b => match b with | .inl _ => network_side.j1 | .inr x36 => some x36)
/-! elasticstore/network.Blocked: function 13 -/
noncomputable def network_Blocked (x1 : network_Network) (x5 : Int) (x6 : Int) : Option Bool :=
  ((network_side x1 x5).bind fun x10 =>
  ((network_side x1 x6).bind fun x11 =>
  some (x10 != x11)))
/-! elasticstore/network.Deliverable: function 14 -/
noncomputable def network_Deliverable.j1  (x10 : List Int) : Option (List Int) :=
  some x10
noncomputable def network_Deliverable.j2 (x25 : Int) (x32 : List Int) : Option (((List Int) × Int) ⊕ (List Int)) :=
  (letV (IntKind.i64.wrap (x25 + 1)) fun x37 =>
  some (.inl (x32, x37)))
noncomputable def network_Deliverable.l1 (x1 : network_Network) : ((List Int) × Int) → Option (((List Int) × Int) ⊕ (List Int)) := fun (x21, x25) =>
  (if (decide (x25 < ((x1.Packets).length : Int))) then ((idx x1.Packets x25).bind fun x39 =>
  ((network_Blocked x1 x39.Message.From x39.Message.To).bind fun x48 =>
  (if (!x48) then ((app 8 x21 [x39.ID]).bind fun x52 =>
  network_Deliverable.j2 x25 x52) else network_Deliverable.j2 x25 x21))) else some (.inr x21))
noncomputable def network_Deliverable (x1 : network_Network) : Option (List Int) :=
  ((loopO (network_Deliverable.l1 x1) ([], 0)).bind fun x57 => network_Deliverable.j1 x57)
/-! slices.BinarySearchFunc[[]elasticstore/network.Packet,elasticstore/network.Packet,int]: function 56 -/
noncomputable def slices_BinarySearchFunc_int.j1  (x16 : Int) (x17 : Bool) : Option (Int × Bool) :=
  some (x16, x17)
noncomputable def slices_BinarySearchFunc_int.j2 (x1 : List network_Packet) (x4 : Int) (x5 : network_Packet × Int → Option Int) (x12 : Int) : Option (Int × Bool) :=
  (if (decide (x12 < (x1.length : Int))) then ((idx x1 x12).bind fun x20 =>
  ((x5 (x20, x4)).bind fun x25 =>
  slices_BinarySearchFunc_int.j1 x12 (x25 == 0))) else slices_BinarySearchFunc_int.j1 x12 false)
noncomputable def slices_BinarySearchFunc_int.l1 (x1 : List network_Packet) (x4 : Int) (x5 : network_Packet × Int → Option Int) : (Int × Int) → Option ((Int × Int) ⊕ (Int)) := fun (x27, x28) =>
  (if (decide (x27 < x28)) then (letV (IntKind.i64.wrap (x27 + x28)) fun x34 =>
  (letV (shrI .u64 (IntKind.u64.wrap x34) 1) fun x36 =>
  ((idx x1 (IntKind.i64.wrap x36)).bind fun x38 =>
  ((x5 (x38, x4)).bind fun x43 =>
  (if (decide (x43 < 0)) then (letV (IntKind.i64.wrap ((IntKind.i64.wrap x36) + 1)) fun x45 =>
  some (.inl (x45, x28))) else some (.inl (x27, (IntKind.i64.wrap x36)))))))) else some (.inr x27))
noncomputable def slices_BinarySearchFunc_int (x1 : List network_Packet) (x4 : Int) (x5 : network_Packet × Int → Option Int) : Option (Int × Bool) :=
  ((loopO (slices_BinarySearchFunc_int.l1 x1 x4 x5) (0, (x1.length : Int))).bind fun x46 => slices_BinarySearchFunc_int.j2 x1 x4 x5 x46)
/-! elasticstore/network.position$1: function 57 -/
noncomputable def network_position_1 (x1 : network_Packet) (x5 : Int) : Option Int :=
  ((cmp_Compare_int x1.ID x5).bind fun x10 =>
  some x10)
/-! elasticstore/network.position: function 40 -/
noncomputable def network_position (x1 : network_Network) (x5 : Int) : Option (Int × Bool) :=
  ((slices_BinarySearchFunc_int x1.Packets x5 (fun p : network_Packet × Int => network_position_1 p.1 p.2)).bind fun (x12, x13) =>
  some (x12, x13))
/-! elasticstore/network.remove: function 47 -/
noncomputable def network_remove (x1 : network_Network) (x5 : Int) : Option network_Network :=
  ((network_clone (⟨x1.Next, x1.Packets, x1.Sides⟩ : network_Network)).bind fun x14 =>
  ((cut x14.Packets 0 x5).bind fun x22 =>
  (letV (IntKind.i64.wrap (x5 + 1)) fun x24 =>
  ((cut x14.Packets x24 ((x14.Packets).length : Int)).bind fun x25 =>
  ((app 296 x22 x25).bind fun x50 =>
  some (⟨x14.Next, x50, x14.Sides⟩ : network_Network))))))
/-! elasticstore/network.Deliver: function 26 -/
noncomputable def network_Deliver.j1 (x1 : network_Network) (x11 : Int) (x16 : Bool) : Option (network_Network × api_Message × Bool) :=
  (if x16 then ((network_clone x1).bind fun x20 =>
  some ((⟨x20.Next, x20.Packets, x20.Sides⟩ : network_Network), (⟨0, 0, 0, (⟨0, 0⟩ : api_AccessID), 0, 0, (⟨[], []⟩ : api_Certificate), (⟨[], []⟩ : api_Certificate), false, (⟨[], []⟩ : api_Certificate), [], [], [], false⟩ : api_Message), false)) else ((network_remove x1 x11).bind fun x28 =>
  ((idx x1.Packets x11).bind fun x34 =>
  some (x28, x34.Message, true))))
noncomputable def network_Deliver (x1 : network_Network) (x5 : Int) : Option (network_Network × api_Message × Bool) :=
  ((network_position x1 x5).bind fun (x11, x12) =>
  (if (!x12) then network_Deliver.j1 x1 x11 true else ((idx x1.Packets x11).bind fun x138 =>
  ((idx x1.Packets x11).bind fun x146 =>
  ((network_Blocked x1 x138.Message.From x146.Message.To).bind fun x151 =>
  network_Deliver.j1 x1 x11 x151)))))
/-! elasticstore/network.Heal: function 15 -/
noncomputable def network_Heal (x1 : network_Network) : Option network_Network :=
  ((network_Partition x1 []).bind fun x9 =>
  some (⟨x9.Next, x9.Packets, x9.Sides⟩ : network_Network))
/-! elasticstore/elasticstorelaw34.awake: function 8 -/
noncomputable def eslaw34_awake.j1  (x56 : Bool) : Option Bool :=
  some x56
noncomputable def eslaw34_awake  : Option Bool :=
  ((network_New).bind fun x3 =>
  ((network_Send (⟨x3.Next, x3.Packets, x3.Sides⟩ : network_Network) ([(⟨1, 1, 2, (⟨0, 0⟩ : api_AccessID), 0, 0, (⟨[], []⟩ : api_Certificate), (⟨[], []⟩ : api_Certificate), false, (⟨[], []⟩ : api_Certificate), [], [], [], false⟩ : api_Message), (⟨2, 2, 3, (⟨0, 0⟩ : api_AccessID), 0, 0, (⟨[], []⟩ : api_Certificate), (⟨[], []⟩ : api_Certificate), false, (⟨[], []⟩ : api_Certificate), [], [], [], false⟩ : api_Message)])).bind fun x11 =>
  ((network_Partition (⟨x11.Next, x11.Packets, x11.Sides⟩ : network_Network) [(⟨1, 4⟩ : network_Side)]).bind fun x21 =>
  ((network_Deliverable (⟨x21.Next, x21.Packets, x21.Sides⟩ : network_Network)).bind fun x30 =>
  ((network_Deliver (⟨x21.Next, x21.Packets, x21.Sides⟩ : network_Network) 1).bind fun (x35, x36, x37) =>
  ((network_Deliver (⟨x21.Next, x21.Packets, x21.Sides⟩ : network_Network) 2).bind fun (x45, x46, x47) =>
  (if (((x11.Packets).length : Int) == 2) then (if (x11.Next == 3) then (if ((x30.length : Int) == 1) then ((idx x30 0).bind fun x61 =>
  (if (x61 == 2) then (if (!x37) then (if x47 then (if (x46.Kind == 2) then (if (((x45.Packets).length : Int) == 1) then ((network_Heal x45).bind fun x73 =>
  ((network_Deliverable (⟨x73.Next, x73.Packets, x73.Sides⟩ : network_Network)).bind fun x80 =>
  (if ((x80.length : Int) == 1) then eslaw34_awake.j1 (((x21.Packets).length : Int) == 2) else eslaw34_awake.j1 false))) else eslaw34_awake.j1 false) else eslaw34_awake.j1 false) else eslaw34_awake.j1 false) else eslaw34_awake.j1 false) else eslaw34_awake.j1 false)) else eslaw34_awake.j1 false) else eslaw34_awake.j1 false) else eslaw34_awake.j1 false)))))))
/-! elasticstore/elasticstorelaw00.Index: function 17 -/
noncomputable def eslaw00_Index (x1 : Int) (x2 : Int) : Option Int :=
  (if (decide (x2 < 1)) then some 0 else (if x2 ≠ 0 then (letV (IntKind.i64.wrap ((Int.tmod x1 x2) + x2)) fun x10 =>
  (if x2 ≠ 0 then some (Int.tmod x10 x2) else none)) else none))
/-! elasticstore/elasticstorelaw34.messages: function 11 -/
noncomputable def eslaw34_messages.j1  (x10 : List api_Message) : Option (List api_Message) :=
  some x10
noncomputable def eslaw34_messages.l1 (x1 : elasticstorelaw34_Act) : ((List api_Message) × Int) → Option (((List api_Message) × Int) ⊕ (List api_Message)) := fun (x18, x22) =>
  ((eslaw00_Index x1.M 4).bind fun x27 =>
  (if (decide (x22 < x27)) then (letV (IntKind.i64.wrap (1 + x22)) fun x30 =>
  (letV (IntKind.i64.wrap (x22 + 1)) fun x32 =>
  (if x32 ≠ 0 then (letV (IntKind.i64.wrap (Int.tdiv x1.N x32)) fun x33 =>
  ((eslaw00_Index x33 5).bind fun x35 =>
  (letV (IntKind.i64.wrap (1 + x35)) fun x36 =>
  (letV (IntKind.i64.wrap (x22 + 7)) fun x38 =>
  (if x38 ≠ 0 then (letV (IntKind.i64.wrap (Int.tdiv x1.N x38)) fun x39 =>
  ((eslaw00_Index x39 5).bind fun x41 =>
  (letV (IntKind.i64.wrap (1 + x41)) fun x42 =>
  ((app 288 x18 ([(⟨x30, x36, x42, (⟨0, 0⟩ : api_AccessID), x22, 0, (⟨[], []⟩ : api_Certificate), (⟨[], []⟩ : api_Certificate), false, (⟨[], []⟩ : api_Certificate), [], [], [], false⟩ : api_Message)])).bind fun x86 =>
  (letV (IntKind.i64.wrap (x22 + 1)) fun x91 =>
  some (.inl (x86, x91))))))) else none))))) else none))) else some (.inr x18)))
noncomputable def eslaw34_messages (x1 : elasticstorelaw34_Act) : Option (List api_Message) :=
  ((loopO (eslaw34_messages.l1 x1) ([], 0)).bind fun x92 => eslaw34_messages.j1 x92)
/-! elasticstore/elasticstoreref06.EqualProposal: function 58 -/
noncomputable def esref06_EqualProposal.j1   : Option Bool :=
  some true
noncomputable def esref06_EqualProposal.l1 (x1 : api_Proposal) (x5 : api_Proposal) : Int → Option ((Int) ⊕ (Unit ⊕ Bool)) := fun x25 =>
  (if (decide (x25 < ((x1.Changes).length : Int))) then ((idx x1.Changes x25).bind fun x38 =>
  ((idx x5.Changes x25).bind fun x46 =>
  (if (!decide ((⟨x38.Kind, x38.Server, x38.Weight, x38.Version, (⟨x38.Rule.Kind, x38.Rule.Columns, x38.Rule.Faulty⟩ : api_Rule)⟩ : api_Change) = (⟨x46.Kind, x46.Server, x46.Weight, x46.Version, (⟨x46.Rule.Kind, x46.Rule.Columns, x46.Rule.Faulty⟩ : api_Rule)⟩ : api_Change))) then some (.inr (.inr false)) else (letV (IntKind.i64.wrap (x25 + 1)) fun x101 =>
  some (.inl x101))))) else some (.inr (.inl ())))
noncomputable def esref06_EqualProposal.j2 (x1 : api_Proposal) (x5 : api_Proposal) (x15 : Bool) : Option Bool :=
  (if x15 then some false else ((loopO (esref06_EqualProposal.l1 x1 x5) 0).bind fun b => match b with | .inl _ => esref06_EqualProposal.j1 | .inr x102 => some x102))
noncomputable def esref06_EqualProposal (x1 : api_Proposal) (x5 : api_Proposal) : Option Bool :=
  (if (x1.Admin != x5.Admin) then esref06_EqualProposal.j2 x1 x5 true else (if (x1.Number != x5.Number) then esref06_EqualProposal.j2 x1 x5 true else esref06_EqualProposal.j2 x1 x5 (((x1.Changes).length : Int) != ((x5.Changes).length : Int))))
/-! elasticstore/elasticstoreref06.EqualConfig: function 43 -/
noncomputable def esref06_EqualConfig.j1   : Option Bool :=
  some true
noncomputable def esref06_EqualConfig.l1 (x1 : List api_Proposal) (x4 : List api_Proposal) : Int → Option ((Int) ⊕ (Unit ⊕ Bool)) := fun x18 =>
  (if (decide (x18 < (x1.length : Int))) then ((idx x1 x18).bind fun x25 =>
  ((idx x4 x18).bind fun x30 =>
  ((esref06_EqualProposal x25 x30).bind fun x35 =>
  (if (!x35) then some (.inr (.inr false)) else (letV (IntKind.i64.wrap (x18 + 1)) fun x74 =>
  some (.inl x74)))))) else some (.inr (.inl ())))
noncomputable def esref06_EqualConfig (x1 : List api_Proposal) (x4 : List api_Proposal) : Option Bool :=
  (if ((x1.length : Int) != (x4.length : Int)) then some false else ((loopO (esref06_EqualConfig.l1 x1 x4) 0).bind fun b => match b with | .inl _ => esref06_EqualConfig.j1 | .inr x75 => some x75))
/-! elasticstore/elasticstoreref14.EqualCert: function 42 -/
noncomputable def esref14_EqualCert.j1  (x14 : Bool) : Option Bool :=
  some x14
noncomputable def esref14_EqualCert (x1 : api_Certificate) (x5 : api_Certificate) : Option Bool :=
  ((esref06_EqualConfig x1.From x5.From).bind fun x22 =>
  (if x22 then ((esref06_EqualConfig x1.To x5.To).bind fun x30 =>
  esref14_EqualCert.j1 x30) else esref14_EqualCert.j1 false))
/-! elasticstore/elasticstoreref14.EqualUpdate: function 59 -/
noncomputable def esref14_EqualUpdate.j1   : Option Bool :=
  some true
noncomputable def esref14_EqualUpdate.l1 (x1 : api_Update) (x5 : api_Update) : Int → Option ((Int) ⊕ (Unit ⊕ Bool)) := fun x25 =>
  (if (decide (x25 < ((x1.Effects).length : Int))) then ((idx x1.Effects x25).bind fun x38 =>
  ((idx x5.Effects x25).bind fun x46 =>
  (if (!decide ((⟨x38.Kind, x38.Object, x38.Field, x38.N, x38.S⟩ : api_Effect) = (⟨x46.Kind, x46.Object, x46.Field, x46.N, x46.S⟩ : api_Effect))) then some (.inr (.inr false)) else (letV (IntKind.i64.wrap (x25 + 1)) fun x101 =>
  some (.inl x101))))) else some (.inr (.inl ())))
noncomputable def esref14_EqualUpdate.j2 (x1 : api_Update) (x5 : api_Update) (x15 : Bool) : Option Bool :=
  (if x15 then some false else ((loopO (esref14_EqualUpdate.l1 x1 x5) 0).bind fun b => match b with | .inl _ => esref14_EqualUpdate.j1 | .inr x102 => some x102))
noncomputable def esref14_EqualUpdate (x1 : api_Update) (x5 : api_Update) : Option Bool :=
  (if (x1.Client != x5.Client) then esref14_EqualUpdate.j2 x1 x5 true else (if (x1.Seq != x5.Seq) then esref14_EqualUpdate.j2 x1 x5 true else (if (x1.Tag != x5.Tag) then esref14_EqualUpdate.j2 x1 x5 true else esref14_EqualUpdate.j2 x1 x5 (((x1.Effects).length : Int) != ((x5.Effects).length : Int)))))
/-! elasticstore/elasticstoreref14.EqualState: function 44 -/
noncomputable def esref14_EqualState.j1   : Option Bool :=
  some true
noncomputable def esref14_EqualState.l1 (x1 : List api_Update) (x4 : List api_Update) : Int → Option ((Int) ⊕ (Unit ⊕ Bool)) := fun x18 =>
  (if (decide (x18 < (x1.length : Int))) then ((idx x1 x18).bind fun x25 =>
  ((idx x4 x18).bind fun x30 =>
  ((esref14_EqualUpdate x25 x30).bind fun x35 =>
  (if (!x35) then some (.inr (.inr false)) else (letV (IntKind.i64.wrap (x18 + 1)) fun x74 =>
  some (.inl x74)))))) else some (.inr (.inl ())))
noncomputable def esref14_EqualState (x1 : List api_Update) (x4 : List api_Update) : Option Bool :=
  (if ((x1.length : Int) != (x4.length : Int)) then some false else ((loopO (esref14_EqualState.l1 x1 x4) 0).bind fun b => match b with | .inl _ => esref14_EqualState.j1 | .inr x75 => some x75))
/-! elasticstore/elasticstoreref03.EqualVector: function 45 -/
noncomputable def esref03_EqualVector.j1   : Option Bool :=
  some true
noncomputable def esref03_EqualVector.l1 (x1 : List api_Entry) (x4 : List api_Entry) : Int → Option ((Int) ⊕ (Unit ⊕ Bool)) := fun x18 =>
  (if (decide (x18 < (x1.length : Int))) then ((idx x1 x18).bind fun x25 =>
  ((idx x4 x18).bind fun x30 =>
  (if (!decide ((⟨x25.Author, x25.Count⟩ : api_Entry) = (⟨x30.Author, x30.Count⟩ : api_Entry))) then some (.inr (.inr false)) else (letV (IntKind.i64.wrap (x18 + 1)) fun x71 =>
  some (.inl x71))))) else some (.inr (.inl ())))
noncomputable def esref03_EqualVector (x1 : List api_Entry) (x4 : List api_Entry) : Option Bool :=
  (if ((x1.length : Int) != (x4.length : Int)) then some false else ((loopO (esref03_EqualVector.l1 x1 x4) 0).bind fun b => match b with | .inl _ => esref03_EqualVector.j1 | .inr x72 => some x72))
/-! elasticstore/elasticstoreref14.EqualMessage: function 24 -/
noncomputable def esref14_EqualMessage.j1  (x21 : Bool) : Option Bool :=
  some x21
noncomputable def esref14_EqualMessage.j2 (x1 : api_Message) (x5 : api_Message) (x15 : Bool) : Option Bool :=
  (if x15 then some false else ((esref14_EqualCert x1.Cert x5.Cert).bind fun x29 =>
  (if x29 then ((esref14_EqualCert x1.Base x5.Base).bind fun x37 =>
  (if x37 then ((esref14_EqualCert x1.Established x5.Established).bind fun x45 =>
  (if x45 then ((esref06_EqualConfig x1.Config x5.Config).bind fun x53 =>
  (if x53 then ((esref14_EqualState x1.State x5.State).bind fun x61 =>
  (if x61 then ((esref03_EqualVector x1.Have x5.Have).bind fun x69 =>
  esref14_EqualMessage.j1 x69) else esref14_EqualMessage.j1 false)) else esref14_EqualMessage.j1 false)) else esref14_EqualMessage.j1 false)) else esref14_EqualMessage.j1 false)) else esref14_EqualMessage.j1 false)))
noncomputable def esref14_EqualMessage (x1 : api_Message) (x5 : api_Message) : Option Bool :=
  (if (x1.Kind != x5.Kind) then esref14_EqualMessage.j2 x1 x5 true else (if (x1.From != x5.From) then esref14_EqualMessage.j2 x1 x5 true else (if (x1.To != x5.To) then esref14_EqualMessage.j2 x1 x5 true else (if (!decide ((⟨x1.Access.Process, x1.Access.Number⟩ : api_AccessID) = (⟨x5.Access.Process, x5.Access.Number⟩ : api_AccessID))) then esref14_EqualMessage.j2 x1 x5 true else (if (x1.Round != x5.Round) then esref14_EqualMessage.j2 x1 x5 true else (if (x1.Mode != x5.Mode) then esref14_EqualMessage.j2 x1 x5 true else (if (x1.HasBase != x5.HasBase) then esref14_EqualMessage.j2 x1 x5 true else esref14_EqualMessage.j2 x1 x5 (x1.More != x5.More))))))))
/-! elasticstore/elasticstorelaw34.Equal: function 16 -/
noncomputable def eslaw34_Equal.j1   : Option Bool :=
  some true
noncomputable def eslaw34_Equal.l1 (x1 : network_Network) (x5 : network_Network) : Int → Option ((Int) ⊕ (Unit ⊕ Bool)) := fun x28 =>
  (if (decide (x28 < ((x1.Sides).length : Int))) then ((idx x1.Sides x28).bind fun x41 =>
  ((idx x5.Sides x28).bind fun x49 =>
  (if (!decide ((⟨x41.Process, x41.Side⟩ : network_Side) = (⟨x49.Process, x49.Side⟩ : network_Side))) then some (.inr (.inr false)) else (letV (IntKind.i64.wrap (x28 + 1)) fun x104 =>
  some (.inl x104))))) else some (.inr (.inl ())))
noncomputable def eslaw34_Equal.j2 (x1 : network_Network) (x5 : network_Network)  : Option Bool :=
  ((loopO (eslaw34_Equal.l1 x1 x5) 0).bind fun b => match b with | .inl _ => eslaw34_Equal.j1 | .inr x105 => some x105)
noncomputable def eslaw34_Equal.j3 (x108 : Int) (x119 : Bool) : Option ((Int) ⊕ (Unit ⊕ Bool)) :=
  (if x119 then some (.inr (.inr false)) else (letV (IntKind.i64.wrap (x108 + 1)) fun x123 =>
  some (.inl x123)))
noncomputable def eslaw34_Equal.l2 (x1 : network_Network) (x5 : network_Network) : Int → Option ((Int) ⊕ (Unit ⊕ Bool)) := fun x108 =>
  (if (decide (x108 < ((x1.Packets).length : Int))) then ((idx x1.Packets x108).bind fun x127 =>
  ((idx x5.Packets x108).bind fun x134 =>
  (if (x127.ID != x134.ID) then eslaw34_Equal.j3 x108 true else ((idx x1.Packets x108).bind fun x236 =>
  ((idx x5.Packets x108).bind fun x245 =>
  ((esref14_EqualMessage x236.Message x245.Message).bind fun x251 =>
  eslaw34_Equal.j3 x108 (!x251))))))) else some (.inr (.inl ())))
noncomputable def eslaw34_Equal.j4 (x1 : network_Network) (x5 : network_Network) (x15 : Bool) : Option Bool :=
  (if x15 then some false else ((loopO (eslaw34_Equal.l2 x1 x5) 0).bind fun b => match b with | .inl _ => eslaw34_Equal.j2 x1 x5 | .inr x378 => some x378))
noncomputable def eslaw34_Equal (x1 : network_Network) (x5 : network_Network) : Option Bool :=
  (if (x1.Next != x5.Next) then eslaw34_Equal.j4 x1 x5 true else (if (((x1.Packets).length : Int) != ((x5.Packets).length : Int)) then eslaw34_Equal.j4 x1 x5 true else eslaw34_Equal.j4 x1 x5 (((x1.Sides).length : Int) != ((x5.Sides).length : Int))))
/-! elasticstore/elasticstorelaw34.NetworkSides: function 3 -/
noncomputable def eslaw34_NetworkSides.j1  (x2520 : Bool) : Option Bool :=
  some x2520
noncomputable def eslaw34_NetworkSides.j2 (x29 : Int) (x30 : List network_Packet) (x33 : List network_Side) (x38 : network_Network) (x1982 : List Int) (x2507 : Int) : Option Bool :=
  ((network_Heal (⟨x38.Next, x38.Packets, x38.Sides⟩ : network_Network)).bind fun x2510 =>
  (if (x2507 == (x1982.length : Int)) then ((network_Deliverable (⟨x2510.Next, x2510.Packets, x2510.Sides⟩ : network_Network)).bind fun x2524 =>
  (if ((x2524.length : Int) == (x30.length : Int)) then ((eslaw34_Equal (⟨x2510.Next, x2510.Packets, x2510.Sides⟩ : network_Network) (⟨x29, x30, x33⟩ : network_Network)).bind fun x2528 =>
  (if x2528 then ((eslaw34_awake).bind fun x2530 =>
  eslaw34_NetworkSides.j1 x2530) else eslaw34_NetworkSides.j1 false)) else eslaw34_NetworkSides.j1 false)) else eslaw34_NetworkSides.j1 false))
noncomputable def eslaw34_NetworkSides.j3 (x2761 : Int) (x2768 : Int) : Option ((Int × Int) ⊕ (Int ⊕ Bool)) :=
  (letV (IntKind.i64.wrap (x2761 + 1)) fun x2770 =>
  some (.inl (x2768, x2770)))
noncomputable def eslaw34_NetworkSides.j4 (x38 : network_Network) (x2760 : Int) (x2761 : Int) (x2772 : network_Packet) (x2781 : Bool) : Option ((Int × Int) ⊕ (Int ⊕ Bool)) :=
  ((network_Blocked (⟨x38.Next, x38.Packets, x38.Sides⟩ : network_Network) x2772.Message.From x2772.Message.To).bind fun x2787 =>
  (if (x2781 == x2787) then some (.inr (.inr false)) else (if x2781 then (letV (IntKind.i64.wrap (x2760 + 1)) fun x2792 =>
  eslaw34_NetworkSides.j3 x2761 x2792) else eslaw34_NetworkSides.j3 x2761 x2760)))
noncomputable def eslaw34_NetworkSides.l1 (x38 : network_Network) (x1982 : List Int) : (Int × Int) → Option ((Int × Int) ⊕ (Int ⊕ Bool)) := fun (x2760, x2761) =>
  (if (decide (x2761 < ((x38.Packets).length : Int))) then ((idx x38.Packets x2761).bind fun x2772 =>
  (if (decide (x2760 < (x1982.length : Int))) then ((idx x1982 x2760).bind fun x2794 =>
  ((idx x38.Packets x2761).bind fun x2797 =>
  eslaw34_NetworkSides.j4 x38 x2760 x2761 x2772 (x2794 == x2797.ID))) else eslaw34_NetworkSides.j4 x38 x2760 x2761 x2772 false)) else some (.inr (.inl x2760)))
noncomputable def eslaw34_NetworkSides.j5 (x29 : Int) (x30 : List network_Packet) (x33 : List network_Side) (x38 : network_Network) (x1977 : Bool) : Option Bool :=
  (if x1977 then some false else ((network_Deliverable (⟨x38.Next, x38.Packets, x38.Sides⟩ : network_Network)).bind fun x1982 =>
  ((loopO (eslaw34_NetworkSides.l1 x38 x1982) (0, 0)).bind fun b => match b with | .inl x2900 => eslaw34_NetworkSides.j2 x29 x30 x33 x38 x1982 x2900 | .inr x2901 => some x2901)))
noncomputable def eslaw34_NetworkSides.j6 (x4 : List network_Side) (x7 : Int) (x8 : Int) (x29 : Int) (x30 : List network_Packet) (x33 : List network_Side) : Option Bool :=
  ((network_Partition (⟨x29, x30, x33⟩ : network_Network) x4).bind fun x38 =>
  ((network_Blocked (⟨x38.Next, x38.Packets, x38.Sides⟩ : network_Network) x7 x8).bind fun x2902 =>
  ((network_Blocked (⟨x38.Next, x38.Packets, x38.Sides⟩ : network_Network) x8 x7).bind fun x2903 =>
  (if (x2902 != x2903) then eslaw34_NetworkSides.j5 x29 x30 x33 x38 true else ((network_Blocked (⟨x38.Next, x38.Packets, x38.Sides⟩ : network_Network) x7 x7).bind fun x2939 =>
  eslaw34_NetworkSides.j5 x29 x30 x33 x38 x2939)))))
noncomputable def eslaw34_NetworkSides.l2 (x1 : List elasticstorelaw34_Act) : (Int × Int × (List network_Packet) × (List network_Side)) → Option ((Int × Int × (List network_Packet) × (List network_Side)) ⊕ (Int × (List network_Packet) × (List network_Side))) := fun (x2976, x2977, x2978, x2981) =>
  (if (decide (x2976 < (x1.length : Int))) then ((idx x1 x2976).bind fun x2989 =>
  ((eslaw34_messages x2989).bind fun x2994 =>
  ((network_Send (⟨x2977, x2978, x2981⟩ : network_Network) x2994).bind fun x2997 =>
  (letV (IntKind.i64.wrap (x2976 + 1)) fun x3029 =>
  some (.inl (x3029, x2997.Next, x2997.Packets, x2997.Sides)))))) else some (.inr (x2977, x2978, x2981)))
noncomputable def eslaw34_NetworkSides.j7 (x1 : List elasticstorelaw34_Act) (x4 : List network_Side) (x7 : Int) (x8 : Int) (x13 : Bool) : Option Bool :=
  (if x13 then ((eslaw34_awake).bind fun x17 =>
  some x17) else ((network_New).bind fun x19 =>
  ((loopO (eslaw34_NetworkSides.l2 x1) (0, x19.Next, x19.Packets, x19.Sides)).bind fun (x3038, x3039, x3040) => eslaw34_NetworkSides.j6 x4 x7 x8 x3038 x3039 x3040)))
noncomputable def eslaw34_NetworkSides (x1 : List elasticstorelaw34_Act) (x4 : List network_Side) (x7 : Int) (x8 : Int) : Option Bool :=
  (if (decide (30 < (x1.length : Int))) then eslaw34_NetworkSides.j7 x1 x4 x7 x8 true else eslaw34_NetworkSides.j7 x1 x4 x7 x8 (decide (10 < (x4.length : Int))))
/-! elasticstore/network.Find: function 22 -/
noncomputable def network_Find (x1 : network_Network) (x5 : Int) : Option (api_Message × Bool) :=
  ((network_position x1 x5).bind fun (x10, x11) =>
  (if (!x11) then some ((⟨0, 0, 0, (⟨0, 0⟩ : api_AccessID), 0, 0, (⟨[], []⟩ : api_Certificate), (⟨[], []⟩ : api_Certificate), false, (⟨[], []⟩ : api_Certificate), [], [], [], false⟩ : api_Message), false) else ((idx x1.Packets x10).bind fun x20 =>
  some (x20.Message, true))))
/-! elasticstore/network.Duplicate: function 18 -/
noncomputable def network_Duplicate.j1 (x1 : network_Network) (x10 : api_Message) (x18 : Bool) : Option (network_Network × Int × Bool) :=
  (if x18 then ((network_clone x1).bind fun x22 =>
  some ((⟨x22.Next, x22.Packets, x22.Sides⟩ : network_Network), 0, false)) else ((network_Send x1 [x10]).bind fun x32 =>
  some (x32, x1.Next, true)))
noncomputable def network_Duplicate (x1 : network_Network) (x5 : Int) : Option (network_Network × Int × Bool) :=
  ((network_Find x1 x5).bind fun (x10, x11) =>
  (if (!x11) then network_Duplicate.j1 x1 x10 true else network_Duplicate.j1 x1 x10 (decide (4096 ≤ ((x1.Packets).length : Int)))))
/-! elasticstore/elasticstorelaw34.NetworkFull: function 4 -/
noncomputable def eslaw34_NetworkFull.j1  (x278 : Bool) : Option Bool :=
  some x278
noncomputable def eslaw34_NetworkFull.j2 (x259 : Int) (x270 : network_Network) (x273 : Int) (x274 : Bool) : Option Bool :=
  (if (x274 == (decide ((minI 4096 x259) < 4096))) then (if (!x274) then (if (x273 == 0) then (if (((x270.Packets).length : Int) == (minI 4096 x259)) then ((eslaw34_awake).bind fun x287 =>
  eslaw34_NetworkFull.j1 x287) else (if x274 then (letV (IntKind.i64.wrap ((minI 4096 x259) + 1)) fun x289 =>
  (if (x273 == x289) then (letV (IntKind.i64.wrap ((minI 4096 x259) + 1)) fun x294 =>
  (if (((x270.Packets).length : Int) == x294) then ((eslaw34_awake).bind fun x296 =>
  eslaw34_NetworkFull.j1 x296) else eslaw34_NetworkFull.j1 false)) else eslaw34_NetworkFull.j1 false)) else eslaw34_NetworkFull.j1 false)) else (if x274 then (letV (IntKind.i64.wrap ((minI 4096 x259) + 1)) fun x298 =>
  (if (x273 == x298) then (letV (IntKind.i64.wrap ((minI 4096 x259) + 1)) fun x303 =>
  (if (((x270.Packets).length : Int) == x303) then ((eslaw34_awake).bind fun x305 =>
  eslaw34_NetworkFull.j1 x305) else eslaw34_NetworkFull.j1 false)) else eslaw34_NetworkFull.j1 false)) else eslaw34_NetworkFull.j1 false)) else (if x274 then (letV (IntKind.i64.wrap ((minI 4096 x259) + 1)) fun x307 =>
  (if (x273 == x307) then (letV (IntKind.i64.wrap ((minI 4096 x259) + 1)) fun x312 =>
  (if (((x270.Packets).length : Int) == x312) then ((eslaw34_awake).bind fun x314 =>
  eslaw34_NetworkFull.j1 x314) else eslaw34_NetworkFull.j1 false)) else eslaw34_NetworkFull.j1 false)) else eslaw34_NetworkFull.j1 false)) else eslaw34_NetworkFull.j1 false)
noncomputable def eslaw34_NetworkFull.j3 (x2 : Int) (x238 : network_Network) (x259 : Int) (x263 : Bool) : Option Bool :=
  (if x263 then some false else ((eslaw00_Index x2 (minI 4096 x259)).bind fun x315 =>
  (letV (IntKind.i64.wrap (1 + x315)) fun x316 =>
  ((network_Duplicate x238 x316).bind fun (x317, x318, x319) =>
  eslaw34_NetworkFull.j2 x259 x317 x318 x319))))
noncomputable def eslaw34_NetworkFull.j4 (x1 : Int) (x2 : Int) (x8 : List api_Message) (x224 : Int) (x225 : List network_Packet) (x228 : List network_Side) : Option Bool :=
  ((eslaw00_Index x1 700).bind fun x233 =>
  ((cut x8 0 x233).bind fun x235 =>
  ((network_Send (⟨x224, x225, x228⟩ : network_Network) x235).bind fun x238 =>
  (letV (IntKind.i64.wrap (3500 + x233)) fun x259 =>
  (if (((x238.Packets).length : Int) != (minI 4096 x259)) then eslaw34_NetworkFull.j3 x2 x238 x259 true else (letV (IntKind.i64.wrap ((minI 4096 x259) + 1)) fun x378 =>
  eslaw34_NetworkFull.j3 x2 x238 x259 (x238.Next != x378)))))))
noncomputable def eslaw34_NetworkFull.l1 (x8 : List api_Message) : (Int × Int × (List network_Packet) × (List network_Side)) → Option ((Int × Int × (List network_Packet) × (List network_Side)) ⊕ (Int × (List network_Packet) × (List network_Side))) := fun (x381, x382, x383, x386) =>
  (if (decide (x381 < 5)) then ((network_Send (⟨x382, x383, x386⟩ : network_Network) x8).bind fun x394 =>
  (letV (IntKind.i64.wrap (x381 + 1)) fun x401 =>
  some (.inl (x401, x394.Next, x394.Packets, x394.Sides)))) else some (.inr (x382, x383, x386)))
noncomputable def eslaw34_NetworkFull (x1 : Int) (x2 : Int) : Option Bool :=
  ((mk 288 700 (⟨0, 0, 0, ⟨0, 0⟩, 0, 0, ⟨[], []⟩, ⟨[], []⟩, false, ⟨[], []⟩, [], [], [], false⟩ : api_Message)).bind fun x8 =>
  ((network_New).bind fun x11 =>
  ((loopO (eslaw34_NetworkFull.l1 x8) (0, x11.Next, x11.Packets, x11.Sides)).bind fun (x402, x403, x404) => eslaw34_NetworkFull.j4 x1 x2 x8 x402 x403 x404)))
end Go.Proofs.Ytahobbichanccaa
