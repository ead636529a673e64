import Derived.Test.YtahobbichanccaaProg
import Derived.Test.YtahobbichanccaaFd
set_option linter.unusedVariables false
set_option linter.unusedSimpArgs false
namespace Go.Proofs.Ytahobbichanccaa
open Go Go.RowKit Go.Proofs.YtahobbichanccaaL
set_option maxRecDepth 20000
def t_api_AccessID : Ty api_AccessID := tIso (tPair (tInt .i64) (tInt .i64)) fun x : api_AccessID => (x.Process, x.Number)
theorem F_api_AccessID_Process : Fld t_api_AccessID (tInt .i64) 0 api_AccessID.Process (fun x y => { x with Process := y }) := (Fld.iso (Fld.fst _ _) (fun _ => rfl) (fun _ _ => rfl))
theorem F_api_AccessID_Number : Fld t_api_AccessID (tInt .i64) 1 api_AccessID.Number (fun x y => { x with Number := y }) := (Fld.iso (Fld.snd Fld.self) (fun _ => rfl) (fun _ _ => rfl))
def t_api_Rule : Ty api_Rule := tIso (tPair (tInt .i64) (tPair (tInt .i64) (tInt .i64))) fun x : api_Rule => (x.Kind, x.Columns, x.Faulty)
theorem F_api_Rule_Kind : Fld t_api_Rule (tInt .i64) 0 api_Rule.Kind (fun x y => { x with Kind := y }) := (Fld.iso (Fld.fst _ _) (fun _ => rfl) (fun _ _ => rfl))
theorem F_api_Rule_Columns : Fld t_api_Rule (tInt .i64) 1 api_Rule.Columns (fun x y => { x with Columns := y }) := (Fld.iso (Fld.snd (Fld.fst _ _)) (fun _ => rfl) (fun _ _ => rfl))
theorem F_api_Rule_Faulty : Fld t_api_Rule (tInt .i64) 2 api_Rule.Faulty (fun x y => { x with Faulty := y }) := (Fld.iso (Fld.snd (Fld.snd Fld.self)) (fun _ => rfl) (fun _ _ => rfl))
def t_api_Change : Ty api_Change := tIso (tPair (tInt .i64) (tPair (tInt .i64) (tPair (tInt .i64) (tPair (tInt .i64) t_api_Rule)))) fun x : api_Change => (x.Kind, x.Server, x.Weight, x.Version, x.Rule)
theorem F_api_Change_Kind : Fld t_api_Change (tInt .i64) 0 api_Change.Kind (fun x y => { x with Kind := y }) := (Fld.iso (Fld.fst _ _) (fun _ => rfl) (fun _ _ => rfl))
theorem F_api_Change_Server : Fld t_api_Change (tInt .i64) 1 api_Change.Server (fun x y => { x with Server := y }) := (Fld.iso (Fld.snd (Fld.fst _ _)) (fun _ => rfl) (fun _ _ => rfl))
theorem F_api_Change_Weight : Fld t_api_Change (tInt .i64) 2 api_Change.Weight (fun x y => { x with Weight := y }) := (Fld.iso (Fld.snd (Fld.snd (Fld.fst _ _))) (fun _ => rfl) (fun _ _ => rfl))
theorem F_api_Change_Version : Fld t_api_Change (tInt .i64) 3 api_Change.Version (fun x y => { x with Version := y }) := (Fld.iso (Fld.snd (Fld.snd (Fld.snd (Fld.fst _ _)))) (fun _ => rfl) (fun _ _ => rfl))
theorem F_api_Change_Rule : Fld t_api_Change t_api_Rule 4 api_Change.Rule (fun x y => { x with Rule := y }) := (Fld.iso (Fld.snd (Fld.snd (Fld.snd (Fld.snd Fld.self)))) (fun _ => rfl) (fun _ _ => rfl))
def t_api_Proposal : Ty api_Proposal := tIso (tPair (tInt .i64) (tPair (tInt .i64) (tSlice t_api_Change))) fun x : api_Proposal => (x.Admin, x.Number, x.Changes)
theorem F_api_Proposal_Admin : Fld t_api_Proposal (tInt .i64) 0 api_Proposal.Admin (fun x y => { x with Admin := y }) := (Fld.iso (Fld.fst _ _) (fun _ => rfl) (fun _ _ => rfl))
theorem F_api_Proposal_Number : Fld t_api_Proposal (tInt .i64) 1 api_Proposal.Number (fun x y => { x with Number := y }) := (Fld.iso (Fld.snd (Fld.fst _ _)) (fun _ => rfl) (fun _ _ => rfl))
theorem F_api_Proposal_Changes : Fld t_api_Proposal (tSlice t_api_Change) 2 api_Proposal.Changes (fun x y => { x with Changes := y }) := (Fld.iso (Fld.snd (Fld.snd Fld.self)) (fun _ => rfl) (fun _ _ => rfl))
def t_api_Certificate : Ty api_Certificate := tIso (tPair (tSlice t_api_Proposal) (tSlice t_api_Proposal)) fun x : api_Certificate => (x.From, x.To)
theorem F_api_Certificate_From : Fld t_api_Certificate (tSlice t_api_Proposal) 0 api_Certificate.From (fun x y => { x with From := y }) := (Fld.iso (Fld.fst _ _) (fun _ => rfl) (fun _ _ => rfl))
theorem F_api_Certificate_To : Fld t_api_Certificate (tSlice t_api_Proposal) 1 api_Certificate.To (fun x y => { x with To := y }) := (Fld.iso (Fld.snd Fld.self) (fun _ => rfl) (fun _ _ => rfl))
def t_api_Effect : Ty api_Effect := tIso (tPair (tInt .i64) (tPair tStr (tPair tStr (tPair (tInt .i64) tStr)))) fun x : api_Effect => (x.Kind, x.Object, x.Field, x.N, x.S)
theorem F_api_Effect_Kind : Fld t_api_Effect (tInt .i64) 0 api_Effect.Kind (fun x y => { x with Kind := y }) := (Fld.iso (Fld.fst _ _) (fun _ => rfl) (fun _ _ => rfl))
theorem F_api_Effect_Object : Fld t_api_Effect tStr 1 api_Effect.Object (fun x y => { x with Object := y }) := (Fld.iso (Fld.snd (Fld.fst _ _)) (fun _ => rfl) (fun _ _ => rfl))
theorem F_api_Effect_Field : Fld t_api_Effect tStr 2 api_Effect.Field (fun x y => { x with Field := y }) := (Fld.iso (Fld.snd (Fld.snd (Fld.fst _ _))) (fun _ => rfl) (fun _ _ => rfl))
theorem F_api_Effect_N : Fld t_api_Effect (tInt .i64) 3 api_Effect.N (fun x y => { x with N := y }) := (Fld.iso (Fld.snd (Fld.snd (Fld.snd (Fld.fst _ _)))) (fun _ => rfl) (fun _ _ => rfl))
theorem F_api_Effect_S : Fld t_api_Effect tStr 4 api_Effect.S (fun x y => { x with S := y }) := (Fld.iso (Fld.snd (Fld.snd (Fld.snd (Fld.snd Fld.self)))) (fun _ => rfl) (fun _ _ => rfl))
def t_api_Update : Ty api_Update := tIso (tPair (tInt .i64) (tPair (tInt .i64) (tPair (tInt .i64) (tSlice t_api_Effect)))) fun x : api_Update => (x.Client, x.Seq, x.Tag, x.Effects)
theorem F_api_Update_Client : Fld t_api_Update (tInt .i64) 0 api_Update.Client (fun x y => { x with Client := y }) := (Fld.iso (Fld.fst _ _) (fun _ => rfl) (fun _ _ => rfl))
theorem F_api_Update_Seq : Fld t_api_Update (tInt .i64) 1 api_Update.Seq (fun x y => { x with Seq := y }) := (Fld.iso (Fld.snd (Fld.fst _ _)) (fun _ => rfl) (fun _ _ => rfl))
theorem F_api_Update_Tag : Fld t_api_Update (tInt .i64) 2 api_Update.Tag (fun x y => { x with Tag := y }) := (Fld.iso (Fld.snd (Fld.snd (Fld.fst _ _))) (fun _ => rfl) (fun _ _ => rfl))
theorem F_api_Update_Effects : Fld t_api_Update (tSlice t_api_Effect) 3 api_Update.Effects (fun x y => { x with Effects := y }) := (Fld.iso (Fld.snd (Fld.snd (Fld.snd Fld.self))) (fun _ => rfl) (fun _ _ => rfl))
def t_api_Entry : Ty api_Entry := tIso (tPair (tInt .i64) (tInt .i64)) fun x : api_Entry => (x.Author, x.Count)
theorem F_api_Entry_Author : Fld t_api_Entry (tInt .i64) 0 api_Entry.Author (fun x y => { x with Author := y }) := (Fld.iso (Fld.fst _ _) (fun _ => rfl) (fun _ _ => rfl))
theorem F_api_Entry_Count : Fld t_api_Entry (tInt .i64) 1 api_Entry.Count (fun x y => { x with Count := y }) := (Fld.iso (Fld.snd Fld.self) (fun _ => rfl) (fun _ _ => rfl))
def t_api_Message : Ty api_Message := tIso (tPair (tInt .i64) (tPair (tInt .i64) (tPair (tInt .i64) (tPair t_api_AccessID (tPair (tInt .i64) (tPair (tInt .i64) (tPair t_api_Certificate (tPair t_api_Certificate (tPair tBool (tPair t_api_Certificate (tPair (tSlice t_api_Proposal) (tPair (tSlice t_api_Update) (tPair (tSlice t_api_Entry) tBool))))))))))))) fun x : api_Message => (x.Kind, x.From, x.To, x.Access, x.Round, x.Mode, x.Cert, x.Base, x.HasBase, x.Established, x.Config, x.State, x.Have, x.More)
theorem F_api_Message_Kind : Fld t_api_Message (tInt .i64) 0 api_Message.Kind (fun x y => { x with Kind := y }) := (Fld.iso (Fld.fst _ _) (fun _ => rfl) (fun _ _ => rfl))
theorem F_api_Message_From : Fld t_api_Message (tInt .i64) 1 api_Message.From (fun x y => { x with From := y }) := (Fld.iso (Fld.snd (Fld.fst _ _)) (fun _ => rfl) (fun _ _ => rfl))
theorem F_api_Message_To : Fld t_api_Message (tInt .i64) 2 api_Message.To (fun x y => { x with To := y }) := (Fld.iso (Fld.snd (Fld.snd (Fld.fst _ _))) (fun _ => rfl) (fun _ _ => rfl))
theorem F_api_Message_Access : Fld t_api_Message t_api_AccessID 3 api_Message.Access (fun x y => { x with Access := y }) := (Fld.iso (Fld.snd (Fld.snd (Fld.snd (Fld.fst _ _)))) (fun _ => rfl) (fun _ _ => rfl))
theorem F_api_Message_Round : Fld t_api_Message (tInt .i64) 5 api_Message.Round (fun x y => { x with Round := y }) := (Fld.iso (Fld.snd (Fld.snd (Fld.snd (Fld.snd (Fld.fst _ _))))) (fun _ => rfl) (fun _ _ => rfl))
theorem F_api_Message_Mode : Fld t_api_Message (tInt .i64) 6 api_Message.Mode (fun x y => { x with Mode := y }) := (Fld.iso (Fld.snd (Fld.snd (Fld.snd (Fld.snd (Fld.snd (Fld.fst _ _)))))) (fun _ => rfl) (fun _ _ => rfl))
theorem F_api_Message_Cert : Fld t_api_Message t_api_Certificate 7 api_Message.Cert (fun x y => { x with Cert := y }) := (Fld.iso (Fld.snd (Fld.snd (Fld.snd (Fld.snd (Fld.snd (Fld.snd (Fld.fst _ _))))))) (fun _ => rfl) (fun _ _ => rfl))
theorem F_api_Message_Base : Fld t_api_Message t_api_Certificate 9 api_Message.Base (fun x y => { x with Base := y }) := (Fld.iso (Fld.snd (Fld.snd (Fld.snd (Fld.snd (Fld.snd (Fld.snd (Fld.snd (Fld.fst _ _)))))))) (fun _ => rfl) (fun _ _ => rfl))
theorem F_api_Message_HasBase : Fld t_api_Message tBool 11 api_Message.HasBase (fun x y => { x with HasBase := y }) := (Fld.iso (Fld.snd (Fld.snd (Fld.snd (Fld.snd (Fld.snd (Fld.snd (Fld.snd (Fld.snd (Fld.fst _ _))))))))) (fun _ => rfl) (fun _ _ => rfl))
theorem F_api_Message_Established : Fld t_api_Message t_api_Certificate 12 api_Message.Established (fun x y => { x with Established := y }) := (Fld.iso (Fld.snd (Fld.snd (Fld.snd (Fld.snd (Fld.snd (Fld.snd (Fld.snd (Fld.snd (Fld.snd (Fld.fst _ _)))))))))) (fun _ => rfl) (fun _ _ => rfl))
theorem F_api_Message_Config : Fld t_api_Message (tSlice t_api_Proposal) 14 api_Message.Config (fun x y => { x with Config := y }) := (Fld.iso (Fld.snd (Fld.snd (Fld.snd (Fld.snd (Fld.snd (Fld.snd (Fld.snd (Fld.snd (Fld.snd (Fld.snd (Fld.fst _ _))))))))))) (fun _ => rfl) (fun _ _ => rfl))
theorem F_api_Message_State : Fld t_api_Message (tSlice t_api_Update) 15 api_Message.State (fun x y => { x with State := y }) := (Fld.iso (Fld.snd (Fld.snd (Fld.snd (Fld.snd (Fld.snd (Fld.snd (Fld.snd (Fld.snd (Fld.snd (Fld.snd (Fld.snd (Fld.fst _ _)))))))))))) (fun _ => rfl) (fun _ _ => rfl))
theorem F_api_Message_Have : Fld t_api_Message (tSlice t_api_Entry) 16 api_Message.Have (fun x y => { x with Have := y }) := (Fld.iso (Fld.snd (Fld.snd (Fld.snd (Fld.snd (Fld.snd (Fld.snd (Fld.snd (Fld.snd (Fld.snd (Fld.snd (Fld.snd (Fld.snd (Fld.fst _ _))))))))))))) (fun _ => rfl) (fun _ _ => rfl))
theorem F_api_Message_More : Fld t_api_Message tBool 17 api_Message.More (fun x y => { x with More := y }) := (Fld.iso (Fld.snd (Fld.snd (Fld.snd (Fld.snd (Fld.snd (Fld.snd (Fld.snd (Fld.snd (Fld.snd (Fld.snd (Fld.snd (Fld.snd (Fld.snd Fld.self))))))))))))) (fun _ => rfl) (fun _ _ => rfl))
def t_network_Packet : Ty network_Packet := tIso (tPair (tInt .i64) t_api_Message) fun x : network_Packet => (x.ID, x.Message)
theorem F_network_Packet_ID : Fld t_network_Packet (tInt .i64) 0 network_Packet.ID (fun x y => { x with ID := y }) := (Fld.iso (Fld.fst _ _) (fun _ => rfl) (fun _ _ => rfl))
theorem F_network_Packet_Message : Fld t_network_Packet t_api_Message 1 network_Packet.Message (fun x y => { x with Message := y }) := (Fld.iso (Fld.snd Fld.self) (fun _ => rfl) (fun _ _ => rfl))
def t_network_Side : Ty network_Side := tIso (tPair (tInt .i64) (tInt .i64)) fun x : network_Side => (x.Process, x.Side)
theorem F_network_Side_Process : Fld t_network_Side (tInt .i64) 0 network_Side.Process (fun x y => { x with Process := y }) := (Fld.iso (Fld.fst _ _) (fun _ => rfl) (fun _ _ => rfl))
theorem F_network_Side_Side : Fld t_network_Side (tInt .i64) 1 network_Side.Side (fun x y => { x with Side := y }) := (Fld.iso (Fld.snd Fld.self) (fun _ => rfl) (fun _ _ => rfl))
def t_network_Network : Ty network_Network := tIso (tPair (tInt .i64) (tPair (tSlice t_network_Packet) (tSlice t_network_Side))) fun x : network_Network => (x.Next, x.Packets, x.Sides)
theorem F_network_Network_Next : Fld t_network_Network (tInt .i64) 0 network_Network.Next (fun x y => { x with Next := y }) := (Fld.iso (Fld.fst _ _) (fun _ => rfl) (fun _ _ => rfl))
theorem F_network_Network_Packets : Fld t_network_Network (tSlice t_network_Packet) 1 network_Network.Packets (fun x y => { x with Packets := y }) := (Fld.iso (Fld.snd (Fld.fst _ _)) (fun _ => rfl) (fun _ _ => rfl))
theorem F_network_Network_Sides : Fld t_network_Network (tSlice t_network_Side) 2 network_Network.Sides (fun x y => { x with Sides := y }) := (Fld.iso (Fld.snd (Fld.snd Fld.self)) (fun _ => rfl) (fun _ _ => rfl))
def t_elasticstorelaw34_Act : Ty elasticstorelaw34_Act := tIso (tPair (tInt .i64) (tPair (tInt .i64) (tPair (tInt .i64) (tSlice t_network_Side)))) fun x : elasticstorelaw34_Act => (x.Kind, x.N, x.M, x.Sides)
theorem F_elasticstorelaw34_Act_Kind : Fld t_elasticstorelaw34_Act (tInt .i64) 0 elasticstorelaw34_Act.Kind (fun x y => { x with Kind := y }) := (Fld.iso (Fld.fst _ _) (fun _ => rfl) (fun _ _ => rfl))
theorem F_elasticstorelaw34_Act_N : Fld t_elasticstorelaw34_Act (tInt .i64) 1 elasticstorelaw34_Act.N (fun x y => { x with N := y }) := (Fld.iso (Fld.snd (Fld.fst _ _)) (fun _ => rfl) (fun _ _ => rfl))
theorem F_elasticstorelaw34_Act_M : Fld t_elasticstorelaw34_Act (tInt .i64) 2 elasticstorelaw34_Act.M (fun x y => { x with M := y }) := (Fld.iso (Fld.snd (Fld.snd (Fld.fst _ _))) (fun _ => rfl) (fun _ _ => rfl))
theorem F_elasticstorelaw34_Act_Sides : Fld t_elasticstorelaw34_Act (tSlice t_network_Side) 3 elasticstorelaw34_Act.Sides (fun x y => { x with Sides := y }) := (Fld.iso (Fld.snd (Fld.snd (Fld.snd Fld.self))) (fun _ => rfl) (fun _ _ => rfl))
theorem EI3 : EI Try.prog 3 (.int .i64 0) 1 8 := ⟨by kernel_rfl, rfl, by decide⟩
theorem EI49 : EI Try.prog 49 (.agg #[.int .i64 0, .int .i64 0, .int .i64 0, .int .i64 0, .int .i64 0, .int .i64 0, .int .i64 0, .slice none 0 0, .slice none 0 0, .slice none 0 0, .slice none 0 0, .bool false, .slice none 0 0, .slice none 0 0, .slice none 0 0, .slice none 0 0, .slice none 0 0, .bool false]) 18 288 := ⟨by kernel_rfl, rfl, by decide⟩
theorem EI51 : EI Try.prog 51 (.agg #[.int .i64 0, .int .i64 0, .int .i64 0, .int .i64 0, .int .i64 0, .int .i64 0, .int .i64 0, .int .i64 0, .slice none 0 0, .slice none 0 0, .slice none 0 0, .slice none 0 0, .bool false, .slice none 0 0, .slice none 0 0, .slice none 0 0, .slice none 0 0, .slice none 0 0, .bool false]) 19 296 := ⟨by kernel_rfl, rfl, by decide⟩
theorem EI69 : EI Try.prog 69 (.agg #[.int .i64 0, .int .i64 0]) 2 16 := ⟨by kernel_rfl, rfl, by decide⟩
theorem FA102_0 : FA Try.prog 102 0 0 := fun _ _ => by kernel_rfl
theorem FA102_1 : FA Try.prog 102 1 1 := fun _ _ => by kernel_rfl
theorem FA102_2 : FA Try.prog 102 2 2 := fun _ _ => by kernel_rfl
theorem FA102_3 : FA Try.prog 102 3 3 := fun _ _ => by kernel_rfl
theorem FA27_0 : FA Try.prog 27 0 0 := fun _ _ => by kernel_rfl
theorem FA27_1 : FA Try.prog 27 1 1 := fun _ _ => by kernel_rfl
theorem FA27_2 : FA Try.prog 27 2 2 := fun _ _ => by kernel_rfl
theorem FA33_1 : FA Try.prog 33 1 1 := fun _ _ => by kernel_rfl
theorem FA33_2 : FA Try.prog 33 2 2 := fun _ _ => by kernel_rfl
theorem FA43_0 : FA Try.prog 43 0 0 := fun _ _ => by kernel_rfl
theorem FA43_1 : FA Try.prog 43 1 1 := fun _ _ => by kernel_rfl
theorem FA49_0 : FA Try.prog 49 0 0 := fun _ _ => by kernel_rfl
theorem FA49_1 : FA Try.prog 49 1 1 := fun _ _ => by kernel_rfl
theorem FA49_10 : FA Try.prog 49 10 14 := fun _ _ => by kernel_rfl
theorem FA49_11 : FA Try.prog 49 11 15 := fun _ _ => by kernel_rfl
theorem FA49_12 : FA Try.prog 49 12 16 := fun _ _ => by kernel_rfl
theorem FA49_13 : FA Try.prog 49 13 17 := fun _ _ => by kernel_rfl
theorem FA49_2 : FA Try.prog 49 2 2 := fun _ _ => by kernel_rfl
theorem FA49_3 : FA Try.prog 49 3 3 := fun _ _ => by kernel_rfl
theorem FA49_4 : FA Try.prog 49 4 5 := fun _ _ => by kernel_rfl
theorem FA49_5 : FA Try.prog 49 5 6 := fun _ _ => by kernel_rfl
theorem FA49_6 : FA Try.prog 49 6 7 := fun _ _ => by kernel_rfl
theorem FA49_7 : FA Try.prog 49 7 9 := fun _ _ => by kernel_rfl
theorem FA49_8 : FA Try.prog 49 8 11 := fun _ _ => by kernel_rfl
theorem FA49_9 : FA Try.prog 49 9 12 := fun _ _ => by kernel_rfl
theorem FA51_0 : FA Try.prog 51 0 0 := fun _ _ => by kernel_rfl
theorem FA51_1 : FA Try.prog 51 1 1 := fun _ _ => by kernel_rfl
theorem FA69_0 : FA Try.prog 69 0 0 := fun _ _ => by kernel_rfl
theorem FA69_1 : FA Try.prog 69 1 1 := fun _ _ => by kernel_rfl
theorem FA98_0 : FA Try.prog 98 0 0 := fun _ _ => by kernel_rfl
theorem FA98_1 : FA Try.prog 98 1 1 := fun _ _ => by kernel_rfl
theorem FA98_2 : FA Try.prog 98 2 2 := fun _ _ => by kernel_rfl
theorem FN10 : FN Try.prog 10 := fun _ _ => by kernel_rfl
theorem FN11 : FN Try.prog 11 := fun _ _ => by kernel_rfl
theorem FN12 : FN Try.prog 12 := fun _ _ => by kernel_rfl
theorem FN13 : FN Try.prog 13 := fun _ _ => by kernel_rfl
theorem FN14 : FN Try.prog 14 := fun _ _ => by kernel_rfl
theorem FN15 : FN Try.prog 15 := fun _ _ => by kernel_rfl
theorem FN16 : FN Try.prog 16 := fun _ _ => by kernel_rfl
theorem FN17 : FN Try.prog 17 := fun _ _ => by kernel_rfl
theorem FN18 : FN Try.prog 18 := fun _ _ => by kernel_rfl
theorem FN22 : FN Try.prog 22 := fun _ _ => by kernel_rfl
theorem FN24 : FN Try.prog 24 := fun _ _ => by kernel_rfl
theorem FN26 : FN Try.prog 26 := fun _ _ => by kernel_rfl
theorem FN27 : FN Try.prog 27 := fun _ _ => by kernel_rfl
theorem FN28 : FN Try.prog 28 := fun _ _ => by kernel_rfl
theorem FN30 : FN Try.prog 30 := fun _ _ => by kernel_rfl
theorem FN31 : FN Try.prog 31 := fun _ _ => by kernel_rfl
theorem FN40 : FN Try.prog 40 := fun _ _ => by kernel_rfl
theorem FN42 : FN Try.prog 42 := fun _ _ => by kernel_rfl
theorem FN43 : FN Try.prog 43 := fun _ _ => by kernel_rfl
theorem FN44 : FN Try.prog 44 := fun _ _ => by kernel_rfl
theorem FN45 : FN Try.prog 45 := fun _ _ => by kernel_rfl
theorem FN47 : FN Try.prog 47 := fun _ _ => by kernel_rfl
theorem FN48 : FN Try.prog 48 := fun _ _ => by kernel_rfl
theorem FN49 : FN Try.prog 49 := fun _ _ => by kernel_rfl
theorem FN52 : FN Try.prog 52 := fun _ _ => by kernel_rfl
theorem FN56 : FN Try.prog 56 := fun _ _ => by kernel_rfl
theorem FN57 : FN Try.prog 57 := fun _ _ => by kernel_rfl
theorem FN58 : FN Try.prog 58 := fun _ _ => by kernel_rfl
theorem FN59 : FN Try.prog 59 := fun _ _ => by kernel_rfl
theorem FN8 : FN Try.prog 8 := fun _ _ => by kernel_rfl
theorem FN9 : FN Try.prog 9 := fun _ _ => by kernel_rfl
theorem PL27 : PL Try.prog 27 [(0, 1), (1, 1), (2, 1)] [.int .i64 0, .slice none 0 0, .slice none 0 0] := ⟨⟨_, Try.underlying27, fun _ => by kernel_rfl⟩, .agg #[.int .i64 0, .slice none 0 0, .slice none 0 0], fun _ => by kernel_rfl, rfl⟩
theorem PL49 : PL Try.prog 49 [(0, 1), (1, 1), (2, 1), (3, 2), (5, 1), (6, 1), (7, 2), (9, 2), (11, 1), (12, 2), (14, 1), (15, 1), (16, 1), (17, 1)] [.int .i64 0, .int .i64 0, .int .i64 0, .int .i64 0, .int .i64 0, .int .i64 0, .int .i64 0, .slice none 0 0, .slice none 0 0, .slice none 0 0, .slice none 0 0, .bool false, .slice none 0 0, .slice none 0 0, .slice none 0 0, .slice none 0 0, .slice none 0 0, .bool false] := ⟨⟨_, Try.underlying49, fun _ => by kernel_rfl⟩, .agg #[.int .i64 0, .int .i64 0, .int .i64 0, .int .i64 0, .int .i64 0, .int .i64 0, .int .i64 0, .slice none 0 0, .slice none 0 0, .slice none 0 0, .slice none 0 0, .bool false, .slice none 0 0, .slice none 0 0, .slice none 0 0, .slice none 0 0, .slice none 0 0, .bool false], fun _ => by kernel_rfl, rfl⟩
theorem PL51 : PL Try.prog 51 [(0, 1), (1, 18)] [.int .i64 0, .int .i64 0, .int .i64 0, .int .i64 0, .int .i64 0, .int .i64 0, .int .i64 0, .int .i64 0, .slice none 0 0, .slice none 0 0, .slice none 0 0, .slice none 0 0, .bool false, .slice none 0 0, .slice none 0 0, .slice none 0 0, .slice none 0 0, .slice none 0 0, .bool false] := ⟨⟨_, Try.underlying51, fun _ => by kernel_rfl⟩, .agg #[.int .i64 0, .int .i64 0, .int .i64 0, .int .i64 0, .int .i64 0, .int .i64 0, .int .i64 0, .int .i64 0, .slice none 0 0, .slice none 0 0, .slice none 0 0, .slice none 0 0, .bool false, .slice none 0 0, .slice none 0 0, .slice none 0 0, .slice none 0 0, .slice none 0 0, .bool false], fun _ => by kernel_rfl, rfl⟩
theorem PL69 : PL Try.prog 69 [(0, 1), (1, 1)] [.int .i64 0, .int .i64 0] := ⟨⟨_, Try.underlying69, fun _ => by kernel_rfl⟩, .agg #[.int .i64 0, .int .i64 0], fun _ => by kernel_rfl, rfl⟩
theorem PS23 : PS Try.prog 23 69 2 [.int .i64 0, .int .i64 0] := ⟨by kernel_rfl, fun _ => by kernel_rfl, .agg #[.int .i64 0, .int .i64 0], fun _ => by kernel_rfl, rfl⟩
theorem PS25 : PS Try.prog 25 51 19 [.int .i64 0, .int .i64 0, .int .i64 0, .int .i64 0, .int .i64 0, .int .i64 0, .int .i64 0, .int .i64 0, .slice none 0 0, .slice none 0 0, .slice none 0 0, .slice none 0 0, .bool false, .slice none 0 0, .slice none 0 0, .slice none 0 0, .slice none 0 0, .slice none 0 0, .bool false] := ⟨by kernel_rfl, fun _ => by kernel_rfl, .agg #[.int .i64 0, .int .i64 0, .int .i64 0, .int .i64 0, .int .i64 0, .int .i64 0, .int .i64 0, .int .i64 0, .slice none 0 0, .slice none 0 0, .slice none 0 0, .slice none 0 0, .bool false, .slice none 0 0, .slice none 0 0, .slice none 0 0, .slice none 0 0, .slice none 0 0, .bool false], fun _ => by kernel_rfl, rfl⟩
theorem PS30 : PS Try.prog 30 49 18 [.int .i64 0, .int .i64 0, .int .i64 0, .int .i64 0, .int .i64 0, .int .i64 0, .int .i64 0, .slice none 0 0, .slice none 0 0, .slice none 0 0, .slice none 0 0, .bool false, .slice none 0 0, .slice none 0 0, .slice none 0 0, .slice none 0 0, .slice none 0 0, .bool false] := ⟨by kernel_rfl, fun _ => by kernel_rfl, .agg #[.int .i64 0, .int .i64 0, .int .i64 0, .int .i64 0, .int .i64 0, .int .i64 0, .int .i64 0, .slice none 0 0, .slice none 0 0, .slice none 0 0, .slice none 0 0, .bool false, .slice none 0 0, .slice none 0 0, .slice none 0 0, .slice none 0 0, .slice none 0 0, .bool false], fun _ => by kernel_rfl, rfl⟩
theorem PS36 : PS Try.prog 36 3 1 [.int .i64 0] := ⟨by kernel_rfl, fun _ => by kernel_rfl, .int .i64 0, fun _ => by kernel_rfl, rfl⟩
theorem TI100 : TI Try.prog 100 false 1 := ⟨fun _ => by kernel_rfl, fun _ => by kernel_rfl⟩
theorem TI102 : TI Try.prog 102 true 4 := ⟨fun _ => by kernel_rfl, fun _ => by kernel_rfl⟩
theorem TI104 : TI Try.prog 104 true 2 := ⟨fun _ => by kernel_rfl, fun _ => by kernel_rfl⟩
theorem TI120 : TI Try.prog 120 true 7 := ⟨fun _ => by kernel_rfl, fun _ => by kernel_rfl⟩
theorem TI122 : TI Try.prog 122 true 5 := ⟨fun _ => by kernel_rfl, fun _ => by kernel_rfl⟩
theorem TI23 : TI Try.prog 23 false 1 := ⟨fun _ => by kernel_rfl, fun _ => by kernel_rfl⟩
theorem TI25 : TI Try.prog 25 false 1 := ⟨fun _ => by kernel_rfl, fun _ => by kernel_rfl⟩
theorem TI27 : TI Try.prog 27 true 3 := ⟨fun _ => by kernel_rfl, fun _ => by kernel_rfl⟩
theorem TI3 : TI Try.prog 3 false 1 := ⟨fun _ => by kernel_rfl, fun _ => by kernel_rfl⟩
theorem TI33 : TI Try.prog 33 true 4 := ⟨fun _ => by kernel_rfl, fun _ => by kernel_rfl⟩
theorem TI39 : TI Try.prog 39 true 2 := ⟨fun _ => by kernel_rfl, fun _ => by kernel_rfl⟩
theorem TI4 : TI Try.prog 4 false 1 := ⟨fun _ => by kernel_rfl, fun _ => by kernel_rfl⟩
theorem TI41 : TI Try.prog 41 false 1 := ⟨fun _ => by kernel_rfl, fun _ => by kernel_rfl⟩
theorem TI43 : TI Try.prog 43 true 2 := ⟨fun _ => by kernel_rfl, fun _ => by kernel_rfl⟩
theorem TI45 : TI Try.prog 45 false 1 := ⟨fun _ => by kernel_rfl, fun _ => by kernel_rfl⟩
theorem TI47 : TI Try.prog 47 false 1 := ⟨fun _ => by kernel_rfl, fun _ => by kernel_rfl⟩
theorem TI49 : TI Try.prog 49 true 18 := ⟨fun _ => by kernel_rfl, fun _ => by kernel_rfl⟩
theorem TI51 : TI Try.prog 51 true 19 := ⟨fun _ => by kernel_rfl, fun _ => by kernel_rfl⟩
theorem TI69 : TI Try.prog 69 true 2 := ⟨fun _ => by kernel_rfl, fun _ => by kernel_rfl⟩
theorem TI96 : TI Try.prog 96 false 1 := ⟨fun _ => by kernel_rfl, fun _ => by kernel_rfl⟩
theorem TI98 : TI Try.prog 98 true 3 := ⟨fun _ => by kernel_rfl, fun _ => by kernel_rfl⟩
theorem UN100 : Try.prog.underlying 100 = some (.slice 122) := by kernel_rfl
theorem UN22 : Try.prog.underlying 22 = some (.slice 33) := by kernel_rfl
theorem UN23 : Try.prog.underlying 23 = some (.slice 69) := by kernel_rfl
theorem UN25 : Try.prog.underlying 25 = some (.slice 51) := by kernel_rfl
theorem UN3 : Try.prog.underlying 3 = some (.int .i64) := by kernel_rfl
theorem UN30 : Try.prog.underlying 30 = some (.slice 49) := by kernel_rfl
theorem UN36 : Try.prog.underlying 36 = some (.slice 3) := by kernel_rfl
theorem UN4 : Try.prog.underlying 4 = some (.bool) := by kernel_rfl
theorem UN41 : Try.prog.underlying 41 = some (.slice 98) := by kernel_rfl
theorem UN45 : Try.prog.underlying 45 = some (.slice 102) := by kernel_rfl
theorem UN47 : Try.prog.underlying 47 = some (.slice 104) := by kernel_rfl
theorem UN72 : Try.prog.underlying 72 = some (.map 3 3) := by kernel_rfl
theorem UN89 : Try.prog.underlying 89 = some (.int .u64) := by kernel_rfl
theorem UN96 : Try.prog.underlying 96 = some (.slice 120) := by kernel_rfl
theorem ZV27 : ZV Try.prog 27 [.int .i64 0, .slice none 0 0, .slice none 0 0] := ⟨.agg #[.int .i64 0, .slice none 0 0, .slice none 0 0], fun _ => by kernel_rfl, rfl⟩
theorem ZV49 : ZV Try.prog 49 [.int .i64 0, .int .i64 0, .int .i64 0, .int .i64 0, .int .i64 0, .int .i64 0, .int .i64 0, .slice none 0 0, .slice none 0 0, .slice none 0 0, .slice none 0 0, .bool false, .slice none 0 0, .slice none 0 0, .slice none 0 0, .slice none 0 0, .slice none 0 0, .bool false] := ⟨.agg #[.int .i64 0, .int .i64 0, .int .i64 0, .int .i64 0, .int .i64 0, .int .i64 0, .int .i64 0, .slice none 0 0, .slice none 0 0, .slice none 0 0, .slice none 0 0, .bool false, .slice none 0 0, .slice none 0 0, .slice none 0 0, .slice none 0 0, .slice none 0 0, .bool false], fun _ => by kernel_rfl, rfl⟩
theorem ZV51 : ZV Try.prog 51 [.int .i64 0, .int .i64 0, .int .i64 0, .int .i64 0, .int .i64 0, .int .i64 0, .int .i64 0, .int .i64 0, .slice none 0 0, .slice none 0 0, .slice none 0 0, .slice none 0 0, .bool false, .slice none 0 0, .slice none 0 0, .slice none 0 0, .slice none 0 0, .slice none 0 0, .bool false] := ⟨.agg #[.int .i64 0, .int .i64 0, .int .i64 0, .int .i64 0, .int .i64 0, .int .i64 0, .int .i64 0, .int .i64 0, .slice none 0 0, .slice none 0 0, .slice none 0 0, .slice none 0 0, .bool false, .slice none 0 0, .slice none 0 0, .slice none 0 0, .slice none 0 0, .slice none 0 0, .bool false], fun _ => by kernel_rfl, rfl⟩
theorem ZV69 : ZV Try.prog 69 [.int .i64 0, .int .i64 0] := ⟨.agg #[.int .i64 0, .int .i64 0], fun _ => by kernel_rfl, rfl⟩
theorem open_api_AccessID {ok0 : Nat → Prop} {w0 : Base} {w : World} {Γ : List It} {Λ : List LObj} (hs : St ok0 w0 w Γ Λ) (i : Nat) {x : api_AccessID} {cs : List Value} (hi : Γ[i]? = some (vl t_api_AccessID x (.agg cs.toArray))) : cs = [.int .i64 x.Process, .int .i64 x.Number] := by
  obtain ⟨ok, h⟩ := hs.get i hi
  have h := R_agg h rfl
  obtain ⟨_, _, rfl, rfl, rfl⟩ := h
  exact rfl
theorem open_api_Change {ok0 : Nat → Prop} {w0 : Base} {w : World} {Γ : List It} {Λ : List LObj} (hs : St ok0 w0 w Γ Λ) (i : Nat) {x : api_Change} {cs : List Value} (hi : Γ[i]? = some (vl t_api_Change x (.agg cs.toArray))) : cs = [.int .i64 x.Kind, .int .i64 x.Server, .int .i64 x.Weight, .int .i64 x.Version, .int .i64 x.Rule.Kind, .int .i64 x.Rule.Columns, .int .i64 x.Rule.Faulty] := by
  obtain ⟨ok, h⟩ := hs.get i hi
  have h := R_agg h rfl
  obtain ⟨_, _, rfl, rfl, ⟨_, _, rfl, rfl, ⟨_, _, rfl, rfl, ⟨_, _, rfl, rfl, ⟨_, _, rfl, rfl, ⟨_, _, rfl, rfl, rfl⟩⟩⟩⟩⟩⟩ := h
  exact rfl
theorem open_api_Effect {ok0 : Nat → Prop} {w0 : Base} {w : World} {Γ : List It} {Λ : List LObj} (hs : St ok0 w0 w Γ Λ) (i : Nat) {x : api_Effect} {cs : List Value} (hi : Γ[i]? = some (vl t_api_Effect x (.agg cs.toArray))) : cs = [.int .i64 x.Kind, bstr x.Object, bstr x.Field, .int .i64 x.N, bstr x.S] := by
  obtain ⟨ok, h⟩ := hs.get i hi
  have h := R_agg h rfl
  obtain ⟨_, _, rfl, rfl, ⟨_, _, rfl, rfl, ⟨_, _, rfl, rfl, ⟨_, _, rfl, rfl, rfl⟩⟩⟩⟩ := h
  exact rfl
theorem open_api_Entry {ok0 : Nat → Prop} {w0 : Base} {w : World} {Γ : List It} {Λ : List LObj} (hs : St ok0 w0 w Γ Λ) (i : Nat) {x : api_Entry} {cs : List Value} (hi : Γ[i]? = some (vl t_api_Entry x (.agg cs.toArray))) : cs = [.int .i64 x.Author, .int .i64 x.Count] := by
  obtain ⟨ok, h⟩ := hs.get i hi
  have h := R_agg h rfl
  obtain ⟨_, _, rfl, rfl, rfl⟩ := h
  exact rfl
theorem open_network_Network {ok0 : Nat → Prop} {w0 : Base} {w : World} {Γ : List It} {Λ : List LObj} (hs : St ok0 w0 w Γ Λ) (i : Nat) {x : network_Network} {cs : List Value} (hi : Γ[i]? = some (vl t_network_Network x (.agg cs.toArray))) : ∃ (a0 : Option Addr), ∃ (c1 : Nat), ∃ (a2 : Option Addr), ∃ (c3 : Nat), cs = [.int .i64 x.Next, .slice a0 x.Packets.length c1, .slice a2 x.Sides.length c3] := by
  obtain ⟨ok, h⟩ := hs.get i hi
  have h := R_agg h rfl
  obtain ⟨_, _, rfl, rfl, ⟨_, _, rfl, ⟨a0, c1, rfl, _, _⟩, ⟨a2, c3, rfl, _, _⟩⟩⟩ := h
  exact ⟨a0, c1, a2, c3, rfl⟩
theorem open_network_Side {ok0 : Nat → Prop} {w0 : Base} {w : World} {Γ : List It} {Λ : List LObj} (hs : St ok0 w0 w Γ Λ) (i : Nat) {x : network_Side} {cs : List Value} (hi : Γ[i]? = some (vl t_network_Side x (.agg cs.toArray))) : cs = [.int .i64 x.Process, .int .i64 x.Side] := by
  obtain ⟨ok, h⟩ := hs.get i hi
  have h := R_agg h rfl
  obtain ⟨_, _, rfl, rfl, rfl⟩ := h
  exact rfl
theorem EG104 : Try.prog.eqGuardType Try.prog.depth 104 = false := by kernel_rfl
theorem EQ104 (x y : api_Entry) (w : World) : (binOp .eql 104 (.agg ([.int .i64 x.Author, .int .i64 x.Count] : List Value).toArray) (.agg ([.int .i64 y.Author, .int .i64 y.Count] : List Value).toArray)).run Try.prog w = .ok (.bool (decide (x = y))) w :=
  eql_of (EqR.agg Try.underlying104 (by kernel_rfl) (EqL.cons (by decide) (u := .int .i64 x.Author) (v := .int .i64 y.Author) (fun _ => by kernel_rfl) (fun _ => by kernel_rfl) (EqR.int x.Author y.Author Try.underlying3) (EqL.cons (by decide) (u := .int .i64 x.Count) (v := .int .i64 y.Count) (fun _ => by kernel_rfl) (fun _ => by kernel_rfl) (EqR.int x.Count y.Count Try.underlying3) EqL.nil))) (by obtain ⟨p1, p2⟩ := x; obtain ⟨q1, q2⟩ := y; rw [Bool.eq_iff_iff]; simp [api_Entry.mk.injEq]) w
theorem NQ104 (x y : api_Entry) (w : World) : (binOp .neq 104 (.agg ([.int .i64 x.Author, .int .i64 x.Count] : List Value).toArray) (.agg ([.int .i64 y.Author, .int .i64 y.Count] : List Value).toArray)).run Try.prog w = .ok (.bool (!decide (x = y))) w :=
  neq_of (EqR.agg Try.underlying104 (by kernel_rfl) (EqL.cons (by decide) (u := .int .i64 x.Author) (v := .int .i64 y.Author) (fun _ => by kernel_rfl) (fun _ => by kernel_rfl) (EqR.int x.Author y.Author Try.underlying3) (EqL.cons (by decide) (u := .int .i64 x.Count) (v := .int .i64 y.Count) (fun _ => by kernel_rfl) (fun _ => by kernel_rfl) (EqR.int x.Count y.Count Try.underlying3) EqL.nil))) (by obtain ⟨p1, p2⟩ := x; obtain ⟨q1, q2⟩ := y; rw [Bool.eq_iff_iff]; simp [api_Entry.mk.injEq]) w

theorem EG120 : Try.prog.eqGuardType Try.prog.depth 120 = false := by kernel_rfl
theorem EQ120 (x y : api_Change) (w : World) : (binOp .eql 120 (.agg ([.int .i64 x.Kind, .int .i64 x.Server, .int .i64 x.Weight, .int .i64 x.Version, .int .i64 x.Rule.Kind, .int .i64 x.Rule.Columns, .int .i64 x.Rule.Faulty] : List Value).toArray) (.agg ([.int .i64 y.Kind, .int .i64 y.Server, .int .i64 y.Weight, .int .i64 y.Version, .int .i64 y.Rule.Kind, .int .i64 y.Rule.Columns, .int .i64 y.Rule.Faulty] : List Value).toArray)).run Try.prog w = .ok (.bool (decide (x = y))) w :=
  eql_of (EqR.agg Try.underlying120 (by kernel_rfl) (EqL.cons (by decide) (u := .int .i64 x.Kind) (v := .int .i64 y.Kind) (fun _ => by kernel_rfl) (fun _ => by kernel_rfl) (EqR.int x.Kind y.Kind Try.underlying3) (EqL.cons (by decide) (u := .int .i64 x.Server) (v := .int .i64 y.Server) (fun _ => by kernel_rfl) (fun _ => by kernel_rfl) (EqR.int x.Server y.Server Try.underlying3) (EqL.cons (by decide) (u := .int .i64 x.Weight) (v := .int .i64 y.Weight) (fun _ => by kernel_rfl) (fun _ => by kernel_rfl) (EqR.int x.Weight y.Weight Try.underlying3) (EqL.cons (by decide) (u := .int .i64 x.Version) (v := .int .i64 y.Version) (fun _ => by kernel_rfl) (fun _ => by kernel_rfl) (EqR.int x.Version y.Version Try.underlying3) (EqL.cons (by decide) (u := .agg ([.int .i64 x.Rule.Kind, .int .i64 x.Rule.Columns, .int .i64 x.Rule.Faulty] : List Value).toArray) (v := .agg ([.int .i64 y.Rule.Kind, .int .i64 y.Rule.Columns, .int .i64 y.Rule.Faulty] : List Value).toArray) (fun _ => by kernel_rfl) (fun _ => by kernel_rfl) (EqR.agg Try.underlying118 (by kernel_rfl) (EqL.cons (by decide) (u := .int .i64 x.Rule.Kind) (v := .int .i64 y.Rule.Kind) (fun _ => by kernel_rfl) (fun _ => by kernel_rfl) (EqR.int x.Rule.Kind y.Rule.Kind Try.underlying3) (EqL.cons (by decide) (u := .int .i64 x.Rule.Columns) (v := .int .i64 y.Rule.Columns) (fun _ => by kernel_rfl) (fun _ => by kernel_rfl) (EqR.int x.Rule.Columns y.Rule.Columns Try.underlying3) (EqL.cons (by decide) (u := .int .i64 x.Rule.Faulty) (v := .int .i64 y.Rule.Faulty) (fun _ => by kernel_rfl) (fun _ => by kernel_rfl) (EqR.int x.Rule.Faulty y.Rule.Faulty Try.underlying3) EqL.nil)))) EqL.nil)))))) (by obtain ⟨p1, p2, p3, p4, ⟨p5, p6, p7⟩⟩ := x; obtain ⟨q1, q2, q3, q4, ⟨q5, q6, q7⟩⟩ := y; rw [Bool.eq_iff_iff]; simp [api_Change.mk.injEq, api_Rule.mk.injEq]) w
theorem NQ120 (x y : api_Change) (w : World) : (binOp .neq 120 (.agg ([.int .i64 x.Kind, .int .i64 x.Server, .int .i64 x.Weight, .int .i64 x.Version, .int .i64 x.Rule.Kind, .int .i64 x.Rule.Columns, .int .i64 x.Rule.Faulty] : List Value).toArray) (.agg ([.int .i64 y.Kind, .int .i64 y.Server, .int .i64 y.Weight, .int .i64 y.Version, .int .i64 y.Rule.Kind, .int .i64 y.Rule.Columns, .int .i64 y.Rule.Faulty] : List Value).toArray)).run Try.prog w = .ok (.bool (!decide (x = y))) w :=
  neq_of (EqR.agg Try.underlying120 (by kernel_rfl) (EqL.cons (by decide) (u := .int .i64 x.Kind) (v := .int .i64 y.Kind) (fun _ => by kernel_rfl) (fun _ => by kernel_rfl) (EqR.int x.Kind y.Kind Try.underlying3) (EqL.cons (by decide) (u := .int .i64 x.Server) (v := .int .i64 y.Server) (fun _ => by kernel_rfl) (fun _ => by kernel_rfl) (EqR.int x.Server y.Server Try.underlying3) (EqL.cons (by decide) (u := .int .i64 x.Weight) (v := .int .i64 y.Weight) (fun _ => by kernel_rfl) (fun _ => by kernel_rfl) (EqR.int x.Weight y.Weight Try.underlying3) (EqL.cons (by decide) (u := .int .i64 x.Version) (v := .int .i64 y.Version) (fun _ => by kernel_rfl) (fun _ => by kernel_rfl) (EqR.int x.Version y.Version Try.underlying3) (EqL.cons (by decide) (u := .agg ([.int .i64 x.Rule.Kind, .int .i64 x.Rule.Columns, .int .i64 x.Rule.Faulty] : List Value).toArray) (v := .agg ([.int .i64 y.Rule.Kind, .int .i64 y.Rule.Columns, .int .i64 y.Rule.Faulty] : List Value).toArray) (fun _ => by kernel_rfl) (fun _ => by kernel_rfl) (EqR.agg Try.underlying118 (by kernel_rfl) (EqL.cons (by decide) (u := .int .i64 x.Rule.Kind) (v := .int .i64 y.Rule.Kind) (fun _ => by kernel_rfl) (fun _ => by kernel_rfl) (EqR.int x.Rule.Kind y.Rule.Kind Try.underlying3) (EqL.cons (by decide) (u := .int .i64 x.Rule.Columns) (v := .int .i64 y.Rule.Columns) (fun _ => by kernel_rfl) (fun _ => by kernel_rfl) (EqR.int x.Rule.Columns y.Rule.Columns Try.underlying3) (EqL.cons (by decide) (u := .int .i64 x.Rule.Faulty) (v := .int .i64 y.Rule.Faulty) (fun _ => by kernel_rfl) (fun _ => by kernel_rfl) (EqR.int x.Rule.Faulty y.Rule.Faulty Try.underlying3) EqL.nil)))) EqL.nil)))))) (by obtain ⟨p1, p2, p3, p4, ⟨p5, p6, p7⟩⟩ := x; obtain ⟨q1, q2, q3, q4, ⟨q5, q6, q7⟩⟩ := y; rw [Bool.eq_iff_iff]; simp [api_Change.mk.injEq, api_Rule.mk.injEq]) w

theorem EG122 : Try.prog.eqGuardType Try.prog.depth 122 = false := by kernel_rfl
theorem EQ122 (x y : api_Effect) (w : World) : (binOp .eql 122 (.agg ([.int .i64 x.Kind, bstr x.Object, bstr x.Field, .int .i64 x.N, bstr x.S] : List Value).toArray) (.agg ([.int .i64 y.Kind, bstr y.Object, bstr y.Field, .int .i64 y.N, bstr y.S] : List Value).toArray)).run Try.prog w = .ok (.bool (decide (x = y))) w :=
  eql_of (EqR.agg Try.underlying122 (by kernel_rfl) (EqL.cons (by decide) (u := .int .i64 x.Kind) (v := .int .i64 y.Kind) (fun _ => by kernel_rfl) (fun _ => by kernel_rfl) (EqR.int x.Kind y.Kind Try.underlying3) (EqL.cons (by decide) (u := bstr x.Object) (v := bstr y.Object) (fun _ => by kernel_rfl) (fun _ => by kernel_rfl) (EqR.str x.Object y.Object Try.underlying9) (EqL.cons (by decide) (u := bstr x.Field) (v := bstr y.Field) (fun _ => by kernel_rfl) (fun _ => by kernel_rfl) (EqR.str x.Field y.Field Try.underlying9) (EqL.cons (by decide) (u := .int .i64 x.N) (v := .int .i64 y.N) (fun _ => by kernel_rfl) (fun _ => by kernel_rfl) (EqR.int x.N y.N Try.underlying2) (EqL.cons (by decide) (u := bstr x.S) (v := bstr y.S) (fun _ => by kernel_rfl) (fun _ => by kernel_rfl) (EqR.str x.S y.S Try.underlying9) EqL.nil)))))) (by obtain ⟨p1, p2, p3, p4, p5⟩ := x; obtain ⟨q1, q2, q3, q4, q5⟩ := y; rw [Bool.eq_iff_iff]; simp [api_Effect.mk.injEq]) w
theorem NQ122 (x y : api_Effect) (w : World) : (binOp .neq 122 (.agg ([.int .i64 x.Kind, bstr x.Object, bstr x.Field, .int .i64 x.N, bstr x.S] : List Value).toArray) (.agg ([.int .i64 y.Kind, bstr y.Object, bstr y.Field, .int .i64 y.N, bstr y.S] : List Value).toArray)).run Try.prog w = .ok (.bool (!decide (x = y))) w :=
  neq_of (EqR.agg Try.underlying122 (by kernel_rfl) (EqL.cons (by decide) (u := .int .i64 x.Kind) (v := .int .i64 y.Kind) (fun _ => by kernel_rfl) (fun _ => by kernel_rfl) (EqR.int x.Kind y.Kind Try.underlying3) (EqL.cons (by decide) (u := bstr x.Object) (v := bstr y.Object) (fun _ => by kernel_rfl) (fun _ => by kernel_rfl) (EqR.str x.Object y.Object Try.underlying9) (EqL.cons (by decide) (u := bstr x.Field) (v := bstr y.Field) (fun _ => by kernel_rfl) (fun _ => by kernel_rfl) (EqR.str x.Field y.Field Try.underlying9) (EqL.cons (by decide) (u := .int .i64 x.N) (v := .int .i64 y.N) (fun _ => by kernel_rfl) (fun _ => by kernel_rfl) (EqR.int x.N y.N Try.underlying2) (EqL.cons (by decide) (u := bstr x.S) (v := bstr y.S) (fun _ => by kernel_rfl) (fun _ => by kernel_rfl) (EqR.str x.S y.S Try.underlying9) EqL.nil)))))) (by obtain ⟨p1, p2, p3, p4, p5⟩ := x; obtain ⟨q1, q2, q3, q4, q5⟩ := y; rw [Bool.eq_iff_iff]; simp [api_Effect.mk.injEq]) w

theorem EG39 : Try.prog.eqGuardType Try.prog.depth 39 = false := by kernel_rfl
theorem EQ39 (x y : api_AccessID) (w : World) : (binOp .eql 39 (.agg ([.int .i64 x.Process, .int .i64 x.Number] : List Value).toArray) (.agg ([.int .i64 y.Process, .int .i64 y.Number] : List Value).toArray)).run Try.prog w = .ok (.bool (decide (x = y))) w :=
  eql_of (EqR.agg Try.underlying39 (by kernel_rfl) (EqL.cons (by decide) (u := .int .i64 x.Process) (v := .int .i64 y.Process) (fun _ => by kernel_rfl) (fun _ => by kernel_rfl) (EqR.int x.Process y.Process Try.underlying3) (EqL.cons (by decide) (u := .int .i64 x.Number) (v := .int .i64 y.Number) (fun _ => by kernel_rfl) (fun _ => by kernel_rfl) (EqR.int x.Number y.Number Try.underlying3) EqL.nil))) (by obtain ⟨p1, p2⟩ := x; obtain ⟨q1, q2⟩ := y; rw [Bool.eq_iff_iff]; simp [api_AccessID.mk.injEq]) w
theorem NQ39 (x y : api_AccessID) (w : World) : (binOp .neq 39 (.agg ([.int .i64 x.Process, .int .i64 x.Number] : List Value).toArray) (.agg ([.int .i64 y.Process, .int .i64 y.Number] : List Value).toArray)).run Try.prog w = .ok (.bool (!decide (x = y))) w :=
  neq_of (EqR.agg Try.underlying39 (by kernel_rfl) (EqL.cons (by decide) (u := .int .i64 x.Process) (v := .int .i64 y.Process) (fun _ => by kernel_rfl) (fun _ => by kernel_rfl) (EqR.int x.Process y.Process Try.underlying3) (EqL.cons (by decide) (u := .int .i64 x.Number) (v := .int .i64 y.Number) (fun _ => by kernel_rfl) (fun _ => by kernel_rfl) (EqR.int x.Number y.Number Try.underlying3) EqL.nil))) (by obtain ⟨p1, p2⟩ := x; obtain ⟨q1, q2⟩ := y; rw [Bool.eq_iff_iff]; simp [api_AccessID.mk.injEq]) w

theorem EG69 : Try.prog.eqGuardType Try.prog.depth 69 = false := by kernel_rfl
theorem EQ69 (x y : network_Side) (w : World) : (binOp .eql 69 (.agg ([.int .i64 x.Process, .int .i64 x.Side] : List Value).toArray) (.agg ([.int .i64 y.Process, .int .i64 y.Side] : List Value).toArray)).run Try.prog w = .ok (.bool (decide (x = y))) w :=
  eql_of (EqR.agg Try.underlying69 (by kernel_rfl) (EqL.cons (by decide) (u := .int .i64 x.Process) (v := .int .i64 y.Process) (fun _ => by kernel_rfl) (fun _ => by kernel_rfl) (EqR.int x.Process y.Process Try.underlying3) (EqL.cons (by decide) (u := .int .i64 x.Side) (v := .int .i64 y.Side) (fun _ => by kernel_rfl) (fun _ => by kernel_rfl) (EqR.int x.Side y.Side Try.underlying3) EqL.nil))) (by obtain ⟨p1, p2⟩ := x; obtain ⟨q1, q2⟩ := y; rw [Bool.eq_iff_iff]; simp [network_Side.mk.injEq]) w
theorem NQ69 (x y : network_Side) (w : World) : (binOp .neq 69 (.agg ([.int .i64 x.Process, .int .i64 x.Side] : List Value).toArray) (.agg ([.int .i64 y.Process, .int .i64 y.Side] : List Value).toArray)).run Try.prog w = .ok (.bool (!decide (x = y))) w :=
  neq_of (EqR.agg Try.underlying69 (by kernel_rfl) (EqL.cons (by decide) (u := .int .i64 x.Process) (v := .int .i64 y.Process) (fun _ => by kernel_rfl) (fun _ => by kernel_rfl) (EqR.int x.Process y.Process Try.underlying3) (EqL.cons (by decide) (u := .int .i64 x.Side) (v := .int .i64 y.Side) (fun _ => by kernel_rfl) (fun _ => by kernel_rfl) (EqR.int x.Side y.Side Try.underlying3) EqL.nil))) (by obtain ⟨p1, p2⟩ := x; obtain ⟨q1, q2⟩ := y; rw [Bool.eq_iff_iff]; simp [network_Side.mk.injEq]) w

end Go.Proofs.Ytahobbichanccaa
