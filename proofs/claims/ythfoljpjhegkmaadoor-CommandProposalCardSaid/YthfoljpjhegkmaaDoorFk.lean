import Derived.Test.YthfoljpjhegkmaaDoorProg
import Derived.Test.YthfoljpjhegkmaaDoorFd
import Derived.Test.YthfoljpjhegkmaaDoorLq
set_option linter.unusedVariables false
set_option linter.unusedSimpArgs false
namespace Go.Proofs.YthfoljpjhegkmaaDoor
open Go Go.RowKit Go.Proofs.YthfoljpjhegkmaaDoorL
set_option maxRecDepth 20000
def t_api_Rule : Ty api_Rule := tIso (tPair (tInt .i64) (tPair (tInt .i64) (tInt .i64))) fun x : api_Rule => (x.Kind, x.Columns, x.Faulty)
theorem F_api_Rule_Kind : Fld t_api_Rule (tInt .i64) 0 api_Rule.Kind (fun x y => { x with Kind := y }) := (Fld.iso (Fld.fst _ _) (fun _ => rfl) (fun _ _ => rfl))
theorem F_api_Rule_Columns : Fld t_api_Rule (tInt .i64) 1 api_Rule.Columns (fun x y => { x with Columns := y }) := (Fld.iso (Fld.snd (Fld.fst _ _)) (fun _ => rfl) (fun _ _ => rfl))
theorem F_api_Rule_Faulty : Fld t_api_Rule (tInt .i64) 2 api_Rule.Faulty (fun x y => { x with Faulty := y }) := (Fld.iso (Fld.snd (Fld.snd Fld.self)) (fun _ => rfl) (fun _ _ => rfl))
def t_api_Change : Ty api_Change := tIso (tPair (tInt .i64) (tPair (tInt .i64) (tPair (tInt .i64) (tPair (tInt .i64) t_api_Rule)))) fun x : api_Change => (x.Kind, x.Server, x.Weight, x.Version, x.Rule)
theorem F_api_Change_Kind : Fld t_api_Change (tInt .i64) 0 api_Change.Kind (fun x y => { x with Kind := y }) := (Fld.iso (Fld.fst _ _) (fun _ => rfl) (fun _ _ => rfl))
theorem F_api_Change_Server : Fld t_api_Change (tInt .i64) 1 api_Change.Server (fun x y => { x with Server := y }) := (Fld.iso (Fld.snd (Fld.fst _ _)) (fun _ => rfl) (fun _ _ => rfl))
theorem F_api_Change_Weight : Fld t_api_Change (tInt .i64) 2 api_Change.Weight (fun x y => { x with Weight := y }) := (Fld.iso (Fld.snd (Fld.snd (Fld.fst _ _))) (fun _ => rfl) (fun _ _ => rfl))
theorem F_api_Change_Version : Fld t_api_Change (tInt .i64) 3 api_Change.Version (fun x y => { x with Version := y }) := (Fld.iso (Fld.snd (Fld.snd (Fld.snd (Fld.fst _ _)))) (fun _ => rfl) (fun _ _ => rfl))
theorem F_api_Change_Rule : Fld t_api_Change t_api_Rule 4 api_Change.Rule (fun x y => { x with Rule := y }) := (Fld.iso (Fld.snd (Fld.snd (Fld.snd (Fld.snd Fld.self)))) (fun _ => rfl) (fun _ _ => rfl))
def t_api_WeightEntry : Ty api_WeightEntry := tIso (tPair (tInt .i64) (tPair (tInt .i64) (tPair (tInt .i64) (tPair (tInt .i64) (tInt .i64))))) fun x : api_WeightEntry => (x.Server, x.Weight, x.Version, x.Admin, x.Number)
theorem F_api_WeightEntry_Server : Fld t_api_WeightEntry (tInt .i64) 0 api_WeightEntry.Server (fun x y => { x with Server := y }) := (Fld.iso (Fld.fst _ _) (fun _ => rfl) (fun _ _ => rfl))
theorem F_api_WeightEntry_Weight : Fld t_api_WeightEntry (tInt .i64) 1 api_WeightEntry.Weight (fun x y => { x with Weight := y }) := (Fld.iso (Fld.snd (Fld.fst _ _)) (fun _ => rfl) (fun _ _ => rfl))
theorem F_api_WeightEntry_Version : Fld t_api_WeightEntry (tInt .i64) 2 api_WeightEntry.Version (fun x y => { x with Version := y }) := (Fld.iso (Fld.snd (Fld.snd (Fld.fst _ _))) (fun _ => rfl) (fun _ _ => rfl))
theorem F_api_WeightEntry_Admin : Fld t_api_WeightEntry (tInt .i64) 3 api_WeightEntry.Admin (fun x y => { x with Admin := y }) := (Fld.iso (Fld.snd (Fld.snd (Fld.snd (Fld.fst _ _)))) (fun _ => rfl) (fun _ _ => rfl))
theorem F_api_WeightEntry_Number : Fld t_api_WeightEntry (tInt .i64) 4 api_WeightEntry.Number (fun x y => { x with Number := y }) := (Fld.iso (Fld.snd (Fld.snd (Fld.snd (Fld.snd Fld.self)))) (fun _ => rfl) (fun _ _ => rfl))
def t_api_Summary : Ty api_Summary := tIso (tPair (tSlice (tInt .i64)) (tPair (tSlice (tInt .i64)) (tPair (tSlice t_api_WeightEntry) (tPair t_api_Rule (tPair (tInt .i64) (tPair (tInt .i64) (tInt .i64))))))) fun x : api_Summary => (x.Joined, x.Removed, x.Weights, x.Rule, x.Version, x.Admin, x.Number)
theorem F_api_Summary_Joined : Fld t_api_Summary (tSlice (tInt .i64)) 0 api_Summary.Joined (fun x y => { x with Joined := y }) := (Fld.iso (Fld.fst _ _) (fun _ => rfl) (fun _ _ => rfl))
theorem F_api_Summary_Removed : Fld t_api_Summary (tSlice (tInt .i64)) 1 api_Summary.Removed (fun x y => { x with Removed := y }) := (Fld.iso (Fld.snd (Fld.fst _ _)) (fun _ => rfl) (fun _ _ => rfl))
theorem F_api_Summary_Weights : Fld t_api_Summary (tSlice t_api_WeightEntry) 2 api_Summary.Weights (fun x y => { x with Weights := y }) := (Fld.iso (Fld.snd (Fld.snd (Fld.fst _ _))) (fun _ => rfl) (fun _ _ => rfl))
theorem F_api_Summary_Rule : Fld t_api_Summary t_api_Rule 3 api_Summary.Rule (fun x y => { x with Rule := y }) := (Fld.iso (Fld.snd (Fld.snd (Fld.snd (Fld.fst _ _)))) (fun _ => rfl) (fun _ _ => rfl))
theorem F_api_Summary_Version : Fld t_api_Summary (tInt .i64) 6 api_Summary.Version (fun x y => { x with Version := y }) := (Fld.iso (Fld.snd (Fld.snd (Fld.snd (Fld.snd (Fld.fst _ _))))) (fun _ => rfl) (fun _ _ => rfl))
theorem F_api_Summary_Admin : Fld t_api_Summary (tInt .i64) 7 api_Summary.Admin (fun x y => { x with Admin := y }) := (Fld.iso (Fld.snd (Fld.snd (Fld.snd (Fld.snd (Fld.snd (Fld.fst _ _)))))) (fun _ => rfl) (fun _ _ => rfl))
theorem F_api_Summary_Number : Fld t_api_Summary (tInt .i64) 8 api_Summary.Number (fun x y => { x with Number := y }) := (Fld.iso (Fld.snd (Fld.snd (Fld.snd (Fld.snd (Fld.snd (Fld.snd Fld.self)))))) (fun _ => rfl) (fun _ _ => rfl))
def t_api_Member : Ty api_Member := tIso (tPair (tInt .i64) (tInt .i64)) fun x : api_Member => (x.Server, x.Weight)
theorem F_api_Member_Server : Fld t_api_Member (tInt .i64) 0 api_Member.Server (fun x y => { x with Server := y }) := (Fld.iso (Fld.fst _ _) (fun _ => rfl) (fun _ _ => rfl))
theorem F_api_Member_Weight : Fld t_api_Member (tInt .i64) 1 api_Member.Weight (fun x y => { x with Weight := y }) := (Fld.iso (Fld.snd Fld.self) (fun _ => rfl) (fun _ _ => rfl))
def t_api_Genesis : Ty api_Genesis := tIso (tPair (tSlice t_api_Member) t_api_Rule) fun x : api_Genesis => (x.Members, x.Rule)
theorem F_api_Genesis_Members : Fld t_api_Genesis (tSlice t_api_Member) 0 api_Genesis.Members (fun x y => { x with Members := y }) := (Fld.iso (Fld.fst _ _) (fun _ => rfl) (fun _ _ => rfl))
theorem F_api_Genesis_Rule : Fld t_api_Genesis t_api_Rule 1 api_Genesis.Rule (fun x y => { x with Rule := y }) := (Fld.iso (Fld.snd Fld.self) (fun _ => rfl) (fun _ _ => rfl))
def t_api_Proposal : Ty api_Proposal := tIso (tPair (tInt .i64) (tPair (tInt .i64) (tSlice t_api_Change))) fun x : api_Proposal => (x.Admin, x.Number, x.Changes)
theorem F_api_Proposal_Admin : Fld t_api_Proposal (tInt .i64) 0 api_Proposal.Admin (fun x y => { x with Admin := y }) := (Fld.iso (Fld.fst _ _) (fun _ => rfl) (fun _ _ => rfl))
theorem F_api_Proposal_Number : Fld t_api_Proposal (tInt .i64) 1 api_Proposal.Number (fun x y => { x with Number := y }) := (Fld.iso (Fld.snd (Fld.fst _ _)) (fun _ => rfl) (fun _ _ => rfl))
theorem F_api_Proposal_Changes : Fld t_api_Proposal (tSlice t_api_Change) 2 api_Proposal.Changes (fun x y => { x with Changes := y }) := (Fld.iso (Fld.snd (Fld.snd Fld.self)) (fun _ => rfl) (fun _ _ => rfl))
theorem EI26 : EI Tryd.prog 26 (.agg #[.int .i64 0, .int .i64 0, .int .i64 0, .int .i64 0, .int .i64 0, .int .i64 0, .int .i64 0]) 7 56 := ⟨by kernel_rfl, rfl, by decide⟩
theorem EI3 : EI Tryd.prog 3 (.int .i64 0) 1 8 := ⟨by kernel_rfl, rfl, by decide⟩
theorem EI54 : EI Tryd.prog 54 (.agg #[.int .i64 0, .int .i64 0, .slice none 0 0]) 3 40 := ⟨by kernel_rfl, rfl, by decide⟩
theorem EI59 : EI Tryd.prog 59 (.agg #[.int .i64 0, .int .i64 0, .int .i64 0, .int .i64 0, .int .i64 0]) 5 40 := ⟨by kernel_rfl, rfl, by decide⟩
theorem EI64 : EI Tryd.prog 64 (.agg #[.int .i64 0, .int .i64 0]) 2 16 := ⟨by kernel_rfl, rfl, by decide⟩
theorem EI9 : EI Tryd.prog 9 (.string ⟨#[]⟩) 1 16 := ⟨by kernel_rfl, rfl, by decide⟩
theorem FA24_0 : FA Tryd.prog 24 0 0 := fun _ _ => by kernel_rfl
theorem FA24_1 : FA Tryd.prog 24 1 1 := fun _ _ => by kernel_rfl
theorem FA24_2 : FA Tryd.prog 24 2 2 := fun _ _ => by kernel_rfl
theorem FA26_0 : FA Tryd.prog 26 0 0 := fun _ _ => by kernel_rfl
theorem FA26_1 : FA Tryd.prog 26 1 1 := fun _ _ => by kernel_rfl
theorem FA26_2 : FA Tryd.prog 26 2 2 := fun _ _ => by kernel_rfl
theorem FA26_3 : FA Tryd.prog 26 3 3 := fun _ _ => by kernel_rfl
theorem FA26_4 : FA Tryd.prog 26 4 4 := fun _ _ => by kernel_rfl
theorem FA36_0 : FA Tryd.prog 36 0 0 := fun _ _ => by kernel_rfl
theorem FA36_1 : FA Tryd.prog 36 1 1 := fun _ _ => by kernel_rfl
theorem FA36_2 : FA Tryd.prog 36 2 2 := fun _ _ => by kernel_rfl
theorem FA36_3 : FA Tryd.prog 36 3 3 := fun _ _ => by kernel_rfl
theorem FA36_4 : FA Tryd.prog 36 4 6 := fun _ _ => by kernel_rfl
theorem FA36_5 : FA Tryd.prog 36 5 7 := fun _ _ => by kernel_rfl
theorem FA36_6 : FA Tryd.prog 36 6 8 := fun _ _ => by kernel_rfl
theorem FA47_0 : FA Tryd.prog 47 0 0 := fun _ _ => by kernel_rfl
theorem FA47_1 : FA Tryd.prog 47 1 1 := fun _ _ => by kernel_rfl
theorem FA54_0 : FA Tryd.prog 54 0 0 := fun _ _ => by kernel_rfl
theorem FA54_1 : FA Tryd.prog 54 1 1 := fun _ _ => by kernel_rfl
theorem FA54_2 : FA Tryd.prog 54 2 2 := fun _ _ => by kernel_rfl
theorem FA59_0 : FA Tryd.prog 59 0 0 := fun _ _ => by kernel_rfl
theorem FA59_1 : FA Tryd.prog 59 1 1 := fun _ _ => by kernel_rfl
theorem FA59_2 : FA Tryd.prog 59 2 2 := fun _ _ => by kernel_rfl
theorem FA59_3 : FA Tryd.prog 59 3 3 := fun _ _ => by kernel_rfl
theorem FA59_4 : FA Tryd.prog 59 4 4 := fun _ _ => by kernel_rfl
theorem FA64_0 : FA Tryd.prog 64 0 0 := fun _ _ => by kernel_rfl
theorem FA64_1 : FA Tryd.prog 64 1 1 := fun _ _ => by kernel_rfl
theorem FN10 : FN Tryd.prog 10 := fun _ _ => by kernel_rfl
theorem FN11 : FN Tryd.prog 11 := fun _ _ => by kernel_rfl
theorem FN12 : FN Tryd.prog 12 := fun _ _ => by kernel_rfl
theorem FN13 : FN Tryd.prog 13 := fun _ _ => by kernel_rfl
theorem FN14 : FN Tryd.prog 14 := fun _ _ => by kernel_rfl
theorem FN15 : FN Tryd.prog 15 := fun _ _ => by kernel_rfl
theorem FN16 : FN Tryd.prog 16 := fun _ _ => by kernel_rfl
theorem FN17 : FN Tryd.prog 17 := fun _ _ => by kernel_rfl
theorem FN18 : FN Tryd.prog 18 := fun _ _ => by kernel_rfl
theorem FN19 : FN Tryd.prog 19 := fun _ _ => by kernel_rfl
theorem FN20 : FN Tryd.prog 20 := fun _ _ => by kernel_rfl
theorem FN21 : FN Tryd.prog 21 := fun _ _ => by kernel_rfl
theorem FN22 : FN Tryd.prog 22 := fun _ _ => by kernel_rfl
theorem FN23 : FN Tryd.prog 23 := fun _ _ => by kernel_rfl
theorem FN24 : FN Tryd.prog 24 := fun _ _ => by kernel_rfl
theorem FN25 : FN Tryd.prog 25 := fun _ _ => by kernel_rfl
theorem FN26 : FN Tryd.prog 26 := fun _ _ => by kernel_rfl
theorem FN27 : FN Tryd.prog 27 := fun _ _ => by kernel_rfl
theorem FN28 : FN Tryd.prog 28 := fun _ _ => by kernel_rfl
theorem FN29 : FN Tryd.prog 29 := fun _ _ => by kernel_rfl
theorem FN30 : FN Tryd.prog 30 := fun _ _ => by kernel_rfl
theorem FN31 : FN Tryd.prog 31 := fun _ _ => by kernel_rfl
theorem FN32 : FN Tryd.prog 32 := fun _ _ => by kernel_rfl
theorem FN33 : FN Tryd.prog 33 := fun _ _ => by kernel_rfl
theorem FN34 : FN Tryd.prog 34 := fun _ _ => by kernel_rfl
theorem FN35 : FN Tryd.prog 35 := fun _ _ => by kernel_rfl
theorem FN36 : FN Tryd.prog 36 := fun _ _ => by kernel_rfl
theorem FN37 : FN Tryd.prog 37 := fun _ _ => by kernel_rfl
theorem FN38 : FN Tryd.prog 38 := fun _ _ => by kernel_rfl
theorem FN39 : FN Tryd.prog 39 := fun _ _ => by kernel_rfl
theorem FN40 : FN Tryd.prog 40 := fun _ _ => by kernel_rfl
theorem FN41 : FN Tryd.prog 41 := fun _ _ => by kernel_rfl
theorem FN42 : FN Tryd.prog 42 := fun _ _ => by kernel_rfl
theorem FN43 : FN Tryd.prog 43 := fun _ _ => by kernel_rfl
theorem FN44 : FN Tryd.prog 44 := fun _ _ => by kernel_rfl
theorem FN45 : FN Tryd.prog 45 := fun _ _ => by kernel_rfl
theorem FN46 : FN Tryd.prog 46 := fun _ _ => by kernel_rfl
theorem FN47 : FN Tryd.prog 47 := fun _ _ => by kernel_rfl
theorem FN48 : FN Tryd.prog 48 := fun _ _ => by kernel_rfl
theorem FN49 : FN Tryd.prog 49 := fun _ _ => by kernel_rfl
theorem FN50 : FN Tryd.prog 50 := fun _ _ => by kernel_rfl
theorem FN51 : FN Tryd.prog 51 := fun _ _ => by kernel_rfl
theorem FN52 : FN Tryd.prog 52 := fun _ _ => by kernel_rfl
theorem FN53 : FN Tryd.prog 53 := fun _ _ => by kernel_rfl
theorem FN56 : FN Tryd.prog 56 := fun _ _ => by kernel_rfl
theorem FN57 : FN Tryd.prog 57 := fun _ _ => by kernel_rfl
theorem FN58 : FN Tryd.prog 58 := fun _ _ => by kernel_rfl
theorem FN59 : FN Tryd.prog 59 := fun _ _ => by kernel_rfl
theorem FN60 : FN Tryd.prog 60 := fun _ _ => by kernel_rfl
theorem FN61 : FN Tryd.prog 61 := fun _ _ => by kernel_rfl
theorem FN62 : FN Tryd.prog 62 := fun _ _ => by kernel_rfl
theorem FN63 : FN Tryd.prog 63 := fun _ _ => by kernel_rfl
theorem FN64 : FN Tryd.prog 64 := fun _ _ => by kernel_rfl
theorem FN69 : FN Tryd.prog 69 := fun _ _ => by kernel_rfl
theorem FN70 : FN Tryd.prog 70 := fun _ _ => by kernel_rfl
theorem FN71 : FN Tryd.prog 71 := fun _ _ => by kernel_rfl
theorem FN8 : FN Tryd.prog 8 := fun _ _ => by kernel_rfl
theorem FN80 : FN Tryd.prog 80 := fun _ _ => by kernel_rfl
theorem FN9 : FN Tryd.prog 9 := fun _ _ => by kernel_rfl
theorem PL24 : PL Tryd.prog 24 [(0, 1), (1, 1), (2, 1)] [.int .i64 0, .int .i64 0, .int .i64 0] := ⟨⟨_, Tryd.underlying24, fun _ => by kernel_rfl⟩, .agg #[.int .i64 0, .int .i64 0, .int .i64 0], fun _ => by kernel_rfl, rfl⟩
theorem PL26 : PL Tryd.prog 26 [(0, 1), (1, 1), (2, 1), (3, 1), (4, 3)] [.int .i64 0, .int .i64 0, .int .i64 0, .int .i64 0, .int .i64 0, .int .i64 0, .int .i64 0] := ⟨⟨_, Tryd.underlying26, fun _ => by kernel_rfl⟩, .agg #[.int .i64 0, .int .i64 0, .int .i64 0, .int .i64 0, .int .i64 0, .int .i64 0, .int .i64 0], fun _ => by kernel_rfl, rfl⟩
theorem PL36 : PL Tryd.prog 36 [(0, 1), (1, 1), (2, 1), (3, 3), (6, 1), (7, 1), (8, 1)] [.slice none 0 0, .slice none 0 0, .slice none 0 0, .int .i64 0, .int .i64 0, .int .i64 0, .int .i64 0, .int .i64 0, .int .i64 0] := ⟨⟨_, Tryd.underlying36, fun _ => by kernel_rfl⟩, .agg #[.slice none 0 0, .slice none 0 0, .slice none 0 0, .int .i64 0, .int .i64 0, .int .i64 0, .int .i64 0, .int .i64 0, .int .i64 0], fun _ => by kernel_rfl, rfl⟩
theorem PL47 : PL Tryd.prog 47 [(0, 1), (1, 3)] [.slice none 0 0, .int .i64 0, .int .i64 0, .int .i64 0] := ⟨⟨_, Tryd.underlying47, fun _ => by kernel_rfl⟩, .agg #[.slice none 0 0, .int .i64 0, .int .i64 0, .int .i64 0], fun _ => by kernel_rfl, rfl⟩
theorem PL54 : PL Tryd.prog 54 [(0, 1), (1, 1), (2, 1)] [.int .i64 0, .int .i64 0, .slice none 0 0] := ⟨⟨_, Tryd.underlying54, fun _ => by kernel_rfl⟩, .agg #[.int .i64 0, .int .i64 0, .slice none 0 0], fun _ => by kernel_rfl, rfl⟩
theorem PL59 : PL Tryd.prog 59 [(0, 1), (1, 1), (2, 1), (3, 1), (4, 1)] [.int .i64 0, .int .i64 0, .int .i64 0, .int .i64 0, .int .i64 0] := ⟨⟨_, Tryd.underlying59, fun _ => by kernel_rfl⟩, .agg #[.int .i64 0, .int .i64 0, .int .i64 0, .int .i64 0, .int .i64 0], fun _ => by kernel_rfl, rfl⟩
theorem PL64 : PL Tryd.prog 64 [(0, 1), (1, 1)] [.int .i64 0, .int .i64 0] := ⟨⟨_, Tryd.underlying64, fun _ => by kernel_rfl⟩, .agg #[.int .i64 0, .int .i64 0], fun _ => by kernel_rfl, rfl⟩
theorem PS33 : PS Tryd.prog 33 3 1 [.int .i64 0] := ⟨by kernel_rfl, fun _ => by kernel_rfl, .int .i64 0, fun _ => by kernel_rfl, rfl⟩
theorem PS34 : PS Tryd.prog 34 59 5 [.int .i64 0, .int .i64 0, .int .i64 0, .int .i64 0, .int .i64 0] := ⟨by kernel_rfl, fun _ => by kernel_rfl, .agg #[.int .i64 0, .int .i64 0, .int .i64 0, .int .i64 0, .int .i64 0], fun _ => by kernel_rfl, rfl⟩
theorem PS38 : PS Tryd.prog 38 26 7 [.int .i64 0, .int .i64 0, .int .i64 0, .int .i64 0, .int .i64 0, .int .i64 0, .int .i64 0] := ⟨by kernel_rfl, fun _ => by kernel_rfl, .agg #[.int .i64 0, .int .i64 0, .int .i64 0, .int .i64 0, .int .i64 0, .int .i64 0, .int .i64 0], fun _ => by kernel_rfl, rfl⟩
theorem PS43 : PS Tryd.prog 43 5 1 [.int .u8 0] := ⟨by kernel_rfl, fun _ => by kernel_rfl, .int .u8 0, fun _ => by kernel_rfl, rfl⟩
theorem PS44 : PS Tryd.prog 44 9 1 [.string ⟨#[]⟩] := ⟨by kernel_rfl, fun _ => by kernel_rfl, .string ⟨#[]⟩, fun _ => by kernel_rfl, rfl⟩
theorem PS45 : PS Tryd.prog 45 64 2 [.int .i64 0, .int .i64 0] := ⟨by kernel_rfl, fun _ => by kernel_rfl, .agg #[.int .i64 0, .int .i64 0], fun _ => by kernel_rfl, rfl⟩
theorem PS50 : PS Tryd.prog 50 54 3 [.int .i64 0, .int .i64 0, .slice none 0 0] := ⟨by kernel_rfl, fun _ => by kernel_rfl, .agg #[.int .i64 0, .int .i64 0, .slice none 0 0], fun _ => by kernel_rfl, rfl⟩
theorem TI24 : TI Tryd.prog 24 true 3 := ⟨fun _ => by kernel_rfl, fun _ => by kernel_rfl⟩
theorem TI26 : TI Tryd.prog 26 true 7 := ⟨fun _ => by kernel_rfl, fun _ => by kernel_rfl⟩
theorem TI3 : TI Tryd.prog 3 false 1 := ⟨fun _ => by kernel_rfl, fun _ => by kernel_rfl⟩
theorem TI33 : TI Tryd.prog 33 false 1 := ⟨fun _ => by kernel_rfl, fun _ => by kernel_rfl⟩
theorem TI34 : TI Tryd.prog 34 false 1 := ⟨fun _ => by kernel_rfl, fun _ => by kernel_rfl⟩
theorem TI36 : TI Tryd.prog 36 true 9 := ⟨fun _ => by kernel_rfl, fun _ => by kernel_rfl⟩
theorem TI38 : TI Tryd.prog 38 false 1 := ⟨fun _ => by kernel_rfl, fun _ => by kernel_rfl⟩
theorem TI45 : TI Tryd.prog 45 false 1 := ⟨fun _ => by kernel_rfl, fun _ => by kernel_rfl⟩
theorem TI47 : TI Tryd.prog 47 true 4 := ⟨fun _ => by kernel_rfl, fun _ => by kernel_rfl⟩
theorem TI5 : TI Tryd.prog 5 false 1 := ⟨fun _ => by kernel_rfl, fun _ => by kernel_rfl⟩
theorem TI54 : TI Tryd.prog 54 true 3 := ⟨fun _ => by kernel_rfl, fun _ => by kernel_rfl⟩
theorem TI59 : TI Tryd.prog 59 true 5 := ⟨fun _ => by kernel_rfl, fun _ => by kernel_rfl⟩
theorem TI64 : TI Tryd.prog 64 true 2 := ⟨fun _ => by kernel_rfl, fun _ => by kernel_rfl⟩
theorem TI9 : TI Tryd.prog 9 false 1 := ⟨fun _ => by kernel_rfl, fun _ => by kernel_rfl⟩
theorem UN3 : Tryd.prog.underlying 3 = some (.int .i64) := by kernel_rfl
theorem UN33 : Tryd.prog.underlying 33 = some (.slice 3) := by kernel_rfl
theorem UN34 : Tryd.prog.underlying 34 = some (.slice 59) := by kernel_rfl
theorem UN38 : Tryd.prog.underlying 38 = some (.slice 26) := by kernel_rfl
theorem UN43 : Tryd.prog.underlying 43 = some (.slice 5) := by kernel_rfl
theorem UN44 : Tryd.prog.underlying 44 = some (.slice 9) := by kernel_rfl
theorem UN45 : Tryd.prog.underlying 45 = some (.slice 64) := by kernel_rfl
theorem UN5 : Tryd.prog.underlying 5 = some (.int .u8) := by kernel_rfl
theorem UN50 : Tryd.prog.underlying 50 = some (.slice 54) := by kernel_rfl
theorem UN9 : Tryd.prog.underlying 9 = some (.string) := by kernel_rfl
theorem ZV24 : ZV Tryd.prog 24 [.int .i64 0, .int .i64 0, .int .i64 0] := ⟨.agg #[.int .i64 0, .int .i64 0, .int .i64 0], fun _ => by kernel_rfl, rfl⟩
theorem ZV26 : ZV Tryd.prog 26 [.int .i64 0, .int .i64 0, .int .i64 0, .int .i64 0, .int .i64 0, .int .i64 0, .int .i64 0] := ⟨.agg #[.int .i64 0, .int .i64 0, .int .i64 0, .int .i64 0, .int .i64 0, .int .i64 0, .int .i64 0], fun _ => by kernel_rfl, rfl⟩
theorem ZV36 : ZV Tryd.prog 36 [.slice none 0 0, .slice none 0 0, .slice none 0 0, .int .i64 0, .int .i64 0, .int .i64 0, .int .i64 0, .int .i64 0, .int .i64 0] := ⟨.agg #[.slice none 0 0, .slice none 0 0, .slice none 0 0, .int .i64 0, .int .i64 0, .int .i64 0, .int .i64 0, .int .i64 0, .int .i64 0], fun _ => by kernel_rfl, rfl⟩
theorem ZV47 : ZV Tryd.prog 47 [.slice none 0 0, .int .i64 0, .int .i64 0, .int .i64 0] := ⟨.agg #[.slice none 0 0, .int .i64 0, .int .i64 0, .int .i64 0], fun _ => by kernel_rfl, rfl⟩
theorem ZV54 : ZV Tryd.prog 54 [.int .i64 0, .int .i64 0, .slice none 0 0] := ⟨.agg #[.int .i64 0, .int .i64 0, .slice none 0 0], fun _ => by kernel_rfl, rfl⟩
theorem ZV59 : ZV Tryd.prog 59 [.int .i64 0, .int .i64 0, .int .i64 0, .int .i64 0, .int .i64 0] := ⟨.agg #[.int .i64 0, .int .i64 0, .int .i64 0, .int .i64 0, .int .i64 0], fun _ => by kernel_rfl, rfl⟩
theorem open_api_Change {ok0 : Nat → Prop} {w0 : Base} {w : World} {Γ : List It} {Λ : List LObj} (hs : St ok0 w0 w Γ Λ) (i : Nat) {x : api_Change} {cs : List Value} (hi : Γ[i]? = some (vl t_api_Change x (.agg cs.toArray))) : cs = [.int .i64 x.Kind, .int .i64 x.Server, .int .i64 x.Weight, .int .i64 x.Version, .int .i64 x.Rule.Kind, .int .i64 x.Rule.Columns, .int .i64 x.Rule.Faulty] := by
  obtain ⟨ok, h⟩ := hs.get i hi
  have h := R_agg h rfl
  obtain ⟨_, _, rfl, rfl, ⟨_, _, rfl, rfl, ⟨_, _, rfl, rfl, ⟨_, _, rfl, rfl, ⟨_, _, rfl, rfl, ⟨_, _, rfl, rfl, rfl⟩⟩⟩⟩⟩⟩ := h
  exact rfl
theorem open_api_Rule {ok0 : Nat → Prop} {w0 : Base} {w : World} {Γ : List It} {Λ : List LObj} (hs : St ok0 w0 w Γ Λ) (i : Nat) {x : api_Rule} {cs : List Value} (hi : Γ[i]? = some (vl t_api_Rule x (.agg cs.toArray))) : cs = [.int .i64 x.Kind, .int .i64 x.Columns, .int .i64 x.Faulty] := by
  obtain ⟨ok, h⟩ := hs.get i hi
  have h := R_agg h rfl
  obtain ⟨_, _, rfl, rfl, ⟨_, _, rfl, rfl, rfl⟩⟩ := h
  exact rfl
theorem open_api_Summary {ok0 : Nat → Prop} {w0 : Base} {w : World} {Γ : List It} {Λ : List LObj} (hs : St ok0 w0 w Γ Λ) (i : Nat) {x : api_Summary} {cs : List Value} (hi : Γ[i]? = some (vl t_api_Summary x (.agg cs.toArray))) : ∃ (a0 : Option Addr), ∃ (c1 : Nat), ∃ (a2 : Option Addr), ∃ (c3 : Nat), ∃ (a4 : Option Addr), ∃ (c5 : Nat), cs = [.slice a0 x.Joined.length c1, .slice a2 x.Removed.length c3, .slice a4 x.Weights.length c5, .int .i64 x.Rule.Kind, .int .i64 x.Rule.Columns, .int .i64 x.Rule.Faulty, .int .i64 x.Version, .int .i64 x.Admin, .int .i64 x.Number] := by
  obtain ⟨ok, h⟩ := hs.get i hi
  have h := R_agg h rfl
  obtain ⟨_, _, rfl, ⟨a0, c1, rfl, _, _⟩, ⟨_, _, rfl, ⟨a2, c3, rfl, _, _⟩, ⟨_, _, rfl, ⟨a4, c5, rfl, _, _⟩, ⟨_, _, rfl, ⟨_, _, rfl, rfl, ⟨_, _, rfl, rfl, rfl⟩⟩, ⟨_, _, rfl, rfl, ⟨_, _, rfl, rfl, rfl⟩⟩⟩⟩⟩⟩ := h
  exact ⟨a0, c1, a2, c3, a4, c5, rfl⟩
theorem EG24 : Tryd.prog.eqGuardType Tryd.prog.depth 24 = false := by kernel_rfl
theorem EQ24 (x y : api_Rule) (w : World) : (binOp .eql 24 (.agg ([.int .i64 x.Kind, .int .i64 x.Columns, .int .i64 x.Faulty] : List Value).toArray) (.agg ([.int .i64 y.Kind, .int .i64 y.Columns, .int .i64 y.Faulty] : List Value).toArray)).run Tryd.prog w = .ok (.bool (decide (x = y))) w :=
  eql_of (EqR.agg Tryd.underlying24 (by kernel_rfl) (EqL.cons (by decide) (u := .int .i64 x.Kind) (v := .int .i64 y.Kind) (fun _ => by kernel_rfl) (fun _ => by kernel_rfl) (EqR.int x.Kind y.Kind Tryd.underlying3) (EqL.cons (by decide) (u := .int .i64 x.Columns) (v := .int .i64 y.Columns) (fun _ => by kernel_rfl) (fun _ => by kernel_rfl) (EqR.int x.Columns y.Columns Tryd.underlying3) (EqL.cons (by decide) (u := .int .i64 x.Faulty) (v := .int .i64 y.Faulty) (fun _ => by kernel_rfl) (fun _ => by kernel_rfl) (EqR.int x.Faulty y.Faulty Tryd.underlying3) EqL.nil)))) (by obtain ⟨p1, p2, p3⟩ := x; obtain ⟨q1, q2, q3⟩ := y; rw [Bool.eq_iff_iff]; simp [api_Rule.mk.injEq]) w
theorem NQ24 (x y : api_Rule) (w : World) : (binOp .neq 24 (.agg ([.int .i64 x.Kind, .int .i64 x.Columns, .int .i64 x.Faulty] : List Value).toArray) (.agg ([.int .i64 y.Kind, .int .i64 y.Columns, .int .i64 y.Faulty] : List Value).toArray)).run Tryd.prog w = .ok (.bool (!decide (x = y))) w :=
  neq_of (EqR.agg Tryd.underlying24 (by kernel_rfl) (EqL.cons (by decide) (u := .int .i64 x.Kind) (v := .int .i64 y.Kind) (fun _ => by kernel_rfl) (fun _ => by kernel_rfl) (EqR.int x.Kind y.Kind Tryd.underlying3) (EqL.cons (by decide) (u := .int .i64 x.Columns) (v := .int .i64 y.Columns) (fun _ => by kernel_rfl) (fun _ => by kernel_rfl) (EqR.int x.Columns y.Columns Tryd.underlying3) (EqL.cons (by decide) (u := .int .i64 x.Faulty) (v := .int .i64 y.Faulty) (fun _ => by kernel_rfl) (fun _ => by kernel_rfl) (EqR.int x.Faulty y.Faulty Tryd.underlying3) EqL.nil)))) (by obtain ⟨p1, p2, p3⟩ := x; obtain ⟨q1, q2, q3⟩ := y; rw [Bool.eq_iff_iff]; simp [api_Rule.mk.injEq]) w

theorem EG26 : Tryd.prog.eqGuardType Tryd.prog.depth 26 = false := by kernel_rfl
theorem EQ26 (x y : api_Change) (w : World) : (binOp .eql 26 (.agg ([.int .i64 x.Kind, .int .i64 x.Server, .int .i64 x.Weight, .int .i64 x.Version, .int .i64 x.Rule.Kind, .int .i64 x.Rule.Columns, .int .i64 x.Rule.Faulty] : List Value).toArray) (.agg ([.int .i64 y.Kind, .int .i64 y.Server, .int .i64 y.Weight, .int .i64 y.Version, .int .i64 y.Rule.Kind, .int .i64 y.Rule.Columns, .int .i64 y.Rule.Faulty] : List Value).toArray)).run Tryd.prog w = .ok (.bool (decide (x = y))) w :=
  eql_of (EqR.agg Tryd.underlying26 (by kernel_rfl) (EqL.cons (by decide) (u := .int .i64 x.Kind) (v := .int .i64 y.Kind) (fun _ => by kernel_rfl) (fun _ => by kernel_rfl) (EqR.int x.Kind y.Kind Tryd.underlying3) (EqL.cons (by decide) (u := .int .i64 x.Server) (v := .int .i64 y.Server) (fun _ => by kernel_rfl) (fun _ => by kernel_rfl) (EqR.int x.Server y.Server Tryd.underlying3) (EqL.cons (by decide) (u := .int .i64 x.Weight) (v := .int .i64 y.Weight) (fun _ => by kernel_rfl) (fun _ => by kernel_rfl) (EqR.int x.Weight y.Weight Tryd.underlying3) (EqL.cons (by decide) (u := .int .i64 x.Version) (v := .int .i64 y.Version) (fun _ => by kernel_rfl) (fun _ => by kernel_rfl) (EqR.int x.Version y.Version Tryd.underlying3) (EqL.cons (by decide) (u := .agg ([.int .i64 x.Rule.Kind, .int .i64 x.Rule.Columns, .int .i64 x.Rule.Faulty] : List Value).toArray) (v := .agg ([.int .i64 y.Rule.Kind, .int .i64 y.Rule.Columns, .int .i64 y.Rule.Faulty] : List Value).toArray) (fun _ => by kernel_rfl) (fun _ => by kernel_rfl) (EqR.agg Tryd.underlying24 (by kernel_rfl) (EqL.cons (by decide) (u := .int .i64 x.Rule.Kind) (v := .int .i64 y.Rule.Kind) (fun _ => by kernel_rfl) (fun _ => by kernel_rfl) (EqR.int x.Rule.Kind y.Rule.Kind Tryd.underlying3) (EqL.cons (by decide) (u := .int .i64 x.Rule.Columns) (v := .int .i64 y.Rule.Columns) (fun _ => by kernel_rfl) (fun _ => by kernel_rfl) (EqR.int x.Rule.Columns y.Rule.Columns Tryd.underlying3) (EqL.cons (by decide) (u := .int .i64 x.Rule.Faulty) (v := .int .i64 y.Rule.Faulty) (fun _ => by kernel_rfl) (fun _ => by kernel_rfl) (EqR.int x.Rule.Faulty y.Rule.Faulty Tryd.underlying3) EqL.nil)))) EqL.nil)))))) (by obtain ⟨p1, p2, p3, p4, ⟨p5, p6, p7⟩⟩ := x; obtain ⟨q1, q2, q3, q4, ⟨q5, q6, q7⟩⟩ := y; rw [Bool.eq_iff_iff]; simp [api_Change.mk.injEq, api_Rule.mk.injEq]) w
theorem NQ26 (x y : api_Change) (w : World) : (binOp .neq 26 (.agg ([.int .i64 x.Kind, .int .i64 x.Server, .int .i64 x.Weight, .int .i64 x.Version, .int .i64 x.Rule.Kind, .int .i64 x.Rule.Columns, .int .i64 x.Rule.Faulty] : List Value).toArray) (.agg ([.int .i64 y.Kind, .int .i64 y.Server, .int .i64 y.Weight, .int .i64 y.Version, .int .i64 y.Rule.Kind, .int .i64 y.Rule.Columns, .int .i64 y.Rule.Faulty] : List Value).toArray)).run Tryd.prog w = .ok (.bool (!decide (x = y))) w :=
  neq_of (EqR.agg Tryd.underlying26 (by kernel_rfl) (EqL.cons (by decide) (u := .int .i64 x.Kind) (v := .int .i64 y.Kind) (fun _ => by kernel_rfl) (fun _ => by kernel_rfl) (EqR.int x.Kind y.Kind Tryd.underlying3) (EqL.cons (by decide) (u := .int .i64 x.Server) (v := .int .i64 y.Server) (fun _ => by kernel_rfl) (fun _ => by kernel_rfl) (EqR.int x.Server y.Server Tryd.underlying3) (EqL.cons (by decide) (u := .int .i64 x.Weight) (v := .int .i64 y.Weight) (fun _ => by kernel_rfl) (fun _ => by kernel_rfl) (EqR.int x.Weight y.Weight Tryd.underlying3) (EqL.cons (by decide) (u := .int .i64 x.Version) (v := .int .i64 y.Version) (fun _ => by kernel_rfl) (fun _ => by kernel_rfl) (EqR.int x.Version y.Version Tryd.underlying3) (EqL.cons (by decide) (u := .agg ([.int .i64 x.Rule.Kind, .int .i64 x.Rule.Columns, .int .i64 x.Rule.Faulty] : List Value).toArray) (v := .agg ([.int .i64 y.Rule.Kind, .int .i64 y.Rule.Columns, .int .i64 y.Rule.Faulty] : List Value).toArray) (fun _ => by kernel_rfl) (fun _ => by kernel_rfl) (EqR.agg Tryd.underlying24 (by kernel_rfl) (EqL.cons (by decide) (u := .int .i64 x.Rule.Kind) (v := .int .i64 y.Rule.Kind) (fun _ => by kernel_rfl) (fun _ => by kernel_rfl) (EqR.int x.Rule.Kind y.Rule.Kind Tryd.underlying3) (EqL.cons (by decide) (u := .int .i64 x.Rule.Columns) (v := .int .i64 y.Rule.Columns) (fun _ => by kernel_rfl) (fun _ => by kernel_rfl) (EqR.int x.Rule.Columns y.Rule.Columns Tryd.underlying3) (EqL.cons (by decide) (u := .int .i64 x.Rule.Faulty) (v := .int .i64 y.Rule.Faulty) (fun _ => by kernel_rfl) (fun _ => by kernel_rfl) (EqR.int x.Rule.Faulty y.Rule.Faulty Tryd.underlying3) EqL.nil)))) EqL.nil)))))) (by obtain ⟨p1, p2, p3, p4, ⟨p5, p6, p7⟩⟩ := x; obtain ⟨q1, q2, q3, q4, ⟨q5, q6, q7⟩⟩ := y; rw [Bool.eq_iff_iff]; simp [api_Change.mk.injEq, api_Rule.mk.injEq]) w

end Go.Proofs.YthfoljpjhegkmaaDoor
