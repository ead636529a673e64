import Derived.Test.YtlbcfjblpopcnaaProg
import Derived.Test.YtlbcfjblpopcnaaFd
import Derived.Test.YtlbcfjblpopcnaaLp
set_option linter.unusedVariables false
set_option linter.unusedSimpArgs false
namespace Go.Proofs.Ytlbcfjblpopcnaa
open Go Go.RowKit Go.Proofs.YtlbcfjblpopcnaaL
set_option maxRecDepth 20000
def t_api_Effect : Ty api_Effect := tIso (tPair (tInt .i64) (tPair tStr (tPair tStr (tPair (tInt .i64) tStr)))) fun x : api_Effect => (x.Kind, x.Object, x.Field, x.N, x.S)
theorem F_api_Effect_Kind : Fld t_api_Effect (tInt .i64) 0 api_Effect.Kind (fun x y => { x with Kind := y }) := (Fld.iso (Fld.fst _ _) (fun _ => rfl) (fun _ _ => rfl))
theorem F_api_Effect_Object : Fld t_api_Effect tStr 1 api_Effect.Object (fun x y => { x with Object := y }) := (Fld.iso (Fld.snd (Fld.fst _ _)) (fun _ => rfl) (fun _ _ => rfl))
theorem F_api_Effect_Field : Fld t_api_Effect tStr 2 api_Effect.Field (fun x y => { x with Field := y }) := (Fld.iso (Fld.snd (Fld.snd (Fld.fst _ _))) (fun _ => rfl) (fun _ _ => rfl))
theorem F_api_Effect_N : Fld t_api_Effect (tInt .i64) 3 api_Effect.N (fun x y => { x with N := y }) := (Fld.iso (Fld.snd (Fld.snd (Fld.snd (Fld.fst _ _)))) (fun _ => rfl) (fun _ _ => rfl))
theorem F_api_Effect_S : Fld t_api_Effect tStr 4 api_Effect.S (fun x y => { x with S := y }) := (Fld.iso (Fld.snd (Fld.snd (Fld.snd (Fld.snd Fld.self)))) (fun _ => rfl) (fun _ _ => rfl))
def t_api_Update : Ty api_Update := tIso (tPair (tInt .i64) (tPair (tInt .i64) (tPair (tInt .i64) (tSlice t_api_Effect)))) fun x : api_Update => (x.Client, x.Seq, x.Tag, x.Effects)
theorem F_api_Update_Client : Fld t_api_Update (tInt .i64) 0 api_Update.Client (fun x y => { x with Client := y }) := (Fld.iso (Fld.fst _ _) (fun _ => rfl) (fun _ _ => rfl))
theorem F_api_Update_Seq : Fld t_api_Update (tInt .i64) 1 api_Update.Seq (fun x y => { x with Seq := y }) := (Fld.iso (Fld.snd (Fld.fst _ _)) (fun _ => rfl) (fun _ _ => rfl))
theorem F_api_Update_Tag : Fld t_api_Update (tInt .i64) 2 api_Update.Tag (fun x y => { x with Tag := y }) := (Fld.iso (Fld.snd (Fld.snd (Fld.fst _ _))) (fun _ => rfl) (fun _ _ => rfl))
theorem F_api_Update_Effects : Fld t_api_Update (tSlice t_api_Effect) 3 api_Update.Effects (fun x y => { x with Effects := y }) := (Fld.iso (Fld.snd (Fld.snd (Fld.snd Fld.self))) (fun _ => rfl) (fun _ _ => rfl))
def t_fold_Register : Ty fold_Register := tIso (tPair tBool (tPair (tInt .i64) (tPair (tInt .i64) (tPair (tInt .i64) (tPair (tInt .i64) tStr))))) fun x : fold_Register => (x.Set, x.Tag, x.Client, x.Seq, x.N, x.S)
theorem F_fold_Register_Set : Fld t_fold_Register tBool 0 fold_Register.Set (fun x y => { x with Set := y }) := (Fld.iso (Fld.fst _ _) (fun _ => rfl) (fun _ _ => rfl))
theorem F_fold_Register_Tag : Fld t_fold_Register (tInt .i64) 1 fold_Register.Tag (fun x y => { x with Tag := y }) := (Fld.iso (Fld.snd (Fld.fst _ _)) (fun _ => rfl) (fun _ _ => rfl))
theorem F_fold_Register_Client : Fld t_fold_Register (tInt .i64) 2 fold_Register.Client (fun x y => { x with Client := y }) := (Fld.iso (Fld.snd (Fld.snd (Fld.fst _ _))) (fun _ => rfl) (fun _ _ => rfl))
theorem F_fold_Register_Seq : Fld t_fold_Register (tInt .i64) 3 fold_Register.Seq (fun x y => { x with Seq := y }) := (Fld.iso (Fld.snd (Fld.snd (Fld.snd (Fld.fst _ _)))) (fun _ => rfl) (fun _ _ => rfl))
theorem F_fold_Register_N : Fld t_fold_Register (tInt .i64) 4 fold_Register.N (fun x y => { x with N := y }) := (Fld.iso (Fld.snd (Fld.snd (Fld.snd (Fld.snd (Fld.fst _ _))))) (fun _ => rfl) (fun _ _ => rfl))
theorem F_fold_Register_S : Fld t_fold_Register tStr 5 fold_Register.S (fun x y => { x with S := y }) := (Fld.iso (Fld.snd (Fld.snd (Fld.snd (Fld.snd (Fld.snd Fld.self))))) (fun _ => rfl) (fun _ _ => rfl))
def t_fold_Field : Ty fold_Field := tIso (tPair tStr (tPair t_fold_Register (tPair tBool (tPair (tInt .i64) (tPair (tInt .i64) (tPair (tSlice tStr) tBool)))))) fun x : fold_Field => (x.Name, x.Register, x.HasMax, x.Max, x.Sum, x.Elems, x.Flag)
theorem F_fold_Field_Name : Fld t_fold_Field tStr 0 fold_Field.Name (fun x y => { x with Name := y }) := (Fld.iso (Fld.fst _ _) (fun _ => rfl) (fun _ _ => rfl))
theorem F_fold_Field_Register : Fld t_fold_Field t_fold_Register 1 fold_Field.Register (fun x y => { x with Register := y }) := (Fld.iso (Fld.snd (Fld.fst _ _)) (fun _ => rfl) (fun _ _ => rfl))
theorem F_fold_Field_HasMax : Fld t_fold_Field tBool 7 fold_Field.HasMax (fun x y => { x with HasMax := y }) := (Fld.iso (Fld.snd (Fld.snd (Fld.fst _ _))) (fun _ => rfl) (fun _ _ => rfl))
theorem F_fold_Field_Max : Fld t_fold_Field (tInt .i64) 8 fold_Field.Max (fun x y => { x with Max := y }) := (Fld.iso (Fld.snd (Fld.snd (Fld.snd (Fld.fst _ _)))) (fun _ => rfl) (fun _ _ => rfl))
theorem F_fold_Field_Sum : Fld t_fold_Field (tInt .i64) 9 fold_Field.Sum (fun x y => { x with Sum := y }) := (Fld.iso (Fld.snd (Fld.snd (Fld.snd (Fld.snd (Fld.fst _ _))))) (fun _ => rfl) (fun _ _ => rfl))
theorem F_fold_Field_Elems : Fld t_fold_Field (tSlice tStr) 10 fold_Field.Elems (fun x y => { x with Elems := y }) := (Fld.iso (Fld.snd (Fld.snd (Fld.snd (Fld.snd (Fld.snd (Fld.fst _ _)))))) (fun _ => rfl) (fun _ _ => rfl))
theorem F_fold_Field_Flag : Fld t_fold_Field tBool 11 fold_Field.Flag (fun x y => { x with Flag := y }) := (Fld.iso (Fld.snd (Fld.snd (Fld.snd (Fld.snd (Fld.snd (Fld.snd Fld.self)))))) (fun _ => rfl) (fun _ _ => rfl))
def t_fold_Object : Ty fold_Object := tIso (tPair tStr (tSlice t_fold_Field)) fun x : fold_Object => (x.Name, x.Fields)
theorem F_fold_Object_Name : Fld t_fold_Object tStr 0 fold_Object.Name (fun x y => { x with Name := y }) := (Fld.iso (Fld.fst _ _) (fun _ => rfl) (fun _ _ => rfl))
theorem F_fold_Object_Fields : Fld t_fold_Object (tSlice t_fold_Field) 1 fold_Object.Fields (fun x y => { x with Fields := y }) := (Fld.iso (Fld.snd Fld.self) (fun _ => rfl) (fun _ _ => rfl))
def t_fold_Store : Ty fold_Store := tIso (tSlice t_fold_Object) fun x : fold_Store => x.Objects
theorem F_fold_Store_Objects : Fld t_fold_Store (tSlice t_fold_Object) 0 fold_Store.Objects (fun x y => { x with Objects := y }) := (Fld.iso Fld.self (fun _ => rfl) (fun _ _ => rfl))
theorem EI41 : EI Try.prog 41 (.agg #[.int .i64 0, .int .i64 0, .int .i64 0, .slice none 0 0]) 4 48 := ⟨by kernel_rfl, rfl, by decide⟩
theorem EI5 : EI Try.prog 5 (.int .u8 0) 1 1 := ⟨by kernel_rfl, rfl, by decide⟩
theorem EI51 : EI Try.prog 51 (.agg #[.string ⟨#[]⟩, .slice none 0 0]) 2 40 := ⟨by kernel_rfl, rfl, by decide⟩
theorem EI57 : EI Try.prog 57 (.agg #[.string ⟨#[]⟩, .bool false, .int .i64 0, .int .i64 0, .int .i64 0, .int .i64 0, .string ⟨#[]⟩, .bool false, .int .i64 0, .int .i64 0, .slice none 0 0, .bool false]) 12 128 := ⟨by kernel_rfl, rfl, by decide⟩
theorem EI67 : EI Try.prog 67 (.agg #[.int .i64 0, .string ⟨#[]⟩, .string ⟨#[]⟩, .int .i64 0, .string ⟨#[]⟩]) 5 64 := ⟨by kernel_rfl, rfl, by decide⟩
theorem EI9 : EI Try.prog 9 (.string ⟨#[]⟩) 1 16 := ⟨by kernel_rfl, rfl, by decide⟩
theorem FA29_0 : FA Try.prog 29 0 0 := fun _ _ => by kernel_rfl
theorem FA41_0 : FA Try.prog 41 0 0 := fun _ _ => by kernel_rfl
theorem FA41_1 : FA Try.prog 41 1 1 := fun _ _ => by kernel_rfl
theorem FA41_2 : FA Try.prog 41 2 2 := fun _ _ => by kernel_rfl
theorem FA41_3 : FA Try.prog 41 3 3 := fun _ _ => by kernel_rfl
theorem FA51_0 : FA Try.prog 51 0 0 := fun _ _ => by kernel_rfl
theorem FA51_1 : FA Try.prog 51 1 1 := fun _ _ => by kernel_rfl
theorem FA54_0 : FA Try.prog 54 0 0 := fun _ _ => by kernel_rfl
theorem FA54_1 : FA Try.prog 54 1 1 := fun _ _ => by kernel_rfl
theorem FA54_2 : FA Try.prog 54 2 2 := fun _ _ => by kernel_rfl
theorem FA54_3 : FA Try.prog 54 3 3 := fun _ _ => by kernel_rfl
theorem FA54_4 : FA Try.prog 54 4 4 := fun _ _ => by kernel_rfl
theorem FA54_5 : FA Try.prog 54 5 5 := fun _ _ => by kernel_rfl
theorem FA57_0 : FA Try.prog 57 0 0 := fun _ _ => by kernel_rfl
theorem FA57_1 : FA Try.prog 57 1 1 := fun _ _ => by kernel_rfl
theorem FA57_2 : FA Try.prog 57 2 7 := fun _ _ => by kernel_rfl
theorem FA57_3 : FA Try.prog 57 3 8 := fun _ _ => by kernel_rfl
theorem FA57_4 : FA Try.prog 57 4 9 := fun _ _ => by kernel_rfl
theorem FA57_5 : FA Try.prog 57 5 10 := fun _ _ => by kernel_rfl
theorem FA57_6 : FA Try.prog 57 6 11 := fun _ _ => by kernel_rfl
theorem FA67_0 : FA Try.prog 67 0 0 := fun _ _ => by kernel_rfl
theorem FA67_1 : FA Try.prog 67 1 1 := fun _ _ => by kernel_rfl
theorem FA67_2 : FA Try.prog 67 2 2 := fun _ _ => by kernel_rfl
theorem FA67_3 : FA Try.prog 67 3 3 := fun _ _ => by kernel_rfl
theorem FA67_4 : FA Try.prog 67 4 4 := fun _ _ => by kernel_rfl
theorem FN12 : FN Try.prog 12 := fun _ _ => by kernel_rfl
theorem FN13 : FN Try.prog 13 := fun _ _ => by kernel_rfl
theorem FN14 : FN Try.prog 14 := fun _ _ => by kernel_rfl
theorem FN16 : FN Try.prog 16 := fun _ _ => by kernel_rfl
theorem FN18 : FN Try.prog 18 := fun _ _ => by kernel_rfl
theorem FN19 : FN Try.prog 19 := fun _ _ => by kernel_rfl
theorem FN22 : FN Try.prog 22 := fun _ _ => by kernel_rfl
theorem FN24 : FN Try.prog 24 := fun _ _ => by kernel_rfl
theorem FN25 : FN Try.prog 25 := fun _ _ => by kernel_rfl
theorem FN26 : FN Try.prog 26 := fun _ _ => by kernel_rfl
theorem FN27 : FN Try.prog 27 := fun _ _ => by kernel_rfl
theorem FN28 : FN Try.prog 28 := fun _ _ => by kernel_rfl
theorem FN29 : FN Try.prog 29 := fun _ _ => by kernel_rfl
theorem FN30 : FN Try.prog 30 := fun _ _ => by kernel_rfl
theorem FN31 : FN Try.prog 31 := fun _ _ => by kernel_rfl
theorem FN32 : FN Try.prog 32 := fun _ _ => by kernel_rfl
theorem FN33 : FN Try.prog 33 := fun _ _ => by kernel_rfl
theorem FN34 : FN Try.prog 34 := fun _ _ => by kernel_rfl
theorem FN35 : FN Try.prog 35 := fun _ _ => by kernel_rfl
theorem FN37 : FN Try.prog 37 := fun _ _ => by kernel_rfl
theorem FN38 : FN Try.prog 38 := fun _ _ => by kernel_rfl
theorem FN39 : FN Try.prog 39 := fun _ _ => by kernel_rfl
theorem FN44 : FN Try.prog 44 := fun _ _ => by kernel_rfl
theorem FN45 : FN Try.prog 45 := fun _ _ => by kernel_rfl
theorem FN49 : FN Try.prog 49 := fun _ _ => by kernel_rfl
theorem FN53 : FN Try.prog 53 := fun _ _ => by kernel_rfl
theorem FN54 : FN Try.prog 54 := fun _ _ => by kernel_rfl
theorem FN55 : FN Try.prog 55 := fun _ _ => by kernel_rfl
theorem FN56 : FN Try.prog 56 := fun _ _ => by kernel_rfl
theorem FN57 : FN Try.prog 57 := fun _ _ => by kernel_rfl
theorem FN58 : FN Try.prog 58 := fun _ _ => by kernel_rfl
theorem FN59 : FN Try.prog 59 := fun _ _ => by kernel_rfl
theorem FN63 : FN Try.prog 63 := fun _ _ => by kernel_rfl
theorem FN64 : FN Try.prog 64 := fun _ _ => by kernel_rfl
theorem FN65 : FN Try.prog 65 := fun _ _ => by kernel_rfl
theorem FN66 : FN Try.prog 66 := fun _ _ => by kernel_rfl
theorem FN68 : FN Try.prog 68 := fun _ _ => by kernel_rfl
theorem FN69 : FN Try.prog 69 := fun _ _ => by kernel_rfl
theorem FN70 : FN Try.prog 70 := fun _ _ => by kernel_rfl
theorem FN71 : FN Try.prog 71 := fun _ _ => by kernel_rfl
theorem FN72 : FN Try.prog 72 := fun _ _ => by kernel_rfl
theorem FN81 : FN Try.prog 81 := fun _ _ => by kernel_rfl
theorem FN82 : FN Try.prog 82 := fun _ _ => by kernel_rfl
theorem FN83 : FN Try.prog 83 := fun _ _ => by kernel_rfl
theorem FV29_0 : FV Try.prog 29 0 0 27 := ⟨_, _, Try.underlying29, rfl, rfl, rfl⟩
theorem FV57_4 : FV Try.prog 57 4 9 2 := ⟨_, _, Try.underlying57, rfl, rfl, rfl⟩
theorem PL29 : PL Try.prog 29 [(0, 1)] [.slice none 0 0] := ⟨⟨_, Try.underlying29, fun _ => by kernel_rfl⟩, .agg #[.slice none 0 0], fun _ => by kernel_rfl, rfl⟩
theorem PL41 : PL Try.prog 41 [(0, 1), (1, 1), (2, 1), (3, 1)] [.int .i64 0, .int .i64 0, .int .i64 0, .slice none 0 0] := ⟨⟨_, Try.underlying41, fun _ => by kernel_rfl⟩, .agg #[.int .i64 0, .int .i64 0, .int .i64 0, .slice none 0 0], fun _ => by kernel_rfl, rfl⟩
theorem PL51 : PL Try.prog 51 [(0, 1), (1, 1)] [.string ⟨#[]⟩, .slice none 0 0] := ⟨⟨_, Try.underlying51, fun _ => by kernel_rfl⟩, .agg #[.string ⟨#[]⟩, .slice none 0 0], fun _ => by kernel_rfl, rfl⟩
theorem PL54 : PL Try.prog 54 [(0, 1), (1, 1), (2, 1), (3, 1), (4, 1), (5, 1)] [.bool false, .int .i64 0, .int .i64 0, .int .i64 0, .int .i64 0, .string ⟨#[]⟩] := ⟨⟨_, Try.underlying54, fun _ => by kernel_rfl⟩, .agg #[.bool false, .int .i64 0, .int .i64 0, .int .i64 0, .int .i64 0, .string ⟨#[]⟩], fun _ => by kernel_rfl, rfl⟩
theorem PL57 : PL Try.prog 57 [(0, 1), (1, 6), (7, 1), (8, 1), (9, 1), (10, 1), (11, 1)] [.string ⟨#[]⟩, .bool false, .int .i64 0, .int .i64 0, .int .i64 0, .int .i64 0, .string ⟨#[]⟩, .bool false, .int .i64 0, .int .i64 0, .slice none 0 0, .bool false] := ⟨⟨_, Try.underlying57, fun _ => by kernel_rfl⟩, .agg #[.string ⟨#[]⟩, .bool false, .int .i64 0, .int .i64 0, .int .i64 0, .int .i64 0, .string ⟨#[]⟩, .bool false, .int .i64 0, .int .i64 0, .slice none 0 0, .bool false], fun _ => by kernel_rfl, rfl⟩
theorem PL67 : PL Try.prog 67 [(0, 1), (1, 1), (2, 1), (3, 1), (4, 1)] [.int .i64 0, .string ⟨#[]⟩, .string ⟨#[]⟩, .int .i64 0, .string ⟨#[]⟩] := ⟨⟨_, Try.underlying67, fun _ => by kernel_rfl⟩, .agg #[.int .i64 0, .string ⟨#[]⟩, .string ⟨#[]⟩, .int .i64 0, .string ⟨#[]⟩], fun _ => by kernel_rfl, rfl⟩
theorem PS23 : PS Try.prog 23 41 4 [.int .i64 0, .int .i64 0, .int .i64 0, .slice none 0 0] := ⟨by kernel_rfl, fun _ => by kernel_rfl, .agg #[.int .i64 0, .int .i64 0, .int .i64 0, .slice none 0 0], fun _ => by kernel_rfl, rfl⟩
theorem PS27 : PS Try.prog 27 51 2 [.string ⟨#[]⟩, .slice none 0 0] := ⟨by kernel_rfl, fun _ => by kernel_rfl, .agg #[.string ⟨#[]⟩, .slice none 0 0], fun _ => by kernel_rfl, rfl⟩
theorem PS35 : PS Try.prog 35 3 1 [.int .i64 0] := ⟨by kernel_rfl, fun _ => by kernel_rfl, .int .i64 0, fun _ => by kernel_rfl, rfl⟩
theorem PS39 : PS Try.prog 39 67 5 [.int .i64 0, .string ⟨#[]⟩, .string ⟨#[]⟩, .int .i64 0, .string ⟨#[]⟩] := ⟨by kernel_rfl, fun _ => by kernel_rfl, .agg #[.int .i64 0, .string ⟨#[]⟩, .string ⟨#[]⟩, .int .i64 0, .string ⟨#[]⟩], fun _ => by kernel_rfl, rfl⟩
theorem PS49 : PS Try.prog 49 57 12 [.string ⟨#[]⟩, .bool false, .int .i64 0, .int .i64 0, .int .i64 0, .int .i64 0, .string ⟨#[]⟩, .bool false, .int .i64 0, .int .i64 0, .slice none 0 0, .bool false] := ⟨by kernel_rfl, fun _ => by kernel_rfl, .agg #[.string ⟨#[]⟩, .bool false, .int .i64 0, .int .i64 0, .int .i64 0, .int .i64 0, .string ⟨#[]⟩, .bool false, .int .i64 0, .int .i64 0, .slice none 0 0, .bool false], fun _ => by kernel_rfl, rfl⟩
theorem PS55 : PS Try.prog 55 9 1 [.string ⟨#[]⟩] := ⟨by kernel_rfl, fun _ => by kernel_rfl, .string ⟨#[]⟩, fun _ => by kernel_rfl, rfl⟩
theorem PS72 : PS Try.prog 72 5 1 [.int .u8 0] := ⟨by kernel_rfl, fun _ => by kernel_rfl, .int .u8 0, fun _ => by kernel_rfl, rfl⟩
theorem TI2 : TI Try.prog 2 false 1 := ⟨fun _ => by kernel_rfl, fun _ => by kernel_rfl⟩
theorem TI27 : TI Try.prog 27 false 1 := ⟨fun _ => by kernel_rfl, fun _ => by kernel_rfl⟩
theorem TI29 : TI Try.prog 29 true 1 := ⟨fun _ => by kernel_rfl, fun _ => by kernel_rfl⟩
theorem TI3 : TI Try.prog 3 false 1 := ⟨fun _ => by kernel_rfl, fun _ => by kernel_rfl⟩
theorem TI39 : TI Try.prog 39 false 1 := ⟨fun _ => by kernel_rfl, fun _ => by kernel_rfl⟩
theorem TI4 : TI Try.prog 4 false 1 := ⟨fun _ => by kernel_rfl, fun _ => by kernel_rfl⟩
theorem TI41 : TI Try.prog 41 true 4 := ⟨fun _ => by kernel_rfl, fun _ => by kernel_rfl⟩
theorem TI49 : TI Try.prog 49 false 1 := ⟨fun _ => by kernel_rfl, fun _ => by kernel_rfl⟩
theorem TI5 : TI Try.prog 5 false 1 := ⟨fun _ => by kernel_rfl, fun _ => by kernel_rfl⟩
theorem TI51 : TI Try.prog 51 true 2 := ⟨fun _ => by kernel_rfl, fun _ => by kernel_rfl⟩
theorem TI54 : TI Try.prog 54 true 6 := ⟨fun _ => by kernel_rfl, fun _ => by kernel_rfl⟩
theorem TI55 : TI Try.prog 55 false 1 := ⟨fun _ => by kernel_rfl, fun _ => by kernel_rfl⟩
theorem TI57 : TI Try.prog 57 true 12 := ⟨fun _ => by kernel_rfl, fun _ => by kernel_rfl⟩
theorem TI67 : TI Try.prog 67 true 5 := ⟨fun _ => by kernel_rfl, fun _ => by kernel_rfl⟩
theorem TI9 : TI Try.prog 9 false 1 := ⟨fun _ => by kernel_rfl, fun _ => by kernel_rfl⟩
theorem UN102 : Try.prog.underlying 102 = some (.array 3 3) := by kernel_rfl
theorem UN2 : Try.prog.underlying 2 = some (.int .i64) := by kernel_rfl
theorem UN22 : Try.prog.underlying 22 = some (.slice 41) := by kernel_rfl
theorem UN23 : Try.prog.underlying 23 = some (.slice 41) := by kernel_rfl
theorem UN27 : Try.prog.underlying 27 = some (.slice 51) := by kernel_rfl
theorem UN3 : Try.prog.underlying 3 = some (.int .i64) := by kernel_rfl
theorem UN32 : Try.prog.underlying 32 = some (.int .u64) := by kernel_rfl
theorem UN35 : Try.prog.underlying 35 = some (.slice 3) := by kernel_rfl
theorem UN39 : Try.prog.underlying 39 = some (.slice 67) := by kernel_rfl
theorem UN4 : Try.prog.underlying 4 = some (.bool) := by kernel_rfl
theorem UN49 : Try.prog.underlying 49 = some (.slice 57) := by kernel_rfl
theorem UN5 : Try.prog.underlying 5 = some (.int .u8) := by kernel_rfl
theorem UN55 : Try.prog.underlying 55 = some (.slice 9) := by kernel_rfl
theorem UN69 : Try.prog.underlying 69 = some (.map 9 92) := by kernel_rfl
theorem UN72 : Try.prog.underlying 72 = some (.slice 5) := by kernel_rfl
theorem UN9 : Try.prog.underlying 9 = some (.string) := by kernel_rfl
theorem UN92 : Try.prog.underlying 92 = some (.map 9 57) := by kernel_rfl
theorem ZA102 : ∀ w : World, (zeroValue 102).run Try.prog w = .ok (.agg ([.int .i64 0, .int .i64 0, .int .i64 0] : List Value).toArray) w := fun _ => by kernel_rfl
theorem ZR57 : ∀ w : World, (zeroValue 57).run Try.prog w = .ok (.agg #[.string ⟨#[]⟩, .bool false, .int .i64 0, .int .i64 0, .int .i64 0, .int .i64 0, .string ⟨#[]⟩, .bool false, .int .i64 0, .int .i64 0, .slice none 0 0, .bool false]) w := fun _ => by kernel_rfl
theorem ZR92 : ∀ w : World, (zeroValue 92).run Try.prog w = .ok (.map none) w := fun _ => by kernel_rfl
theorem ZV29 : ZV Try.prog 29 [.slice none 0 0] := ⟨.agg #[.slice none 0 0], fun _ => by kernel_rfl, rfl⟩
theorem ZV41 : ZV Try.prog 41 [.int .i64 0, .int .i64 0, .int .i64 0, .slice none 0 0] := ⟨.agg #[.int .i64 0, .int .i64 0, .int .i64 0, .slice none 0 0], fun _ => by kernel_rfl, rfl⟩
theorem ZV51 : ZV Try.prog 51 [.string ⟨#[]⟩, .slice none 0 0] := ⟨.agg #[.string ⟨#[]⟩, .slice none 0 0], fun _ => by kernel_rfl, rfl⟩
theorem ZV57 : ZV Try.prog 57 [.string ⟨#[]⟩, .bool false, .int .i64 0, .int .i64 0, .int .i64 0, .int .i64 0, .string ⟨#[]⟩, .bool false, .int .i64 0, .int .i64 0, .slice none 0 0, .bool false] := ⟨.agg #[.string ⟨#[]⟩, .bool false, .int .i64 0, .int .i64 0, .int .i64 0, .int .i64 0, .string ⟨#[]⟩, .bool false, .int .i64 0, .int .i64 0, .slice none 0 0, .bool false], fun _ => by kernel_rfl, rfl⟩
theorem ZV67 : ZV Try.prog 67 [.int .i64 0, .string ⟨#[]⟩, .string ⟨#[]⟩, .int .i64 0, .string ⟨#[]⟩] := ⟨.agg #[.int .i64 0, .string ⟨#[]⟩, .string ⟨#[]⟩, .int .i64 0, .string ⟨#[]⟩], fun _ => by kernel_rfl, rfl⟩
theorem open_api_Effect {ok0 : Nat → Prop} {w0 : Base} {w : World} {Γ : List It} {Λ : List LObj} (hs : St ok0 w0 w Γ Λ) (i : Nat) {x : api_Effect} {cs : List Value} (hi : Γ[i]? = some (vl t_api_Effect x (.agg cs.toArray))) : cs = [.int .i64 x.Kind, bstr x.Object, bstr x.Field, .int .i64 x.N, bstr x.S] := by
  obtain ⟨ok, h⟩ := hs.get i hi
  have h := R_agg h rfl
  obtain ⟨_, _, rfl, rfl, ⟨_, _, rfl, rfl, ⟨_, _, rfl, rfl, ⟨_, _, rfl, rfl, rfl⟩⟩⟩⟩ := h
  exact rfl
theorem open_api_Update {ok0 : Nat → Prop} {w0 : Base} {w : World} {Γ : List It} {Λ : List LObj} (hs : St ok0 w0 w Γ Λ) (i : Nat) {x : api_Update} {cs : List Value} (hi : Γ[i]? = some (vl t_api_Update x (.agg cs.toArray))) : ∃ (a0 : Option Addr), ∃ (c1 : Nat), cs = [.int .i64 x.Client, .int .i64 x.Seq, .int .i64 x.Tag, .slice a0 x.Effects.length c1] := by
  obtain ⟨ok, h⟩ := hs.get i hi
  have h := R_agg h rfl
  obtain ⟨_, _, rfl, rfl, ⟨_, _, rfl, rfl, ⟨_, _, rfl, rfl, ⟨a0, c1, rfl, _, _⟩⟩⟩⟩ := h
  exact ⟨a0, c1, rfl⟩
theorem open_fold_Field {ok0 : Nat → Prop} {w0 : Base} {w : World} {Γ : List It} {Λ : List LObj} (hs : St ok0 w0 w Γ Λ) (i : Nat) {x : fold_Field} {cs : List Value} (hi : Γ[i]? = some (vl t_fold_Field x (.agg cs.toArray))) : ∃ (a0 : Option Addr), ∃ (c1 : Nat), cs = [bstr x.Name, .bool x.Register.Set, .int .i64 x.Register.Tag, .int .i64 x.Register.Client, .int .i64 x.Register.Seq, .int .i64 x.Register.N, bstr x.Register.S, .bool x.HasMax, .int .i64 x.Max, .int .i64 x.Sum, .slice a0 x.Elems.length c1, .bool x.Flag] := by
  obtain ⟨ok, h⟩ := hs.get i hi
  have h := R_agg h rfl
  obtain ⟨_, _, rfl, rfl, ⟨_, _, rfl, ⟨_, _, rfl, rfl, ⟨_, _, rfl, rfl, ⟨_, _, rfl, rfl, ⟨_, _, rfl, rfl, ⟨_, _, rfl, rfl, rfl⟩⟩⟩⟩⟩, ⟨_, _, rfl, rfl, ⟨_, _, rfl, rfl, ⟨_, _, rfl, rfl, ⟨_, _, rfl, ⟨a0, c1, rfl, _, _⟩, rfl⟩⟩⟩⟩⟩⟩ := h
  exact ⟨a0, c1, rfl⟩
theorem open_fold_Object {ok0 : Nat → Prop} {w0 : Base} {w : World} {Γ : List It} {Λ : List LObj} (hs : St ok0 w0 w Γ Λ) (i : Nat) {x : fold_Object} {cs : List Value} (hi : Γ[i]? = some (vl t_fold_Object x (.agg cs.toArray))) : ∃ (a0 : Option Addr), ∃ (c1 : Nat), cs = [bstr x.Name, .slice a0 x.Fields.length c1] := by
  obtain ⟨ok, h⟩ := hs.get i hi
  have h := R_agg h rfl
  obtain ⟨_, _, rfl, rfl, ⟨a0, c1, rfl, _, _⟩⟩ := h
  exact ⟨a0, c1, rfl⟩
theorem open_fold_Register {ok0 : Nat → Prop} {w0 : Base} {w : World} {Γ : List It} {Λ : List LObj} (hs : St ok0 w0 w Γ Λ) (i : Nat) {x : fold_Register} {cs : List Value} (hi : Γ[i]? = some (vl t_fold_Register x (.agg cs.toArray))) : cs = [.bool x.Set, .int .i64 x.Tag, .int .i64 x.Client, .int .i64 x.Seq, .int .i64 x.N, bstr x.S] := by
  obtain ⟨ok, h⟩ := hs.get i hi
  have h := R_agg h rfl
  obtain ⟨_, _, rfl, rfl, ⟨_, _, rfl, rfl, ⟨_, _, rfl, rfl, ⟨_, _, rfl, rfl, ⟨_, _, rfl, rfl, rfl⟩⟩⟩⟩⟩ := h
  exact rfl
theorem open_fold_Store {ok0 : Nat → Prop} {w0 : Base} {w : World} {Γ : List It} {Λ : List LObj} (hs : St ok0 w0 w Γ Λ) (i : Nat) {x : fold_Store} {cs : List Value} (hi : Γ[i]? = some (vl t_fold_Store x (.agg cs.toArray))) : ∃ (a0 : Option Addr), ∃ (c1 : Nat), cs = [.slice a0 x.Objects.length c1] := by
  obtain ⟨ok, h⟩ := hs.get i hi
  have h := R_agg h rfl
  obtain ⟨a0, c1, rfl, _, _⟩ := h
  exact ⟨a0, c1, rfl⟩
theorem EG54 : Try.prog.eqGuardType Try.prog.depth 54 = false := by kernel_rfl
theorem EQ54 (x y : fold_Register) (w : World) : (binOp .eql 54 (.agg ([.bool x.Set, .int .i64 x.Tag, .int .i64 x.Client, .int .i64 x.Seq, .int .i64 x.N, bstr x.S] : List Value).toArray) (.agg ([.bool y.Set, .int .i64 y.Tag, .int .i64 y.Client, .int .i64 y.Seq, .int .i64 y.N, bstr y.S] : List Value).toArray)).run Try.prog w = .ok (.bool (decide (x = y))) w :=
  eql_of (EqR.agg Try.underlying54 (by kernel_rfl) (EqL.cons (by decide) (u := .bool x.Set) (v := .bool y.Set) (fun _ => by kernel_rfl) (fun _ => by kernel_rfl) (EqR.bool x.Set y.Set Try.underlying4) (EqL.cons (by decide) (u := .int .i64 x.Tag) (v := .int .i64 y.Tag) (fun _ => by kernel_rfl) (fun _ => by kernel_rfl) (EqR.int x.Tag y.Tag Try.underlying3) (EqL.cons (by decide) (u := .int .i64 x.Client) (v := .int .i64 y.Client) (fun _ => by kernel_rfl) (fun _ => by kernel_rfl) (EqR.int x.Client y.Client Try.underlying3) (EqL.cons (by decide) (u := .int .i64 x.Seq) (v := .int .i64 y.Seq) (fun _ => by kernel_rfl) (fun _ => by kernel_rfl) (EqR.int x.Seq y.Seq Try.underlying3) (EqL.cons (by decide) (u := .int .i64 x.N) (v := .int .i64 y.N) (fun _ => by kernel_rfl) (fun _ => by kernel_rfl) (EqR.int x.N y.N Try.underlying2) (EqL.cons (by decide) (u := bstr x.S) (v := bstr y.S) (fun _ => by kernel_rfl) (fun _ => by kernel_rfl) (EqR.str x.S y.S Try.underlying9) EqL.nil))))))) (by obtain ⟨p1, p2, p3, p4, p5, p6⟩ := x; obtain ⟨q1, q2, q3, q4, q5, q6⟩ := y; rw [Bool.eq_iff_iff]; simp [fold_Register.mk.injEq]) w
theorem NQ54 (x y : fold_Register) (w : World) : (binOp .neq 54 (.agg ([.bool x.Set, .int .i64 x.Tag, .int .i64 x.Client, .int .i64 x.Seq, .int .i64 x.N, bstr x.S] : List Value).toArray) (.agg ([.bool y.Set, .int .i64 y.Tag, .int .i64 y.Client, .int .i64 y.Seq, .int .i64 y.N, bstr y.S] : List Value).toArray)).run Try.prog w = .ok (.bool (!decide (x = y))) w :=
  neq_of (EqR.agg Try.underlying54 (by kernel_rfl) (EqL.cons (by decide) (u := .bool x.Set) (v := .bool y.Set) (fun _ => by kernel_rfl) (fun _ => by kernel_rfl) (EqR.bool x.Set y.Set Try.underlying4) (EqL.cons (by decide) (u := .int .i64 x.Tag) (v := .int .i64 y.Tag) (fun _ => by kernel_rfl) (fun _ => by kernel_rfl) (EqR.int x.Tag y.Tag Try.underlying3) (EqL.cons (by decide) (u := .int .i64 x.Client) (v := .int .i64 y.Client) (fun _ => by kernel_rfl) (fun _ => by kernel_rfl) (EqR.int x.Client y.Client Try.underlying3) (EqL.cons (by decide) (u := .int .i64 x.Seq) (v := .int .i64 y.Seq) (fun _ => by kernel_rfl) (fun _ => by kernel_rfl) (EqR.int x.Seq y.Seq Try.underlying3) (EqL.cons (by decide) (u := .int .i64 x.N) (v := .int .i64 y.N) (fun _ => by kernel_rfl) (fun _ => by kernel_rfl) (EqR.int x.N y.N Try.underlying2) (EqL.cons (by decide) (u := bstr x.S) (v := bstr y.S) (fun _ => by kernel_rfl) (fun _ => by kernel_rfl) (EqR.str x.S y.S Try.underlying9) EqL.nil))))))) (by obtain ⟨p1, p2, p3, p4, p5, p6⟩ := x; obtain ⟨q1, q2, q3, q4, q5, q6⟩ := y; rw [Bool.eq_iff_iff]; simp [fold_Register.mk.injEq]) w

end Go.Proofs.Ytlbcfjblpopcnaa
