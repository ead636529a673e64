import Derived.Test.YtbbeobiampbddaaProg
import Derived.Test.YtbbeobiampbddaaFd
import Derived.Test.YtbbeobiampbddaaLp
set_option linter.unusedVariables false
set_option linter.unusedSimpArgs false
namespace Go.Proofs.Ytbbeobiampbddaa
open Go Go.RowKit Go.Proofs.YtbbeobiampbddaaL
set_option maxRecDepth 20000
def t_api_Effect : Ty api_Effect := tIso (tPair (tInt .i64) (tPair tStr (tPair tStr (tPair (tInt .i64) tStr)))) fun x : api_Effect => (x.Kind, x.Object, x.Field, x.N, x.S)
theorem F_api_Effect_Kind : Fld t_api_Effect (tInt .i64) 0 api_Effect.Kind (fun x y => { x with Kind := y }) := (Fld.iso (Fld.fst _ _) (fun _ => rfl) (fun _ _ => rfl))
theorem F_api_Effect_Object : Fld t_api_Effect tStr 1 api_Effect.Object (fun x y => { x with Object := y }) := (Fld.iso (Fld.snd (Fld.fst _ _)) (fun _ => rfl) (fun _ _ => rfl))
theorem F_api_Effect_Field : Fld t_api_Effect tStr 2 api_Effect.Field (fun x y => { x with Field := y }) := (Fld.iso (Fld.snd (Fld.snd (Fld.fst _ _))) (fun _ => rfl) (fun _ _ => rfl))
theorem F_api_Effect_N : Fld t_api_Effect (tInt .i64) 3 api_Effect.N (fun x y => { x with N := y }) := (Fld.iso (Fld.snd (Fld.snd (Fld.snd (Fld.fst _ _)))) (fun _ => rfl) (fun _ _ => rfl))
theorem F_api_Effect_S : Fld t_api_Effect tStr 4 api_Effect.S (fun x y => { x with S := y }) := (Fld.iso (Fld.snd (Fld.snd (Fld.snd (Fld.snd Fld.self)))) (fun _ => rfl) (fun _ _ => rfl))
def t_api_Update : Ty api_Update := tIso (tPair (tInt .i64) (tPair (tInt .i64) (tPair (tInt .i64) (tSlice t_api_Effect)))) fun x : api_Update => (x.Client, x.Seq, x.Tag, x.Effects)
theorem F_api_Update_Client : Fld t_api_Update (tInt .i64) 0 api_Update.Client (fun x y => { x with Client := y }) := (Fld.iso (Fld.fst _ _) (fun _ => rfl) (fun _ _ => rfl))
theorem F_api_Update_Seq : Fld t_api_Update (tInt .i64) 1 api_Update.Seq (fun x y => { x with Seq := y }) := (Fld.iso (Fld.snd (Fld.fst _ _)) (fun _ => rfl) (fun _ _ => rfl))
theorem F_api_Update_Tag : Fld t_api_Update (tInt .i64) 2 api_Update.Tag (fun x y => { x with Tag := y }) := (Fld.iso (Fld.snd (Fld.snd (Fld.fst _ _))) (fun _ => rfl) (fun _ _ => rfl))
theorem F_api_Update_Effects : Fld t_api_Update (tSlice t_api_Effect) 3 api_Update.Effects (fun x y => { x with Effects := y }) := (Fld.iso (Fld.snd (Fld.snd (Fld.snd Fld.self))) (fun _ => rfl) (fun _ _ => rfl))
def t_fold_Register : Ty fold_Register := tIso (tPair tBool (tPair (tInt .i64) (tPair (tInt .i64) (tPair (tInt .i64) (tPair (tInt .i64) tStr))))) fun x : fold_Register => (x.Set, x.Tag, x.Client, x.Seq, x.N, x.S)
theorem F_fold_Register_Set : Fld t_fold_Register tBool 0 fold_Register.Set (fun x y => { x with Set := y }) := (Fld.iso (Fld.fst _ _) (fun _ => rfl) (fun _ _ => rfl))
theorem F_fold_Register_Tag : Fld t_fold_Register (tInt .i64) 1 fold_Register.Tag (fun x y => { x with Tag := y }) := (Fld.iso (Fld.snd (Fld.fst _ _)) (fun _ => rfl) (fun _ _ => rfl))
theorem F_fold_Register_Client : Fld t_fold_Register (tInt .i64) 2 fold_Register.Client (fun x y => { x with Client := y }) := (Fld.iso (Fld.snd (Fld.snd (Fld.fst _ _))) (fun _ => rfl) (fun _ _ => rfl))
theorem F_fold_Register_Seq : Fld t_fold_Register (tInt .i64) 3 fold_Register.Seq (fun x y => { x with Seq := y }) := (Fld.iso (Fld.snd (Fld.snd (Fld.snd (Fld.fst _ _)))) (fun _ => rfl) (fun _ _ => rfl))
theorem F_fold_Register_N : Fld t_fold_Register (tInt .i64) 4 fold_Register.N (fun x y => { x with N := y }) := (Fld.iso (Fld.snd (Fld.snd (Fld.snd (Fld.snd (Fld.fst _ _))))) (fun _ => rfl) (fun _ _ => rfl))
theorem F_fold_Register_S : Fld t_fold_Register tStr 5 fold_Register.S (fun x y => { x with S := y }) := (Fld.iso (Fld.snd (Fld.snd (Fld.snd (Fld.snd (Fld.snd Fld.self))))) (fun _ => rfl) (fun _ _ => rfl))
def t_fold_Field : Ty fold_Field := tIso (tPair tStr (tPair t_fold_Register (tPair tBool (tPair (tInt .i64) (tPair (tInt .i64) (tPair (tSlice tStr) tBool)))))) fun x : fold_Field => (x.Name, x.Register, x.HasMax, x.Max, x.Sum, x.Elems, x.Flag)
theorem F_fold_Field_Name : Fld t_fold_Field tStr 0 fold_Field.Name (fun x y => { x with Name := y }) := (Fld.iso (Fld.fst _ _) (fun _ => rfl) (fun _ _ => rfl))
theorem F_fold_Field_Register : Fld t_fold_Field t_fold_Register 1 fold_Field.Register (fun x y => { x with Register := y }) := (Fld.iso (Fld.snd (Fld.fst _ _)) (fun _ => rfl) (fun _ _ => rfl))
theorem F_fold_Field_HasMax : Fld t_fold_Field tBool 7 fold_Field.HasMax (fun x y => { x with HasMax := y }) := (Fld.iso (Fld.snd (Fld.snd (Fld.fst _ _))) (fun _ => rfl) (fun _ _ => rfl))
theorem F_fold_Field_Max : Fld t_fold_Field (tInt .i64) 8 fold_Field.Max (fun x y => { x with Max := y }) := (Fld.iso (Fld.snd (Fld.snd (Fld.snd (Fld.fst _ _)))) (fun _ => rfl) (fun _ _ => rfl))
theorem F_fold_Field_Sum : Fld t_fold_Field (tInt .i64) 9 fold_Field.Sum (fun x y => { x with Sum := y }) := (Fld.iso (Fld.snd (Fld.snd (Fld.snd (Fld.snd (Fld.fst _ _))))) (fun _ => rfl) (fun _ _ => rfl))
theorem F_fold_Field_Elems : Fld t_fold_Field (tSlice tStr) 10 fold_Field.Elems (fun x y => { x with Elems := y }) := (Fld.iso (Fld.snd (Fld.snd (Fld.snd (Fld.snd (Fld.snd (Fld.fst _ _)))))) (fun _ => rfl) (fun _ _ => rfl))
theorem F_fold_Field_Flag : Fld t_fold_Field tBool 11 fold_Field.Flag (fun x y => { x with Flag := y }) := (Fld.iso (Fld.snd (Fld.snd (Fld.snd (Fld.snd (Fld.snd (Fld.snd Fld.self)))))) (fun _ => rfl) (fun _ _ => rfl))
def t_fold_Object : Ty fold_Object := tIso (tPair tStr (tSlice t_fold_Field)) fun x : fold_Object => (x.Name, x.Fields)
theorem F_fold_Object_Name : Fld t_fold_Object tStr 0 fold_Object.Name (fun x y => { x with Name := y }) := (Fld.iso (Fld.fst _ _) (fun _ => rfl) (fun _ _ => rfl))
theorem F_fold_Object_Fields : Fld t_fold_Object (tSlice t_fold_Field) 1 fold_Object.Fields (fun x y => { x with Fields := y }) := (Fld.iso (Fld.snd Fld.self) (fun _ => rfl) (fun _ _ => rfl))
def t_fold_Store : Ty fold_Store := tIso (tSlice t_fold_Object) fun x : fold_Store => x.Objects
theorem F_fold_Store_Objects : Fld t_fold_Store (tSlice t_fold_Object) 0 fold_Store.Objects (fun x y => { x with Objects := y }) := (Fld.iso Fld.self (fun _ => rfl) (fun _ _ => rfl))
def t_history_Value : Ty history_Value := tIso (tPair tStr (tPair tStr (tPair tBool (tPair (tInt .i64) (tPair tStr (tPair tBool (tPair (tInt .i64) (tPair (tInt .i64) (tPair (tSlice tStr) tBool))))))))) fun x : history_Value => (x.Object, x.Field, x.Set, x.N, x.S, x.HasMax, x.Max, x.Sum, x.Elems, x.Flag)
theorem F_history_Value_Object : Fld t_history_Value tStr 0 history_Value.Object (fun x y => { x with Object := y }) := (Fld.iso (Fld.fst _ _) (fun _ => rfl) (fun _ _ => rfl))
theorem F_history_Value_Field : Fld t_history_Value tStr 1 history_Value.Field (fun x y => { x with Field := y }) := (Fld.iso (Fld.snd (Fld.fst _ _)) (fun _ => rfl) (fun _ _ => rfl))
theorem F_history_Value_Set : Fld t_history_Value tBool 2 history_Value.Set (fun x y => { x with Set := y }) := (Fld.iso (Fld.snd (Fld.snd (Fld.fst _ _))) (fun _ => rfl) (fun _ _ => rfl))
theorem F_history_Value_N : Fld t_history_Value (tInt .i64) 3 history_Value.N (fun x y => { x with N := y }) := (Fld.iso (Fld.snd (Fld.snd (Fld.snd (Fld.fst _ _)))) (fun _ => rfl) (fun _ _ => rfl))
theorem F_history_Value_S : Fld t_history_Value tStr 4 history_Value.S (fun x y => { x with S := y }) := (Fld.iso (Fld.snd (Fld.snd (Fld.snd (Fld.snd (Fld.fst _ _))))) (fun _ => rfl) (fun _ _ => rfl))
theorem F_history_Value_HasMax : Fld t_history_Value tBool 5 history_Value.HasMax (fun x y => { x with HasMax := y }) := (Fld.iso (Fld.snd (Fld.snd (Fld.snd (Fld.snd (Fld.snd (Fld.fst _ _)))))) (fun _ => rfl) (fun _ _ => rfl))
theorem F_history_Value_Max : Fld t_history_Value (tInt .i64) 6 history_Value.Max (fun x y => { x with Max := y }) := (Fld.iso (Fld.snd (Fld.snd (Fld.snd (Fld.snd (Fld.snd (Fld.snd (Fld.fst _ _))))))) (fun _ => rfl) (fun _ _ => rfl))
theorem F_history_Value_Sum : Fld t_history_Value (tInt .i64) 7 history_Value.Sum (fun x y => { x with Sum := y }) := (Fld.iso (Fld.snd (Fld.snd (Fld.snd (Fld.snd (Fld.snd (Fld.snd (Fld.snd (Fld.fst _ _)))))))) (fun _ => rfl) (fun _ _ => rfl))
theorem F_history_Value_Elems : Fld t_history_Value (tSlice tStr) 8 history_Value.Elems (fun x y => { x with Elems := y }) := (Fld.iso (Fld.snd (Fld.snd (Fld.snd (Fld.snd (Fld.snd (Fld.snd (Fld.snd (Fld.snd (Fld.fst _ _))))))))) (fun _ => rfl) (fun _ _ => rfl))
theorem F_history_Value_Flag : Fld t_history_Value tBool 9 history_Value.Flag (fun x y => { x with Flag := y }) := (Fld.iso (Fld.snd (Fld.snd (Fld.snd (Fld.snd (Fld.snd (Fld.snd (Fld.snd (Fld.snd (Fld.snd Fld.self))))))))) (fun _ => rfl) (fun _ _ => rfl))
def t_history_Operation : Ty history_Operation := tIso (tPair (tInt .i64) (tPair (tInt .i64) (tPair (tSlice t_api_Effect) (tPair (tSlice t_history_Value) (tPair (tInt .i64) (tInt .i64)))))) fun x : history_Operation => (x.Process, x.Kind, x.Effects, x.Result, x.Call, x.Return)
theorem F_history_Operation_Process : Fld t_history_Operation (tInt .i64) 0 history_Operation.Process (fun x y => { x with Process := y }) := (Fld.iso (Fld.fst _ _) (fun _ => rfl) (fun _ _ => rfl))
theorem F_history_Operation_Kind : Fld t_history_Operation (tInt .i64) 1 history_Operation.Kind (fun x y => { x with Kind := y }) := (Fld.iso (Fld.snd (Fld.fst _ _)) (fun _ => rfl) (fun _ _ => rfl))
theorem F_history_Operation_Effects : Fld t_history_Operation (tSlice t_api_Effect) 2 history_Operation.Effects (fun x y => { x with Effects := y }) := (Fld.iso (Fld.snd (Fld.snd (Fld.fst _ _))) (fun _ => rfl) (fun _ _ => rfl))
theorem F_history_Operation_Result : Fld t_history_Operation (tSlice t_history_Value) 3 history_Operation.Result (fun x y => { x with Result := y }) := (Fld.iso (Fld.snd (Fld.snd (Fld.snd (Fld.fst _ _)))) (fun _ => rfl) (fun _ _ => rfl))
theorem F_history_Operation_Call : Fld t_history_Operation (tInt .i64) 4 history_Operation.Call (fun x y => { x with Call := y }) := (Fld.iso (Fld.snd (Fld.snd (Fld.snd (Fld.snd (Fld.fst _ _))))) (fun _ => rfl) (fun _ _ => rfl))
theorem F_history_Operation_Return : Fld t_history_Operation (tInt .i64) 5 history_Operation.Return (fun x y => { x with Return := y }) := (Fld.iso (Fld.snd (Fld.snd (Fld.snd (Fld.snd (Fld.snd Fld.self))))) (fun _ => rfl) (fun _ _ => rfl))
def t_history_History : Ty history_History := tIso (tSlice t_history_Operation) fun x : history_History => x.Operations
theorem F_history_History_Operations : Fld t_history_History (tSlice t_history_Operation) 0 history_History.Operations (fun x y => { x with Operations := y }) := (Fld.iso Fld.self (fun _ => rfl) (fun _ _ => rfl))
def t_Anon37 : Ty Anon37 := tIso (tPair (tInt .i64) (tInt .i64)) fun x : Anon37 => (x.E0, x.E1)
theorem F_Anon37_E0 : Fld t_Anon37 (tInt .i64) 0 Anon37.E0 (fun x y => { x with E0 := y }) := (Fld.iso (Fld.fst _ _) (fun _ => rfl) (fun _ _ => rfl))
theorem F_Anon37_E1 : Fld t_Anon37 (tInt .i64) 1 Anon37.E1 (fun x y => { x with E1 := y }) := (Fld.iso (Fld.snd Fld.self) (fun _ => rfl) (fun _ _ => rfl))
theorem EI3 : EI Try.prog 3 (.int .i64 0) 1 8 := ⟨by kernel_rfl, rfl, by decide⟩
theorem EI35 : EI Try.prog 35 (.agg #[.int .i64 0, .int .i64 0, .slice none 0 0, .slice none 0 0, .int .i64 0, .int .i64 0]) 6 80 := ⟨by kernel_rfl, rfl, by decide⟩
theorem EI61 : EI Try.prog 61 (.agg #[.string ⟨#[]⟩, .bool false, .int .i64 0, .int .i64 0, .int .i64 0, .int .i64 0, .string ⟨#[]⟩, .bool false, .int .i64 0, .int .i64 0, .slice none 0 0, .bool false]) 12 128 := ⟨by kernel_rfl, rfl, by decide⟩
theorem EI65 : EI Try.prog 65 (.agg #[.string ⟨#[]⟩, .slice none 0 0]) 2 40 := ⟨by kernel_rfl, rfl, by decide⟩
theorem EI68 : EI Try.prog 68 (.agg #[.string ⟨#[]⟩, .string ⟨#[]⟩, .bool false, .int .i64 0, .string ⟨#[]⟩, .bool false, .int .i64 0, .int .i64 0, .slice none 0 0, .bool false]) 10 120 := ⟨by kernel_rfl, rfl, by decide⟩
theorem EI72 : EI Try.prog 72 (.agg #[.int .i64 0, .string ⟨#[]⟩, .string ⟨#[]⟩, .int .i64 0, .string ⟨#[]⟩]) 5 64 := ⟨by kernel_rfl, rfl, by decide⟩
theorem EI9 : EI Try.prog 9 (.string ⟨#[]⟩) 1 16 := ⟨by kernel_rfl, rfl, by decide⟩
theorem FA24_0 : FA Try.prog 24 0 0 := fun _ _ => by kernel_rfl
theorem FA35_0 : FA Try.prog 35 0 0 := fun _ _ => by kernel_rfl
theorem FA35_1 : FA Try.prog 35 1 1 := fun _ _ => by kernel_rfl
theorem FA35_2 : FA Try.prog 35 2 2 := fun _ _ => by kernel_rfl
theorem FA35_3 : FA Try.prog 35 3 3 := fun _ _ => by kernel_rfl
theorem FA35_4 : FA Try.prog 35 4 4 := fun _ _ => by kernel_rfl
theorem FA35_5 : FA Try.prog 35 5 5 := fun _ _ => by kernel_rfl
theorem FA50_0 : FA Try.prog 50 0 0 := fun _ _ => by kernel_rfl
theorem FA58_0 : FA Try.prog 58 0 0 := fun _ _ => by kernel_rfl
theorem FA58_1 : FA Try.prog 58 1 1 := fun _ _ => by kernel_rfl
theorem FA58_2 : FA Try.prog 58 2 2 := fun _ _ => by kernel_rfl
theorem FA58_3 : FA Try.prog 58 3 3 := fun _ _ => by kernel_rfl
theorem FA58_4 : FA Try.prog 58 4 4 := fun _ _ => by kernel_rfl
theorem FA58_5 : FA Try.prog 58 5 5 := fun _ _ => by kernel_rfl
theorem FA61_0 : FA Try.prog 61 0 0 := fun _ _ => by kernel_rfl
theorem FA61_1 : FA Try.prog 61 1 1 := fun _ _ => by kernel_rfl
theorem FA61_2 : FA Try.prog 61 2 7 := fun _ _ => by kernel_rfl
theorem FA61_3 : FA Try.prog 61 3 8 := fun _ _ => by kernel_rfl
theorem FA61_4 : FA Try.prog 61 4 9 := fun _ _ => by kernel_rfl
theorem FA61_5 : FA Try.prog 61 5 10 := fun _ _ => by kernel_rfl
theorem FA61_6 : FA Try.prog 61 6 11 := fun _ _ => by kernel_rfl
theorem FA65_0 : FA Try.prog 65 0 0 := fun _ _ => by kernel_rfl
theorem FA65_1 : FA Try.prog 65 1 1 := fun _ _ => by kernel_rfl
theorem FA68_0 : FA Try.prog 68 0 0 := fun _ _ => by kernel_rfl
theorem FA68_1 : FA Try.prog 68 1 1 := fun _ _ => by kernel_rfl
theorem FA68_2 : FA Try.prog 68 2 2 := fun _ _ => by kernel_rfl
theorem FA68_3 : FA Try.prog 68 3 3 := fun _ _ => by kernel_rfl
theorem FA68_4 : FA Try.prog 68 4 4 := fun _ _ => by kernel_rfl
theorem FA68_5 : FA Try.prog 68 5 5 := fun _ _ => by kernel_rfl
theorem FA68_6 : FA Try.prog 68 6 6 := fun _ _ => by kernel_rfl
theorem FA68_7 : FA Try.prog 68 7 7 := fun _ _ => by kernel_rfl
theorem FA68_8 : FA Try.prog 68 8 8 := fun _ _ => by kernel_rfl
theorem FA68_9 : FA Try.prog 68 9 9 := fun _ _ => by kernel_rfl
theorem FA72_0 : FA Try.prog 72 0 0 := fun _ _ => by kernel_rfl
theorem FA72_1 : FA Try.prog 72 1 1 := fun _ _ => by kernel_rfl
theorem FA72_2 : FA Try.prog 72 2 2 := fun _ _ => by kernel_rfl
theorem FA72_3 : FA Try.prog 72 3 3 := fun _ _ => by kernel_rfl
theorem FA72_4 : FA Try.prog 72 4 4 := fun _ _ => by kernel_rfl
theorem FA75_0 : FA Try.prog 75 0 0 := fun _ _ => by kernel_rfl
theorem FA75_1 : FA Try.prog 75 1 1 := fun _ _ => by kernel_rfl
theorem FA75_2 : FA Try.prog 75 2 2 := fun _ _ => by kernel_rfl
theorem FA75_3 : FA Try.prog 75 3 3 := fun _ _ => by kernel_rfl
theorem FA80_0 : FA Try.prog 80 0 0 := fun _ _ => by kernel_rfl
theorem FA80_1 : FA Try.prog 80 1 1 := fun _ _ => by kernel_rfl
theorem FA80_2 : FA Try.prog 80 2 2 := fun _ _ => by kernel_rfl
theorem FN10 : FN Try.prog 10 := fun _ _ => by kernel_rfl
theorem FN11 : FN Try.prog 11 := fun _ _ => by kernel_rfl
theorem FN12 : FN Try.prog 12 := fun _ _ => by kernel_rfl
theorem FN13 : FN Try.prog 13 := fun _ _ => by kernel_rfl
theorem FN14 : FN Try.prog 14 := fun _ _ => by kernel_rfl
theorem FN15 : FN Try.prog 15 := fun _ _ => by kernel_rfl
theorem FN16 : FN Try.prog 16 := fun _ _ => by kernel_rfl
theorem FN17 : FN Try.prog 17 := fun _ _ => by kernel_rfl
theorem FN18 : FN Try.prog 18 := fun _ _ => by kernel_rfl
theorem FN19 : FN Try.prog 19 := fun _ _ => by kernel_rfl
theorem FN20 : FN Try.prog 20 := fun _ _ => by kernel_rfl
theorem FN21 : FN Try.prog 21 := fun _ _ => by kernel_rfl
theorem FN22 : FN Try.prog 22 := fun _ _ => by kernel_rfl
theorem FN23 : FN Try.prog 23 := fun _ _ => by kernel_rfl
theorem FN24 : FN Try.prog 24 := fun _ _ => by kernel_rfl
theorem FN25 : FN Try.prog 25 := fun _ _ => by kernel_rfl
theorem FN26 : FN Try.prog 26 := fun _ _ => by kernel_rfl
theorem FN30 : FN Try.prog 30 := fun _ _ => by kernel_rfl
theorem FN34 : FN Try.prog 34 := fun _ _ => by kernel_rfl
theorem FN35 : FN Try.prog 35 := fun _ _ => by kernel_rfl
theorem FN36 : FN Try.prog 36 := fun _ _ => by kernel_rfl
theorem FN37 : FN Try.prog 37 := fun _ _ => by kernel_rfl
theorem FN38 : FN Try.prog 38 := fun _ _ => by kernel_rfl
theorem FN39 : FN Try.prog 39 := fun _ _ => by kernel_rfl
theorem FN40 : FN Try.prog 40 := fun _ _ => by kernel_rfl
theorem FN41 : FN Try.prog 41 := fun _ _ => by kernel_rfl
theorem FN42 : FN Try.prog 42 := fun _ _ => by kernel_rfl
theorem FN43 : FN Try.prog 43 := fun _ _ => by kernel_rfl
theorem FN44 : FN Try.prog 44 := fun _ _ => by kernel_rfl
theorem FN45 : FN Try.prog 45 := fun _ _ => by kernel_rfl
theorem FN46 : FN Try.prog 46 := fun _ _ => by kernel_rfl
theorem FN47 : FN Try.prog 47 := fun _ _ => by kernel_rfl
theorem FN48 : FN Try.prog 48 := fun _ _ => by kernel_rfl
theorem FN50 : FN Try.prog 50 := fun _ _ => by kernel_rfl
theorem FN51 : FN Try.prog 51 := fun _ _ => by kernel_rfl
theorem FN52 : FN Try.prog 52 := fun _ _ => by kernel_rfl
theorem FN53 : FN Try.prog 53 := fun _ _ => by kernel_rfl
theorem FN54 : FN Try.prog 54 := fun _ _ => by kernel_rfl
theorem FN55 : FN Try.prog 55 := fun _ _ => by kernel_rfl
theorem FN56 : FN Try.prog 56 := fun _ _ => by kernel_rfl
theorem FN57 : FN Try.prog 57 := fun _ _ => by kernel_rfl
theorem FN58 : FN Try.prog 58 := fun _ _ => by kernel_rfl
theorem FN59 : FN Try.prog 59 := fun _ _ => by kernel_rfl
theorem FN63 : FN Try.prog 63 := fun _ _ => by kernel_rfl
theorem FN64 : FN Try.prog 64 := fun _ _ => by kernel_rfl
theorem FN65 : FN Try.prog 65 := fun _ _ => by kernel_rfl
theorem FN66 : FN Try.prog 66 := fun _ _ => by kernel_rfl
theorem FN67 : FN Try.prog 67 := fun _ _ => by kernel_rfl
theorem FN76 : FN Try.prog 76 := fun _ _ => by kernel_rfl
theorem FN77 : FN Try.prog 77 := fun _ _ => by kernel_rfl
theorem FN78 : FN Try.prog 78 := fun _ _ => by kernel_rfl
theorem FN84 : FN Try.prog 84 := fun _ _ => by kernel_rfl
theorem FN85 : FN Try.prog 85 := fun _ _ => by kernel_rfl
theorem FN86 : FN Try.prog 86 := fun _ _ => by kernel_rfl
theorem FN98 : FN Try.prog 98 := fun _ _ => by kernel_rfl
theorem FV24_0 : FV Try.prog 24 0 0 22 := ⟨_, _, Try.underlying24, rfl, rfl, rfl⟩
theorem PL24 : PL Try.prog 24 [(0, 1)] [.slice none 0 0] := ⟨⟨_, Try.underlying24, fun _ => by kernel_rfl⟩, .agg #[.slice none 0 0], fun _ => by kernel_rfl, rfl⟩
theorem PL35 : PL Try.prog 35 [(0, 1), (1, 1), (2, 1), (3, 1), (4, 1), (5, 1)] [.int .i64 0, .int .i64 0, .slice none 0 0, .slice none 0 0, .int .i64 0, .int .i64 0] := ⟨⟨_, Try.underlying35, fun _ => by kernel_rfl⟩, .agg #[.int .i64 0, .int .i64 0, .slice none 0 0, .slice none 0 0, .int .i64 0, .int .i64 0], fun _ => by kernel_rfl, rfl⟩
theorem PL50 : PL Try.prog 50 [(0, 1)] [.slice none 0 0] := ⟨⟨_, Try.underlying50, fun _ => by kernel_rfl⟩, .agg #[.slice none 0 0], fun _ => by kernel_rfl, rfl⟩
theorem PL58 : PL Try.prog 58 [(0, 1), (1, 1), (2, 1), (3, 1), (4, 1), (5, 1)] [.bool false, .int .i64 0, .int .i64 0, .int .i64 0, .int .i64 0, .string ⟨#[]⟩] := ⟨⟨_, Try.underlying58, fun _ => by kernel_rfl⟩, .agg #[.bool false, .int .i64 0, .int .i64 0, .int .i64 0, .int .i64 0, .string ⟨#[]⟩], fun _ => by kernel_rfl, rfl⟩
theorem PL65 : PL Try.prog 65 [(0, 1), (1, 1)] [.string ⟨#[]⟩, .slice none 0 0] := ⟨⟨_, Try.underlying65, fun _ => by kernel_rfl⟩, .agg #[.string ⟨#[]⟩, .slice none 0 0], fun _ => by kernel_rfl, rfl⟩
theorem PL68 : PL Try.prog 68 [(0, 1), (1, 1), (2, 1), (3, 1), (4, 1), (5, 1), (6, 1), (7, 1), (8, 1), (9, 1)] [.string ⟨#[]⟩, .string ⟨#[]⟩, .bool false, .int .i64 0, .string ⟨#[]⟩, .bool false, .int .i64 0, .int .i64 0, .slice none 0 0, .bool false] := ⟨⟨_, Try.underlying68, fun _ => by kernel_rfl⟩, .agg #[.string ⟨#[]⟩, .string ⟨#[]⟩, .bool false, .int .i64 0, .string ⟨#[]⟩, .bool false, .int .i64 0, .int .i64 0, .slice none 0 0, .bool false], fun _ => by kernel_rfl, rfl⟩
theorem PL72 : PL Try.prog 72 [(0, 1), (1, 1), (2, 1), (3, 1), (4, 1)] [.int .i64 0, .string ⟨#[]⟩, .string ⟨#[]⟩, .int .i64 0, .string ⟨#[]⟩] := ⟨⟨_, Try.underlying72, fun _ => by kernel_rfl⟩, .agg #[.int .i64 0, .string ⟨#[]⟩, .string ⟨#[]⟩, .int .i64 0, .string ⟨#[]⟩], fun _ => by kernel_rfl, rfl⟩
theorem PL75 : PL Try.prog 75 [(0, 1), (1, 1), (2, 1), (3, 1)] [.int .i64 0, .int .i64 0, .int .i64 0, .slice none 0 0] := ⟨⟨_, Try.underlying75, fun _ => by kernel_rfl⟩, .agg #[.int .i64 0, .int .i64 0, .int .i64 0, .slice none 0 0], fun _ => by kernel_rfl, rfl⟩
theorem PL80 : PL Try.prog 80 [(0, 1), (1, 1), (2, 1)] [.int .i64 0, .map none, .map none] := ⟨⟨_, Try.underlying80, fun _ => by kernel_rfl⟩, .agg #[.int .i64 0, .map none, .map none], fun _ => by kernel_rfl, rfl⟩
theorem PS22 : PS Try.prog 22 35 6 [.int .i64 0, .int .i64 0, .slice none 0 0, .slice none 0 0, .int .i64 0, .int .i64 0] := ⟨by kernel_rfl, fun _ => by kernel_rfl, .agg #[.int .i64 0, .int .i64 0, .slice none 0 0, .slice none 0 0, .int .i64 0, .int .i64 0], fun _ => by kernel_rfl, rfl⟩
theorem PS29 : PS Try.prog 29 3 1 [.int .i64 0] := ⟨by kernel_rfl, fun _ => by kernel_rfl, .int .i64 0, fun _ => by kernel_rfl, rfl⟩
theorem PS30 : PS Try.prog 30 72 5 [.int .i64 0, .string ⟨#[]⟩, .string ⟨#[]⟩, .int .i64 0, .string ⟨#[]⟩] := ⟨by kernel_rfl, fun _ => by kernel_rfl, .agg #[.int .i64 0, .string ⟨#[]⟩, .string ⟨#[]⟩, .int .i64 0, .string ⟨#[]⟩], fun _ => by kernel_rfl, rfl⟩
theorem PS31 : PS Try.prog 31 68 10 [.string ⟨#[]⟩, .string ⟨#[]⟩, .bool false, .int .i64 0, .string ⟨#[]⟩, .bool false, .int .i64 0, .int .i64 0, .slice none 0 0, .bool false] := ⟨by kernel_rfl, fun _ => by kernel_rfl, .agg #[.string ⟨#[]⟩, .string ⟨#[]⟩, .bool false, .int .i64 0, .string ⟨#[]⟩, .bool false, .int .i64 0, .int .i64 0, .slice none 0 0, .bool false], fun _ => by kernel_rfl, rfl⟩
theorem PS38 : PS Try.prog 38 37 2 [.int .i64 0, .int .i64 0] := ⟨by kernel_rfl, fun _ => by kernel_rfl, .agg #[.int .i64 0, .int .i64 0], fun _ => by kernel_rfl, rfl⟩
theorem PS48 : PS Try.prog 48 65 2 [.string ⟨#[]⟩, .slice none 0 0] := ⟨by kernel_rfl, fun _ => by kernel_rfl, .agg #[.string ⟨#[]⟩, .slice none 0 0], fun _ => by kernel_rfl, rfl⟩
theorem PS59 : PS Try.prog 59 9 1 [.string ⟨#[]⟩] := ⟨by kernel_rfl, fun _ => by kernel_rfl, .string ⟨#[]⟩, fun _ => by kernel_rfl, rfl⟩
theorem PS63 : PS Try.prog 63 61 12 [.string ⟨#[]⟩, .bool false, .int .i64 0, .int .i64 0, .int .i64 0, .int .i64 0, .string ⟨#[]⟩, .bool false, .int .i64 0, .int .i64 0, .slice none 0 0, .bool false] := ⟨by kernel_rfl, fun _ => by kernel_rfl, .agg #[.string ⟨#[]⟩, .bool false, .int .i64 0, .int .i64 0, .int .i64 0, .int .i64 0, .string ⟨#[]⟩, .bool false, .int .i64 0, .int .i64 0, .slice none 0 0, .bool false], fun _ => by kernel_rfl, rfl⟩
theorem TI2 : TI Try.prog 2 false 1 := ⟨fun _ => by kernel_rfl, fun _ => by kernel_rfl⟩
theorem TI22 : TI Try.prog 22 false 1 := ⟨fun _ => by kernel_rfl, fun _ => by kernel_rfl⟩
theorem TI24 : TI Try.prog 24 true 1 := ⟨fun _ => by kernel_rfl, fun _ => by kernel_rfl⟩
theorem TI3 : TI Try.prog 3 false 1 := ⟨fun _ => by kernel_rfl, fun _ => by kernel_rfl⟩
theorem TI30 : TI Try.prog 30 false 1 := ⟨fun _ => by kernel_rfl, fun _ => by kernel_rfl⟩
theorem TI31 : TI Try.prog 31 false 1 := ⟨fun _ => by kernel_rfl, fun _ => by kernel_rfl⟩
theorem TI35 : TI Try.prog 35 true 6 := ⟨fun _ => by kernel_rfl, fun _ => by kernel_rfl⟩
theorem TI37 : TI Try.prog 37 true 2 := ⟨fun _ => by kernel_rfl, fun _ => by kernel_rfl⟩
theorem TI4 : TI Try.prog 4 false 1 := ⟨fun _ => by kernel_rfl, fun _ => by kernel_rfl⟩
theorem TI48 : TI Try.prog 48 false 1 := ⟨fun _ => by kernel_rfl, fun _ => by kernel_rfl⟩
theorem TI50 : TI Try.prog 50 true 1 := ⟨fun _ => by kernel_rfl, fun _ => by kernel_rfl⟩
theorem TI58 : TI Try.prog 58 true 6 := ⟨fun _ => by kernel_rfl, fun _ => by kernel_rfl⟩
theorem TI59 : TI Try.prog 59 false 1 := ⟨fun _ => by kernel_rfl, fun _ => by kernel_rfl⟩
theorem TI61 : TI Try.prog 61 true 12 := ⟨fun _ => by kernel_rfl, fun _ => by kernel_rfl⟩
theorem TI63 : TI Try.prog 63 false 1 := ⟨fun _ => by kernel_rfl, fun _ => by kernel_rfl⟩
theorem TI65 : TI Try.prog 65 true 2 := ⟨fun _ => by kernel_rfl, fun _ => by kernel_rfl⟩
theorem TI68 : TI Try.prog 68 true 10 := ⟨fun _ => by kernel_rfl, fun _ => by kernel_rfl⟩
theorem TI72 : TI Try.prog 72 true 5 := ⟨fun _ => by kernel_rfl, fun _ => by kernel_rfl⟩
theorem TI75 : TI Try.prog 75 true 4 := ⟨fun _ => by kernel_rfl, fun _ => by kernel_rfl⟩
theorem TI77 : TI Try.prog 77 false 1 := ⟨fun _ => by kernel_rfl, fun _ => by kernel_rfl⟩
theorem TI78 : TI Try.prog 78 false 1 := ⟨fun _ => by kernel_rfl, fun _ => by kernel_rfl⟩
theorem TI9 : TI Try.prog 9 false 1 := ⟨fun _ => by kernel_rfl, fun _ => by kernel_rfl⟩
theorem UN100 : Try.prog.underlying 100 = some (.map 9 61) := by kernel_rfl
theorem UN22 : Try.prog.underlying 22 = some (.slice 35) := by kernel_rfl
theorem UN29 : Try.prog.underlying 29 = some (.slice 3) := by kernel_rfl
theorem UN3 : Try.prog.underlying 3 = some (.int .i64) := by kernel_rfl
theorem UN30 : Try.prog.underlying 30 = some (.slice 72) := by kernel_rfl
theorem UN31 : Try.prog.underlying 31 = some (.slice 68) := by kernel_rfl
theorem UN37 : Try.prog.underlying 37 = some (.array 2 3) := by kernel_rfl
theorem UN38 : Try.prog.underlying 38 = some (.slice 37) := by kernel_rfl
theorem UN4 : Try.prog.underlying 4 = some (.bool) := by kernel_rfl
theorem UN48 : Try.prog.underlying 48 = some (.slice 65) := by kernel_rfl
theorem UN59 : Try.prog.underlying 59 = some (.slice 9) := by kernel_rfl
theorem UN63 : Try.prog.underlying 63 = some (.slice 61) := by kernel_rfl
theorem UN77 : Try.prog.underlying 77 = some (.map 3 4) := by kernel_rfl
theorem UN78 : Try.prog.underlying 78 = some (.map 3 3) := by kernel_rfl
theorem UN87 : Try.prog.underlying 87 = some (.map 3 35) := by kernel_rfl
theorem UN9 : Try.prog.underlying 9 = some (.string) := by kernel_rfl
theorem UN91 : Try.prog.underlying 91 = some (.map 9 100) := by kernel_rfl
theorem ZA37 : ∀ w : World, (zeroValue 37).run Try.prog w = .ok (.agg ([.int .i64 0, .int .i64 0] : List Value).toArray) w := fun _ => by kernel_rfl
theorem ZR100 : ∀ w : World, (zeroValue 100).run Try.prog w = .ok (.map none) w := fun _ => by kernel_rfl
theorem ZR3 : ∀ w : World, (zeroValue 3).run Try.prog w = .ok (.int .i64 0) w := fun _ => by kernel_rfl
theorem ZR4 : ∀ w : World, (zeroValue 4).run Try.prog w = .ok (.bool false) w := fun _ => by kernel_rfl
theorem ZR61 : ∀ w : World, (zeroValue 61).run Try.prog w = .ok (.agg #[.string ⟨#[]⟩, .bool false, .int .i64 0, .int .i64 0, .int .i64 0, .int .i64 0, .string ⟨#[]⟩, .bool false, .int .i64 0, .int .i64 0, .slice none 0 0, .bool false]) w := fun _ => by kernel_rfl
theorem ZV24 : ZV Try.prog 24 [.slice none 0 0] := ⟨.agg #[.slice none 0 0], fun _ => by kernel_rfl, rfl⟩
theorem ZV35 : ZV Try.prog 35 [.int .i64 0, .int .i64 0, .slice none 0 0, .slice none 0 0, .int .i64 0, .int .i64 0] := ⟨.agg #[.int .i64 0, .int .i64 0, .slice none 0 0, .slice none 0 0, .int .i64 0, .int .i64 0], fun _ => by kernel_rfl, rfl⟩
theorem ZV37 : ZV Try.prog 37 [.int .i64 0, .int .i64 0] := ⟨.agg #[.int .i64 0, .int .i64 0], fun _ => by kernel_rfl, rfl⟩
theorem ZV50 : ZV Try.prog 50 [.slice none 0 0] := ⟨.agg #[.slice none 0 0], fun _ => by kernel_rfl, rfl⟩
theorem ZV58 : ZV Try.prog 58 [.bool false, .int .i64 0, .int .i64 0, .int .i64 0, .int .i64 0, .string ⟨#[]⟩] := ⟨.agg #[.bool false, .int .i64 0, .int .i64 0, .int .i64 0, .int .i64 0, .string ⟨#[]⟩], fun _ => by kernel_rfl, rfl⟩
theorem ZV61 : ZV Try.prog 61 [.string ⟨#[]⟩, .bool false, .int .i64 0, .int .i64 0, .int .i64 0, .int .i64 0, .string ⟨#[]⟩, .bool false, .int .i64 0, .int .i64 0, .slice none 0 0, .bool false] := ⟨.agg #[.string ⟨#[]⟩, .bool false, .int .i64 0, .int .i64 0, .int .i64 0, .int .i64 0, .string ⟨#[]⟩, .bool false, .int .i64 0, .int .i64 0, .slice none 0 0, .bool false], fun _ => by kernel_rfl, rfl⟩
theorem ZV65 : ZV Try.prog 65 [.string ⟨#[]⟩, .slice none 0 0] := ⟨.agg #[.string ⟨#[]⟩, .slice none 0 0], fun _ => by kernel_rfl, rfl⟩
theorem ZV68 : ZV Try.prog 68 [.string ⟨#[]⟩, .string ⟨#[]⟩, .bool false, .int .i64 0, .string ⟨#[]⟩, .bool false, .int .i64 0, .int .i64 0, .slice none 0 0, .bool false] := ⟨.agg #[.string ⟨#[]⟩, .string ⟨#[]⟩, .bool false, .int .i64 0, .string ⟨#[]⟩, .bool false, .int .i64 0, .int .i64 0, .slice none 0 0, .bool false], fun _ => by kernel_rfl, rfl⟩
theorem ZV72 : ZV Try.prog 72 [.int .i64 0, .string ⟨#[]⟩, .string ⟨#[]⟩, .int .i64 0, .string ⟨#[]⟩] := ⟨.agg #[.int .i64 0, .string ⟨#[]⟩, .string ⟨#[]⟩, .int .i64 0, .string ⟨#[]⟩], fun _ => by kernel_rfl, rfl⟩
theorem ZV75 : ZV Try.prog 75 [.int .i64 0, .int .i64 0, .int .i64 0, .slice none 0 0] := ⟨.agg #[.int .i64 0, .int .i64 0, .int .i64 0, .slice none 0 0], fun _ => by kernel_rfl, rfl⟩
theorem open_api_Effect {ok0 : Nat → Prop} {w0 : Base} {w : World} {Γ : List It} {Λ : List LObj} (hs : St ok0 w0 w Γ Λ) (i : Nat) {x : api_Effect} {cs : List Value} (hi : Γ[i]? = some (vl t_api_Effect x (.agg cs.toArray))) : cs = [.int .i64 x.Kind, bstr x.Object, bstr x.Field, .int .i64 x.N, bstr x.S] := by
  obtain ⟨ok, h⟩ := hs.get i hi
  have h := R_agg h rfl
  obtain ⟨_, _, rfl, rfl, ⟨_, _, rfl, rfl, ⟨_, _, rfl, rfl, ⟨_, _, rfl, rfl, rfl⟩⟩⟩⟩ := h
  exact rfl
theorem open_api_Update {ok0 : Nat → Prop} {w0 : Base} {w : World} {Γ : List It} {Λ : List LObj} (hs : St ok0 w0 w Γ Λ) (i : Nat) {x : api_Update} {cs : List Value} (hi : Γ[i]? = some (vl t_api_Update x (.agg cs.toArray))) : ∃ (a0 : Option Addr), ∃ (c1 : Nat), cs = [.int .i64 x.Client, .int .i64 x.Seq, .int .i64 x.Tag, .slice a0 x.Effects.length c1] := by
  obtain ⟨ok, h⟩ := hs.get i hi
  have h := R_agg h rfl
  obtain ⟨_, _, rfl, rfl, ⟨_, _, rfl, rfl, ⟨_, _, rfl, rfl, ⟨a0, c1, rfl, _, _⟩⟩⟩⟩ := h
  exact ⟨a0, c1, rfl⟩
theorem open_fold_Field {ok0 : Nat → Prop} {w0 : Base} {w : World} {Γ : List It} {Λ : List LObj} (hs : St ok0 w0 w Γ Λ) (i : Nat) {x : fold_Field} {cs : List Value} (hi : Γ[i]? = some (vl t_fold_Field x (.agg cs.toArray))) : ∃ (a0 : Option Addr), ∃ (c1 : Nat), cs = [bstr x.Name, .bool x.Register.Set, .int .i64 x.Register.Tag, .int .i64 x.Register.Client, .int .i64 x.Register.Seq, .int .i64 x.Register.N, bstr x.Register.S, .bool x.HasMax, .int .i64 x.Max, .int .i64 x.Sum, .slice a0 x.Elems.length c1, .bool x.Flag] := by
  obtain ⟨ok, h⟩ := hs.get i hi
  have h := R_agg h rfl
  obtain ⟨_, _, rfl, rfl, ⟨_, _, rfl, ⟨_, _, rfl, rfl, ⟨_, _, rfl, rfl, ⟨_, _, rfl, rfl, ⟨_, _, rfl, rfl, ⟨_, _, rfl, rfl, rfl⟩⟩⟩⟩⟩, ⟨_, _, rfl, rfl, ⟨_, _, rfl, rfl, ⟨_, _, rfl, rfl, ⟨_, _, rfl, ⟨a0, c1, rfl, _, _⟩, rfl⟩⟩⟩⟩⟩⟩ := h
  exact ⟨a0, c1, rfl⟩
theorem open_fold_Object {ok0 : Nat → Prop} {w0 : Base} {w : World} {Γ : List It} {Λ : List LObj} (hs : St ok0 w0 w Γ Λ) (i : Nat) {x : fold_Object} {cs : List Value} (hi : Γ[i]? = some (vl t_fold_Object x (.agg cs.toArray))) : ∃ (a0 : Option Addr), ∃ (c1 : Nat), cs = [bstr x.Name, .slice a0 x.Fields.length c1] := by
  obtain ⟨ok, h⟩ := hs.get i hi
  have h := R_agg h rfl
  obtain ⟨_, _, rfl, rfl, ⟨a0, c1, rfl, _, _⟩⟩ := h
  exact ⟨a0, c1, rfl⟩
theorem open_history_Operation {ok0 : Nat → Prop} {w0 : Base} {w : World} {Γ : List It} {Λ : List LObj} (hs : St ok0 w0 w Γ Λ) (i : Nat) {x : history_Operation} {cs : List Value} (hi : Γ[i]? = some (vl t_history_Operation x (.agg cs.toArray))) : ∃ (a0 : Option Addr), ∃ (c1 : Nat), ∃ (a2 : Option Addr), ∃ (c3 : Nat), cs = [.int .i64 x.Process, .int .i64 x.Kind, .slice a0 x.Effects.length c1, .slice a2 x.Result.length c3, .int .i64 x.Call, .int .i64 x.Return] := by
  obtain ⟨ok, h⟩ := hs.get i hi
  have h := R_agg h rfl
  obtain ⟨_, _, rfl, rfl, ⟨_, _, rfl, rfl, ⟨_, _, rfl, ⟨a0, c1, rfl, _, _⟩, ⟨_, _, rfl, ⟨a2, c3, rfl, _, _⟩, ⟨_, _, rfl, rfl, rfl⟩⟩⟩⟩⟩ := h
  exact ⟨a0, c1, a2, c3, rfl⟩
theorem open_history_Value {ok0 : Nat → Prop} {w0 : Base} {w : World} {Γ : List It} {Λ : List LObj} (hs : St ok0 w0 w Γ Λ) (i : Nat) {x : history_Value} {cs : List Value} (hi : Γ[i]? = some (vl t_history_Value x (.agg cs.toArray))) : ∃ (a0 : Option Addr), ∃ (c1 : Nat), cs = [bstr x.Object, bstr x.Field, .bool x.Set, .int .i64 x.N, bstr x.S, .bool x.HasMax, .int .i64 x.Max, .int .i64 x.Sum, .slice a0 x.Elems.length c1, .bool x.Flag] := by
  obtain ⟨ok, h⟩ := hs.get i hi
  have h := R_agg h rfl
  obtain ⟨_, _, rfl, rfl, ⟨_, _, rfl, rfl, ⟨_, _, rfl, rfl, ⟨_, _, rfl, rfl, ⟨_, _, rfl, rfl, ⟨_, _, rfl, rfl, ⟨_, _, rfl, rfl, ⟨_, _, rfl, rfl, ⟨_, _, rfl, ⟨a0, c1, rfl, _, _⟩, rfl⟩⟩⟩⟩⟩⟩⟩⟩⟩ := h
  exact ⟨a0, c1, rfl⟩
theorem EG72 : Try.prog.eqGuardType Try.prog.depth 72 = false := by kernel_rfl
theorem EQ72 (x y : api_Effect) (w : World) : (binOp .eql 72 (.agg ([.int .i64 x.Kind, bstr x.Object, bstr x.Field, .int .i64 x.N, bstr x.S] : List Value).toArray) (.agg ([.int .i64 y.Kind, bstr y.Object, bstr y.Field, .int .i64 y.N, bstr y.S] : List Value).toArray)).run Try.prog w = .ok (.bool (decide (x = y))) w :=
  eql_of (EqR.agg Try.underlying72 (by kernel_rfl) (EqL.cons (by decide) (u := .int .i64 x.Kind) (v := .int .i64 y.Kind) (fun _ => by kernel_rfl) (fun _ => by kernel_rfl) (EqR.int x.Kind y.Kind Try.underlying3) (EqL.cons (by decide) (u := bstr x.Object) (v := bstr y.Object) (fun _ => by kernel_rfl) (fun _ => by kernel_rfl) (EqR.str x.Object y.Object Try.underlying9) (EqL.cons (by decide) (u := bstr x.Field) (v := bstr y.Field) (fun _ => by kernel_rfl) (fun _ => by kernel_rfl) (EqR.str x.Field y.Field Try.underlying9) (EqL.cons (by decide) (u := .int .i64 x.N) (v := .int .i64 y.N) (fun _ => by kernel_rfl) (fun _ => by kernel_rfl) (EqR.int x.N y.N Try.underlying2) (EqL.cons (by decide) (u := bstr x.S) (v := bstr y.S) (fun _ => by kernel_rfl) (fun _ => by kernel_rfl) (EqR.str x.S y.S Try.underlying9) EqL.nil)))))) (by obtain ⟨p1, p2, p3, p4, p5⟩ := x; obtain ⟨q1, q2, q3, q4, q5⟩ := y; rw [Bool.eq_iff_iff]; simp [api_Effect.mk.injEq]) w
theorem NQ72 (x y : api_Effect) (w : World) : (binOp .neq 72 (.agg ([.int .i64 x.Kind, bstr x.Object, bstr x.Field, .int .i64 x.N, bstr x.S] : List Value).toArray) (.agg ([.int .i64 y.Kind, bstr y.Object, bstr y.Field, .int .i64 y.N, bstr y.S] : List Value).toArray)).run Try.prog w = .ok (.bool (!decide (x = y))) w :=
  neq_of (EqR.agg Try.underlying72 (by kernel_rfl) (EqL.cons (by decide) (u := .int .i64 x.Kind) (v := .int .i64 y.Kind) (fun _ => by kernel_rfl) (fun _ => by kernel_rfl) (EqR.int x.Kind y.Kind Try.underlying3) (EqL.cons (by decide) (u := bstr x.Object) (v := bstr y.Object) (fun _ => by kernel_rfl) (fun _ => by kernel_rfl) (EqR.str x.Object y.Object Try.underlying9) (EqL.cons (by decide) (u := bstr x.Field) (v := bstr y.Field) (fun _ => by kernel_rfl) (fun _ => by kernel_rfl) (EqR.str x.Field y.Field Try.underlying9) (EqL.cons (by decide) (u := .int .i64 x.N) (v := .int .i64 y.N) (fun _ => by kernel_rfl) (fun _ => by kernel_rfl) (EqR.int x.N y.N Try.underlying2) (EqL.cons (by decide) (u := bstr x.S) (v := bstr y.S) (fun _ => by kernel_rfl) (fun _ => by kernel_rfl) (EqR.str x.S y.S Try.underlying9) EqL.nil)))))) (by obtain ⟨p1, p2, p3, p4, p5⟩ := x; obtain ⟨q1, q2, q3, q4, q5⟩ := y; rw [Bool.eq_iff_iff]; simp [api_Effect.mk.injEq]) w

end Go.Proofs.Ytbbeobiampbddaa
