import Derived.Test.YtodebgfppmcjlaaProg
import Derived.Test.YtodebgfppmcjlaaFd
import Derived.Test.YtodebgfppmcjlaaLq
set_option linter.unusedVariables false
set_option linter.unusedSimpArgs false
namespace Go.Proofs.Ytodebgfppmcjlaa
open Go Go.RowKit Go.Proofs.YtodebgfppmcjlaaL
set_option maxRecDepth 20000
def t_api_Member : Ty api_Member := tIso (tPair (tInt .i64) (tInt .i64)) fun x : api_Member => (x.Server, x.Weight)
theorem F_api_Member_Server : Fld t_api_Member (tInt .i64) 0 api_Member.Server (fun x y => { x with Server := y }) := (Fld.iso (Fld.fst _ _) (fun _ => rfl) (fun _ _ => rfl))
theorem F_api_Member_Weight : Fld t_api_Member (tInt .i64) 1 api_Member.Weight (fun x y => { x with Weight := y }) := (Fld.iso (Fld.snd Fld.self) (fun _ => rfl) (fun _ _ => rfl))
def t_api_Rule : Ty api_Rule := tIso (tPair (tInt .i64) (tPair (tInt .i64) (tInt .i64))) fun x : api_Rule => (x.Kind, x.Columns, x.Faulty)
theorem F_api_Rule_Kind : Fld t_api_Rule (tInt .i64) 0 api_Rule.Kind (fun x y => { x with Kind := y }) := (Fld.iso (Fld.fst _ _) (fun _ => rfl) (fun _ _ => rfl))
theorem F_api_Rule_Columns : Fld t_api_Rule (tInt .i64) 1 api_Rule.Columns (fun x y => { x with Columns := y }) := (Fld.iso (Fld.snd (Fld.fst _ _)) (fun _ => rfl) (fun _ _ => rfl))
theorem F_api_Rule_Faulty : Fld t_api_Rule (tInt .i64) 2 api_Rule.Faulty (fun x y => { x with Faulty := y }) := (Fld.iso (Fld.snd (Fld.snd Fld.self)) (fun _ => rfl) (fun _ _ => rfl))
def t_api_View : Ty api_View := tIso (tPair (tSlice t_api_Member) t_api_Rule) fun x : api_View => (x.Members, x.Rule)
theorem F_api_View_Members : Fld t_api_View (tSlice t_api_Member) 0 api_View.Members (fun x y => { x with Members := y }) := (Fld.iso (Fld.fst _ _) (fun _ => rfl) (fun _ _ => rfl))
theorem F_api_View_Rule : Fld t_api_View t_api_Rule 1 api_View.Rule (fun x y => { x with Rule := y }) := (Fld.iso (Fld.snd Fld.self) (fun _ => rfl) (fun _ _ => rfl))
theorem EI3 : EI Try.prog 3 (.int .i64 0) 1 8 := ⟨by kernel_rfl, rfl, by decide⟩
theorem EI33 : EI Try.prog 33 (.slice none 0 0) 1 24 := ⟨by kernel_rfl, rfl, by decide⟩
theorem EI4 : EI Try.prog 4 (.bool false) 1 1 := ⟨by kernel_rfl, rfl, by decide⟩
theorem EI44 : EI Try.prog 44 (.agg #[.int .i64 0, .int .i64 0]) 2 16 := ⟨by kernel_rfl, rfl, by decide⟩
theorem EI57 : EI Try.prog 57 (.int .u64 0) 1 8 := ⟨by kernel_rfl, rfl, by decide⟩
theorem FA23_0 : FA Try.prog 23 0 0 := fun _ _ => by kernel_rfl
theorem FA23_1 : FA Try.prog 23 1 1 := fun _ _ => by kernel_rfl
theorem FA23_2 : FA Try.prog 23 2 2 := fun _ _ => by kernel_rfl
theorem FA26_0 : FA Try.prog 26 0 0 := fun _ _ => by kernel_rfl
theorem FA26_1 : FA Try.prog 26 1 1 := fun _ _ => by kernel_rfl
theorem FA44_0 : FA Try.prog 44 0 0 := fun _ _ => by kernel_rfl
theorem FA44_1 : FA Try.prog 44 1 1 := fun _ _ => by kernel_rfl
theorem FN11 : FN Try.prog 11 := fun _ _ => by kernel_rfl
theorem FN12 : FN Try.prog 12 := fun _ _ => by kernel_rfl
theorem FN13 : FN Try.prog 13 := fun _ _ => by kernel_rfl
theorem FN14 : FN Try.prog 14 := fun _ _ => by kernel_rfl
theorem FN15 : FN Try.prog 15 := fun _ _ => by kernel_rfl
theorem FN16 : FN Try.prog 16 := fun _ _ => by kernel_rfl
theorem FN17 : FN Try.prog 17 := fun _ _ => by kernel_rfl
theorem FN18 : FN Try.prog 18 := fun _ _ => by kernel_rfl
theorem FN19 : FN Try.prog 19 := fun _ _ => by kernel_rfl
theorem FN20 : FN Try.prog 20 := fun _ _ => by kernel_rfl
theorem FN21 : FN Try.prog 21 := fun _ _ => by kernel_rfl
theorem FN22 : FN Try.prog 22 := fun _ _ => by kernel_rfl
theorem FN23 : FN Try.prog 23 := fun _ _ => by kernel_rfl
theorem FN24 : FN Try.prog 24 := fun _ _ => by kernel_rfl
theorem FN25 : FN Try.prog 25 := fun _ _ => by kernel_rfl
theorem FN26 : FN Try.prog 26 := fun _ _ => by kernel_rfl
theorem FN27 : FN Try.prog 27 := fun _ _ => by kernel_rfl
theorem FN28 : FN Try.prog 28 := fun _ _ => by kernel_rfl
theorem FN29 : FN Try.prog 29 := fun _ _ => by kernel_rfl
theorem FN30 : FN Try.prog 30 := fun _ _ => by kernel_rfl
theorem FN31 : FN Try.prog 31 := fun _ _ => by kernel_rfl
theorem FN32 : FN Try.prog 32 := fun _ _ => by kernel_rfl
theorem FN33 : FN Try.prog 33 := fun _ _ => by kernel_rfl
theorem FN34 : FN Try.prog 34 := fun _ _ => by kernel_rfl
theorem FN35 : FN Try.prog 35 := fun _ _ => by kernel_rfl
theorem FN36 : FN Try.prog 36 := fun _ _ => by kernel_rfl
theorem FN38 : FN Try.prog 38 := fun _ _ => by kernel_rfl
theorem FN39 : FN Try.prog 39 := fun _ _ => by kernel_rfl
theorem FN40 : FN Try.prog 40 := fun _ _ => by kernel_rfl
theorem FN41 : FN Try.prog 41 := fun _ _ => by kernel_rfl
theorem FN42 : FN Try.prog 42 := fun _ _ => by kernel_rfl
theorem FN43 : FN Try.prog 43 := fun _ _ => by kernel_rfl
theorem FN44 : FN Try.prog 44 := fun _ _ => by kernel_rfl
theorem FN45 : FN Try.prog 45 := fun _ _ => by kernel_rfl
theorem FN46 : FN Try.prog 46 := fun _ _ => by kernel_rfl
theorem FN47 : FN Try.prog 47 := fun _ _ => by kernel_rfl
theorem FN48 : FN Try.prog 48 := fun _ _ => by kernel_rfl
theorem FN49 : FN Try.prog 49 := fun _ _ => by kernel_rfl
theorem FN52 : FN Try.prog 52 := fun _ _ => by kernel_rfl
theorem FN53 : FN Try.prog 53 := fun _ _ => by kernel_rfl
theorem FN65 : FN Try.prog 65 := fun _ _ => by kernel_rfl
theorem FN67 : FN Try.prog 67 := fun _ _ => by kernel_rfl
theorem PL23 : PL Try.prog 23 [(0, 1), (1, 1), (2, 1)] [.int .i64 0, .int .i64 0, .int .i64 0] := ⟨⟨_, Try.underlying23, fun _ => by kernel_rfl⟩, .agg #[.int .i64 0, .int .i64 0, .int .i64 0], fun _ => by kernel_rfl, rfl⟩
theorem PL26 : PL Try.prog 26 [(0, 1), (1, 3)] [.slice none 0 0, .int .i64 0, .int .i64 0, .int .i64 0] := ⟨⟨_, Try.underlying26, fun _ => by kernel_rfl⟩, .agg #[.slice none 0 0, .int .i64 0, .int .i64 0, .int .i64 0], fun _ => by kernel_rfl, rfl⟩
theorem PL44 : PL Try.prog 44 [(0, 1), (1, 1)] [.int .i64 0, .int .i64 0] := ⟨⟨_, Try.underlying44, fun _ => by kernel_rfl⟩, .agg #[.int .i64 0, .int .i64 0], fun _ => by kernel_rfl, rfl⟩
theorem PS24 : PS Try.prog 24 44 2 [.int .i64 0, .int .i64 0] := ⟨by kernel_rfl, fun _ => by kernel_rfl, .agg #[.int .i64 0, .int .i64 0], fun _ => by kernel_rfl, rfl⟩
theorem PS33 : PS Try.prog 33 3 1 [.int .i64 0] := ⟨by kernel_rfl, fun _ => by kernel_rfl, .int .i64 0, fun _ => by kernel_rfl, rfl⟩
theorem PS36 : PS Try.prog 36 33 1 [.slice none 0 0] := ⟨by kernel_rfl, fun _ => by kernel_rfl, .slice none 0 0, fun _ => by kernel_rfl, rfl⟩
theorem PS54 : PS Try.prog 54 57 1 [.int .u64 0] := ⟨by kernel_rfl, fun _ => by kernel_rfl, .int .u64 0, fun _ => by kernel_rfl, rfl⟩
theorem TI23 : TI Try.prog 23 true 3 := ⟨fun _ => by kernel_rfl, fun _ => by kernel_rfl⟩
theorem TI24 : TI Try.prog 24 false 1 := ⟨fun _ => by kernel_rfl, fun _ => by kernel_rfl⟩
theorem TI26 : TI Try.prog 26 true 4 := ⟨fun _ => by kernel_rfl, fun _ => by kernel_rfl⟩
theorem TI3 : TI Try.prog 3 false 1 := ⟨fun _ => by kernel_rfl, fun _ => by kernel_rfl⟩
theorem TI33 : TI Try.prog 33 false 1 := ⟨fun _ => by kernel_rfl, fun _ => by kernel_rfl⟩
theorem TI4 : TI Try.prog 4 false 1 := ⟨fun _ => by kernel_rfl, fun _ => by kernel_rfl⟩
theorem TI44 : TI Try.prog 44 true 2 := ⟨fun _ => by kernel_rfl, fun _ => by kernel_rfl⟩
theorem TI57 : TI Try.prog 57 false 1 := ⟨fun _ => by kernel_rfl, fun _ => by kernel_rfl⟩
theorem UN24 : Try.prog.underlying 24 = some (.slice 44) := by kernel_rfl
theorem UN3 : Try.prog.underlying 3 = some (.int .i64) := by kernel_rfl
theorem UN33 : Try.prog.underlying 33 = some (.slice 3) := by kernel_rfl
theorem UN36 : Try.prog.underlying 36 = some (.slice 33) := by kernel_rfl
theorem UN4 : Try.prog.underlying 4 = some (.bool) := by kernel_rfl
theorem UN5 : Try.prog.underlying 5 = some (.int .u8) := by kernel_rfl
theorem UN52 : Try.prog.underlying 52 = some (.slice 4) := by kernel_rfl
theorem UN54 : Try.prog.underlying 54 = some (.slice 57) := by kernel_rfl
theorem UN56 : Try.prog.underlying 56 = some (.int .u64) := by kernel_rfl
theorem UN57 : Try.prog.underlying 57 = some (.int .u64) := by kernel_rfl
theorem UN72 : Try.prog.underlying 72 = some (.map 57 4) := by kernel_rfl
theorem UN89 : Try.prog.underlying 89 = some (.int .u64) := by kernel_rfl
theorem UN9 : Try.prog.underlying 9 = some (.string) := by kernel_rfl
theorem ZR4 : ∀ w : World, (zeroValue 4).run Try.prog w = .ok (.bool false) w := fun _ => by kernel_rfl
theorem ZV23 : ZV Try.prog 23 [.int .i64 0, .int .i64 0, .int .i64 0] := ⟨.agg #[.int .i64 0, .int .i64 0, .int .i64 0], fun _ => by kernel_rfl, rfl⟩
theorem ZV26 : ZV Try.prog 26 [.slice none 0 0, .int .i64 0, .int .i64 0, .int .i64 0] := ⟨.agg #[.slice none 0 0, .int .i64 0, .int .i64 0, .int .i64 0], fun _ => by kernel_rfl, rfl⟩
theorem ZV44 : ZV Try.prog 44 [.int .i64 0, .int .i64 0] := ⟨.agg #[.int .i64 0, .int .i64 0], fun _ => by kernel_rfl, rfl⟩
theorem open_api_Rule {ok0 : Nat → Prop} {w0 : Base} {w : World} {Γ : List It} {Λ : List LObj} (hs : St ok0 w0 w Γ Λ) (i : Nat) {x : api_Rule} {cs : List Value} (hi : Γ[i]? = some (vl t_api_Rule x (.agg cs.toArray))) : cs = [.int .i64 x.Kind, .int .i64 x.Columns, .int .i64 x.Faulty] := by
  obtain ⟨ok, h⟩ := hs.get i hi
  have h := R_agg h rfl
  obtain ⟨_, _, rfl, rfl, ⟨_, _, rfl, rfl, rfl⟩⟩ := h
  exact rfl
theorem open_api_View {ok0 : Nat → Prop} {w0 : Base} {w : World} {Γ : List It} {Λ : List LObj} (hs : St ok0 w0 w Γ Λ) (i : Nat) {x : api_View} {cs : List Value} (hi : Γ[i]? = some (vl t_api_View x (.agg cs.toArray))) : ∃ (a0 : Option Addr), ∃ (c1 : Nat), cs = [.slice a0 x.Members.length c1, .int .i64 x.Rule.Kind, .int .i64 x.Rule.Columns, .int .i64 x.Rule.Faulty] := by
  obtain ⟨ok, h⟩ := hs.get i hi
  have h := R_agg h rfl
  obtain ⟨_, _, rfl, ⟨a0, c1, rfl, _, _⟩, ⟨_, _, rfl, rfl, ⟨_, _, rfl, rfl, rfl⟩⟩⟩ := h
  exact ⟨a0, c1, rfl⟩
end Go.Proofs.Ytodebgfppmcjlaa
