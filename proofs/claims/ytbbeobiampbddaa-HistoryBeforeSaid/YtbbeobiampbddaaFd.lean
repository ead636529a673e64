import Derived.Test.YtbbeobiampbddaaLqa
import Derived.Test.YtbbeobiampbddaaMb
set_option linter.unusedVariables false
set_option linter.unusedSimpArgs false
namespace Go.Proofs.Ytbbeobiampbddaa
open Go Go.RowKit Go.Proofs.YtbbeobiampbddaaL
structure api_Effect where
  Kind : Int
  Object : List UInt8
  Field : List UInt8
  N : Int
  S : List UInt8
  deriving DecidableEq
structure api_Update where
  Client : Int
  Seq : Int
  Tag : Int
  Effects : List api_Effect
  deriving DecidableEq
structure fold_Register where
  Set : Bool
  Tag : Int
  Client : Int
  Seq : Int
  N : Int
  S : List UInt8
  deriving DecidableEq
structure fold_Field where
  Name : List UInt8
  Register : fold_Register
  HasMax : Bool
  Max : Int
  Sum : Int
  Elems : List (List UInt8)
  Flag : Bool
  deriving DecidableEq
structure fold_Object where
  Name : List UInt8
  Fields : List fold_Field
  deriving DecidableEq
structure fold_Store where
  Objects : List fold_Object
  deriving DecidableEq
structure history_Value where
  Object : List UInt8
  Field : List UInt8
  Set : Bool
  N : Int
  S : List UInt8
  HasMax : Bool
  Max : Int
  Sum : Int
  Elems : List (List UInt8)
  Flag : Bool
  deriving DecidableEq
structure history_Operation where
  Process : Int
  Kind : Int
  Effects : List api_Effect
  Result : List history_Value
  Call : Int
  Return : Int
  deriving DecidableEq
structure history_validator where
  f_last : Int
  f_events : List (Int × Bool)
  f_returns : List (Int × Int)
  deriving DecidableEq
structure history_History where
  Operations : List history_Operation
  deriving DecidableEq
structure Anon37 where
  E0 : Int
  E1 : Int
  deriving DecidableEq
/-! cmp.isNaN[int]: function 78 -/
noncomputable def cmp_isNaN_int (x1 : Int) : Option Bool :=
  some (x1 != x1)
/-! cmp.Compare[int]: function 67 -/
noncomputable def cmp_Compare_int (x1 : Int) (x2 : Int) : Option Int :=
  ((cmp_isNaN_int x1).bind fun x5 =>
  ((cmp_isNaN_int x2).bind fun x7 =>
  (if x5 then (if x7 then some 0 else some (-1)) else (if x7 then some 1 else (if (decide (x1 < x2)) then some (-1) else (if (decide (x2 < x1)) then some 1 else some 0))))))
/-! cmp.Or[int]: function 66 -/
noncomputable def cmp_Or_int.j1   : Option Int :=
  some 0
noncomputable def cmp_Or_int.l1 (x1 : List Int) : Int → Option ((Int) ⊕ (Unit ⊕ Int)) := fun x12 =>
  (if (decide (x12 < (x1.length : Int))) then ((idx x1 x12).bind fun x19 =>
  (if (x19 != 0) then some (.inr (.inr x19)) else (letV (IntKind.i64.wrap (x12 + 1)) fun x25 =>
  some (.inl x25)))) else some (.inr (.inl ())))
noncomputable def cmp_Or_int (x1 : List Int) : Option Int :=
  ((loopO (cmp_Or_int.l1 x1) 0).bind fun b => match b with | .inl _ => cmp_Or_int.j1 | .inr x26 => some x26)
/-! elasticstore/fold.newer: function 57 -/
noncomputable def fold_newer.j1  (x14 : Bool) : Option Bool :=
  some x14
noncomputable def fold_newer (x1 : api_Update) (x5 : fold_Register) : Option Bool :=
  (if (!x5.Set) then fold_newer.j1 true else ((cmp_Compare_int x1.Tag x5.Tag).bind fun x84 =>
  ((cmp_Compare_int x1.Client x5.Client).bind fun x87 =>
  ((cmp_Compare_int x1.Seq x5.Seq).bind fun x90 =>
  ((cmp_Or_int [x84, x87, x90]).bind fun x93 =>
  fold_newer.j1 (decide (0 < x93)))))))
/-! slices.Clone[[]string,string]: function 50 -/
noncomputable def slices_Clone_string (x1 : List (List UInt8)) : Option (List (List UInt8)) :=
  ((app 16 [] x1).bind fun x11 =>
  some x11)
abbrev fold_B := List (List UInt8 × List fold_Field)
abbrev fold_F := List (List UInt8 × List (List UInt8 × fold_Field))
def fold_zero : fold_Field := ⟨[], ⟨false, 0, 0, 0, 0, []⟩, false, 0, 0, [], false⟩
noncomputable def fold_upd (u : api_Update) (e : api_Effect) (f : fold_Field) : Option fold_Field :=
  if e.Kind == 1 then ((fold_newer u f.Register).bind fun b => if b then some { f with Register := ⟨true, u.Tag, u.Client, u.Seq, e.N, e.S⟩ } else some f) else
  if e.Kind == 2 then (if (!f.HasMax) then some { f with HasMax := true, Max := e.N } else if decide (f.Max < e.N) then some { f with HasMax := true, Max := e.N } else some f) else
  if e.Kind == 3 then some { f with Sum := IntKind.i64.wrap (f.Sum + e.N) } else
  if e.Kind == 4 then ((insO f.Elems e.S).bind fun l => some { f with Elems := l }) else
  if e.Kind == 5 then some { f with Flag := true } else some f
def fold_with (x : fold_B) (k : List UInt8) : fold_B := if (x.lookup k).isNone then x ++ [(k, [])] else x
def fold_at (x : fold_B) (k f : List UInt8) : fold_Field := (((x.lookup k).getD []).find? fun q => f == q.Name).getD fold_zero
def fold_set (x : fold_B) (k : List UInt8) (y : fold_Field) : fold_B := mset x k (fput fold_Field.Name y ((x.lookup k).getD []))
noncomputable def fold_eff (u : api_Update) (x : fold_B) (e : api_Effect) : Option fold_B :=
  (fold_upd u e { fold_at (fold_with x e.Object) e.Object e.Field with Name := e.Field }).bind fun f => some (fold_set (fold_with x e.Object) e.Object f)
noncomputable def fold_apply.l1 (u : api_Update) : (Int × fold_B) → Option ((Int × fold_B) ⊕ fold_B) := fun (i, x) =>
  if decide (i < (u.Effects.length : Int)) then ((idx u.Effects i).bind fun e => (fold_eff u x e).bind fun x' => letV (IntKind.i64.wrap (i + 1)) fun j => some (.inl (j, x'))) else some (.inr x)
noncomputable def fold_apply (u : api_Update) (x : fold_B) : Option fold_B := loopO (fold_apply.l1 u) (0, x)
noncomputable def fold_load.l1 (o : fold_Object) : (Int × List fold_Field) → Option ((Int × List fold_Field) ⊕ List fold_Field) := fun (i, fs) =>
  if decide (i < (o.Fields.length : Int)) then ((idx o.Fields i).bind fun f => (slices_Clone_string f.Elems).bind fun l => letV (IntKind.i64.wrap (i + 1)) fun j => some (.inl (j, fput fold_Field.Name { f with Elems := l } fs))) else some (.inr fs)
noncomputable def fold_load.l2 (t : fold_Store) : (Int × fold_B) → Option ((Int × fold_B) ⊕ fold_B) := fun (i, x) =>
  if decide (i < (t.Objects.length : Int)) then ((idx t.Objects i).bind fun o => (loopO (fold_load.l1 o) (0, [])).bind fun fs => letV (IntKind.i64.wrap (i + 1)) fun j => some (.inl (j, mset x o.Name fs))) else some (.inr x)
noncomputable def fold_load (t : fold_Store) : Option fold_B := loopO (fold_load.l2 t) (0, [])
def fold_frz (x : fold_B) : fold_F := x.map fun o => (o.1, o.2.map fun y => (y.Name, y))
noncomputable def fold_store.l1 (m : List (List UInt8 × fold_Field)) (ns : List (List UInt8)) : (Int × List fold_Field) → Option ((Int × List fold_Field) ⊕ List fold_Field) := fun (i, out) =>
  if decide (i < (ns.length : Int)) then ((idx ns i).bind fun n => (app 128 out [(m.lookup n).getD fold_zero]).bind fun out' => letV (IntKind.i64.wrap (i + 1)) fun j => some (.inl (j, out'))) else some (.inr out)
noncomputable def fold_store.l2 (x : fold_F) (ns : List (List UInt8)) : (Int × List fold_Object) → Option ((Int × List fold_Object) ⊕ List fold_Object) := fun (i, out) =>
  if decide (i < (ns.length : Int)) then ((idx ns i).bind fun n => (skeys ((x.lookup n).getD [])).bind fun fs => (loopO (fold_store.l1 ((x.lookup n).getD []) fs) (0, [])).bind fun l => (app 40 out [⟨n, l⟩]).bind fun out' => letV (IntKind.i64.wrap (i + 1)) fun j => some (.inl (j, out'))) else some (.inr out)
noncomputable def fold_store (x : fold_F) : Option fold_Store := (skeys x).bind fun ns => (loopO (fold_store.l2 x ns) (0, [])).bind fun l => some ⟨l⟩

/-! elasticstore/fold.Apply: function 35 -/
noncomputable def fold_Apply (x1 : fold_Store) (x2 : api_Update) : Option fold_Store := (fold_load x1).bind fun b => (fold_apply x2 b).bind fun b' => fold_store (fold_frz b')

/-! elasticstore/history.Visible: function 30 -/
noncomputable def history_Visible.j1  (x10 : List history_Value) : Option (List history_Value) :=
  some x10
noncomputable def history_Visible.j2 (x25 : Int) (x32 : List history_Value) : Option (((List history_Value) × Int) ⊕ (List history_Value)) :=
  (letV (IntKind.i64.wrap (x25 + 1)) fun x37 =>
  some (.inl (x32, x37)))
noncomputable def history_Visible.l1 (x39 : fold_Object) : ((List history_Value) × Int) → Option (((List history_Value) × Int) ⊕ (List history_Value)) := fun (x50, x54) =>
  (if (decide (x54 < ((x39.Fields).length : Int))) then ((idx x39.Fields x54).bind fun x61 =>
  ((slices_Clone_string x61.Elems).bind fun x83 =>
  ((app 120 x50 [(⟨x39.Name, x61.Name, x61.Register.Set, x61.Register.N, x61.Register.S, x61.HasMax, x61.Max, x61.Sum, x83, x61.Flag⟩ : history_Value)]).bind fun x152 =>
  (letV (IntKind.i64.wrap (x54 + 1)) fun x157 =>
  some (.inl (x152, x157)))))) else some (.inr x50))
noncomputable def history_Visible.l2 (x1 : fold_Store) : ((List history_Value) × Int) → Option (((List history_Value) × Int) ⊕ (List history_Value)) := fun (x21, x25) =>
  (if (decide (x25 < ((x1.Objects).length : Int))) then ((idx x1.Objects x25).bind fun x39 =>
  ((loopO (history_Visible.l1 x39) (x21, 0)).bind fun x158 => history_Visible.j2 x25 x158)) else some (.inr x21))
noncomputable def history_Visible (x1 : fold_Store) : Option (List history_Value) :=
  ((loopO (history_Visible.l2 x1) ([], 0)).bind fun x159 => history_Visible.j1 x159)
/-! elasticstore/update.empty: function 84 -/
noncomputable def update_empty (x1 : List UInt8) : Option Bool := some (decide (x1 = []))
/-! elasticstore/update.ValidateEffect: function 76 -/
noncomputable def update_ValidateEffect.j1  (x32 : Bool) : Option Int :=
  (if x32 then some 2 else some 0)
noncomputable def update_ValidateEffect.j2 (x1 : api_Effect)  : Option Int :=
  (if (x1.S != ([] : List UInt8)) then (if (x1.Kind != 1) then update_ValidateEffect.j1 (x1.Kind != 4) else update_ValidateEffect.j1 false) else update_ValidateEffect.j1 false)
noncomputable def update_ValidateEffect.j3 (x1 : api_Effect) (x48 : Bool) : Option Int :=
  (if x48 then some 9 else update_ValidateEffect.j2 x1)
noncomputable def update_ValidateEffect.j4 (x1 : api_Effect) (x57 : Bool) : Option Int :=
  (if x57 then (if (x1.N != 0) then some 9 else update_ValidateEffect.j2 x1) else update_ValidateEffect.j2 x1)
noncomputable def update_ValidateEffect.j5 (x1 : api_Effect) (x22 : Bool) : Option Int :=
  (if x22 then some 3 else (if (x1.Kind == 3) then (if (decide (x1.N < (-1000000))) then update_ValidateEffect.j3 x1 true else update_ValidateEffect.j3 x1 (decide (1000000 < x1.N))) else (if (x1.Kind == 4) then update_ValidateEffect.j4 x1 true else update_ValidateEffect.j4 x1 (x1.Kind == 5))))
noncomputable def update_ValidateEffect.j6 (x1 : api_Effect) (x16 : Bool) : Option Int :=
  (if x16 then some 2 else (if (decide (16 < ((x1.Object).length : Int))) then update_ValidateEffect.j5 x1 true else (if (decide (16 < ((x1.Field).length : Int))) then update_ValidateEffect.j5 x1 true else update_ValidateEffect.j5 x1 (decide (32 < ((x1.S).length : Int))))))
noncomputable def update_ValidateEffect.j7 (x1 : api_Effect) (x10 : Bool) : Option Int :=
  (if x10 then some 10 else ((update_empty x1.Object).bind fun x72 =>
  (if x72 then update_ValidateEffect.j6 x1 true else ((update_empty x1.Field).bind fun x75 =>
  update_ValidateEffect.j6 x1 x75))))
noncomputable def update_ValidateEffect (x1 : api_Effect) : Option Int :=
  (if (decide (x1.Kind < 1)) then update_ValidateEffect.j7 x1 true else update_ValidateEffect.j7 x1 (decide (5 < x1.Kind)))
/-! slices.IndexFunc[[]elasticstore/api.Effect,elasticstore/api.Effect]: function 98 -/
noncomputable def slices_IndexFunc_Effect.j1   : Option Int :=
  some (-1)
noncomputable def slices_IndexFunc_Effect.l1 (x1 : List api_Effect) (x4 : api_Effect → Option Bool) : Int → Option ((Int) ⊕ (Unit ⊕ Int)) := fun x13 =>
  (if (decide (x13 < (x1.length : Int))) then ((idx x1 x13).bind fun x21 =>
  ((x4 x21).bind fun x26 =>
  (if x26 then some (.inr (.inr x13)) else (letV (IntKind.i64.wrap (x13 + 1)) fun x29 =>
  some (.inl x29))))) else some (.inr (.inl ())))
noncomputable def slices_IndexFunc_Effect (x1 : List api_Effect) (x4 : api_Effect → Option Bool) : Option Int :=
  ((loopO (slices_IndexFunc_Effect.l1 x1 x4) 0).bind fun b => match b with | .inl _ => slices_IndexFunc_Effect.j1 | .inr x30 => some x30)
/-! slices.ContainsFunc[[]elasticstore/api.Effect,elasticstore/api.Effect]: function 85 -/
noncomputable def slices_ContainsFunc_Effect (x1 : List api_Effect) (x4 : api_Effect → Option Bool) : Option Bool :=
  ((slices_IndexFunc_Effect x1 x4).bind fun x8 =>
  some (decide (0 ≤ x8)))
/-! elasticstore/update.Commutes$1: function 86 -/
noncomputable def update_Commutes_1 (x1 : api_Effect) : Option Bool :=
  some (x1.Kind == 1)
/-! elasticstore/update.Commutes: function 77 -/
noncomputable def update_Commutes (x1 : api_Update) : Option Bool :=
  ((slices_ContainsFunc_Effect x1.Effects (fun p : api_Effect => update_Commutes_1 p)).bind fun x11 =>
  some (!x11))
/-! elasticstore/update.Validate: function 63 -/
noncomputable def update_Validate.j1  (x40 : Bool) : Option Int :=
  (if x40 then some 2 else some 0)
noncomputable def update_Validate.j2 (x1 : api_Update)  : Option Int :=
  ((update_Commutes x1).bind fun x37 =>
  (if x37 then (if (x1.Tag != 0) then update_Validate.j1 true else (if (!x37) then update_Validate.j1 (decide (1 < ((x1.Effects).length : Int))) else update_Validate.j1 false)) else (if (!x37) then update_Validate.j1 (decide (1 < ((x1.Effects).length : Int))) else update_Validate.j1 false)))
noncomputable def update_Validate.l1 (x1 : api_Update) : Int → Option ((Int) ⊕ (Unit ⊕ Int)) := fun x61 =>
  (if (decide (x61 < ((x1.Effects).length : Int))) then ((idx x1.Effects x61).bind fun x68 =>
  ((update_ValidateEffect x68).bind fun x75 =>
  (if (x75 != 0) then some (.inr (.inr x75)) else (letV (IntKind.i64.wrap (x61 + 1)) fun x79 =>
  some (.inl x79))))) else some (.inr (.inl ())))
noncomputable def update_Validate.j3 (x1 : api_Update) (x16 : Bool) : Option Int :=
  (if x16 then some 9 else (if (((x1.Effects).length : Int) == 0) then some 2 else (if (decide (4 < ((x1.Effects).length : Int))) then some 3 else ((loopO (update_Validate.l1 x1) 0).bind fun b => match b with | .inl _ => update_Validate.j2 x1 | .inr x80 => some x80))))
noncomputable def update_Validate.j4 (x1 : api_Update) (x10 : Bool) : Option Int :=
  (if x10 then some 9 else (if (decide (x1.Seq < 1)) then update_Validate.j3 x1 true else (if (decide (8 < x1.Seq)) then update_Validate.j3 x1 true else (if (decide (x1.Tag < 0)) then update_Validate.j3 x1 true else update_Validate.j3 x1 (decide (1000 < x1.Tag))))))
noncomputable def update_Validate (x1 : api_Update) : Option Int :=
  (if (decide (x1.Client < 101)) then update_Validate.j4 x1 true else update_Validate.j4 x1 (decide (107 ≤ x1.Client)))
/-! elasticstore/history.contents: function 52 -/
noncomputable def history_contents.j1  (x19 : Bool) : Option Int :=
  (if x19 then some 2 else some 0)
noncomputable def history_contents.j2  (x32 : Bool) : Option Int :=
  (if x32 then some 2 else some 0)
noncomputable def history_contents (x1 : history_Operation) : Option Int :=
  (if (x1.Kind == 1) then (if (decide (0 < ((x1.Result).length : Int))) then history_contents.j1 true else ((update_Validate (⟨101, 1, 0, x1.Effects⟩ : api_Update)).bind fun x28 =>
  history_contents.j1 (x28 != 0))) else (if (decide (0 < ((x1.Effects).length : Int))) then history_contents.j2 true else (if (x1.Return == 0) then history_contents.j2 (decide (0 < ((x1.Result).length : Int))) else history_contents.j2 false)))
/-! (*elasticstore/history.validator).operation: function 36 -/
noncomputable def history_validator_operation.j1 (x1 : history_validator) (x5 : history_Operation) (x57 : Bool) : Option (Int × history_validator) :=
  (if x57 then some (5, (⟨x1.f_last, x1.f_events, x1.f_returns⟩ : history_validator)) else (letV ((List.lookup x5.Process x1.f_returns).getD 0) fun x63 =>
  (if (decide (x5.Call < x63)) then some (17, (⟨x1.f_last, x1.f_events, x1.f_returns⟩ : history_validator)) else some (0, (⟨x1.f_last, x1.f_events, x1.f_returns⟩ : history_validator)))))
noncomputable def history_validator_operation.j2 (x1 : history_validator) (x5 : history_Operation) (x26 : Bool) : Option (Int × history_validator) :=
  (if x26 then some (9, (⟨x1.f_last, x1.f_events, x1.f_returns⟩ : history_validator)) else (if (decide (x5.Call ≤ x1.f_last)) then some (7, (⟨x1.f_last, x1.f_events, x1.f_returns⟩ : history_validator)) else ((history_contents x5).bind fun x50 =>
  (if (x50 != 0) then some (x50, (⟨x1.f_last, x1.f_events, x1.f_returns⟩ : history_validator)) else (letV ((List.lookup x5.Call x1.f_events).getD false) fun x90 =>
  (if x90 then history_validator_operation.j1 x1 x5 true else (if (x5.Return != 0) then (letV ((List.lookup x5.Return x1.f_events).getD false) fun x150 =>
  history_validator_operation.j1 x1 x5 x150) else history_validator_operation.j1 x1 x5 false)))))))
noncomputable def history_validator_operation.j3 (x1 : history_validator) (x5 : history_Operation) (x20 : Bool) : Option (Int × history_validator) :=
  (if x20 then some (10, (⟨x1.f_last, x1.f_events, x1.f_returns⟩ : history_validator)) else (if (decide (x5.Call < 1)) then history_validator_operation.j2 x1 x5 true else (if (x5.Return != 0) then history_validator_operation.j2 x1 x5 (decide (x5.Return ≤ x5.Call)) else history_validator_operation.j2 x1 x5 false)))
noncomputable def history_validator_operation.j4 (x1 : history_validator) (x5 : history_Operation) (x14 : Bool) : Option (Int × history_validator) :=
  (if x14 then some (9, (⟨x1.f_last, x1.f_events, x1.f_returns⟩ : history_validator)) else (if (decide (x5.Kind < 1)) then history_validator_operation.j3 x1 x5 true else history_validator_operation.j3 x1 x5 (decide (3 < x5.Kind))))
noncomputable def history_validator_operation (x1 : history_validator) (x5 : history_Operation) : Option (Int × history_validator) :=
  (if (decide (x5.Process < 101)) then history_validator_operation.j4 x1 x5 true else history_validator_operation.j4 x1 x5 (decide (107 ≤ x5.Process)))
/-! elasticstore/history.Validate: function 11 -/
noncomputable def history_Validate.j1   : Option Int :=
  some 0
noncomputable def history_Validate.j2 (x20 : Int) (x32 : history_Operation) (x41 : history_validator) (x64 : List (Int × Bool)) : Option ((Int × Int × (List (Int × Bool)) × (List (Int × Int))) ⊕ (Unit ⊕ Int)) :=
  (letV ((List.lookup x32.Process x41.f_returns).getD 0) fun x69 =>
  (letV (mset x41.f_returns x32.Process (maxI x69 x32.Return)) fun x102 =>
  (letV (IntKind.i64.wrap (x20 + 1)) fun x103 =>
  some (.inl (x103, x32.Call, x64, x102)))))
noncomputable def history_Validate.l1 (x1 : history_History) : (Int × Int × (List (Int × Bool)) × (List (Int × Int))) → Option ((Int × Int × (List (Int × Bool)) × (List (Int × Int))) ⊕ (Unit ⊕ Int)) := fun (x20, x21, x22, x24) =>
  (if (decide (x20 < ((x1.Operations).length : Int))) then ((idx x1.Operations x20).bind fun x32 =>
  ((history_validator_operation (⟨x21, x22, x24⟩ : history_validator) x32).bind fun (x40, x41) =>
  (if (x40 != 0) then some (.inr (.inr x40)) else (letV (mset x41.f_events x32.Call true) fun x62 =>
  (if (x32.Return != 0) then (letV (mset x62 x32.Return true) fun x119 =>
  history_Validate.j2 x20 x32 x41 x119) else history_Validate.j2 x20 x32 x41 x62))))) else some (.inr (.inl ())))
noncomputable def history_Validate (x1 : history_History) : Option Int :=
  ((loopO (history_Validate.l1 x1) (0, 0, ([] : List (Int × Bool)), ([] : List (Int × Int)))).bind fun b => match b with | .inl _ => history_Validate.j1 | .inr x120 => some x120)
/-! elasticstore/history.inRange: function 41 -/
noncomputable def history_inRange.j1  (x10 : Bool) : Option Bool :=
  some x10
noncomputable def history_inRange (x1 : history_History) (x5 : Int) : Option Bool :=
  (if (decide (0 ≤ x5)) then history_inRange.j1 (decide (x5 < ((x1.Operations).length : Int))) else history_inRange.j1 false)
/-! elasticstore/history.precedes: function 42 -/
noncomputable def history_precedes.j1  (x14 : Bool) : Option Bool :=
  some x14
noncomputable def history_precedes (x1 : history_Operation) (x5 : history_Operation) : Option Bool :=
  (if (x1.Return != 0) then history_precedes.j1 (decide (x1.Return < x5.Call)) else history_precedes.j1 false)
/-! elasticstore/history.Precedes: function 15 -/
noncomputable def history_Precedes.j1  (x11 : Bool) : Option Bool :=
  some x11
noncomputable def history_Precedes (x1 : history_History) (x5 : Int) (x6 : Int) : Option Bool :=
  ((history_inRange x1 x5).bind fun x13 =>
  (if x13 then ((history_inRange x1 x6).bind fun x15 =>
  (if x15 then ((idx x1.Operations x5).bind fun x20 =>
  ((idx x1.Operations x6).bind fun x28 =>
  ((history_precedes x20 x28).bind fun x33 =>
  history_Precedes.j1 x33))) else history_Precedes.j1 false)) else history_Precedes.j1 false))
/-! elasticstore/history.Concurrent: function 17 -/
noncomputable def history_Concurrent.j1  (x11 : Bool) : Option Bool :=
  some x11
noncomputable def history_Concurrent (x1 : history_History) (x5 : Int) (x6 : Int) : Option Bool :=
  ((history_inRange x1 x5).bind fun x13 =>
  (if x13 then ((history_inRange x1 x6).bind fun x15 =>
  (if x15 then (if (x5 != x6) then ((history_Precedes x1 x5 x6).bind fun x18 =>
  (if (!x18) then ((history_Precedes x1 x6 x5).bind fun x20 =>
  history_Concurrent.j1 (!x20)) else history_Concurrent.j1 false)) else history_Concurrent.j1 false) else history_Concurrent.j1 false)) else history_Concurrent.j1 false))
/-! elasticstore/history.Width: function 22 -/
noncomputable def history_Width.j1  (x12 : List (Int × history_Operation)) (x14 : Int) : Option Int :=
  some x14
noncomputable def history_Width.j2 (x26 : Int) (x32 : List (Int × history_Operation)) (x34 : Int) (x35 : Int) (x36 : Bool) : Option (((List (Int × history_Operation)) × Int × Int × Bool × Int) ⊕ ((List (Int × history_Operation)) × Int)) :=
  (letV (IntKind.i64.wrap (x26 + 1)) fun x38 =>
  some (.inl (x32, x34, x35, x36, x38)))
noncomputable def history_Width.j3 (x23 : Int) (x26 : Int) (x55 : List (Int × history_Operation)) (x58 : Int) (x59 : Bool) : Option (((List (Int × history_Operation)) × Int × Int × Bool × Int) ⊕ ((List (Int × history_Operation)) × Int)) :=
  history_Width.j2 x26 x55 (maxI x23 (x55.length : Int)) x58 x59
noncomputable def history_Width.j4 (x23 : Int) (x24 : Int) (x25 : Bool) (x26 : Int) (x40 : history_Operation) (x51 : List (Int × history_Operation)) : Option (((List (Int × history_Operation)) × Int × Int × Bool × Int) ⊕ ((List (Int × history_Operation)) × Int)) :=
  (letV (mset x51 x26 x40) fun x55 =>
  (if x25 then history_Width.j3 x23 x26 x55 (maxI x24 x40.Return) true else history_Width.j3 x23 x26 x55 (maxI x24 x40.Return) (x40.Return == 0)))
noncomputable def history_Width.l1 (x40 : history_Operation) (x122 : Int) (x123 : history_Operation) : List (Int × history_Operation) → Option ((List (Int × history_Operation)) ⊕ (Unit)) := fun x119 =>
  ((history_precedes x123 x40).bind fun x134 =>
  (if x134 then (letV (mdel x119 x122) fun x136 =>
  some (.inl x136)) else some (.inl x119)))
noncomputable def history_Width.j5 (x23 : Int) (x24 : Int) (x25 : Bool) (x26 : Int) (x40 : history_Operation) (x47 : List (Int × history_Operation)) : Option (((List (Int × history_Operation)) × Int × Int × Bool × Int) ⊕ ((List (Int × history_Operation)) × Int)) :=
  (permO x47 fun t118 =>
  ((foldO (fun p : Int × history_Operation => history_Width.l1 x40 p.1 p.2) t118 x47).bind fun b => match b with | .inl x119 => history_Width.j4 x23 x24 x25 x26 x40 x119 | .inr _ => none))
noncomputable def history_Width.j6 (x21 : List (Int × history_Operation)) (x23 : Int) (x24 : Int) (x25 : Bool) (x26 : Int) (x40 : history_Operation) (x139 : Bool) : Option (((List (Int × history_Operation)) × Int × Int × Bool × Int) ⊕ ((List (Int × history_Operation)) × Int)) :=
  (if x139 then history_Width.j5 x23 x24 x25 x26 x40 ([] : List (Int × history_Operation)) else history_Width.j5 x23 x24 x25 x26 x40 x21)
noncomputable def history_Width.l2 (x1 : history_History) : ((List (Int × history_Operation)) × Int × Int × Bool × Int) → Option (((List (Int × history_Operation)) × Int × Int × Bool × Int) ⊕ ((List (Int × history_Operation)) × Int)) := fun (x21, x23, x24, x25, x26) =>
  (if (decide (x26 < ((x1.Operations).length : Int))) then ((idx x1.Operations x26).bind fun x40 =>
  (if (!x25) then history_Width.j6 x21 x23 x24 x25 x26 x40 (decide (x24 < x40.Call)) else history_Width.j6 x21 x23 x24 x25 x26 x40 false)) else some (.inr (x21, x23)))
noncomputable def history_Width (x1 : history_History) : Option Int :=
  ((loopO (history_Width.l2 x1) (([] : List (Int × history_Operation)), 0, 0, false, 0)).bind fun (x144, x145) => history_Width.j1 x144 x145)
/-! elasticstore/history.Of: function 24 -/
noncomputable def history_Of.j1  (x11 : List Int) : Option (List Int) :=
  some x11
noncomputable def history_Of.j2 (x26 : Int) (x33 : List Int) : Option (((List Int) × Int) ⊕ (List Int)) :=
  (letV (IntKind.i64.wrap (x26 + 1)) fun x38 =>
  some (.inl (x33, x38)))
noncomputable def history_Of.l1 (x1 : history_History) (x5 : Int) : ((List Int) × Int) → Option (((List Int) × Int) ⊕ (List Int)) := fun (x22, x26) =>
  (if (decide (x26 < ((x1.Operations).length : Int))) then ((idx x1.Operations x26).bind fun x40 =>
  (if (x40.Process == x5) then ((app 8 x22 [x26]).bind fun x50 =>
  history_Of.j2 x26 x50) else history_Of.j2 x26 x22)) else some (.inr x22))
noncomputable def history_Of (x1 : history_History) (x5 : Int) : Option (List Int) :=
  ((loopO (history_Of.l1 x1 x5) ([], 0)).bind fun x55 => history_Of.j1 x55)
/-! slices.Clone[[]elasticstore/api.Effect,elasticstore/api.Effect]: function 43 -/
noncomputable def slices_Clone_Effect (x1 : List api_Effect) : Option (List api_Effect) :=
  ((app 64 [] x1).bind fun x11 =>
  some x11)
/-! elasticstore/history.cloneValues: function 44 -/
noncomputable def history_cloneValues.j1  (x8 : List history_Value) : Option (List history_Value) :=
  some x8
noncomputable def history_cloneValues.l1 (x1 : List history_Value) : ((List history_Value) × Int) → Option (((List history_Value) × Int) ⊕ (List history_Value)) := fun (x16, x20) =>
  (if (decide (x20 < (x1.length : Int))) then ((idx x1 x20).bind fun x27 =>
  ((slices_Clone_string x27.Elems).bind fun x36 =>
  ((app 120 x16 [(⟨x27.Object, x27.Field, x27.Set, x27.N, x27.S, x27.HasMax, x27.Max, x27.Sum, x36, x27.Flag⟩ : history_Value)]).bind fun x41 =>
  (letV (IntKind.i64.wrap (x20 + 1)) fun x46 =>
  some (.inl (x41, x46)))))) else some (.inr x16))
noncomputable def history_cloneValues (x1 : List history_Value) : Option (List history_Value) :=
  ((loopO (history_cloneValues.l1 x1) ([], 0)).bind fun x47 => history_cloneValues.j1 x47)
/-! elasticstore/history.Before: function 19 -/
noncomputable def history_Before.j1  (x13 : List history_Operation) : Option history_History :=
  some (⟨x13⟩ : history_History)
noncomputable def history_Before.j2 (x24 : Int) (x35 : List history_Operation) : Option ((Int × (List history_Operation)) ⊕ (List history_Operation)) :=
  (letV (IntKind.i64.wrap (x24 + 1)) fun x40 =>
  some (.inl (x40, x35)))
noncomputable def history_Before.j3 (x24 : Int) (x25 : List history_Operation) (x42 : history_Operation) (x56 : List api_Effect) (x62 : Int) (x66 : List history_Value) : Option ((Int × (List history_Operation)) ⊕ (List history_Operation)) :=
  ((history_cloneValues x66).bind fun x71 =>
  ((app 80 x25 [(⟨x42.Process, x42.Kind, x56, x71, x42.Call, x62⟩ : history_Operation)]).bind fun x76 =>
  history_Before.j2 x24 x76))
noncomputable def history_Before.j4 (x24 : Int) (x25 : List history_Operation) (x42 : history_Operation) (x56 : List api_Effect) (x62 : Int) : Option ((Int × (List history_Operation)) ⊕ (List history_Operation)) :=
  (if (x62 == 0) then history_Before.j3 x24 x25 x42 x56 x62 [] else history_Before.j3 x24 x25 x42 x56 x62 x42.Result)
noncomputable def history_Before.l1 (x1 : history_History) (x5 : Int) : (Int × (List history_Operation)) → Option ((Int × (List history_Operation)) ⊕ (List history_Operation)) := fun (x24, x25) =>
  (if (decide (x24 < ((x1.Operations).length : Int))) then ((idx x1.Operations x24).bind fun x42 =>
  (if (decide (x5 ≤ x42.Call)) then history_Before.j2 x24 x25 else ((slices_Clone_Effect x42.Effects).bind fun x56 =>
  (if (decide (x5 ≤ x42.Return)) then history_Before.j4 x24 x25 x42 x56 0 else history_Before.j4 x24 x25 x42 x56 x42.Return)))) else some (.inr x25))
noncomputable def history_Before (x1 : history_History) (x5 : Int) : Option history_History :=
  ((loopO (history_Before.l1 x1 x5) (0, [])).bind fun x85 => history_Before.j1 x85)
/-! elasticstore/elasticstorelaw38.awake: function 10 -/
noncomputable def eslaw38_awake.j1  (x22 : Bool) : Option Bool :=
  some x22
noncomputable def eslaw38_awake  : Option Bool :=
  ((idx ([(⟨101, 1, [(⟨5, ([97] : List UInt8), ([98] : List UInt8), 0, []⟩ : api_Effect)], [], 1, 4⟩ : history_Operation), (⟨102, 3, [], [], 3, 0⟩ : history_Operation), (⟨101, 2, [], [], 5, 6⟩ : history_Operation)]) 0).bind fun x7 =>
  ((fold_Apply (⟨[]⟩ : fold_Store) (⟨101, 1, 0, x7.Effects⟩ : api_Update)).bind fun x13 =>
  ((history_Visible x13).bind fun x16 =>
  ((history_Validate (⟨[(⟨101, 1, [(⟨5, ([97] : List UInt8), ([98] : List UInt8), 0, []⟩ : api_Effect)], [], 1, 4⟩ : history_Operation), (⟨102, 3, [], [], 3, 0⟩ : history_Operation), (⟨101, 2, [], [], 5, 6⟩ : history_Operation)]⟩ : history_History)).bind fun x24 =>
  (if (x24 == 0) then ((history_Precedes (⟨[(⟨101, 1, [(⟨5, ([97] : List UInt8), ([98] : List UInt8), 0, []⟩ : api_Effect)], [], 1, 4⟩ : history_Operation), (⟨102, 3, [], [], 3, 0⟩ : history_Operation), (⟨101, 2, [], [], 5, 6⟩ : history_Operation)]⟩ : history_History) 0 2).bind fun x26 =>
  (if x26 then ((history_Precedes (⟨[(⟨101, 1, [(⟨5, ([97] : List UInt8), ([98] : List UInt8), 0, []⟩ : api_Effect)], [], 1, 4⟩ : history_Operation), (⟨102, 3, [], [], 3, 0⟩ : history_Operation), (⟨101, 2, [], [], 5, 6⟩ : history_Operation)]⟩ : history_History) 0 1).bind fun x28 =>
  (if (!x28) then ((history_Concurrent (⟨[(⟨101, 1, [(⟨5, ([97] : List UInt8), ([98] : List UInt8), 0, []⟩ : api_Effect)], [], 1, 4⟩ : history_Operation), (⟨102, 3, [], [], 3, 0⟩ : history_Operation), (⟨101, 2, [], [], 5, 6⟩ : history_Operation)]⟩ : history_History) 1 2).bind fun x30 =>
  (if x30 then ((history_Concurrent (⟨[(⟨101, 1, [(⟨5, ([97] : List UInt8), ([98] : List UInt8), 0, []⟩ : api_Effect)], [], 1, 4⟩ : history_Operation), (⟨102, 3, [], [], 3, 0⟩ : history_Operation), (⟨101, 2, [], [], 5, 6⟩ : history_Operation)]⟩ : history_History) 0 2).bind fun x32 =>
  (if (!x32) then ((history_Width (⟨[(⟨101, 1, [(⟨5, ([97] : List UInt8), ([98] : List UInt8), 0, []⟩ : api_Effect)], [], 1, 4⟩ : history_Operation), (⟨102, 3, [], [], 3, 0⟩ : history_Operation), (⟨101, 2, [], [], 5, 6⟩ : history_Operation)]⟩ : history_History)).bind fun x34 =>
  (if (x34 == 2) then (if ((x16.length : Int) == 1) then ((idx x16 0).bind fun x37 =>
  (if x37.Flag then ((history_Of (⟨[(⟨101, 1, [(⟨5, ([97] : List UInt8), ([98] : List UInt8), 0, []⟩ : api_Effect)], [], 1, 4⟩ : history_Operation), (⟨102, 3, [], [], 3, 0⟩ : history_Operation), (⟨101, 2, [], [], 5, 6⟩ : history_Operation)]⟩ : history_History) 101).bind fun x42 =>
  (if ((x42.length : Int) == 2) then ((history_Before (⟨[(⟨101, 1, [(⟨5, ([97] : List UInt8), ([98] : List UInt8), 0, []⟩ : api_Effect)], [], 1, 4⟩ : history_Operation), (⟨102, 3, [], [], 3, 0⟩ : history_Operation), (⟨101, 2, [], [], 5, 6⟩ : history_Operation)]⟩ : history_History) 4).bind fun x47 =>
  (if (((((⟨x47.Operations⟩ : history_History)).Operations).length : Int) == 2) then ((history_Before (⟨[(⟨101, 1, [(⟨5, ([97] : List UInt8), ([98] : List UInt8), 0, []⟩ : api_Effect)], [], 1, 4⟩ : history_Operation), (⟨102, 3, [], [], 3, 0⟩ : history_Operation), (⟨101, 2, [], [], 5, 6⟩ : history_Operation)]⟩ : history_History) 4).bind fun x55 =>
  ((idx (((⟨x55.Operations⟩ : history_History)).Operations) 0).bind fun x62 =>
  eslaw38_awake.j1 (x62.Return == 0))) else eslaw38_awake.j1 false)) else eslaw38_awake.j1 false)) else eslaw38_awake.j1 false)) else eslaw38_awake.j1 false) else eslaw38_awake.j1 false)) else eslaw38_awake.j1 false)) else eslaw38_awake.j1 false)) else eslaw38_awake.j1 false)) else eslaw38_awake.j1 false)) else eslaw38_awake.j1 false)))))
/-! elasticstore/elasticstorelaw00.Index: function 14 -/
noncomputable def eslaw00_Index (x1 : Int) (x2 : Int) : Option Int :=
  (if (decide (x2 < 1)) then some 0 else (if x2 ≠ 0 then (letV (IntKind.i64.wrap ((Int.tmod x1 x2) + x2)) fun x10 =>
  (if x2 ≠ 0 then some (Int.tmod x10 x2) else none)) else none))
/-! elasticstore/elasticstorelaw00.Digit: function 39 -/
noncomputable def eslaw00_Digit.j1 (x2 : Int) (x9 : Int) : Option Int :=
  (if x2 ≠ 0 then some (Int.tmod x9 x2) else none)
noncomputable def eslaw00_Digit.l1 (x2 : Int) (x3 : Int) : (Int × Int) → Option ((Int × Int) ⊕ (Int)) := fun (x15, x16) =>
  (if (decide (x16 < x3)) then (if x2 ≠ 0 then (letV (IntKind.i64.wrap (Int.tdiv x15 x2)) fun x22 =>
  (letV (IntKind.i64.wrap (x16 + 1)) fun x24 =>
  some (.inl (x22, x24)))) else none) else some (.inr x15))
noncomputable def eslaw00_Digit (x1 : Int) (x2 : Int) (x3 : Int) : Option Int :=
  ((eslaw00_Index x1 1099511627776).bind fun x6 =>
  ((loopO (eslaw00_Digit.l1 x2 x3) (x6, 0)).bind fun x25 => eslaw00_Digit.j1 x2 x25))
/-! elasticstore/elasticstorelaw00.name: function 55 -/
noncomputable def eslaw00_name (x1 : Int) : Option (List UInt8) :=
  ((eslaw00_Index x1 4).bind fun x5 =>
  ((idx ([([97] : List UInt8), ([98] : List UInt8), ([99] : List UInt8), ([120, 49] : List UInt8)]) x5).bind fun x6 =>
  some x6))
/-! elasticstore/elasticstorelaw00.Effect: function 40 -/
noncomputable def eslaw00_Effect.j1 (x7 : List UInt8) (x9 : List UInt8) (x16 : Int) (x17 : Int) (x18 : List UInt8) : Option api_Effect :=
  some (⟨x16, x7, x9, x17, x18⟩ : api_Effect)
noncomputable def eslaw00_Effect (x1 : Int) (x2 : Bool) : Option api_Effect :=
  ((eslaw00_Digit x1 4 1).bind fun x6 =>
  ((eslaw00_name x6).bind fun x7 =>
  ((eslaw00_Digit x1 4 2).bind fun x8 =>
  ((eslaw00_name x8).bind fun x9 =>
  ((eslaw00_Digit x1 16 3).bind fun x12 =>
  (letV (IntKind.i64.wrap (x12 - 5)) fun x13 =>
  (if x2 then ((eslaw00_Digit x1 4 5).bind fun x25 =>
  ((eslaw00_name x25).bind fun x26 =>
  eslaw00_Effect.j1 x7 x9 1 x13 x26)) else ((eslaw00_Digit x1 4 0).bind fun x28 =>
  (if (x28 == 0) then eslaw00_Effect.j1 x7 x9 2 x13 [] else ((eslaw00_Digit x1 4 0).bind fun x32 =>
  (if (x32 == 1) then eslaw00_Effect.j1 x7 x9 3 x13 [] else ((eslaw00_Digit x1 4 0).bind fun x36 =>
  (if (x36 == 2) then ((eslaw00_Digit x1 4 5).bind fun x39 =>
  ((eslaw00_name x39).bind fun x40 =>
  eslaw00_Effect.j1 x7 x9 4 0 x40)) else eslaw00_Effect.j1 x7 x9 5 0 [])))))))))))))
/-! elasticstore/elasticstorelaw38.Times: function 13 -/
noncomputable def eslaw38_Times.j1  (x11 : List history_Operation) : Option history_History :=
  some (⟨x11⟩ : history_History)
noncomputable def eslaw38_Times.j2 (x20 : Int) (x34 : Int) (x35 : List history_Operation) : Option ((Int × Int × (List history_Operation)) ⊕ (List history_Operation)) :=
  (letV (IntKind.i64.wrap (x20 + 1)) fun x40 =>
  some (.inl (x34, x40, x35)))
noncomputable def eslaw38_Times.j3 (x20 : Int) (x21 : List history_Operation) (x42 : Int) (x48 : Int) (x74 : Int) (x78 : List api_Effect) : Option ((Int × Int × (List history_Operation)) ⊕ (List history_Operation)) :=
  ((app 80 x21 ([(⟨x48, x74, x78, [], x42, 0⟩ : history_Operation)])).bind fun x83 =>
  eslaw38_Times.j2 x20 x42 x83)
noncomputable def eslaw38_Times.j4 (x1 : List Int) (x20 : Int) (x21 : List history_Operation) (x42 : Int) (x48 : Int) (x56 : Int) (x61 : Bool) : Option ((Int × Int × (List history_Operation)) ⊕ (List history_Operation)) :=
  (if x61 then ((idx x21 x56).bind fun x65 =>
  (letV (x21.set (x56).toNat ({ x65 with Return := x42 })) fun x68 =>
  eslaw38_Times.j2 x20 x42 x68)) else ((idx x1 x20).bind fun x70 =>
  ((eslaw00_Digit x70 3 2).bind fun x73 =>
  (letV (IntKind.i64.wrap (1 + x73)) fun x74 =>
  (if (x74 == 1) then ((idx x1 x20).bind fun x90 =>
  ((idx x1 x20).bind fun x93 =>
  ((eslaw00_Digit x93 2 9).bind fun x96 =>
  ((eslaw00_Effect x90 (x96 == 1)).bind fun x97 =>
  eslaw38_Times.j3 x20 x21 x42 x48 x74 [x97])))) else eslaw38_Times.j3 x20 x21 x42 x48 x74 [])))))
noncomputable def eslaw38_Times.j5 (x1 : List Int) (x20 : Int) (x21 : List history_Operation) (x42 : Int) (x48 : Int) (x56 : Int) : Option ((Int × Int × (List history_Operation)) ⊕ (List history_Operation)) :=
  (if (decide (0 ≤ x56)) then ((idx x1 x20).bind fun x141 =>
  ((eslaw00_Digit x141 8 3).bind fun x144 =>
  eslaw38_Times.j4 x1 x20 x21 x42 x48 x56 (decide (0 < x144)))) else eslaw38_Times.j4 x1 x20 x21 x42 x48 x56 false)
noncomputable def eslaw38_Times.j6 (x1 : List Int) (x20 : Int) (x21 : List history_Operation) (x42 : Int) (x48 : Int) (x52 : Int) (x147 : Bool) : Option ((Int × Int × (List history_Operation)) ⊕ (List history_Operation)) :=
  (if x147 then eslaw38_Times.j5 x1 x20 x21 x42 x48 (-1) else eslaw38_Times.j5 x1 x20 x21 x42 x48 x52)
noncomputable def eslaw38_Times.j7 (x1 : List Int) (x20 : Int) (x21 : List history_Operation) (x42 : Int) (x48 : Int) (x52 : Int) : Option ((Int × Int × (List history_Operation)) ⊕ (List history_Operation)) :=
  (if (decide (0 ≤ x52)) then ((idx x21 x52).bind fun x151 =>
  eslaw38_Times.j6 x1 x20 x21 x42 x48 x52 (x151.Return != 0)) else eslaw38_Times.j6 x1 x20 x21 x42 x48 x52 false)
noncomputable def eslaw38_Times.j8 (x158 : Int) (x165 : Int) : Option ((Int × Int) ⊕ (Int)) :=
  (letV (IntKind.i64.wrap (x158 + 1)) fun x167 =>
  some (.inl (x165, x167)))
noncomputable def eslaw38_Times.l1 (x21 : List history_Operation) (x48 : Int) : (Int × Int) → Option ((Int × Int) ⊕ (Int)) := fun (x157, x158) =>
  (if (decide (x158 < (x21.length : Int))) then ((idx x21 x158).bind fun x169 =>
  (if (x169.Process == x48) then eslaw38_Times.j8 x158 x158 else eslaw38_Times.j8 x158 x157)) else some (.inr x157))
noncomputable def eslaw38_Times.j9 (x1 : List Int) (x19 : Int) (x20 : Int) (x21 : List history_Operation) (x29 : Bool) : Option ((Int × Int × (List history_Operation)) ⊕ (List history_Operation)) :=
  (if x29 then (letV (IntKind.i64.wrap (x19 + 1)) fun x42 =>
  ((idx x1 x20).bind fun x44 =>
  ((eslaw00_Digit x44 6 0).bind fun x47 =>
  (letV (IntKind.i64.wrap (101 + x47)) fun x48 =>
  ((loopO (eslaw38_Times.l1 x21 x48) ((-1), 0)).bind fun x174 => eslaw38_Times.j7 x1 x20 x21 x42 x48 x174))))) else some (.inr x21))
noncomputable def eslaw38_Times.l2 (x1 : List Int) : (Int × Int × (List history_Operation)) → Option ((Int × Int × (List history_Operation)) ⊕ (List history_Operation)) := fun (x19, x20, x21) =>
  (if (decide (x20 < (x1.length : Int))) then eslaw38_Times.j9 x1 x19 x20 x21 (decide (x20 < 40)) else eslaw38_Times.j9 x1 x19 x20 x21 false)
noncomputable def eslaw38_Times (x1 : List Int) : Option history_History :=
  ((loopO (eslaw38_Times.l2 x1) (0, 0, [])).bind fun x176 => eslaw38_Times.j1 x176)
/-! elasticstore/elasticstoreref06.Client: function 53 -/
noncomputable def esref06_Client.j1  (x5 : Bool) : Option Bool :=
  some x5
noncomputable def esref06_Client (x1 : Int) : Option Bool :=
  (if (decide (101 ≤ x1)) then esref06_Client.j1 (decide (x1 < 107)) else esref06_Client.j1 false)
/-! elasticstore/elasticstoreref39.validOperation: function 37 -/
noncomputable def esref39_validOperation.j1  (x23 : Bool) : Option Int :=
  (if x23 then some 9 else some 0)
noncomputable def esref39_validOperation.j2 (x1 : history_Operation) (x16 : Bool) : Option Int :=
  (if x16 then some 10 else (if (decide (x1.Call < 1)) then esref39_validOperation.j1 true else (if (x1.Return != 0) then esref39_validOperation.j1 (decide (x1.Return ≤ x1.Call)) else esref39_validOperation.j1 false)))
noncomputable def esref39_validOperation (x1 : history_Operation) : Option Int :=
  ((esref06_Client x1.Process).bind fun x10 =>
  (if (!x10) then some 9 else (if (decide (x1.Kind < 1)) then esref39_validOperation.j2 x1 true else esref39_validOperation.j2 x1 (decide (3 < x1.Kind)))))
/-! elasticstore/elasticstoreref14.ValidateEffect: function 64 -/
noncomputable def esref14_ValidateEffect.j1  (x40 : Bool) : Option Int :=
  (if x40 then some 2 else some 0)
noncomputable def esref14_ValidateEffect.j2 (x1 : api_Effect) (x34 : Bool) : Option Int :=
  (if x34 then some 9 else (if (x1.Kind == 2) then esref14_ValidateEffect.j1 (x1.S != ([] : List UInt8)) else (if (x1.Kind == 3) then esref14_ValidateEffect.j1 (x1.S != ([] : List UInt8)) else (if (x1.Kind == 5) then esref14_ValidateEffect.j1 (x1.S != ([] : List UInt8)) else esref14_ValidateEffect.j1 false))))
noncomputable def esref14_ValidateEffect.j3 (x1 : api_Effect) (x28 : Bool) : Option Int :=
  (if x28 then some 9 else (if (x1.Kind == 4) then esref14_ValidateEffect.j2 x1 (x1.N != 0) else (if (x1.Kind == 5) then esref14_ValidateEffect.j2 x1 (x1.N != 0) else esref14_ValidateEffect.j2 x1 false)))
noncomputable def esref14_ValidateEffect.j4 (x1 : api_Effect) (x22 : Bool) : Option Int :=
  (if x22 then some 3 else (if (x1.Kind == 3) then (if (decide (x1.N < (-1000000))) then esref14_ValidateEffect.j3 x1 true else esref14_ValidateEffect.j3 x1 (decide (1000000 < x1.N))) else esref14_ValidateEffect.j3 x1 false))
noncomputable def esref14_ValidateEffect.j5 (x1 : api_Effect) (x16 : Bool) : Option Int :=
  (if x16 then some 2 else (if (decide (16 < ((x1.Object).length : Int))) then esref14_ValidateEffect.j4 x1 true else (if (decide (16 < ((x1.Field).length : Int))) then esref14_ValidateEffect.j4 x1 true else esref14_ValidateEffect.j4 x1 (decide (32 < ((x1.S).length : Int))))))
noncomputable def esref14_ValidateEffect.j6 (x1 : api_Effect) (x10 : Bool) : Option Int :=
  (if x10 then some 10 else (if (x1.Object == ([] : List UInt8)) then esref14_ValidateEffect.j5 x1 true else esref14_ValidateEffect.j5 x1 (x1.Field == ([] : List UInt8))))
noncomputable def esref14_ValidateEffect (x1 : api_Effect) : Option Int :=
  (if (decide (x1.Kind < 1)) then esref14_ValidateEffect.j6 x1 true else esref14_ValidateEffect.j6 x1 (decide (5 < x1.Kind)))
/-! elasticstore/elasticstoreref14.Commutes: function 65 -/
noncomputable def esref14_Commutes.j1   : Option Bool :=
  some true
noncomputable def esref14_Commutes.l1 (x1 : api_Update) : Int → Option ((Int) ⊕ (Unit ⊕ Bool)) := fun x13 =>
  (if (decide (x13 < ((x1.Effects).length : Int))) then ((idx x1.Effects x13).bind fun x26 =>
  (if (x26.Kind == 1) then some (.inr (.inr false)) else (letV (IntKind.i64.wrap (x13 + 1)) fun x32 =>
  some (.inl x32)))) else some (.inr (.inl ())))
noncomputable def esref14_Commutes (x1 : api_Update) : Option Bool :=
  ((loopO (esref14_Commutes.l1 x1) 0).bind fun b => match b with | .inl _ => esref14_Commutes.j1 | .inr x33 => some x33)
/-! elasticstore/elasticstoreref14.ValidateUpdate: function 54 -/
noncomputable def esref14_ValidateUpdate.j1  (x32 : Bool) : Option Int :=
  (if x32 then some 2 else some 0)
noncomputable def esref14_ValidateUpdate.j2 (x1 : api_Update)  : Option Int :=
  ((esref14_Commutes x1).bind fun x37 =>
  (if (!x37) then (if (decide (1 < ((x1.Effects).length : Int))) then esref14_ValidateUpdate.j1 true else ((esref14_Commutes x1).bind fun x43 =>
  (if x43 then esref14_ValidateUpdate.j1 (x1.Tag != 0) else esref14_ValidateUpdate.j1 false))) else ((esref14_Commutes x1).bind fun x46 =>
  (if x46 then esref14_ValidateUpdate.j1 (x1.Tag != 0) else esref14_ValidateUpdate.j1 false))))
noncomputable def esref14_ValidateUpdate.l1 (x1 : api_Update) : Int → Option ((Int) ⊕ (Unit ⊕ Int)) := fun x51 =>
  (if (decide (x51 < ((x1.Effects).length : Int))) then ((idx x1.Effects x51).bind fun x64 =>
  ((esref14_ValidateEffect x64).bind fun x69 =>
  (if (x69 != 0) then some (.inr (.inr x69)) else (letV (IntKind.i64.wrap (x51 + 1)) fun x73 =>
  some (.inl x73))))) else some (.inr (.inl ())))
noncomputable def esref14_ValidateUpdate.j3 (x1 : api_Update) (x10 : Bool) : Option Int :=
  (if x10 then some 9 else (if (((x1.Effects).length : Int) == 0) then some 2 else (if (decide (4 < ((x1.Effects).length : Int))) then some 3 else ((loopO (esref14_ValidateUpdate.l1 x1) 0).bind fun b => match b with | .inl _ => esref14_ValidateUpdate.j2 x1 | .inr x74 => some x74))))
noncomputable def esref14_ValidateUpdate (x1 : api_Update) : Option Int :=
  ((esref06_Client x1.Client).bind fun x76 =>
  (if (!x76) then esref14_ValidateUpdate.j3 x1 true else (if (decide (x1.Seq < 1)) then esref14_ValidateUpdate.j3 x1 true else (if (decide (8 < x1.Seq)) then esref14_ValidateUpdate.j3 x1 true else (if (decide (x1.Tag < 0)) then esref14_ValidateUpdate.j3 x1 true else esref14_ValidateUpdate.j3 x1 (decide (1000 < x1.Tag)))))))
/-! elasticstore/elasticstoreref39.content: function 38 -/
noncomputable def esref39_content.j1  (x14 : Bool) : Option Int :=
  (if x14 then some 2 else some 0)
noncomputable def esref39_content.j2  (x30 : Bool) : Option Int :=
  (if x30 then some 2 else some 0)
noncomputable def esref39_content (x1 : history_Operation) : Option Int :=
  (if (x1.Kind == 1) then (if (decide (0 < ((x1.Result).length : Int))) then esref39_content.j1 true else ((esref14_ValidateUpdate (⟨101, 1, 0, x1.Effects⟩ : api_Update)).bind fun x26 =>
  esref39_content.j1 (x26 != 0))) else (if (decide (0 < ((x1.Effects).length : Int))) then esref39_content.j2 true else (if (x1.Return == 0) then esref39_content.j2 (decide (0 < ((x1.Result).length : Int))) else esref39_content.j2 false)))
/-! elasticstore/elasticstoreref39.Validate: function 12 -/
noncomputable def esref39_Validate.j1   : Option Int :=
  some 0
noncomputable def esref39_Validate.j2 (x17 : Int)  : Option ((Int) ⊕ (Unit ⊕ Int)) :=
  (letV (IntKind.i64.wrap (x17 + 1)) fun x25 =>
  some (.inl x25))
noncomputable def esref39_Validate.j3 (x60 : Int) (x68 : Bool) : Option ((Int) ⊕ (Unit ⊕ Int)) :=
  (if x68 then some (.inr (.inr 17)) else (letV (IntKind.i64.wrap (x60 + 1)) fun x72 =>
  some (.inl x72)))
noncomputable def esref39_Validate.l1 (x1 : history_History) (x17 : Int) : Int → Option ((Int) ⊕ (Unit ⊕ Int)) := fun x60 =>
  (if (decide (x60 < x17)) then ((idx x1.Operations x60).bind fun x73 =>
  ((idx x1.Operations x17).bind fun x77 =>
  (if (x73.Process == x77.Process) then ((idx x1.Operations x60).bind fun x82 =>
  ((idx x1.Operations x17).bind fun x86 =>
  esref39_Validate.j3 x60 (decide (x86.Call < x82.Return)))) else esref39_Validate.j3 x60 false))) else some (.inr (.inl ())))
noncomputable def esref39_Validate.j4 (x1 : history_History) (x17 : Int)  : Option ((Int) ⊕ (Unit ⊕ Int)) :=
  ((loopO (esref39_Validate.l1 x1 x17) 0).bind fun b => match b with | .inl _ => esref39_Validate.j2 x17 | .inr x244 => some (.inr (.inr x244)))
noncomputable def esref39_Validate.j5 (x247 : Int) (x255 : Bool) : Option ((Int) ⊕ (Unit ⊕ Int)) :=
  (if x255 then some (.inr (.inr 5)) else (letV (IntKind.i64.wrap (x247 + 1)) fun x259 =>
  some (.inl x259)))
noncomputable def esref39_Validate.l2 (x1 : history_History) (x17 : Int) : Int → Option ((Int) ⊕ (Unit ⊕ Int)) := fun x247 =>
  (if (decide (x247 < x17)) then ((idx x1.Operations x17).bind fun x260 =>
  ((idx x1.Operations x247).bind fun x264 =>
  (if (x260.Call == x264.Return) then esref39_Validate.j5 x247 true else ((idx x1.Operations x17).bind fun x403 =>
  (if (x403.Return != 0) then ((idx x1.Operations x17).bind fun x408 =>
  ((idx x1.Operations x247).bind fun x412 =>
  (if (x408.Return == x412.Call) then esref39_Validate.j5 x247 true else ((idx x1.Operations x17).bind fun x569 =>
  ((idx x1.Operations x247).bind fun x573 =>
  esref39_Validate.j5 x247 (x569.Return == x573.Return)))))) else esref39_Validate.j5 x247 false))))) else some (.inr (.inl ())))
noncomputable def esref39_Validate.j6 (x1 : history_History) (x17 : Int) (x40 : Bool) : Option ((Int) ⊕ (Unit ⊕ Int)) :=
  (if x40 then some (.inr (.inr 7)) else ((idx x1.Operations x17).bind fun x46 =>
  ((esref39_content x46).bind fun x51 =>
  (if (x51 != 0) then some (.inr (.inr x51)) else ((loopO (esref39_Validate.l2 x1 x17) 0).bind fun b => match b with | .inl _ => esref39_Validate.j4 x1 x17 | .inr x881 => some (.inr (.inr x881)))))))
noncomputable def esref39_Validate.l3 (x1 : history_History) : Int → Option ((Int) ⊕ (Unit ⊕ Int)) := fun x17 =>
  (if (decide (x17 < ((x1.Operations).length : Int))) then ((idx x1.Operations x17).bind fun x28 =>
  ((esref39_validOperation x28).bind fun x33 =>
  (if (x33 != 0) then some (.inr (.inr x33)) else (if (decide (0 < x17)) then ((idx x1.Operations x17).bind fun x883 =>
  (letV (IntKind.i64.wrap (x17 - 1)) fun x887 =>
  ((idx x1.Operations x887).bind fun x888 =>
  esref39_Validate.j6 x1 x17 (decide (x883.Call ≤ x888.Call))))) else esref39_Validate.j6 x1 x17 false)))) else some (.inr (.inl ())))
noncomputable def esref39_Validate (x1 : history_History) : Option Int :=
  ((loopO (esref39_Validate.l3 x1) 0).bind fun b => match b with | .inl _ => esref39_Validate.j1 | .inr x992 => some x992)
/-! elasticstore/elasticstorelaw38.HistoryValidate: function 3 -/
noncomputable def eslaw38_HistoryValidate.j1  (x17 : Bool) : Option Bool :=
  some x17
noncomputable def eslaw38_HistoryValidate (x1 : history_History) : Option Bool :=
  (if (decide (30 < ((x1.Operations).length : Int))) then ((eslaw38_awake).bind fun x14 =>
  some x14) else ((history_Validate x1).bind fun x19 =>
  ((esref39_Validate x1).bind fun x20 =>
  (if (x19 == x20) then ((eslaw38_awake).bind fun x22 =>
  eslaw38_HistoryValidate.j1 x22) else eslaw38_HistoryValidate.j1 false))))
/-! elasticstore/elasticstoreref39.Width: function 23 -/
noncomputable def esref39_Width.j1  (x10 : Int) : Option Int :=
  some x10
noncomputable def esref39_Width.j2 (x16 : Int) (x26 : Int) : Option ((Int × Int) ⊕ (Int)) :=
  (letV (IntKind.i64.wrap (x16 + 1)) fun x28 =>
  some (.inl (x26, x28)))
noncomputable def esref39_Width.j3 (x15 : Int) (x16 : Int) (x40 : Int) : Option ((Int × Int) ⊕ (Int)) :=
  esref39_Width.j2 x16 (maxI x15 x40)
noncomputable def esref39_Width.j4 (x45 : Int) (x52 : Int) : Option ((Int × Int) ⊕ (Int)) :=
  (letV (IntKind.i64.wrap (x45 + 1)) fun x54 =>
  some (.inl (x52, x54)))
noncomputable def esref39_Width.j5 (x44 : Int) (x45 : Int) (x65 : Bool) : Option ((Int × Int) ⊕ (Int)) :=
  (if x65 then (letV (IntKind.i64.wrap (x44 + 1)) fun x68 =>
  esref39_Width.j4 x45 x68) else esref39_Width.j4 x45 x44)
noncomputable def esref39_Width.l1 (x1 : history_History) (x16 : Int) (x34 : history_Operation) : (Int × Int) → Option ((Int × Int) ⊕ (Int)) := fun (x44, x45) =>
  (if (decide (x45 ≤ x16)) then ((idx x1.Operations x45).bind fun x59 =>
  (if (x59.Return == 0) then esref39_Width.j5 x44 x45 true else esref39_Width.j5 x44 x45 (decide (x34.Call < x59.Return)))) else some (.inr x44))
noncomputable def esref39_Width.l2 (x1 : history_History) : (Int × Int) → Option ((Int × Int) ⊕ (Int)) := fun (x15, x16) =>
  (if (decide (x16 < ((x1.Operations).length : Int))) then ((idx x1.Operations x16).bind fun x34 =>
  ((loopO (esref39_Width.l1 x1 x16 x34) (0, 0)).bind fun x70 => esref39_Width.j3 x15 x16 x70)) else some (.inr x15))
noncomputable def esref39_Width (x1 : history_History) : Option Int :=
  ((loopO (esref39_Width.l2 x1) (0, 0)).bind fun x71 => esref39_Width.j1 x71)
/-! elasticstore/elasticstorelaw38.HistoryWidth: function 7 -/
noncomputable def eslaw38_HistoryWidth.j1  (x43 : Bool) : Option Bool :=
  some x43
noncomputable def eslaw38_HistoryWidth.j2 (x23 : List Int) (x31 : List history_Operation) (x39 : Int) : Option Bool :=
  (if (x39 == (x23.length : Int)) then ((history_Width (⟨x31⟩ : history_History)).bind fun x46 =>
  (if (decide (x46 ≤ 1)) then ((eslaw38_awake).bind fun x48 =>
  eslaw38_HistoryWidth.j1 x48) else eslaw38_HistoryWidth.j1 false)) else eslaw38_HistoryWidth.j1 false)
noncomputable def eslaw38_HistoryWidth.j3 (x52 : Int) (x59 : Int) : Option ((Int × Int) ⊕ (Int)) :=
  (letV (IntKind.i64.wrap (x52 + 1)) fun x61 =>
  some (.inl (x59, x61)))
noncomputable def eslaw38_HistoryWidth.l1 (x7 : history_History) (x21 : Int) : (Int × Int) → Option ((Int × Int) ⊕ (Int)) := fun (x51, x52) =>
  (if (decide (x52 < ((x7.Operations).length : Int))) then ((idx x7.Operations x52).bind fun x63 =>
  (if (x63.Process == x21) then (letV (IntKind.i64.wrap (x51 + 1)) fun x68 =>
  eslaw38_HistoryWidth.j3 x52 x68) else eslaw38_HistoryWidth.j3 x52 x51)) else some (.inr x51))
noncomputable def eslaw38_HistoryWidth.j4 (x7 : history_History) (x21 : Int) (x23 : List Int) (x31 : List history_Operation) : Option Bool :=
  ((loopO (eslaw38_HistoryWidth.l1 x7 x21) (0, 0)).bind fun x69 => eslaw38_HistoryWidth.j2 x23 x31 x69)
noncomputable def eslaw38_HistoryWidth.j5 (x72 : Int) (x83 : List history_Operation) : Option ((Int × (List history_Operation)) ⊕ ((List history_Operation) ⊕ Bool)) :=
  (letV (IntKind.i64.wrap (x72 + 1)) fun x88 =>
  some (.inl (x88, x83)))
noncomputable def eslaw38_HistoryWidth.j6 (x7 : history_History) (x23 : List Int) (x72 : Int) (x73 : List history_Operation) (x92 : Bool) : Option ((Int × (List history_Operation)) ⊕ ((List history_Operation) ⊕ Bool)) :=
  (if x92 then some (.inr (.inr false)) else ((idx x23 x72).bind fun x97 =>
  ((idx x7.Operations x97).bind fun x100 =>
  (if (x100.Return != 0) then ((app 80 x73 [x100]).bind fun x133 =>
  eslaw38_HistoryWidth.j5 x72 x133) else eslaw38_HistoryWidth.j5 x72 x73))))
noncomputable def eslaw38_HistoryWidth.l2 (x7 : history_History) (x21 : Int) (x23 : List Int) : (Int × (List history_Operation)) → Option ((Int × (List history_Operation)) ⊕ ((List history_Operation) ⊕ Bool)) := fun (x72, x73) =>
  (if (decide (x72 < (x23.length : Int))) then ((idx x23 x72).bind fun x138 =>
  (if (decide (x138 < 0)) then eslaw38_HistoryWidth.j6 x7 x23 x72 x73 true else ((idx x23 x72).bind fun x263 =>
  (if (decide (((x7.Operations).length : Int) ≤ x263)) then eslaw38_HistoryWidth.j6 x7 x23 x72 x73 true else ((idx x23 x72).bind fun x388 =>
  ((idx x7.Operations x388).bind fun x391 =>
  (if (x391.Process != x21) then eslaw38_HistoryWidth.j6 x7 x23 x72 x73 true else (if (decide (0 < x72)) then ((idx x23 x72).bind fun x524 =>
  (letV (IntKind.i64.wrap (x72 - 1)) fun x527 =>
  ((idx x23 x527).bind fun x528 =>
  eslaw38_HistoryWidth.j6 x7 x23 x72 x73 (decide (x524 ≤ x528))))) else eslaw38_HistoryWidth.j6 x7 x23 x72 x73 false)))))))) else some (.inr (.inl x73)))
noncomputable def eslaw38_HistoryWidth (x1 : List Int) (x4 : Int) : Option Bool :=
  ((eslaw38_Times x1).bind fun x7 =>
  ((history_Width (⟨x7.Operations⟩ : history_History)).bind fun x13 =>
  ((esref39_Width (⟨x7.Operations⟩ : history_History)).bind fun x16 =>
  (if (x13 != x16) then some false else ((eslaw00_Index x4 6).bind fun x20 =>
  (letV (IntKind.i64.wrap (101 + x20)) fun x21 =>
  ((history_Of (⟨x7.Operations⟩ : history_History) x21).bind fun x23 =>
  ((loopO (eslaw38_HistoryWidth.l2 x7 x21 x23) (0, [])).bind fun b => match b with | .inl x785 => eslaw38_HistoryWidth.j4 x7 x21 x23 x785 | .inr x786 => some x786))))))))
/-! elasticstore/elasticstoreref39.Precedes: function 16 -/
noncomputable def esref39_Precedes.j1  (x15 : Bool) : Option Bool :=
  some x15
noncomputable def esref39_Precedes (x1 : history_History) (x5 : Int) (x6 : Int) : Option Bool :=
  (if (decide (0 ≤ x5)) then (if (decide (x5 < ((x1.Operations).length : Int))) then (if (decide (0 ≤ x6)) then (if (decide (x6 < ((x1.Operations).length : Int))) then ((idx x1.Operations x5).bind fun x24 =>
  (if (x24.Return != 0) then ((idx x1.Operations x5).bind fun x32 =>
  ((idx x1.Operations x6).bind fun x39 =>
  esref39_Precedes.j1 (decide (x32.Return < x39.Call)))) else esref39_Precedes.j1 false)) else esref39_Precedes.j1 false) else esref39_Precedes.j1 false) else esref39_Precedes.j1 false) else esref39_Precedes.j1 false)
/-! elasticstore/elasticstoreref39.Concurrent: function 18 -/
noncomputable def esref39_Concurrent.j1  (x15 : Bool) : Option Bool :=
  some x15
noncomputable def esref39_Concurrent (x1 : history_History) (x5 : Int) (x6 : Int) : Option Bool :=
  (if (decide (0 ≤ x5)) then (if (decide (x5 < ((x1.Operations).length : Int))) then (if (decide (0 ≤ x6)) then (if (decide (x6 < ((x1.Operations).length : Int))) then (if (x5 != x6) then ((esref39_Precedes x1 x5 x6).bind fun x22 =>
  (if (!x22) then ((esref39_Precedes x1 x6 x5).bind fun x24 =>
  esref39_Concurrent.j1 (!x24)) else esref39_Concurrent.j1 false)) else esref39_Concurrent.j1 false) else esref39_Concurrent.j1 false) else esref39_Concurrent.j1 false) else esref39_Concurrent.j1 false) else esref39_Concurrent.j1 false)
/-! elasticstore/elasticstorelaw38.HistoryOrder: function 5 -/
noncomputable def eslaw38_HistoryOrder.j1  (x351 : Bool) : Option Bool :=
  some x351
noncomputable def eslaw38_HistoryOrder.j2 (x10 : history_History) (x19 : Int) (x21 : Int) (x23 : Int) (x25 : Int) (x345 : Bool) : Option Bool :=
  (if x345 then some false else ((history_Precedes (⟨x10.Operations⟩ : history_History) x19 x21).bind fun x353 =>
  (if (!x353) then ((eslaw38_awake).bind fun x355 =>
  eslaw38_HistoryOrder.j1 x355) else ((history_Precedes (⟨x10.Operations⟩ : history_History) x23 x25).bind fun x356 =>
  (if (!x356) then ((eslaw38_awake).bind fun x358 =>
  eslaw38_HistoryOrder.j1 x358) else ((history_Precedes (⟨x10.Operations⟩ : history_History) x19 x25).bind fun x359 =>
  (if x359 then ((eslaw38_awake).bind fun x361 =>
  eslaw38_HistoryOrder.j1 x361) else ((history_Precedes (⟨x10.Operations⟩ : history_History) x23 x21).bind fun x362 =>
  (if x362 then ((eslaw38_awake).bind fun x364 =>
  eslaw38_HistoryOrder.j1 x364) else eslaw38_HistoryOrder.j1 false)))))))))
noncomputable def eslaw38_HistoryOrder.j3 (x10 : history_History) (x19 : Int) (x21 : Int) (x23 : Int) (x25 : Int)  : Option Bool :=
  ((history_Precedes (⟨x10.Operations⟩ : history_History) x19 x19).bind fun x365 =>
  (if x365 then eslaw38_HistoryOrder.j2 x10 x19 x21 x23 x25 true else ((history_Precedes (⟨x10.Operations⟩ : history_History) x19 x21).bind fun x367 =>
  (if x367 then ((history_Precedes (⟨x10.Operations⟩ : history_History) x21 x23).bind fun x369 =>
  (if x369 then ((history_Precedes (⟨x10.Operations⟩ : history_History) x19 x23).bind fun x371 =>
  eslaw38_HistoryOrder.j2 x10 x19 x21 x23 x25 (!x371)) else eslaw38_HistoryOrder.j2 x10 x19 x21 x23 x25 false)) else eslaw38_HistoryOrder.j2 x10 x19 x21 x23 x25 false))))
noncomputable def eslaw38_HistoryOrder.j4 (x375 : Int) (x390 : Bool) : Option ((Int) ⊕ (Unit ⊕ Bool)) :=
  (if x390 then some (.inr (.inr false)) else (letV (IntKind.i64.wrap (x375 + 1)) fun x394 =>
  some (.inl x394)))
noncomputable def eslaw38_HistoryOrder.l1 (x10 : history_History) (x19 : Int) (x21 : Int) (x23 : Int) (x25 : Int) : Int → Option ((Int) ⊕ (Unit ⊕ Bool)) := fun x375 =>
  (if (decide (x375 < (([(⟨x19, x21⟩ : Anon37), (⟨x21, x19⟩ : Anon37), (⟨x19, x19⟩ : Anon37), (⟨x23, x25⟩ : Anon37), (⟨x21, x23⟩ : Anon37)]).length : Int))) then ((idx [(⟨x19, x21⟩ : Anon37), (⟨x21, x19⟩ : Anon37), (⟨x19, x19⟩ : Anon37), (⟨x23, x25⟩ : Anon37), (⟨x21, x23⟩ : Anon37)] x375).bind fun x382 =>
  ((history_Precedes (⟨x10.Operations⟩ : history_History) x382.E0 x382.E1).bind fun x397 =>
  ((esref39_Precedes (⟨x10.Operations⟩ : history_History) x382.E0 x382.E1).bind fun x400 =>
  (if (x397 != x400) then eslaw38_HistoryOrder.j4 x375 true else ((history_Concurrent (⟨x10.Operations⟩ : history_History) x382.E0 x382.E1).bind fun x473 =>
  ((esref39_Concurrent (⟨x10.Operations⟩ : history_History) x382.E0 x382.E1).bind fun x476 =>
  eslaw38_HistoryOrder.j4 x375 (x473 != x476))))))) else some (.inr (.inl ())))
noncomputable def eslaw38_HistoryOrder (x1 : List Int) (x4 : Int) (x5 : Int) (x6 : Int) (x7 : Int) : Option Bool :=
  ((eslaw38_Times x1).bind fun x10 =>
  (letV (IntKind.i64.wrap (((x10.Operations).length : Int) + 2)) fun x16 =>
  ((eslaw00_Index x4 x16).bind fun x18 =>
  (letV (IntKind.i64.wrap (x18 - 1)) fun x19 =>
  ((eslaw00_Index x5 x16).bind fun x20 =>
  (letV (IntKind.i64.wrap (x20 - 1)) fun x21 =>
  ((eslaw00_Index x6 x16).bind fun x22 =>
  (letV (IntKind.i64.wrap (x22 - 1)) fun x23 =>
  ((eslaw00_Index x7 x16).bind fun x24 =>
  (letV (IntKind.i64.wrap (x24 - 1)) fun x25 =>
  ((loopO (eslaw38_HistoryOrder.l1 x10 x19 x21 x23 x25) 0).bind fun b => match b with | .inl _ => eslaw38_HistoryOrder.j3 x10 x19 x21 x23 x25 | .inr x546 => some x546)))))))))))
/-! elasticstore/elasticstoreref39.Before: function 20 -/
noncomputable def esref39_Before.j1  (x13 : List history_Operation) : Option history_History :=
  some (⟨x13⟩ : history_History)
noncomputable def esref39_Before.j2 (x21 : Int) (x35 : List history_Operation) : Option ((Int × (List history_Operation)) ⊕ (List history_Operation)) :=
  (letV (IntKind.i64.wrap (x21 + 1)) fun x40 =>
  some (.inl (x40, x35)))
noncomputable def esref39_Before.j3 (x21 : Int) (x22 : List history_Operation) (x45 : history_Operation) (x60 : List history_Value) (x63 : Int) : Option ((Int × (List history_Operation)) ⊕ (List history_Operation)) :=
  ((app 80 x22 [(⟨x45.Process, x45.Kind, x45.Effects, x60, x45.Call, x63⟩ : history_Operation)]).bind fun x66 =>
  esref39_Before.j2 x21 x66)
noncomputable def esref39_Before.l1 (x1 : history_History) (x5 : Int) : (Int × (List history_Operation)) → Option ((Int × (List history_Operation)) ⊕ (List history_Operation)) := fun (x21, x22) =>
  (if (decide (x21 < ((x1.Operations).length : Int))) then ((idx x1.Operations x21).bind fun x45 =>
  (if (decide (x5 ≤ x45.Call)) then esref39_Before.j2 x21 x22 else (if (decide (x5 ≤ x45.Return)) then esref39_Before.j3 x21 x22 x45 [] 0 else esref39_Before.j3 x21 x22 x45 x45.Result x45.Return))) else some (.inr x22))
noncomputable def esref39_Before (x1 : history_History) (x5 : Int) : Option history_History :=
  ((loopO (esref39_Before.l1 x1 x5) (0, [])).bind fun x74 => esref39_Before.j1 x74)
/-! elasticstore/elasticstoreref32.EqualStrings: function 34 -/
noncomputable def esref32_EqualStrings.j1   : Option Bool :=
  some true
noncomputable def esref32_EqualStrings.l1 (x1 : List (List UInt8)) (x4 : List (List UInt8)) : Int → Option ((Int) ⊕ (Unit ⊕ Bool)) := fun x18 =>
  (if (decide (x18 < (x1.length : Int))) then ((idx x1 x18).bind fun x25 =>
  ((idx x4 x18).bind fun x28 =>
  (if (x25 != x28) then some (.inr (.inr false)) else (letV (IntKind.i64.wrap (x18 + 1)) fun x57 =>
  some (.inl x57))))) else some (.inr (.inl ())))
noncomputable def esref32_EqualStrings (x1 : List (List UInt8)) (x4 : List (List UInt8)) : Option Bool :=
  (if ((x1.length : Int) != (x4.length : Int)) then some false else ((loopO (esref32_EqualStrings.l1 x1 x4) 0).bind fun b => match b with | .inl _ => esref32_EqualStrings.j1 | .inr x58 => some x58))
/-! elasticstore/elasticstoreref39.SameValues: function 26 -/
noncomputable def esref39_SameValues.j1   : Option Bool :=
  some true
noncomputable def esref39_SameValues.j2 (x18 : Int) (x37 : Bool) : Option ((Int) ⊕ (Unit ⊕ Bool)) :=
  (if x37 then some (.inr (.inr false)) else (letV (IntKind.i64.wrap (x18 + 1)) fun x41 =>
  some (.inl x41)))
noncomputable def esref39_SameValues.j3 (x18 : Int) (x27 : history_Value) (x31 : history_Value) : Option ((Int) ⊕ (Unit ⊕ Bool)) :=
  (if (x27.Object != x31.Object) then esref39_SameValues.j2 x18 true else (if (x27.Field != x31.Field) then esref39_SameValues.j2 x18 true else (if (x27.Set != x31.Set) then esref39_SameValues.j2 x18 true else (if (x27.N != x31.N) then esref39_SameValues.j2 x18 true else (if (x27.S != x31.S) then esref39_SameValues.j2 x18 true else (if (x27.HasMax != x31.HasMax) then esref39_SameValues.j2 x18 true else (if (x27.Max != x31.Max) then esref39_SameValues.j2 x18 true else (if (x27.Sum != x31.Sum) then esref39_SameValues.j2 x18 true else (if (x27.Flag != x31.Flag) then esref39_SameValues.j2 x18 true else ((esref32_EqualStrings x27.Elems x31.Elems).bind fun x75 =>
  esref39_SameValues.j2 x18 (!x75)))))))))))
noncomputable def esref39_SameValues.l1 (x1 : List history_Value) (x4 : List history_Value) : Int → Option ((Int) ⊕ (Unit ⊕ Bool)) := fun x18 =>
  (if (decide (x18 < (x1.length : Int))) then ((idx x1 x18).bind fun x76 =>
  ((idx x4 x18).bind fun x81 =>
  esref39_SameValues.j3 x18 x76 x81)) else some (.inr (.inl ())))
noncomputable def esref39_SameValues (x1 : List history_Value) (x4 : List history_Value) : Option Bool :=
  (if ((x1.length : Int) != (x4.length : Int)) then some false else ((loopO (esref39_SameValues.l1 x1 x4) 0).bind fun b => match b with | .inl _ => esref39_SameValues.j1 | .inr x124 => some x124))
/-! elasticstore/elasticstoreref39.EqualOperation: function 21 -/
noncomputable def esref39_EqualOperation.j1   : Option Bool :=
  some true
noncomputable def esref39_EqualOperation.l1 (x1 : history_Operation) (x5 : history_Operation) : Int → Option ((Int) ⊕ (Unit ⊕ Bool)) := fun x25 =>
  (if (decide (x25 < ((x1.Effects).length : Int))) then ((idx x1.Effects x25).bind fun x38 =>
  ((idx x5.Effects x25).bind fun x46 =>
  (if (!decide ((⟨x38.Kind, x38.Object, x38.Field, x38.N, x38.S⟩ : api_Effect) = (⟨x46.Kind, x46.Object, x46.Field, x46.N, x46.S⟩ : api_Effect))) then some (.inr (.inr false)) else (letV (IntKind.i64.wrap (x25 + 1)) fun x101 =>
  some (.inl x101))))) else some (.inr (.inl ())))
noncomputable def esref39_EqualOperation.j2 (x1 : history_Operation) (x5 : history_Operation) (x15 : Bool) : Option Bool :=
  (if x15 then some false else ((loopO (esref39_EqualOperation.l1 x1 x5) 0).bind fun b => match b with | .inl _ => esref39_EqualOperation.j1 | .inr x102 => some x102))
noncomputable def esref39_EqualOperation (x1 : history_Operation) (x5 : history_Operation) : Option Bool :=
  (if (x1.Process != x5.Process) then esref39_EqualOperation.j2 x1 x5 true else (if (x1.Kind != x5.Kind) then esref39_EqualOperation.j2 x1 x5 true else (if (x1.Call != x5.Call) then esref39_EqualOperation.j2 x1 x5 true else (if (x1.Return != x5.Return) then esref39_EqualOperation.j2 x1 x5 true else (if (((x1.Effects).length : Int) != ((x5.Effects).length : Int)) then esref39_EqualOperation.j2 x1 x5 true else ((esref39_SameValues x1.Result x5.Result).bind fun x128 =>
  esref39_EqualOperation.j2 x1 x5 (!x128)))))))
/-! elasticstore/elasticstorelaw38.HistoryBefore: function 6 -/
noncomputable def eslaw38_HistoryBefore.j1   : Option Bool :=
  ((eslaw38_awake).bind fun x64 =>
  some x64)
noncomputable def eslaw38_HistoryBefore.j2 (x67 : Int) (x75 : Bool) : Option ((Int) ⊕ (Unit ⊕ Bool)) :=
  (if x75 then some (.inr (.inr false)) else (letV (IntKind.i64.wrap (x67 + 1)) fun x79 =>
  some (.inl x79)))
noncomputable def eslaw38_HistoryBefore.l1 (x17 : history_History) (x23 : history_History) (x40 : history_History) : Int → Option ((Int) ⊕ (Unit ⊕ Bool)) := fun x67 =>
  (if (decide (x67 < ((x17.Operations).length : Int))) then ((idx x17.Operations x67).bind fun x80 =>
  ((idx x23.Operations x67).bind fun x85 =>
  ((esref39_EqualOperation x80 x85).bind fun x90 =>
  (if (!x90) then eslaw38_HistoryBefore.j2 x67 true else (if (((x40.Operations).length : Int) != ((x17.Operations).length : Int)) then eslaw38_HistoryBefore.j2 x67 true else ((idx x40.Operations x67).bind fun x314 =>
  ((idx x17.Operations x67).bind fun x319 =>
  ((esref39_EqualOperation x314 x319).bind fun x324 =>
  eslaw38_HistoryBefore.j2 x67 (!x324))))))))) else some (.inr (.inl ())))
noncomputable def eslaw38_HistoryBefore.j3 (x5 : Int) (x15 : Int) (x17 : history_History) (x23 : history_History) (x31 : Bool) : Option Bool :=
  (if x31 then some false else ((eslaw00_Index x5 9).bind fun x38 =>
  (letV (IntKind.i64.wrap (x15 + x38)) fun x39 =>
  ((history_Before (⟨x17.Operations⟩ : history_History) x39).bind fun x40 =>
  ((loopO (eslaw38_HistoryBefore.l1 x17 x23 x40) 0).bind fun b => match b with | .inl _ => eslaw38_HistoryBefore.j1 | .inr x456 => some x456)))))
noncomputable def eslaw38_HistoryBefore (x1 : List Int) (x4 : Int) (x5 : Int) : Option Bool :=
  ((eslaw38_Times x1).bind fun x8 =>
  ((eslaw00_Index x4 45).bind fun x14 =>
  (letV (IntKind.i64.wrap (x14 - 2)) fun x15 =>
  ((history_Before (⟨x8.Operations⟩ : history_History) x15).bind fun x17 =>
  ((esref39_Before (⟨x8.Operations⟩ : history_History) x15).bind fun x23 =>
  (if (((x17.Operations).length : Int) != ((x23.Operations).length : Int)) then eslaw38_HistoryBefore.j3 x5 x15 x17 x23 true else ((history_Validate (⟨x17.Operations⟩ : history_History)).bind fun x458 =>
  eslaw38_HistoryBefore.j3 x5 x15 x17 x23 (x458 != 0))))))))
/-! slices.EqualFunc[[]elasticstore/history.Value,[]elasticstore/history.Value,elasticstore/history.Value,elasticstore/history.Value]: function 45 -/
noncomputable def slices_EqualFunc_Value.j1   : Option Bool :=
  some true
noncomputable def slices_EqualFunc_Value.l1 (x1 : List history_Value) (x4 : List history_Value) (x7 : history_Value × history_Value → Option Bool) : Int → Option ((Int) ⊕ (Unit ⊕ Bool)) := fun x20 =>
  (if (decide (x20 < (x1.length : Int))) then ((idx x1 x20).bind fun x27 =>
  ((idx x4 x20).bind fun x34 =>
  ((x7 (x27, x34)).bind fun x41 =>
  (if (!x41) then some (.inr (.inr false)) else (letV (IntKind.i64.wrap (x20 + 1)) fun x44 =>
  some (.inl x44)))))) else some (.inr (.inl ())))
noncomputable def slices_EqualFunc_Value (x1 : List history_Value) (x4 : List history_Value) (x7 : history_Value × history_Value → Option Bool) : Option Bool :=
  (if ((x1.length : Int) != (x4.length : Int)) then some false else ((loopO (slices_EqualFunc_Value.l1 x1 x4 x7) 0).bind fun b => match b with | .inl _ => slices_EqualFunc_Value.j1 | .inr x45 => some x45))
/-! slices.Equal[[]string,string]: function 56 -/
noncomputable def slices_Equal_string.j1   : Option Bool :=
  some true
noncomputable def slices_Equal_string.l1 (x1 : List (List UInt8)) (x4 : List (List UInt8)) : Int → Option ((Int) ⊕ (Unit ⊕ Bool)) := fun x18 =>
  (if (decide (x18 < (x1.length : Int))) then ((idx x1 x18).bind fun x26 =>
  ((idx x4 x18).bind fun x29 =>
  (if (x26 != x29) then some (.inr (.inr false)) else (letV (IntKind.i64.wrap (x18 + 1)) fun x58 =>
  some (.inl x58))))) else some (.inr (.inl ())))
noncomputable def slices_Equal_string (x1 : List (List UInt8)) (x4 : List (List UInt8)) : Option Bool :=
  (if ((x1.length : Int) != (x4.length : Int)) then some false else ((loopO (slices_Equal_string.l1 x1 x4) 0).bind fun b => match b with | .inl _ => slices_Equal_string.j1 | .inr x59 => some x59))
/-! elasticstore/history.sameValue: function 46 -/
noncomputable def history_sameValue.j1  (x14 : Bool) : Option Bool :=
  some x14
noncomputable def history_sameValue (x1 : history_Value) (x5 : history_Value) : Option Bool :=
  (if (x1.Object == x5.Object) then (if (x1.Field == x5.Field) then (if (x1.Set == x5.Set) then (if (x1.N == x5.N) then (if (x1.S == x5.S) then (if (x1.HasMax == x5.HasMax) then (if (x1.Max == x5.Max) then (if (x1.Sum == x5.Sum) then ((slices_Equal_string x1.Elems x5.Elems).bind fun x46 =>
  (if x46 then history_sameValue.j1 (x1.Flag == x5.Flag) else history_sameValue.j1 false)) else history_sameValue.j1 false) else history_sameValue.j1 false) else history_sameValue.j1 false) else history_sameValue.j1 false) else history_sameValue.j1 false) else history_sameValue.j1 false) else history_sameValue.j1 false) else history_sameValue.j1 false)
/-! elasticstore/history.SameValues: function 25 -/
noncomputable def history_SameValues (x1 : List history_Value) (x4 : List history_Value) : Option Bool :=
  ((slices_EqualFunc_Value x1 x4 (fun p : history_Value × history_Value => history_sameValue p.1 p.2)).bind fun x9 =>
  some x9)
/-! elasticstore/elasticstorelaw38.HistorySame: function 8 -/
noncomputable def eslaw38_HistorySame.j1  (x25 : Bool) : Option Bool :=
  some x25
noncomputable def eslaw38_HistorySame.j2 (x1 : List history_Value) (x4 : List history_Value) (x11 : Bool) : Option Bool :=
  (if x11 then ((eslaw38_awake).bind fun x15 =>
  some x15) else ((app 120 [] x1).bind fun x18 =>
  ((history_SameValues x1 x4).bind fun x27 =>
  ((esref39_SameValues x1 x4).bind fun x28 =>
  (if (x27 == x28) then ((history_SameValues x1 x18).bind fun x30 =>
  (if x30 then ((history_SameValues x4 x1).bind fun x32 =>
  ((history_SameValues x1 x4).bind fun x33 =>
  (if (x32 == x33) then ((eslaw38_awake).bind fun x35 =>
  eslaw38_HistorySame.j1 x35) else eslaw38_HistorySame.j1 false))) else eslaw38_HistorySame.j1 false)) else eslaw38_HistorySame.j1 false)))))
noncomputable def eslaw38_HistorySame (x1 : List history_Value) (x4 : List history_Value) : Option Bool :=
  (if (decide (20 < (x1.length : Int))) then eslaw38_HistorySame.j2 x1 x4 true else eslaw38_HistorySame.j2 x1 x4 (decide (20 < (x4.length : Int))))
end Go.Proofs.Ytbbeobiampbddaa
