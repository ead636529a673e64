import Derived.Test.YtlbcfjblpopcnaaLqa
import Derived.Test.YtlbcfjblpopcnaaLz
import Derived.Test.YtlbcfjblpopcnaaMb
set_option linter.unusedVariables false
set_option linter.unusedSimpArgs false
namespace Go.Proofs.Ytlbcfjblpopcnaa
open Go Go.RowKit Go.Proofs.YtlbcfjblpopcnaaL
structure api_Effect where
  Kind : Int
  Object : List UInt8
  Field : List UInt8
  N : Int
  S : List UInt8
  deriving DecidableEq
structure api_Update where
  Client : Int
  Seq : Int
  Tag : Int
  Effects : List api_Effect
  deriving DecidableEq
structure fold_Register where
  Set : Bool
  Tag : Int
  Client : Int
  Seq : Int
  N : Int
  S : List UInt8
  deriving DecidableEq
structure fold_Field where
  Name : List UInt8
  Register : fold_Register
  HasMax : Bool
  Max : Int
  Sum : Int
  Elems : List (List UInt8)
  Flag : Bool
  deriving DecidableEq
structure fold_Object where
  Name : List UInt8
  Fields : List fold_Field
  deriving DecidableEq
structure fold_Store where
  Objects : List fold_Object
  deriving DecidableEq
/-! cmp.isNaN[int]: function 83 -/
noncomputable def cmp_isNaN_int (x1 : Int) : Option Bool :=
  some (x1 != x1)
/-! cmp.Compare[int]: function 72 -/
noncomputable def cmp_Compare_int (x1 : Int) (x2 : Int) : Option Int :=
  ((cmp_isNaN_int x1).bind fun x5 =>
  ((cmp_isNaN_int x2).bind fun x7 =>
  (if x5 then (if x7 then some 0 else some (-1)) else (if x7 then some 1 else (if (decide (x1 < x2)) then some (-1) else (if (decide (x2 < x1)) then some 1 else some 0))))))
/-! cmp.Or[int]: function 71 -/
noncomputable def cmp_Or_int.j1   : Option Int :=
  some 0
noncomputable def cmp_Or_int.l1 (x1 : List Int) : Int → Option ((Int) ⊕ (Unit ⊕ Int)) := fun x12 =>
  (if (decide (x12 < (x1.length : Int))) then ((idx x1 x12).bind fun x19 =>
  (if (x19 != 0) then some (.inr (.inr x19)) else (letV (IntKind.i64.wrap (x12 + 1)) fun x25 =>
  some (.inl x25)))) else some (.inr (.inl ())))
noncomputable def cmp_Or_int (x1 : List Int) : Option Int :=
  ((loopO (cmp_Or_int.l1 x1) 0).bind fun b => match b with | .inl _ => cmp_Or_int.j1 | .inr x26 => some x26)
/-! elasticstore/fold.newer: function 57 -/
noncomputable def fold_newer.j1  (x14 : Bool) : Option Bool :=
  some x14
noncomputable def fold_newer (x1 : api_Update) (x5 : fold_Register) : Option Bool :=
  (if (!x5.Set) then fold_newer.j1 true else ((cmp_Compare_int x1.Tag x5.Tag).bind fun x84 =>
  ((cmp_Compare_int x1.Client x5.Client).bind fun x87 =>
  ((cmp_Compare_int x1.Seq x5.Seq).bind fun x90 =>
  ((cmp_Or_int [x84, x87, x90]).bind fun x93 =>
  fold_newer.j1 (decide (0 < x93)))))))
/-! slices.Clone[[]string,string]: function 55 -/
noncomputable def slices_Clone_string (x1 : List (List UInt8)) : Option (List (List UInt8)) :=
  ((app 16 [] x1).bind fun x11 =>
  some x11)
abbrev fold_B := List (List UInt8 × List fold_Field)
abbrev fold_F := List (List UInt8 × List (List UInt8 × fold_Field))
def fold_zero : fold_Field := ⟨[], ⟨false, 0, 0, 0, 0, []⟩, false, 0, 0, [], false⟩
noncomputable def fold_upd (u : api_Update) (e : api_Effect) (f : fold_Field) : Option fold_Field :=
  if e.Kind == 1 then ((fold_newer u f.Register).bind fun b => if b then some { f with Register := ⟨true, u.Tag, u.Client, u.Seq, e.N, e.S⟩ } else some f) else
  if e.Kind == 2 then (if (!f.HasMax) then some { f with HasMax := true, Max := e.N } else if decide (f.Max < e.N) then some { f with HasMax := true, Max := e.N } else some f) else
  if e.Kind == 3 then some { f with Sum := IntKind.i64.wrap (f.Sum + e.N) } else
  if e.Kind == 4 then ((insO f.Elems e.S).bind fun l => some { f with Elems := l }) else
  if e.Kind == 5 then some { f with Flag := true } else some f
def fold_with (x : fold_B) (k : List UInt8) : fold_B := if (x.lookup k).isNone then x ++ [(k, [])] else x
def fold_at (x : fold_B) (k f : List UInt8) : fold_Field := (((x.lookup k).getD []).find? fun q => f == q.Name).getD fold_zero
def fold_set (x : fold_B) (k : List UInt8) (y : fold_Field) : fold_B := mset x k (fput fold_Field.Name y ((x.lookup k).getD []))
noncomputable def fold_eff (u : api_Update) (x : fold_B) (e : api_Effect) : Option fold_B :=
  (fold_upd u e { fold_at (fold_with x e.Object) e.Object e.Field with Name := e.Field }).bind fun f => some (fold_set (fold_with x e.Object) e.Object f)
noncomputable def fold_apply.l1 (u : api_Update) : (Int × fold_B) → Option ((Int × fold_B) ⊕ fold_B) := fun (i, x) =>
  if decide (i < (u.Effects.length : Int)) then ((idx u.Effects i).bind fun e => (fold_eff u x e).bind fun x' => letV (IntKind.i64.wrap (i + 1)) fun j => some (.inl (j, x'))) else some (.inr x)
noncomputable def fold_apply (u : api_Update) (x : fold_B) : Option fold_B := loopO (fold_apply.l1 u) (0, x)
noncomputable def fold_load.l1 (o : fold_Object) : (Int × List fold_Field) → Option ((Int × List fold_Field) ⊕ List fold_Field) := fun (i, fs) =>
  if decide (i < (o.Fields.length : Int)) then ((idx o.Fields i).bind fun f => (slices_Clone_string f.Elems).bind fun l => letV (IntKind.i64.wrap (i + 1)) fun j => some (.inl (j, fput fold_Field.Name { f with Elems := l } fs))) else some (.inr fs)
noncomputable def fold_load.l2 (t : fold_Store) : (Int × fold_B) → Option ((Int × fold_B) ⊕ fold_B) := fun (i, x) =>
  if decide (i < (t.Objects.length : Int)) then ((idx t.Objects i).bind fun o => (loopO (fold_load.l1 o) (0, [])).bind fun fs => letV (IntKind.i64.wrap (i + 1)) fun j => some (.inl (j, mset x o.Name fs))) else some (.inr x)
noncomputable def fold_load (t : fold_Store) : Option fold_B := loopO (fold_load.l2 t) (0, [])
def fold_frz (x : fold_B) : fold_F := x.map fun o => (o.1, o.2.map fun y => (y.Name, y))
noncomputable def fold_store.l1 (m : List (List UInt8 × fold_Field)) (ns : List (List UInt8)) : (Int × List fold_Field) → Option ((Int × List fold_Field) ⊕ List fold_Field) := fun (i, out) =>
  if decide (i < (ns.length : Int)) then ((idx ns i).bind fun n => (app 128 out [(m.lookup n).getD fold_zero]).bind fun out' => letV (IntKind.i64.wrap (i + 1)) fun j => some (.inl (j, out'))) else some (.inr out)
noncomputable def fold_store.l2 (x : fold_F) (ns : List (List UInt8)) : (Int × List fold_Object) → Option ((Int × List fold_Object) ⊕ List fold_Object) := fun (i, out) =>
  if decide (i < (ns.length : Int)) then ((idx ns i).bind fun n => (skeys ((x.lookup n).getD [])).bind fun fs => (loopO (fold_store.l1 ((x.lookup n).getD []) fs) (0, [])).bind fun l => (app 40 out [⟨n, l⟩]).bind fun out' => letV (IntKind.i64.wrap (i + 1)) fun j => some (.inl (j, out'))) else some (.inr out)
noncomputable def fold_store (x : fold_F) : Option fold_Store := (skeys x).bind fun ns => (loopO (fold_store.l2 x ns) (0, [])).bind fun l => some ⟨l⟩

/-! elasticstore/elasticstorelaw00.Index: function 24 -/
noncomputable def eslaw00_Index (x1 : Int) (x2 : Int) : Option Int :=
  (if (decide (x2 < 1)) then some 0 else (if x2 ≠ 0 then (letV (IntKind.i64.wrap ((Int.tmod x1 x2) + x2)) fun x10 =>
  (if x2 ≠ 0 then some (Int.tmod x10 x2) else none)) else none))
/-! elasticstore/elasticstorelaw00.Digit: function 44 -/
noncomputable def eslaw00_Digit.j1 (x2 : Int) (x9 : Int) : Option Int :=
  (if x2 ≠ 0 then some (Int.tmod x9 x2) else none)
noncomputable def eslaw00_Digit.l1 (x2 : Int) (x3 : Int) : (Int × Int) → Option ((Int × Int) ⊕ (Int)) := fun (x15, x16) =>
  (if (decide (x16 < x3)) then (if x2 ≠ 0 then (letV (IntKind.i64.wrap (Int.tdiv x15 x2)) fun x22 =>
  (letV (IntKind.i64.wrap (x16 + 1)) fun x24 =>
  some (.inl (x22, x24)))) else none) else some (.inr x15))
noncomputable def eslaw00_Digit (x1 : Int) (x2 : Int) (x3 : Int) : Option Int :=
  ((eslaw00_Index x1 1099511627776).bind fun x6 =>
  ((loopO (eslaw00_Digit.l1 x2 x3) (x6, 0)).bind fun x25 => eslaw00_Digit.j1 x2 x25))
/-! elasticstore/elasticstorelaw00.name: function 81 -/
noncomputable def eslaw00_name (x1 : Int) : Option (List UInt8) :=
  ((eslaw00_Index x1 4).bind fun x5 =>
  ((idx ([([97] : List UInt8), ([98] : List UInt8), ([99] : List UInt8), ([120, 49] : List UInt8)]) x5).bind fun x6 =>
  some x6))
/-! elasticstore/elasticstorelaw00.Effect: function 68 -/
noncomputable def eslaw00_Effect.j1 (x7 : List UInt8) (x9 : List UInt8) (x16 : Int) (x17 : Int) (x18 : List UInt8) : Option api_Effect :=
  some (⟨x16, x7, x9, x17, x18⟩ : api_Effect)
noncomputable def eslaw00_Effect (x1 : Int) (x2 : Bool) : Option api_Effect :=
  ((eslaw00_Digit x1 4 1).bind fun x6 =>
  ((eslaw00_name x6).bind fun x7 =>
  ((eslaw00_Digit x1 4 2).bind fun x8 =>
  ((eslaw00_name x8).bind fun x9 =>
  ((eslaw00_Digit x1 16 3).bind fun x12 =>
  (letV (IntKind.i64.wrap (x12 - 5)) fun x13 =>
  (if x2 then ((eslaw00_Digit x1 4 5).bind fun x25 =>
  ((eslaw00_name x25).bind fun x26 =>
  eslaw00_Effect.j1 x7 x9 1 x13 x26)) else ((eslaw00_Digit x1 4 0).bind fun x28 =>
  (if (x28 == 0) then eslaw00_Effect.j1 x7 x9 2 x13 [] else ((eslaw00_Digit x1 4 0).bind fun x32 =>
  (if (x32 == 1) then eslaw00_Effect.j1 x7 x9 3 x13 [] else ((eslaw00_Digit x1 4 0).bind fun x36 =>
  (if (x36 == 2) then ((eslaw00_Digit x1 4 5).bind fun x39 =>
  ((eslaw00_name x39).bind fun x40 =>
  eslaw00_Effect.j1 x7 x9 4 0 x40)) else eslaw00_Effect.j1 x7 x9 5 0 [])))))))))))))
/-! elasticstore/elasticstorelaw00.Update: function 45 -/
noncomputable def eslaw00_Update.j1 (x1 : Int) (x2 : Int) (x22 : List api_Effect) : Option api_Update :=
  some (⟨x1, x2, 0, x22⟩ : api_Update)
noncomputable def eslaw00_Update.l1 (x3 : Int) : (Int × (List api_Effect)) → Option ((Int × (List api_Effect)) ⊕ (List api_Effect)) := fun (x30, x31) =>
  ((eslaw00_Digit x3 3 9).bind fun x38 =>
  (if (decide (x30 ≤ x38)) then ((eslaw00_Index x3 1099511627776).bind fun x41 =>
  (letV (IntKind.i64.wrap (x30 + 1)) fun x42 =>
  (if x42 ≠ 0 then (letV (IntKind.i64.wrap (Int.tdiv x41 x42)) fun x43 =>
  ((eslaw00_Effect x43 false).bind fun x45 =>
  ((app 64 x31 [x45]).bind fun x74 =>
  (letV (IntKind.i64.wrap (x30 + 1)) fun x79 =>
  some (.inl (x79, x74)))))) else none))) else some (.inr x31)))
noncomputable def eslaw00_Update (x1 : Int) (x2 : Int) (x3 : Int) : Option api_Update :=
  ((eslaw00_Digit x3 3 8).bind fun x10 =>
  (if (x10 == 0) then ((eslaw00_Digit x3 16 4).bind fun x13 =>
  ((eslaw00_Effect x3 true).bind fun x15 =>
  some (⟨x1, x2, x13, [x15]⟩ : api_Update))) else ((loopO (eslaw00_Update.l1 x3) (0, [])).bind fun x80 => eslaw00_Update.j1 x1 x2 x80)))
/-! elasticstore/elasticstorelaw00.Updates: function 19 -/
noncomputable def eslaw00_Updates.j1  (x8 : List api_Update) : Option (List api_Update) :=
  some x8
noncomputable def eslaw00_Updates.j2 (x20 : Int) (x27 : List api_Update) : Option (((List api_Update) × Int) ⊕ (List api_Update)) :=
  (letV (IntKind.i64.wrap (x20 + 1)) fun x32 =>
  some (.inl (x27, x32)))
noncomputable def eslaw00_Updates.j3 (x41 : Int) (x51 : List api_Update) (x55 : Int) : Option (((List api_Update) × Int × Int) ⊕ (List api_Update)) :=
  (letV (IntKind.i64.wrap (x41 + 1)) fun x57 =>
  some (.inl (x51, x55, x57)))
noncomputable def eslaw00_Updates.j4 (x1 : List Int) (x20 : Int) (x36 : List api_Update) (x40 : Int) (x41 : Int) (x60 : Bool) : Option (((List api_Update) × Int × Int) ⊕ (List api_Update)) :=
  (if x60 then (letV (IntKind.i64.wrap (x40 + 1)) fun x64 =>
  (letV (IntKind.i64.wrap (101 + x20)) fun x65 =>
  ((idx x1 x41).bind fun x66 =>
  ((eslaw00_Index x66 1099511627776).bind fun x69 =>
  (letV (IntKind.i64.wrap (Int.tdiv x69 3)) fun x70 =>
  ((eslaw00_Update x65 x64 x70).bind fun x71 =>
  ((app 48 x36 [(⟨x71.Client, x71.Seq, x71.Tag, x71.Effects⟩ : api_Update)]).bind fun x76 =>
  eslaw00_Updates.j3 x41 x76 x64))))))) else eslaw00_Updates.j3 x41 x36 x40)
noncomputable def eslaw00_Updates.j5 (x1 : List Int) (x20 : Int) (x36 : List api_Update) (x40 : Int) (x41 : Int) (x46 : Bool) : Option (((List api_Update) × Int × Int) ⊕ (List api_Update)) :=
  (if x46 then ((idx x1 x41).bind fun x81 =>
  ((eslaw00_Digit x81 3 0).bind fun x84 =>
  (if (x84 == x20) then eslaw00_Updates.j4 x1 x20 x36 x40 x41 (decide (x40 < 8)) else eslaw00_Updates.j4 x1 x20 x36 x40 x41 false))) else some (.inr x36))
noncomputable def eslaw00_Updates.l1 (x1 : List Int) (x20 : Int) : ((List api_Update) × Int × Int) → Option (((List api_Update) × Int × Int) ⊕ (List api_Update)) := fun (x36, x40, x41) =>
  (if (decide (x41 < (x1.length : Int))) then eslaw00_Updates.j5 x1 x20 x36 x40 x41 (decide (x41 < 24)) else eslaw00_Updates.j5 x1 x20 x36 x40 x41 false)
noncomputable def eslaw00_Updates.l2 (x1 : List Int) : ((List api_Update) × Int) → Option (((List api_Update) × Int) ⊕ (List api_Update)) := fun (x16, x20) =>
  (if (decide (x20 < 3)) then ((loopO (eslaw00_Updates.l1 x1 x20) (x16, 0, 0)).bind fun x87 => eslaw00_Updates.j2 x20 x87) else some (.inr x16))
noncomputable def eslaw00_Updates (x1 : List Int) : Option (List api_Update) :=
  ((loopO (eslaw00_Updates.l2 x1) ([], 0)).bind fun x88 => eslaw00_Updates.j1 x88)
/-! elasticstore/elasticstorelaw00.Some: function 18 -/
noncomputable def eslaw00_Some.j1  (x9 : List api_Update) : Option (List api_Update) :=
  some x9
noncomputable def eslaw00_Some.j2 (x21 : Int) (x28 : List api_Update) : Option (((List api_Update) × Int) ⊕ (List api_Update)) :=
  (letV (IntKind.i64.wrap (x21 + 1)) fun x33 =>
  some (.inl (x28, x33)))
noncomputable def eslaw00_Some.l1 (x1 : List api_Update) (x4 : Int) : ((List api_Update) × Int) → Option (((List api_Update) × Int) ⊕ (List api_Update)) := fun (x17, x21) =>
  (if (decide (x21 < (x1.length : Int))) then ((idx x1 x21).bind fun x35 =>
  ((idx x1 x21).bind fun x39 =>
  (letV (IntKind.i64.wrap (x39.Client - 101)) fun x43 =>
  ((eslaw00_Digit x4 9 x43).bind fun x44 =>
  (if (decide (x35.Seq ≤ x44)) then ((idx x1 x21).bind fun x86 =>
  ((app 48 x17 [x86]).bind fun x92 =>
  eslaw00_Some.j2 x21 x92)) else eslaw00_Some.j2 x21 x17))))) else some (.inr x17))
noncomputable def eslaw00_Some (x1 : List api_Update) (x4 : Int) : Option (List api_Update) :=
  ((loopO (eslaw00_Some.l1 x1 x4) ([], 0)).bind fun x97 => eslaw00_Some.j1 x97)
/-! elasticstore/fold.Fold: function 13 -/
noncomputable def fold_Fold.l1 (x1 : List api_Update) : (Int × fold_B) → Option ((Int × fold_B) ⊕ fold_B) := fun (i, x) =>
  if decide (i < (x1.length : Int)) then ((idx x1 i).bind fun u => (fold_apply u x).bind fun x' => letV (IntKind.i64.wrap (i + 1)) fun j => some (.inl (j, x'))) else some (.inr x)
noncomputable def fold_Fold (x1 : List api_Update) : Option fold_Store := (loopO (fold_Fold.l1 x1) (0, [])).bind fun b => fold_store (fold_frz b)

/-! elasticstore/fold.Apply: function 22 -/
noncomputable def fold_Apply (x1 : fold_Store) (x2 : api_Update) : Option fold_Store := (fold_load x1).bind fun b => (fold_apply x2 b).bind fun b' => fold_store (fold_frz b')

/-! elasticstore/fold.Find: function 27 -/
noncomputable def fold_Find.l1 (x1 : fold_Store) (x2 : List UInt8) : Int → Option (Int ⊕ (Unit ⊕ fold_Object)) := fun i =>
  if decide (i < (x1.Objects.length : Int)) then ((idx x1.Objects i).bind fun o => if o.Name == x2 then ((fold_load ⟨[o]⟩).bind fun b => (fold_store (fold_frz b)).bind fun t => (idx t.Objects 0).bind fun r => some (.inr (.inr r))) else letV (IntKind.i64.wrap (i + 1)) fun j => some (.inl j)) else some (.inr (.inl ()))
noncomputable def fold_Find (x1 : fold_Store) (x2 : List UInt8) : Option fold_Object := (loopO (fold_Find.l1 x1 x2) 0).bind fun b => match b with | .inl _ => some ⟨x2, []⟩ | .inr r => some r

/-! elasticstore/fold.FieldOf: function 28 -/
noncomputable def fold_FieldOf.j1 (x5 : List UInt8) (x11 : fold_Field) : Option fold_Field :=
  some (⟨x5, (⟨false, 0, 0, 0, 0, []⟩ : fold_Register), false, 0, 0, [], false⟩ : fold_Field)
noncomputable def fold_FieldOf.l1 (x1 : fold_Object) (x5 : List UInt8) : (Int × fold_Field) → Option ((Int × fold_Field) ⊕ (fold_Field ⊕ fold_Field)) := fun (x21, x22) =>
  (if (decide (x21 < ((x1.Fields).length : Int))) then ((idx x1.Fields x21).bind fun x31 =>
  (if (x31.Name == x5) then ((slices_Clone_string x31.Elems).bind fun x42 =>
  some (.inr (.inr (⟨x31.Name, (⟨x31.Register.Set, x31.Register.Tag, x31.Register.Client, x31.Register.Seq, x31.Register.N, x31.Register.S⟩ : fold_Register), x31.HasMax, x31.Max, x31.Sum, x42, x31.Flag⟩ : fold_Field)))) else (letV (IntKind.i64.wrap (x21 + 1)) fun x47 =>
  some (.inl (x47, x22))))) else some (.inr (.inl x22)))
noncomputable def fold_FieldOf (x1 : fold_Object) (x5 : List UInt8) : Option fold_Field :=
  ((loopO (fold_FieldOf.l1 x1 x5) (0, (⟨[], (⟨false, 0, 0, 0, 0, []⟩ : fold_Register), false, 0, 0, [], false⟩ : fold_Field))).bind fun b => match b with | .inl x48 => fold_FieldOf.j1 x5 x48 | .inr x49 => some x49)
/-! slices.EqualFunc[[]elasticstore/fold.Object,[]elasticstore/fold.Object,elasticstore/fold.Object,elasticstore/fold.Object]: function 53 -/
noncomputable def slices_EqualFunc_Object.j1   : Option Bool :=
  some true
noncomputable def slices_EqualFunc_Object.l1 (x1 : List fold_Object) (x4 : List fold_Object) (x7 : fold_Object × fold_Object → Option Bool) : Int → Option ((Int) ⊕ (Unit ⊕ Bool)) := fun x20 =>
  (if (decide (x20 < (x1.length : Int))) then ((idx x1 x20).bind fun x27 =>
  ((idx x4 x20).bind fun x34 =>
  ((x7 (x27, x34)).bind fun x41 =>
  (if (!x41) then some (.inr (.inr false)) else (letV (IntKind.i64.wrap (x20 + 1)) fun x44 =>
  some (.inl x44)))))) else some (.inr (.inl ())))
noncomputable def slices_EqualFunc_Object (x1 : List fold_Object) (x4 : List fold_Object) (x7 : fold_Object × fold_Object → Option Bool) : Option Bool :=
  (if ((x1.length : Int) != (x4.length : Int)) then some false else ((loopO (slices_EqualFunc_Object.l1 x1 x4 x7) 0).bind fun b => match b with | .inl _ => slices_EqualFunc_Object.j1 | .inr x45 => some x45))
/-! slices.EqualFunc[[]elasticstore/fold.Field,[]elasticstore/fold.Field,elasticstore/fold.Field,elasticstore/fold.Field]: function 69 -/
noncomputable def slices_EqualFunc_Field.j1   : Option Bool :=
  some true
noncomputable def slices_EqualFunc_Field.l1 (x1 : List fold_Field) (x4 : List fold_Field) (x7 : fold_Field × fold_Field → Option Bool) : Int → Option ((Int) ⊕ (Unit ⊕ Bool)) := fun x20 =>
  (if (decide (x20 < (x1.length : Int))) then ((idx x1 x20).bind fun x27 =>
  ((idx x4 x20).bind fun x34 =>
  ((x7 (x27, x34)).bind fun x41 =>
  (if (!x41) then some (.inr (.inr false)) else (letV (IntKind.i64.wrap (x20 + 1)) fun x44 =>
  some (.inl x44)))))) else some (.inr (.inl ())))
noncomputable def slices_EqualFunc_Field (x1 : List fold_Field) (x4 : List fold_Field) (x7 : fold_Field × fold_Field → Option Bool) : Option Bool :=
  (if ((x1.length : Int) != (x4.length : Int)) then some false else ((loopO (slices_EqualFunc_Field.l1 x1 x4 x7) 0).bind fun b => match b with | .inl _ => slices_EqualFunc_Field.j1 | .inr x45 => some x45))
/-! slices.Equal[[]string,string]: function 82 -/
noncomputable def slices_Equal_string.j1   : Option Bool :=
  some true
noncomputable def slices_Equal_string.l1 (x1 : List (List UInt8)) (x4 : List (List UInt8)) : Int → Option ((Int) ⊕ (Unit ⊕ Bool)) := fun x18 =>
  (if (decide (x18 < (x1.length : Int))) then ((idx x1 x18).bind fun x26 =>
  ((idx x4 x18).bind fun x29 =>
  (if (x26 != x29) then some (.inr (.inr false)) else (letV (IntKind.i64.wrap (x18 + 1)) fun x58 =>
  some (.inl x58))))) else some (.inr (.inl ())))
noncomputable def slices_Equal_string (x1 : List (List UInt8)) (x4 : List (List UInt8)) : Option Bool :=
  (if ((x1.length : Int) != (x4.length : Int)) then some false else ((loopO (slices_Equal_string.l1 x1 x4) 0).bind fun b => match b with | .inl _ => slices_Equal_string.j1 | .inr x59 => some x59))
/-! elasticstore/fold.equalFields: function 70 -/
noncomputable def fold_equalFields.j1  (x14 : Bool) : Option Bool :=
  some x14
noncomputable def fold_equalFields (x1 : fold_Field) (x5 : fold_Field) : Option Bool :=
  (if (x1.Name == x5.Name) then (if (decide ((⟨x1.Register.Set, x1.Register.Tag, x1.Register.Client, x1.Register.Seq, x1.Register.N, x1.Register.S⟩ : fold_Register) = (⟨x5.Register.Set, x5.Register.Tag, x5.Register.Client, x5.Register.Seq, x5.Register.N, x5.Register.S⟩ : fold_Register))) then (if (x1.HasMax == x5.HasMax) then (if (x1.Max == x5.Max) then (if (x1.Sum == x5.Sum) then ((slices_Equal_string x1.Elems x5.Elems).bind fun x41 =>
  (if x41 then fold_equalFields.j1 (x1.Flag == x5.Flag) else fold_equalFields.j1 false)) else fold_equalFields.j1 false) else fold_equalFields.j1 false) else fold_equalFields.j1 false) else fold_equalFields.j1 false) else fold_equalFields.j1 false)
/-! elasticstore/fold.equalObjects: function 54 -/
noncomputable def fold_equalObjects.j1  (x14 : Bool) : Option Bool :=
  some x14
noncomputable def fold_equalObjects (x1 : fold_Object) (x5 : fold_Object) : Option Bool :=
  (if (x1.Name == x5.Name) then ((slices_EqualFunc_Field x1.Fields x5.Fields (fun p : fold_Field × fold_Field => fold_equalFields p.1 p.2)).bind fun x25 =>
  fold_equalObjects.j1 x25) else fold_equalObjects.j1 false)
/-! elasticstore/fold.Equal: function 26 -/
noncomputable def fold_Equal (x1 : fold_Store) (x5 : fold_Store) : Option Bool :=
  ((slices_EqualFunc_Object x1.Objects x5.Objects (fun p : fold_Object × fold_Object => fold_equalObjects p.1 p.2)).bind fun x19 =>
  some x19)
/-! elasticstore/wire.AppendUint: function 65 -/
noncomputable def wire_AppendUint.j1 (x1 : List Int) (x9 : Int) (x10 : List Int) : Option (List Int) :=
  ((app 1 x10 [(IntKind.u8.wrap x9)]).bind fun x17 =>
  ((cut x1 0 (x1.length : Int)).bind fun x23 =>
  (if 0 < x17.length then ((app 1 x23 x17).bind fun x25 =>
  some x25) else none)))
noncomputable def wire_AppendUint.l1  : (Int × (List Int)) → Option ((Int × (List Int)) ⊕ (Int × (List Int))) := fun (x30, x31) =>
  (if (decide (128 ≤ x30)) then (letV (bitsOf .or .u8 (IntKind.u8.wrap x30) 128) fun x40 =>
  ((app 1 x31 [x40]).bind fun x42 =>
  some (.inl (shrI .u64 x30 7, x42)))) else some (.inr (x30, x31)))
noncomputable def wire_AppendUint (x1 : List Int) (x4 : Int) : Option (List Int) :=
  ((loopO wire_AppendUint.l1 (x4, [])).bind fun (x48, x49) => wire_AppendUint.j1 x1 x48 x49)
/-! elasticstore/wire.AppendString: function 63 -/
noncomputable def wire_AppendString (x1 : List Int) (x4 : List UInt8) : Option (List Int) :=
  (letV (IntKind.u64.wrap (x4.length : Int)) fun x7 =>
  ((wire_AppendUint x1 x7).bind fun x8 =>
  ((app 1 x8 (sby x4)).bind fun x12 =>
  some x12)))
/-! elasticstore/wire.AppendBool: function 64 -/
noncomputable def wire_AppendBool (x1 : List Int) (x4 : Bool) : Option (List Int) :=
  (if x4 then ((cut x1 0 (x1.length : Int)).bind fun x10 =>
  ((app 1 x10 [1]).bind fun x13 =>
  some x13)) else ((cut x1 0 (x1.length : Int)).bind fun x17 =>
  ((app 1 x17 [0]).bind fun x20 =>
  some x20)))
/-! elasticstore/wire.AppendInt: function 66 -/
noncomputable def wire_AppendInt (x1 : List Int) (x4 : Int) : Option (List Int) :=
  (letV (shlI .u64 (IntKind.u64.wrap x4) 1) fun x8 =>
  (letV (IntKind.u64.wrap (shrI .i64 x4 63)) fun x10 =>
  (letV (bitsOf .xor .u64 x8 x10) fun x11 =>
  ((wire_AppendUint x1 x11).bind fun x12 =>
  some x12))))
/-! elasticstore/fold.appendField: function 39 -/
noncomputable def fold_appendField.j1 (x5 : fold_Field) (x75 : List Int) : Option (List Int) :=
  ((wire_AppendBool x75 x5.Flag).bind fun x81 =>
  some x81)
noncomputable def fold_appendField.l1 (x5 : fold_Field) : ((List Int) × Int) → Option (((List Int) × Int) ⊕ (List Int)) := fun (x90, x93) =>
  (if (decide (x93 < ((x5.Elems).length : Int))) then ((idx x5.Elems x93).bind fun x100 =>
  ((wire_AppendString x90 x100).bind fun x103 =>
  (letV (IntKind.i64.wrap (x93 + 1)) fun x107 =>
  some (.inl (x103, x107))))) else some (.inr x90))
noncomputable def fold_appendField.j2 (x5 : fold_Field) (x30 : List Int) : Option (List Int) :=
  ((wire_AppendInt x30 x5.Register.N).bind fun x36 =>
  ((wire_AppendString x36 x5.Register.S).bind fun x42 =>
  ((wire_AppendBool x42 x5.HasMax).bind fun x48 =>
  ((wire_AppendInt x48 x5.Max).bind fun x54 =>
  ((wire_AppendInt x54 x5.Sum).bind fun x60 =>
  (letV (IntKind.u64.wrap ((x5.Elems).length : Int)) fun x68 =>
  ((wire_AppendUint x60 x68).bind fun x69 =>
  ((loopO (fold_appendField.l1 x5) (x69, 0)).bind fun x108 => fold_appendField.j1 x5 x108))))))))
noncomputable def fold_appendField.l2 (x5 : fold_Field) : ((List Int) × Int) → Option (((List Int) × Int) ⊕ (List Int)) := fun (x114, x117) =>
  (if (decide (x117 < 3)) then ((idx ([x5.Register.Tag, x5.Register.Client, x5.Register.Seq] : List Int) x117).bind fun x124 =>
  ((wire_AppendUint x114 (IntKind.u64.wrap x124)).bind fun x125 =>
  (letV (IntKind.i64.wrap (x117 + 1)) fun x129 =>
  some (.inl (x125, x129))))) else some (.inr x114))
noncomputable def fold_appendField (x1 : List Int) (x4 : List UInt8) (x5 : fold_Field) : Option (List Int) :=
  ((wire_AppendString x1 x4).bind fun x12 =>
  ((wire_AppendString x12 x5.Name).bind fun x18 =>
  ((wire_AppendBool x18 x5.Register.Set).bind fun x24 =>
  ((loopO (fold_appendField.l2 x5) (x24, 0)).bind fun x130 => fold_appendField.j2 x5 x130))))
/-! elasticstore/fold.Hash: function 16 -/
noncomputable def fold_Hash.j1  (x10 : Int) : Option Int :=
  some x10
noncomputable def fold_Hash.j2 (x19 : Int) (x26 : Int) : Option ((Int × Int) ⊕ (Int)) :=
  (letV (IntKind.i64.wrap (x19 + 1)) fun x28 =>
  some (.inl (x26, x28)))
noncomputable def fold_Hash.j3 (x42 : Int) (x49 : Int) : Option ((Int × Int) ⊕ (Int)) :=
  (letV (IntKind.i64.wrap (x42 + 1)) fun x51 =>
  some (.inl (x49, x51)))
noncomputable def fold_Hash.l1 (x61 : List Int) : (Int × Int) → Option ((Int × Int) ⊕ (Int)) := fun (x66, x67) =>
  (if (decide (x67 < (x61.length : Int))) then ((idx x61 x67).bind fun x74 =>
  (letV (bitsOf .xor .u64 x66 (IntKind.u64.wrap x74)) fun x77 =>
  (letV (IntKind.u64.wrap (x77 * 1099511628211)) fun x78 =>
  (letV (IntKind.i64.wrap (x67 + 1)) fun x79 =>
  some (.inl (x78, x79)))))) else some (.inr x66))
noncomputable def fold_Hash.l2 (x30 : fold_Object) : (Int × Int) → Option ((Int × Int) ⊕ (Int)) := fun (x41, x42) =>
  (if (decide (x42 < ((x30.Fields).length : Int))) then ((idx x30.Fields x42).bind fun x53 =>
  ((fold_appendField [] x30.Name x53).bind fun x61 =>
  ((loopO (fold_Hash.l1 x61) (x41, 0)).bind fun x80 => fold_Hash.j3 x42 x80))) else some (.inr x41))
noncomputable def fold_Hash.l3 (x1 : fold_Store) : (Int × Int) → Option ((Int × Int) ⊕ (Int)) := fun (x18, x19) =>
  (if (decide (x19 < ((x1.Objects).length : Int))) then ((idx x1.Objects x19).bind fun x30 =>
  ((loopO (fold_Hash.l2 x30) (x18, 0)).bind fun x81 => fold_Hash.j2 x19 x81)) else some (.inr x18))
noncomputable def fold_Hash (x1 : fold_Store) : Option Int :=
  ((loopO (fold_Hash.l3 x1) (14695981039346656037, 0)).bind fun x82 => fold_Hash.j1 x82)
/-! elasticstore/elasticstorelaw30.awake: function 12 -/
noncomputable def eslaw30_awake.j1  (x37 : Bool) : Option Bool :=
  some x37
noncomputable def eslaw30_awake  : Option Bool :=
  ((fold_Apply (⟨[]⟩ : fold_Store) (⟨102, 1, 0, [(⟨3, ([120] : List UInt8), ([99] : List UInt8), 3, []⟩ : api_Effect), (⟨4, ([97] : List UInt8), ([115] : List UInt8), 0, ([113] : List UInt8)⟩ : api_Effect)]⟩ : api_Update)).bind fun x9 =>
  ((fold_Apply x9 (⟨101, 1, 0, [(⟨3, ([120] : List UInt8), ([99] : List UInt8), 2, []⟩ : api_Effect)]⟩ : api_Update)).bind fun x12 =>
  (if (((x12.Objects).length : Int) == 2) then ((idx x12.Objects 0).bind fun x46 =>
  (if (x46.Name == ([97] : List UInt8)) then ((fold_Find x12 ([120] : List UInt8)).bind fun x51 =>
  ((fold_FieldOf x51 ([99] : List UInt8)).bind fun x54 =>
  (if (x54.Sum == 5) then ((fold_Fold ([(⟨101, 1, 0, [(⟨3, ([120] : List UInt8), ([99] : List UInt8), 2, []⟩ : api_Effect)]⟩ : api_Update), (⟨102, 1, 0, [(⟨3, ([120] : List UInt8), ([99] : List UInt8), 3, []⟩ : api_Effect), (⟨4, ([97] : List UInt8), ([115] : List UInt8), 0, ([113] : List UInt8)⟩ : api_Effect)]⟩ : api_Update)])).bind fun x61 =>
  ((fold_Equal x12 x61).bind fun x64 =>
  (if x64 then ((fold_Equal x12 (⟨[]⟩ : fold_Store)).bind fun x66 =>
  (if (!x66) then ((fold_Hash (⟨[]⟩ : fold_Store)).bind fun x68 =>
  eslaw30_awake.j1 (x68 == 14695981039346656037)) else eslaw30_awake.j1 false)) else eslaw30_awake.j1 false))) else eslaw30_awake.j1 false))) else eslaw30_awake.j1 false)) else eslaw30_awake.j1 false)))
/-! elasticstore/elasticstorelaw30.FoldSorted: function 9 -/
noncomputable def eslaw30_FoldSorted.j1   : Option Bool :=
  ((eslaw30_awake).bind fun x23 =>
  some x23)
noncomputable def eslaw30_FoldSorted.j2 (x26 : Int)  : Option ((Int) ⊕ (Unit ⊕ Bool)) :=
  (letV (IntKind.i64.wrap (x26 + 1)) fun x37 =>
  some (.inl x37))
noncomputable def eslaw30_FoldSorted.j3 (x57 : Int)  : Option ((Int) ⊕ (Unit ⊕ Bool)) :=
  (letV (IntKind.i64.wrap (x57 + 1)) fun x68 =>
  some (.inl x68))
noncomputable def eslaw30_FoldSorted.l1 (x42 : fold_Object) (x57 : Int) : Int → Option ((Int) ⊕ (Unit ⊕ Bool)) := fun x78 =>
  ((idx x42.Fields x57).bind fun x85 =>
  (if (decide (x78 < ((x85.Elems).length : Int))) then ((idx x42.Fields x57).bind fun x97 =>
  ((idx x97.Elems x78).bind fun x103 =>
  ((idx x42.Fields x57).bind fun x109 =>
  (letV (IntKind.i64.wrap (x78 - 1)) fun x115 =>
  ((idx x109.Elems x115).bind fun x116 =>
  (if ((Op.bytesLess x103 x116 || x103 == x116)) then some (.inr (.inr false)) else (letV (IntKind.i64.wrap (x78 + 1)) fun x199 =>
  some (.inl x199)))))))) else some (.inr (.inl ()))))
noncomputable def eslaw30_FoldSorted.j4 (x42 : fold_Object) (x57 : Int) (x72 : Bool) : Option ((Int) ⊕ (Unit ⊕ Bool)) :=
  (if x72 then some (.inr (.inr false)) else ((loopO (eslaw30_FoldSorted.l1 x42 x57) 1).bind fun b => match b with | .inl _ => eslaw30_FoldSorted.j3 x57 | .inr x200 => some (.inr (.inr x200))))
noncomputable def eslaw30_FoldSorted.l2 (x42 : fold_Object) : Int → Option ((Int) ⊕ (Unit ⊕ Bool)) := fun x57 =>
  (if (decide (x57 < ((x42.Fields).length : Int))) then (if (decide (0 < x57)) then ((idx x42.Fields x57).bind fun x205 =>
  (letV (IntKind.i64.wrap (x57 - 1)) fun x212 =>
  ((idx x42.Fields x212).bind fun x213 =>
  eslaw30_FoldSorted.j4 x42 x57 ((Op.bytesLess x205.Name x213.Name || x205.Name == x213.Name))))) else eslaw30_FoldSorted.j4 x42 x57 false) else some (.inr (.inl ())))
noncomputable def eslaw30_FoldSorted.j5 (x26 : Int) (x42 : fold_Object) (x51 : Bool) : Option ((Int) ⊕ (Unit ⊕ Bool)) :=
  (if x51 then some (.inr (.inr false)) else ((loopO (eslaw30_FoldSorted.l2 x42) 0).bind fun b => match b with | .inl _ => eslaw30_FoldSorted.j2 x26 | .inr x339 => some (.inr (.inr x339))))
noncomputable def eslaw30_FoldSorted.l3 (x15 : fold_Store) : Int → Option ((Int) ⊕ (Unit ⊕ Bool)) := fun x26 =>
  (if (decide (x26 < ((x15.Objects).length : Int))) then ((idx x15.Objects x26).bind fun x42 =>
  (if (decide (0 < x26)) then (letV (IntKind.i64.wrap (x26 - 1)) fun x345 =>
  ((idx x15.Objects x345).bind fun x346 =>
  (if ((Op.bytesLess x42.Name x346.Name || x42.Name == x346.Name)) then eslaw30_FoldSorted.j5 x26 x42 true else eslaw30_FoldSorted.j5 x26 x42 (((x42.Fields).length : Int) == 0)))) else eslaw30_FoldSorted.j5 x26 x42 (((x42.Fields).length : Int) == 0))) else some (.inr (.inl ())))
noncomputable def eslaw30_FoldSorted (x1 : List Int) (x4 : Int) : Option Bool :=
  ((eslaw00_Updates x1).bind fun x7 =>
  ((eslaw00_Some x7 x4).bind fun x11 =>
  ((fold_Fold x11).bind fun x15 =>
  ((loopO (eslaw30_FoldSorted.l3 x15) 0).bind fun b => match b with | .inl _ => eslaw30_FoldSorted.j1 | .inr x551 => some x551))))
/-! elasticstore/elasticstorelaw30.in: function 35 -/
noncomputable def eslaw30_in.j1   : Option Bool :=
  some false
noncomputable def eslaw30_in.j2 (x16 : Int) (x24 : Bool) : Option ((Int) ⊕ (Unit ⊕ Bool)) :=
  (if x24 then some (.inr (.inr true)) else (letV (IntKind.i64.wrap (x16 + 1)) fun x28 =>
  some (.inl x28)))
noncomputable def eslaw30_in.l1 (x1 : List api_Update) (x4 : api_Update) : Int → Option ((Int) ⊕ (Unit ⊕ Bool)) := fun x16 =>
  (if (decide (x16 < (x1.length : Int))) then ((idx x1 x16).bind fun x29 =>
  (if (x29.Client == x4.Client) then ((idx x1 x16).bind fun x35 =>
  eslaw30_in.j2 x16 (x35.Seq == x4.Seq)) else eslaw30_in.j2 x16 false)) else some (.inr (.inl ())))
noncomputable def eslaw30_in (x1 : List api_Update) (x4 : api_Update) : Option Bool :=
  ((loopO (eslaw30_in.l1 x1 x4) 0).bind fun b => match b with | .inl _ => eslaw30_in.j1 | .inr x146 => some x146)
/-! elasticstore/elasticstorelaw30.FoldSums: function 10 -/
noncomputable def eslaw30_FoldSums.j1   : Option Bool :=
  ((eslaw30_awake).bind fun x37 =>
  some x37)
noncomputable def eslaw30_FoldSums.j2 (x40 : Int)  : Option ((Int) ⊕ (Unit ⊕ Bool)) :=
  (letV (IntKind.i64.wrap (x40 + 1)) fun x51 =>
  some (.inl x51))
noncomputable def eslaw30_FoldSums.l1 (x17 : fold_Store) (x29 : List fold_Object) (x56 : fold_Object) : Int → Option ((Int) ⊕ (Unit ⊕ Bool)) := fun x64 =>
  (if (decide (x64 < ((x56.Fields).length : Int))) then ((idx x56.Fields x64).bind fun x77 =>
  ((fold_Find x17 x56.Name).bind fun x83 =>
  ((fold_FieldOf x83 x77.Name).bind fun x86 =>
  ((fold_Find (⟨x29⟩ : fold_Store) x56.Name).bind fun x91 =>
  ((fold_FieldOf x91 x77.Name).bind fun x94 =>
  (letV (IntKind.i64.wrap (x86.Sum + x94.Sum)) fun x98 =>
  ((idx x56.Fields x64).bind fun x102 =>
  (if (x98 != x102.Sum) then some (.inr (.inr false)) else (letV (IntKind.i64.wrap (x64 + 1)) fun x183 =>
  some (.inl x183)))))))))) else some (.inr (.inl ())))
noncomputable def eslaw30_FoldSums.l2 (x17 : fold_Store) (x20 : fold_Store) (x29 : List fold_Object) : Int → Option ((Int) ⊕ (Unit ⊕ Bool)) := fun x40 =>
  (if (decide (x40 < ((x20.Objects).length : Int))) then ((idx x20.Objects x40).bind fun x56 =>
  ((loopO (eslaw30_FoldSums.l1 x17 x29 x56) 0).bind fun b => match b with | .inl _ => eslaw30_FoldSums.j2 x40 | .inr x184 => some (.inr (.inr x184)))) else some (.inr (.inl ())))
noncomputable def eslaw30_FoldSums.j3 (x17 : fold_Store) (x20 : fold_Store) (x29 : List fold_Object) : Option Bool :=
  ((loopO (eslaw30_FoldSums.l2 x17 x20 x29) 0).bind fun b => match b with | .inl _ => eslaw30_FoldSums.j1 | .inr x185 => some x185)
noncomputable def eslaw30_FoldSums.j4 (x188 : Int) (x198 : List fold_Object) : Option ((Int × (List fold_Object)) ⊕ (List fold_Object)) :=
  (letV (IntKind.i64.wrap (x188 + 1)) fun x202 =>
  some (.inl (x202, x198)))
noncomputable def eslaw30_FoldSums.l3 (x7 : List api_Update) (x12 : List api_Update) : (Int × (List fold_Object)) → Option ((Int × (List fold_Object)) ⊕ (List fold_Object)) := fun (x188, x189) =>
  (if (decide (x188 < (x7.length : Int))) then ((idx x7 x188).bind fun x204 =>
  ((eslaw30_in x12 x204).bind fun x209 =>
  (if (!x209) then ((idx x7 x188).bind fun x211 =>
  ((fold_Apply (⟨x189⟩ : fold_Store) x211).bind fun x216 =>
  eslaw30_FoldSums.j4 x188 x216.Objects)) else eslaw30_FoldSums.j4 x188 x189))) else some (.inr x189))
noncomputable def eslaw30_FoldSums (x1 : List Int) (x4 : Int) : Option Bool :=
  ((eslaw00_Updates x1).bind fun x7 =>
  ((eslaw00_Some x7 x4).bind fun x12 =>
  ((fold_Fold x12).bind fun x17 =>
  ((fold_Fold x7).bind fun x20 =>
  ((loopO (eslaw30_FoldSums.l3 x7 x12) (0, [])).bind fun x245 => eslaw30_FoldSums.j3 x17 x20 x245)))))
/-! elasticstore/elasticstorelaw30.earlier: function 29 -/
noncomputable def eslaw30_earlier.j1  (x14 : Bool) : Option Bool :=
  some x14
noncomputable def eslaw30_earlier (x1 : fold_Register) (x5 : fold_Register) : Option Bool :=
  (if (decide (x1.Tag < x5.Tag)) then eslaw30_earlier.j1 true else (if (x1.Tag == x5.Tag) then (if (decide (x1.Client < x5.Client)) then eslaw30_earlier.j1 true else (if (x1.Client == x5.Client) then eslaw30_earlier.j1 (decide (x1.Seq < x5.Seq)) else eslaw30_earlier.j1 false)) else eslaw30_earlier.j1 false))
/-! elasticstore/elasticstoreref32.Has: function 30 -/
noncomputable def esref32_Has.j1   : Option Bool :=
  some false
noncomputable def esref32_Has.l1 (x1 : List (List UInt8)) (x4 : List UInt8) : Int → Option ((Int) ⊕ (Unit ⊕ Bool)) := fun x12 =>
  (if (decide (x12 < (x1.length : Int))) then ((idx x1 x12).bind fun x19 =>
  (if (x19 == x4) then some (.inr (.inr true)) else (letV (IntKind.i64.wrap (x12 + 1)) fun x24 =>
  some (.inl x24)))) else some (.inr (.inl ())))
noncomputable def esref32_Has (x1 : List (List UInt8)) (x4 : List UInt8) : Option Bool :=
  ((loopO (esref32_Has.l1 x1 x4) 0).bind fun b => match b with | .inl _ => esref32_Has.j1 | .inr x25 => some x25)
/-! elasticstore/elasticstorelaw30.FoldGrows: function 7 -/
noncomputable def eslaw30_FoldGrows.j1   : Option Bool :=
  ((eslaw30_awake).bind fun x28 =>
  some x28)
noncomputable def eslaw30_FoldGrows.j2 (x31 : Int)  : Option ((Int) ⊕ (Unit ⊕ Bool)) :=
  (letV (IntKind.i64.wrap (x31 + 1)) fun x42 =>
  some (.inl x42))
noncomputable def eslaw30_FoldGrows.j3 (x61 : Int)  : Option ((Int) ⊕ (Unit ⊕ Bool)) :=
  (letV (IntKind.i64.wrap (x61 + 1)) fun x72 =>
  some (.inl x72))
noncomputable def eslaw30_FoldGrows.l1 (x77 : fold_Field) (x89 : fold_Field) : Int → Option ((Int) ⊕ (Unit ⊕ Bool)) := fun x155 =>
  (if (decide (x155 < ((x77.Elems).length : Int))) then ((idx x77.Elems x155).bind fun x171 =>
  ((esref32_Has x89.Elems x171).bind fun x174 =>
  (if (!x174) then some (.inr (.inr false)) else (letV (IntKind.i64.wrap (x155 + 1)) fun x208 =>
  some (.inl x208))))) else some (.inr (.inl ())))
noncomputable def eslaw30_FoldGrows.j4 (x61 : Int) (x77 : fold_Field) (x89 : fold_Field) (x149 : Bool) : Option ((Int) ⊕ (Unit ⊕ Bool)) :=
  (if x149 then some (.inr (.inr false)) else ((loopO (eslaw30_FoldGrows.l1 x77 x89) 0).bind fun b => match b with | .inl _ => eslaw30_FoldGrows.j3 x61 | .inr x209 => some (.inr (.inr x209))))
noncomputable def eslaw30_FoldGrows.l2 (x47 : fold_Object) (x55 : fold_Object) : Int → Option ((Int) ⊕ (Unit ⊕ Bool)) := fun x61 =>
  (if (decide (x61 < ((x47.Fields).length : Int))) then ((idx x47.Fields x61).bind fun x77 =>
  ((idx x47.Fields x61).bind fun x85 =>
  ((fold_FieldOf x55 x85.Name).bind fun x89 =>
  (if x77.HasMax then (if (!x89.HasMax) then eslaw30_FoldGrows.j4 x61 x77 x89 true else (if (decide (x89.Max < x77.Max)) then eslaw30_FoldGrows.j4 x61 x77 x89 true else (if x77.Flag then (if (!x89.Flag) then eslaw30_FoldGrows.j4 x61 x77 x89 true else (if x77.Register.Set then (if (!x89.Register.Set) then eslaw30_FoldGrows.j4 x61 x77 x89 true else ((eslaw30_earlier x89.Register x77.Register).bind fun x231 =>
  eslaw30_FoldGrows.j4 x61 x77 x89 x231)) else eslaw30_FoldGrows.j4 x61 x77 x89 false)) else (if x77.Register.Set then (if (!x89.Register.Set) then eslaw30_FoldGrows.j4 x61 x77 x89 true else ((eslaw30_earlier x89.Register x77.Register).bind fun x242 =>
  eslaw30_FoldGrows.j4 x61 x77 x89 x242)) else eslaw30_FoldGrows.j4 x61 x77 x89 false)))) else (if x77.Flag then (if (!x89.Flag) then eslaw30_FoldGrows.j4 x61 x77 x89 true else (if x77.Register.Set then (if (!x89.Register.Set) then eslaw30_FoldGrows.j4 x61 x77 x89 true else ((eslaw30_earlier x89.Register x77.Register).bind fun x257 =>
  eslaw30_FoldGrows.j4 x61 x77 x89 x257)) else eslaw30_FoldGrows.j4 x61 x77 x89 false)) else (if x77.Register.Set then (if (!x89.Register.Set) then eslaw30_FoldGrows.j4 x61 x77 x89 true else ((eslaw30_earlier x89.Register x77.Register).bind fun x268 =>
  eslaw30_FoldGrows.j4 x61 x77 x89 x268)) else eslaw30_FoldGrows.j4 x61 x77 x89 false)))))) else some (.inr (.inl ())))
noncomputable def eslaw30_FoldGrows.l3 (x16 : fold_Store) (x19 : fold_Store) : Int → Option ((Int) ⊕ (Unit ⊕ Bool)) := fun x31 =>
  (if (decide (x31 < ((x16.Objects).length : Int))) then ((idx x16.Objects x31).bind fun x47 =>
  ((fold_Find x19 x47.Name).bind fun x55 =>
  ((loopO (eslaw30_FoldGrows.l2 x47 x55) 0).bind fun b => match b with | .inl _ => eslaw30_FoldGrows.j2 x31 | .inr x269 => some (.inr (.inr x269))))) else some (.inr (.inl ())))
noncomputable def eslaw30_FoldGrows (x1 : List Int) (x4 : Int) : Option Bool :=
  ((eslaw00_Updates x1).bind fun x7 =>
  ((eslaw00_Some x7 x4).bind fun x12 =>
  ((fold_Fold x12).bind fun x16 =>
  ((fold_Fold x7).bind fun x19 =>
  ((loopO (eslaw30_FoldGrows.l3 x16 x19) 0).bind fun b => match b with | .inl _ => eslaw30_FoldGrows.j1 | .inr x270 => some x270)))))
/-! elasticstore/elasticstoreref32.Find: function 32 -/
noncomputable def esref32_Find.j1 (x5 : List UInt8) (x11 : List UInt8) (x12 : List fold_Field) : Option fold_Object :=
  some (⟨x5, []⟩ : fold_Object)
noncomputable def esref32_Find.l1 (x1 : fold_Store) (x5 : List UInt8) : (Int × (List UInt8) × (List fold_Field)) → Option ((Int × (List UInt8) × (List fold_Field)) ⊕ (((List UInt8) × (List fold_Field)) ⊕ fold_Object)) := fun (x19, x20, x21) =>
  (if (decide (x19 < ((x1.Objects).length : Int))) then ((idx x1.Objects x19).bind fun x36 =>
  (if (x36.Name == x5) then ((idx x1.Objects x19).bind fun x45 =>
  some (.inr (.inr x45))) else (letV (IntKind.i64.wrap (x19 + 1)) fun x50 =>
  some (.inl (x50, x20, x21))))) else some (.inr (.inl (x20, x21))))
noncomputable def esref32_Find (x1 : fold_Store) (x5 : List UInt8) : Option fold_Object :=
  ((loopO (esref32_Find.l1 x1 x5) (0, [], [])).bind fun b => match b with | .inl (x51, x52) => esref32_Find.j1 x5 x51 x52 | .inr x53 => some x53)
/-! elasticstore/elasticstoreref32.EqualStrings: function 56 -/
noncomputable def esref32_EqualStrings.j1   : Option Bool :=
  some true
noncomputable def esref32_EqualStrings.l1 (x1 : List (List UInt8)) (x4 : List (List UInt8)) : Int → Option ((Int) ⊕ (Unit ⊕ Bool)) := fun x18 =>
  (if (decide (x18 < (x1.length : Int))) then ((idx x1 x18).bind fun x25 =>
  ((idx x4 x18).bind fun x28 =>
  (if (x25 != x28) then some (.inr (.inr false)) else (letV (IntKind.i64.wrap (x18 + 1)) fun x57 =>
  some (.inl x57))))) else some (.inr (.inl ())))
noncomputable def esref32_EqualStrings (x1 : List (List UInt8)) (x4 : List (List UInt8)) : Option Bool :=
  (if ((x1.length : Int) != (x4.length : Int)) then some false else ((loopO (esref32_EqualStrings.l1 x1 x4) 0).bind fun b => match b with | .inl _ => esref32_EqualStrings.j1 | .inr x58 => some x58))
/-! elasticstore/elasticstoreref32.EqualField: function 33 -/
noncomputable def esref32_EqualField.j1  (x14 : Bool) : Option Bool :=
  some x14
noncomputable def esref32_EqualField (x1 : fold_Field) (x5 : fold_Field) : Option Bool :=
  (if (x1.Name == x5.Name) then (if (decide ((⟨x1.Register.Set, x1.Register.Tag, x1.Register.Client, x1.Register.Seq, x1.Register.N, x1.Register.S⟩ : fold_Register) = (⟨x5.Register.Set, x5.Register.Tag, x5.Register.Client, x5.Register.Seq, x5.Register.N, x5.Register.S⟩ : fold_Register))) then (if (x1.HasMax == x5.HasMax) then (if (x1.Max == x5.Max) then (if (x1.Sum == x5.Sum) then (if (x1.Flag == x5.Flag) then ((esref32_EqualStrings x1.Elems x5.Elems).bind fun x44 =>
  esref32_EqualField.j1 x44) else esref32_EqualField.j1 false) else esref32_EqualField.j1 false) else esref32_EqualField.j1 false) else esref32_EqualField.j1 false) else esref32_EqualField.j1 false) else esref32_EqualField.j1 false)
/-! elasticstore/elasticstoreref32.EqualObject: function 31 -/
noncomputable def esref32_EqualObject.j1   : Option Bool :=
  some true
noncomputable def esref32_EqualObject.l1 (x1 : fold_Object) (x5 : fold_Object) : Int → Option ((Int) ⊕ (Unit ⊕ Bool)) := fun x25 =>
  (if (decide (x25 < ((x1.Fields).length : Int))) then ((idx x1.Fields x25).bind fun x38 =>
  ((idx x5.Fields x25).bind fun x46 =>
  ((esref32_EqualField x38 x46).bind fun x51 =>
  (if (!x51) then some (.inr (.inr false)) else (letV (IntKind.i64.wrap (x25 + 1)) fun x104 =>
  some (.inl x104)))))) else some (.inr (.inl ())))
noncomputable def esref32_EqualObject.j2 (x1 : fold_Object) (x5 : fold_Object) (x15 : Bool) : Option Bool :=
  (if x15 then some false else ((loopO (esref32_EqualObject.l1 x1 x5) 0).bind fun b => match b with | .inl _ => esref32_EqualObject.j1 | .inr x105 => some x105))
noncomputable def esref32_EqualObject (x1 : fold_Object) (x5 : fold_Object) : Option Bool :=
  (if (x1.Name != x5.Name) then esref32_EqualObject.j2 x1 x5 true else esref32_EqualObject.j2 x1 x5 (((x1.Fields).length : Int) != ((x5.Fields).length : Int)))
/-! elasticstore/elasticstoreref32.FieldOf: function 34 -/
noncomputable def esref32_FieldOf.j1 (x5 : List UInt8) (x11 : fold_Field) : Option fold_Field :=
  some (⟨x5, (⟨false, 0, 0, 0, 0, []⟩ : fold_Register), false, 0, 0, [], false⟩ : fold_Field)
noncomputable def esref32_FieldOf.l1 (x1 : fold_Object) (x5 : List UInt8) : (Int × fold_Field) → Option ((Int × fold_Field) ⊕ (fold_Field ⊕ fold_Field)) := fun (x18, x19) =>
  (if (decide (x18 < ((x1.Fields).length : Int))) then ((idx x1.Fields x18).bind fun x34 =>
  (if (x34.Name == x5) then ((idx x1.Fields x18).bind fun x43 =>
  some (.inr (.inr x43))) else (letV (IntKind.i64.wrap (x18 + 1)) fun x48 =>
  some (.inl (x48, x19))))) else some (.inr (.inl x19)))
noncomputable def esref32_FieldOf (x1 : fold_Object) (x5 : List UInt8) : Option fold_Field :=
  ((loopO (esref32_FieldOf.l1 x1 x5) (0, (⟨[], (⟨false, 0, 0, 0, 0, []⟩ : fold_Register), false, 0, 0, [], false⟩ : fold_Field))).bind fun b => match b with | .inl x49 => esref32_FieldOf.j1 x5 x49 | .inr x50 => some x50)
/-! elasticstore/elasticstorelaw30.FoldFind: function 8 -/
noncomputable def eslaw30_FoldFind.j1   : Option Bool :=
  ((eslaw30_awake).bind fun x28 =>
  some x28)
noncomputable def eslaw30_FoldFind.j2 (x32 : Int)  : Option ((Int) ⊕ (Unit ⊕ Bool)) :=
  (letV (IntKind.i64.wrap (x32 + 1)) fun x40 =>
  some (.inl x40))
noncomputable def eslaw30_FoldFind.j3 (x60 : Int) (x78 : Bool) : Option ((Int) ⊕ (Unit ⊕ Bool)) :=
  (if x78 then some (.inr (.inr false)) else (letV (IntKind.i64.wrap (x60 + 1)) fun x82 =>
  some (.inl x82)))
noncomputable def eslaw30_FoldFind.l1 (x5 : List UInt8) (x46 : fold_Object) : Int → Option ((Int) ⊕ (Unit ⊕ Bool)) := fun x60 =>
  (if (decide (x60 < (([x5, ([97] : List UInt8), ([99] : List UInt8), ([120, 49] : List UInt8)]).length : Int))) then ((idx ([x5, ([97] : List UInt8), ([99] : List UInt8), ([120, 49] : List UInt8)]) x60).bind fun x67 =>
  ((fold_FieldOf x46 x67).bind fun x71 =>
  ((esref32_FieldOf x46 x67).bind fun x86 =>
  ((esref32_EqualField (⟨x71.Name, (⟨x71.Register.Set, x71.Register.Tag, x71.Register.Client, x71.Register.Seq, x71.Register.N, x71.Register.S⟩ : fold_Register), x71.HasMax, x71.Max, x71.Sum, x71.Elems, x71.Flag⟩ : fold_Field) x86).bind fun x89 =>
  (if (!x89) then eslaw30_FoldFind.j3 x60 true else eslaw30_FoldFind.j3 x60 (x71.Name != x67)))))) else some (.inr (.inl ())))
noncomputable def eslaw30_FoldFind.j4 (x5 : List UInt8) (x32 : Int) (x46 : fold_Object) (x53 : Bool) : Option ((Int) ⊕ (Unit ⊕ Bool)) :=
  (if x53 then some (.inr (.inr false)) else ((loopO (eslaw30_FoldFind.l1 x5 x46) 0).bind fun b => match b with | .inl _ => eslaw30_FoldFind.j2 x32 | .inr x157 => some (.inr (.inr x157))))
noncomputable def eslaw30_FoldFind.l2 (x4 : List UInt8) (x5 : List UInt8) (x20 : fold_Store) : Int → Option ((Int) ⊕ (Unit ⊕ Bool)) := fun x32 =>
  (if (decide (x32 < (([x4, ([97] : List UInt8), ([98] : List UInt8), ([120, 49] : List UInt8)]).length : Int))) then ((idx ([x4, ([97] : List UInt8), ([98] : List UInt8), ([120, 49] : List UInt8)]) x32).bind fun x42 =>
  ((fold_Find x20 x42).bind fun x46 =>
  ((esref32_Find x20 x42).bind fun x158 =>
  ((esref32_EqualObject x46 x158).bind fun x161 =>
  (if (!x161) then eslaw30_FoldFind.j4 x5 x32 x46 true else eslaw30_FoldFind.j4 x5 x32 x46 (x46.Name != x42)))))) else some (.inr (.inl ())))
noncomputable def eslaw30_FoldFind.j5 (x1 : List Int) (x4 : List UInt8) (x5 : List UInt8) (x10 : Bool) : Option Bool :=
  (if x10 then ((eslaw30_awake).bind fun x14 =>
  some x14) else ((eslaw00_Updates x1).bind fun x16 =>
  ((fold_Fold x16).bind fun x20 =>
  ((loopO (eslaw30_FoldFind.l2 x4 x5 x20) 0).bind fun b => match b with | .inl _ => eslaw30_FoldFind.j1 | .inr x230 => some x230))))
noncomputable def eslaw30_FoldFind (x1 : List Int) (x4 : List UInt8) (x5 : List UInt8) : Option Bool :=
  (if (decide (40 < (x4.length : Int))) then eslaw30_FoldFind.j5 x1 x4 x5 true else eslaw30_FoldFind.j5 x1 x4 x5 (decide (40 < (x5.length : Int))))
/-! elasticstore/elasticstorelaw00.At: function 25 -/
noncomputable def eslaw00_At (x1 : List Int) (x4 : Int) : Option Int :=
  (if ((x1.length : Int) == 0) then some 0 else ((eslaw00_Index x4 (x1.length : Int)).bind fun x11 =>
  ((idx x1 x11).bind fun x12 =>
  some x12)))
/-! elasticstore/elasticstoreref32.Equal: function 14 -/
noncomputable def esref32_Equal.j1   : Option Bool :=
  some true
noncomputable def esref32_Equal.l1 (x1 : fold_Store) (x5 : fold_Store) : Int → Option ((Int) ⊕ (Unit ⊕ Bool)) := fun x28 =>
  (if (decide (x28 < ((x1.Objects).length : Int))) then ((idx x1.Objects x28).bind fun x41 =>
  ((idx x5.Objects x28).bind fun x49 =>
  ((esref32_EqualObject x41 x49).bind fun x54 =>
  (if (!x54) then some (.inr (.inr false)) else (letV (IntKind.i64.wrap (x28 + 1)) fun x107 =>
  some (.inl x107)))))) else some (.inr (.inl ())))
noncomputable def esref32_Equal (x1 : fold_Store) (x5 : fold_Store) : Option Bool :=
  (if (((x1.Objects).length : Int) != ((x5.Objects).length : Int)) then some false else ((loopO (esref32_Equal.l1 x1 x5) 0).bind fun b => match b with | .inl _ => esref32_Equal.j1 | .inr x108 => some x108))
/-! elasticstore/elasticstorelaw30.FoldOrder: function 6 -/
noncomputable def eslaw30_FoldOrder.j1  (x35 : Bool) : Option Bool :=
  some x35
noncomputable def eslaw30_FoldOrder.j2 (x9 : List api_Update) (x24 : List fold_Object) : Option Bool :=
  ((fold_Fold x9).bind fun x29 =>
  ((fold_Equal (⟨x24⟩ : fold_Store) x29).bind fun x37 =>
  (if x37 then ((esref32_Equal (⟨x24⟩ : fold_Store) x29).bind fun x39 =>
  (if x39 then ((fold_Hash (⟨x24⟩ : fold_Store)).bind fun x41 =>
  ((fold_Hash x29).bind fun x42 =>
  (if (x41 == x42) then ((eslaw30_awake).bind fun x44 =>
  eslaw30_FoldOrder.j1 x44) else eslaw30_FoldOrder.j1 false))) else eslaw30_FoldOrder.j1 false)) else eslaw30_FoldOrder.j1 false)))
noncomputable def eslaw30_FoldOrder.l1 (x4 : List Int) : ((List api_Update) × Int × (List fold_Object)) → Option (((List api_Update) × Int × (List fold_Object)) ⊕ (List fold_Object)) := fun (x227, x230, x231) =>
  (if (decide (0 < (x227.length : Int))) then ((eslaw00_At x4 x230).bind fun x240 =>
  ((eslaw00_Index x240 (x227.length : Int)).bind fun x241 =>
  ((idx x227 x241).bind fun x243 =>
  ((fold_Apply (⟨x231⟩ : fold_Store) x243).bind fun x248 =>
  ((cut x227 0 x241).bind fun x274 =>
  ((app 48 [] x274).bind fun x277 =>
  (letV (IntKind.i64.wrap (x241 + 1)) fun x282 =>
  ((cut x227 x282 (x227.length : Int)).bind fun x283 =>
  ((app 48 x277 x283).bind fun x316 =>
  (letV (IntKind.i64.wrap (x230 + 1)) fun x321 =>
  some (.inl (x316, x321, x248.Objects)))))))))))) else some (.inr x231))
noncomputable def eslaw30_FoldOrder (x1 : List Int) (x4 : List Int) : Option Bool :=
  ((eslaw00_Updates x1).bind fun x9 =>
  ((app 48 [] x9).bind fun x15 =>
  ((loopO (eslaw30_FoldOrder.l1 x4) (x15, 0, [])).bind fun x326 => eslaw30_FoldOrder.j2 x9 x326)))
end Go.Proofs.Ytlbcfjblpopcnaa
