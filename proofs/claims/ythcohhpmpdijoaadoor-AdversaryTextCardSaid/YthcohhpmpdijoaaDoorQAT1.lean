/- What the row leans on, as few texts. -/
import Derived.Test.YthcohhpmpdijoaaDoorQAT0
import Derived.Lib.Split
import Derived.Lib.Join
import Derived.Lib.Itoa
import Derived.Lib.ItoaNum
import Derived.Lib.LaidTab
import Derived.Lib.AtoiAll
import Derived.Test.YthcohhpmpdijoaaDoorProg
import Derived.Shelf.LaysM
import Derived.Shelf.LaysC
import Derived.Shelf.Strconv.Itoa3
import Derived.Shelf.Strconv.AtoiAll
import Derived.Shelf.Strings.Split
import Derived.Shelf.Strings.OnBuilder
import Derived.Shelf.Small.Wraps
import Derived.Lib.SplitLaws
import Derived.WalkKit
set_option linter.unusedVariables false
set_option linter.unusedSimpArgs false
namespace Go.Proofs.YthcohhpmpdijoaaDoorL
open Go Go.RowKit
def DoesT (P : Program) {α β : Type} (ar : α → (Nat → Prop) → World → List Value → Prop) (B : Ty β) (g : FuncId) (caps : Array Value) (ok : Nat → Prop) (w : World) (F : α → Option β) : Prop :=
  FN P g ∧ ∀ (ok' : Nat → Prop) (w' : World), (∀ b, ok b → b < w.heap.size → w'.heap[b]? = w.heap[b]? ∧ ok' b) →
    ∀ x r vs, F x = some r → ar x ok' w' vs → Calls P g (vs.toArray ++ caps) w' fun e w'' => ∃ v, e = .returned v ∧ ∃ y : Value, v = y ∧ St ok' (bz w') w'' [vl B r y] []
def tFunT (P : Program) {α β : Type} (ar : α → (Nat → Prop) → World → List Value → Prop) (B : Ty β) : Ty (α → Option β) where
  sz := 1
  agg := false
  R := fun ok w F cs => ∃ g caps, cs = [.func (.func g) #[] caps] ∧ DoesT P ar B g caps ok w F
  len := by rintro _ _ _ _ ⟨g, caps, rfl, _⟩; rfl
  one := by rintro _ _ _ _ ⟨g, caps, rfl, _⟩ u hu; simp at hu; subst hu; rfl
  move := by
    rintro ok ok' w w' F cs ⟨g, caps, rfl, hf, hd⟩ hm
    refine ⟨g, caps, rfl, hf, fun ok2 w2 hm2 => hd ok2 w2 fun b hb hl => ?_⟩
    obtain ⟨h1, h2⟩ := hm b hb hl
    have hl' : b < w'.heap.size := lt_of_some (h1.trans (Array.getElem?_eq_getElem hl))
    obtain ⟨h3, h4⟩ := hm2 b h2 hl'
    exact ⟨h3.trans h1, h4⟩
theorem tFunT_V {P : Program} {α β : Type} {ar : α → (Nat → Prop) → World → List Value → Prop} {B : Ty β} {ok : Nat → Prop} {w : World} {F : α → Option β} {v : Value} :
    (tFunT P ar B).V ok w F v ↔ ∃ g caps, v = .func (.func g) #[] caps ∧ DoesT P ar B g caps ok w F :=
  ⟨by rintro ⟨_, ⟨g, caps, rfl, h⟩, e⟩; exact ⟨g, caps, e, h⟩, by rintro ⟨g, caps, rfl, h⟩; exact ⟨_, ⟨g, caps, rfl, h⟩, rfl⟩⟩
def tErr : Ty Bool where
  sz := 1
  agg := false
  R := fun _ _ b cs => ∃ v, cs = [v] ∧ ((b = false ∧ v = .nilIface) ∨ (b = true ∧ ∃ te pe, v = .iface te pe))
  len := by rintro _ _ _ _ ⟨v, rfl, _⟩; rfl
  one := by rintro _ _ _ _ ⟨v, rfl, (⟨_, rfl⟩ | ⟨_, te, pe, rfl⟩)⟩ u hu <;> (simp at hu; subst hu; rfl)
  move := fun h _ => h
theorem tErr_V {ok : Nat → Prop} {w : World} {b : Bool} {v : Value} : tErr.V ok w b v ↔ ((b = false ∧ v = .nilIface) ∨ (b = true ∧ ∃ te pe, v = .iface te pe)) :=
  ⟨by rintro ⟨_, ⟨v', rfl, h⟩, e⟩; rw [show v = v' from e]; exact h, fun h => ⟨[v], ⟨v, rfl, h⟩, rfl⟩⟩
def tTab (P : Program) (name : String) (g : Nat) (hv : P.globalNamed name = some g) (zs : List Int) : Ty Unit where
  sz := 1
  agg := false
  R := fun ok w _ cs => cs = [.int .i64 0] ∧ ok g ∧ g < w.heap.size ∧ Go.Lib.TabIs P w name .u64 zs
  len := by rintro _ _ _ _ ⟨rfl, _⟩; rfl
  one := by rintro _ _ _ _ ⟨rfl, _⟩ u hu; simp at hu; subst hu; rfl
  move := by
    rintro ok ok' w w' x cs ⟨rfl, h1, h2, h3⟩ hm
    obtain ⟨e1, e2⟩ := hm g h1 h2
    refine ⟨rfl, e2, lt_of_some (e1.trans (Array.getElem?_eq_getElem h2)), ?_⟩
    unfold Go.Lib.TabIs World.var? at h3 ⊢
    rw [hv] at h3 ⊢
    simp only [Option.bind_some] at h3 ⊢
    rw [e1]
    exact h3
theorem tTab_V {P : Program} {name : String} {g : Nat} {hv : P.globalNamed name = some g} {zs : List Int} {ok : Nat → Prop} {w : World} {v : Value} (h : (vl (tTab P name g hv zs) () v).holds ok w) : Go.Lib.TabIs P w name .u64 zs := by
  obtain ⟨cs, h, _⟩ := h
  exact h.2.2.2
theorem idx_in {α : Type} {xs : List α} {i : Int} {y : α} {n : Nat} (hn : xs.length = n) (h : idx xs i = some y) : 0 ≤ i ∧ i < (n : Int) := by
  obtain ⟨h0, h1, _⟩ := idx_some h
  omega
theorem idx_cell {α : Type} {xs : List α} {i : Int} {y : α} {enc : α → Value} (h : idx xs i = some y) : (xs.map enc)[0 + i.toNat * 1]? = some (enc y) := by
  obtain ⟨_, _, h2⟩ := idx_some h
  rw [Nat.zero_add, Nat.mul_one, List.getElem?_map, h2]
  rfl
section
variable {P : Program} {N : Nat} {Q : QE} {ρ : Env} {w : World} {w0 : Base} {ok0 : Nat → Prop} {Γ : List It} {Λ : List LObj}
variable {d : Option Tmp} {ty : TypeId} {pos : String} {aft : Array Edge} {gd : Option (Nat × Bool)} {ops : Array Oper} {rest : List Oper}
theorem R_fun {α β : Type} {ar : α → (Nat → Prop) → World → List Value → Prop} {B : Ty β} {ok : Nat → Prop} {w : World} {F : α → Option β} {v : Value} (h : (vl (tFunT P ar B) F v).holds ok w) : (tFunT P ar B).R ok w F [v] := by
  obtain ⟨g, caps, e, h⟩ := tFunT_V.1 h
  exact ⟨g, caps, by rw [e], h⟩
theorem St.funT {α β : Type} {ar : α → (Nat → Prop) → World → List Value → Prop} {B : Ty β} {F : α → Option β} {v : Value} (hs : St ok0 w0 w Γ Λ) (i : Nat) (hi : Γ[i]? = some (vl (tFunT P ar B) F v)) : ∃ g caps, v = .func (.func g) #[] caps := by
  obtain ⟨ok, h⟩ := hs.get i hi
  obtain ⟨g, caps, e, _⟩ := tFunT_V.1 h
  exact ⟨g, caps, e⟩
theorem WL.callFT {α β : Type} {ar : α → (Nat → Prop) → World → List Value → Prop} {B : Ty β} {F : α → Option β} {f : Tmp} {fv : Value} {args : List Operand} {ats : Array TypeId} {vs : List Value} {x : α} {r : β}
    (hs : St ok0 w0 w Γ Λ) (i : Nat) (hi : Γ[i]? = some (vl (tFunT P ar B) F fv)) (hf : ρ f = fv) (ha : Evs ρ args vs) (har : ∀ ok, All ok w Γ → ar x ok w vs) (hF : F x = some r)
    (K : ∀ y w', St ok0 w0 w' (vl B r y :: Γ) Λ → WL P N ops Q rest (putE ρ d y) w')
    (hg : wantedE ops ρ ⟨d, .call { callee := .value (.tmp f), args := args.toArray, argTypes := ats }, ty, pos, aft, gd⟩ = true := by rfl) (hd : fits N d = true := by rfl) :
    WL P N ops Q (⟨d, .call { callee := .value (.tmp f), args := args.toArray, argTypes := ats }, ty, pos, aft, gd⟩ :: rest) ρ w := by
  obtain ⟨ok, hA, hput⟩ := hs.call
  obtain ⟨g, caps, rfl, hFN, hdo⟩ := tFunT_V.1 (hA.get i hi)
  refine WL.enter hg hd (w' := w) (f := g) (args := vs.toArray ++ caps) ?_ (hdo ok w (fun b hb _ => ⟨rfl, hb⟩) x r vs hF (har ok hA)) ?_
  · show (do let df ← Deferred.ofValue (ρ f) (args.toArray.map ρ.ev); invoke df.target df.args : Sem Next).run P w = _
    rw [hf, List.map_toArray, ha.map]
    simpa [Deferred.ofValue, invoke] using hFN (vs.toArray ++ caps) w
  · rintro v w' ⟨y, rfl, hs'⟩
    exact K _ w' (hput w' [_] [] hs')
def NEI (P : Program) (T : TypeId) : Prop := (∀ w, (binOp .neq T .nilIface .nilIface).run P w = .ok (.bool false) w) ∧ ∀ te pe w, (binOp .neq T (.iface te pe) .nilIface).run P w = .ok (.bool true) w
theorem WL.neqErr {T T' : TypeId} {x : Operand} {b : Bool} {v : Value} (hs : St ok0 w0 w Γ Λ) (i : Nat) (hi : Γ[i]? = some (vl tErr b v)) (hx : ρ.ev x = v) (hN : NEI P T)
    (K : WL P N ops Q rest (putE ρ d (.bool b)) w)
    (hg : wantedE ops ρ ⟨d, .binOp .neq T x (.const .nilIface) T', ty, pos, aft, gd⟩ = true := by rfl) (hd : fits N d = true := by rfl) :
    WL P N ops Q (⟨d, .binOp .neq T x (.const .nilIface) T', ty, pos, aft, gd⟩ :: rest) ρ w := by
  obtain ⟨ok, hA⟩ := hs.get i hi
  refine WL.value hg hd (v := .bool b) (w' := w) ?_ K
  show (do pure (Next.value (← (do eqGuard .neq T x (.const .nilIface) (ρ.ev x) .nilIface; binOp .neq T (ρ.ev x) .nilIface))) : Sem Next).run P w = _
  rw [hx]
  rcases tErr_V.1 hA with ⟨rfl, rfl⟩ | ⟨rfl, te, pe, rfl⟩
  · exact exec_v ((run_bind (show (eqGuard .neq T x (.const .nilIface) .nilIface .nilIface).run P w = .ok () w by unfold eqGuard; cases x <;> rfl)).trans (hN.1 w))
  · exact exec_v ((run_bind (show (eqGuard .neq T x (.const .nilIface) (.iface te pe) .nilIface).run P w = .ok () w by unfold eqGuard; cases x <;> rfl)).trans (hN.2 te pe w))
end
end Go.Proofs.YthcohhpmpdijoaaDoorL
set_option linter.unusedVariables false
set_option linter.unusedSimpArgs false
namespace Go.Proofs.YthcohhpmpdijoaaDoor
open Go Go.RowKit Go.Proofs.YthcohhpmpdijoaaDoorL
structure api_AccessID where
  Process : Int
  Number : Int
  deriving DecidableEq
structure api_Rule where
  Kind : Int
  Columns : Int
  Faulty : Int
  deriving DecidableEq
structure api_Change where
  Kind : Int
  Server : Int
  Weight : Int
  Version : Int
  Rule : api_Rule
  deriving DecidableEq
structure api_Proposal where
  Admin : Int
  Number : Int
  Changes : List api_Change
  deriving DecidableEq
structure api_Certificate where
  From : List api_Proposal
  To : List api_Proposal
  deriving DecidableEq
structure api_Effect where
  Kind : Int
  Object : List UInt8
  Field : List UInt8
  N : Int
  S : List UInt8
  deriving DecidableEq
structure api_Update where
  Client : Int
  Seq : Int
  Tag : Int
  Effects : List api_Effect
  deriving DecidableEq
structure api_Entry where
  Author : Int
  Count : Int
  deriving DecidableEq
structure api_Message where
  Kind : Int
  From : Int
  To : Int
  Access : api_AccessID
  Round : Int
  Mode : Int
  Cert : api_Certificate
  Base : api_Certificate
  HasBase : Bool
  Established : api_Certificate
  Config : List api_Proposal
  State : List api_Update
  Have : List api_Entry
  More : Bool
  deriving DecidableEq
structure network_Packet where
  ID : Int
  Message : api_Message
  deriving DecidableEq
structure network_Side where
  Process : Int
  Side : Int
  deriving DecidableEq
structure network_Network where
  Next : Int
  Packets : List network_Packet
  Sides : List network_Side
  deriving DecidableEq
structure adversary_Rule where
  Kind : Int
  Arg : Int
  deriving DecidableEq
def words_ : List (List UInt8) := [[], [112, 114, 101, 102, 101, 114, 32, 116, 111], [112, 114, 101, 102, 101, 114, 32, 102, 114, 111, 109], [112, 114, 101, 102, 101, 114, 32, 107, 105, 110, 100], [97, 118, 111, 105, 100, 32, 116, 111], [97, 118, 111, 105, 100, 32, 102, 114, 111, 109], [97, 118, 111, 105, 100, 32, 107, 105, 110, 100], [111, 108, 100, 101, 115, 116], [110, 101, 119, 101, 115, 116], [114, 111, 116, 97, 116, 101]]

noncomputable def network_New  : Option network_Network :=
  some (⟨1, [], []⟩ : network_Network)
noncomputable def slices_Clone_Packet (x1 : List network_Packet) : Option (List network_Packet) :=
  ((app 296 [] x1).bind fun x11 =>
  some x11)
noncomputable def slices_Clone_Side (x1 : List network_Side) : Option (List network_Side) :=
  ((app 16 [] x1).bind fun x11 =>
  some x11)
noncomputable def network_clone (x1 : network_Network) : Option network_Network :=
  ((slices_Clone_Packet x1.Packets).bind fun x13 =>
  ((slices_Clone_Side x1.Sides).bind fun x17 =>
  some (⟨x1.Next, x13, x17⟩ : network_Network)))
noncomputable def network_Send.j1 (x16 : network_Network) (x25 : Int) (x26 : List network_Packet) : Option network_Network :=
  some (⟨x25, x26, x16.Sides⟩ : network_Network)
noncomputable def network_Send.l1 (x5 : List api_Message) : (Int × Int × (List network_Packet)) → Option ((Int × Int × (List network_Packet)) ⊕ (Int × (List network_Packet))) := fun (x34, x35, x36) =>
  (if (decide (x34 < (x5.length : Int))) then ((idx x5 x34).bind fun x46 =>
  (if (decide (4096 ≤ (x36.length : Int))) then some (.inr (x35, x36)) else ((app 296 x36 [(⟨x35, x46⟩ : network_Packet)]).bind fun x57 =>
  (letV (IntKind.i64.wrap (x35 + 1)) fun x62 =>
  (letV (IntKind.i64.wrap (x34 + 1)) fun x63 =>
  some (.inl (x63, x62, x57))))))) else some (.inr (x35, x36)))
noncomputable def network_Send (x1 : network_Network) (x5 : List api_Message) : Option network_Network :=
  ((network_clone (⟨x1.Next, x1.Packets, x1.Sides⟩ : network_Network)).bind fun x16 =>
  ((loopO (network_Send.l1 x5) (0, x16.Next, x16.Packets)).bind fun (x64, x65) => network_Send.j1 x16 x64 x65))
noncomputable def strings_Split (x1 x2 : List UInt8) : Option (List (List UInt8)) := if 1 ≤ x2.length ∧ x1.length < 4294967281 then some (Go.Lib.split x1 x2) else none
noncomputable def strings_CutPrefix (x1 x2 : List UInt8) : Option (List UInt8 × Bool) := some (Go.Lib.trimPrefix x1 x2, Go.Lib.hasPrefix x1 x2)
noncomputable def strconv_Atoi (x1 : List UInt8) : Option (Int × Bool) := if x1.length ≤ 281474976710656 then (match Go.Lib.atoiAll x1 with | .ok v => some (v, false) | .«syntax» => some (0, true) | .range => some (Go.Lib.atoiSat x1, true)) else none

noncomputable def adversary_parseRule.j1  (x6 : Int) (x7 : Int) : Option adversary_Rule :=
  some (⟨0, 0⟩ : adversary_Rule)
noncomputable def adversary_parseRule.j2 (x12 : Int) (x21 : Int) (x22 : Int) : Option ((Int × Int × Int) ⊕ ((Int × Int) ⊕ adversary_Rule)) :=
  (letV (IntKind.i64.wrap (x12 + 1)) fun x24 =>
  some (.inl (x24, x21, x22)))
noncomputable def adversary_parseRule.l1 (x1 : List UInt8) : (Int × Int × Int) → Option ((Int × Int × Int) ⊕ ((Int × Int) ⊕ adversary_Rule)) := fun (x12, x13, x14) =>
  (if (decide (x12 ≤ 9)) then (if (decide (6 < x12)) then ((idx words_ x12).bind fun x33 =>
  (if (x1 == x33) then some (.inr (.inr (⟨x12, 0⟩ : adversary_Rule))) else adversary_parseRule.j2 x12 x13 x14)) else ((idx words_ x12).bind fun x42 =>
  ((cat x42 ([32] : List UInt8)).bind fun x45 =>
  ((strings_CutPrefix x1 x45).bind fun (x46, x47) =>
  (if x47 then ((strconv_Atoi x46).bind fun (x51, x52) =>
  (if x52 then some (.inr (.inr (⟨0, 0⟩ : adversary_Rule))) else some (.inr (.inr (⟨x12, x51⟩ : adversary_Rule))))) else adversary_parseRule.j2 x12 x13 x14))))) else some (.inr (.inl (x13, x14))))
noncomputable def adversary_parseRule (x1 : List UInt8) : Option adversary_Rule :=
  ((loopO (adversary_parseRule.l1 x1) (1, 0, 0)).bind fun b => match b with | .inl (x59, x60) => adversary_parseRule.j1 x59 x60 | .inr x61 => some x61)
noncomputable def adversary_Validate.j1   : Option Int :=
  some 0
noncomputable def adversary_Validate.j2 (x15 : Int) (x36 : Bool) : Option ((Int) ⊕ (Unit ⊕ Int)) :=
  (if x36 then some (.inr (.inr 9)) else (letV (IntKind.i64.wrap (x15 + 1)) fun x40 =>
  some (.inl x40)))
noncomputable def adversary_Validate.j3 (x15 : Int) (x22 : adversary_Rule) (x30 : Bool) : Option ((Int) ⊕ (Unit ⊕ Int)) :=
  (if x30 then some (.inr (.inr 10)) else (if (decide (x22.Kind ≤ 6)) then (if (decide (x22.Arg < 1)) then adversary_Validate.j2 x15 true else (if (decide (1000 < x22.Arg)) then adversary_Validate.j2 x15 true else (if (decide (6 < x22.Kind)) then adversary_Validate.j2 x15 (x22.Arg != 0) else adversary_Validate.j2 x15 false))) else (if (decide (6 < x22.Kind)) then adversary_Validate.j2 x15 (x22.Arg != 0) else adversary_Validate.j2 x15 false)))
noncomputable def adversary_Validate.l1 (x1 : List adversary_Rule) : Int → Option ((Int) ⊕ (Unit ⊕ Int)) := fun x15 =>
  (if (decide (x15 < (x1.length : Int))) then ((idx x1 x15).bind fun x22 =>
  (if (decide (x22.Kind < 1)) then adversary_Validate.j3 x15 x22 true else adversary_Validate.j3 x15 x22 (decide (9 < x22.Kind)))) else some (.inr (.inl ())))
noncomputable def adversary_Validate (x1 : List adversary_Rule) : Option Int :=
  (if (decide (16 < (x1.length : Int))) then some 3 else ((loopO (adversary_Validate.l1 x1) 0).bind fun b => match b with | .inl _ => adversary_Validate.j1 | .inr x56 => some x56))
noncomputable def strconv_Itoa (x1 : Int) : Option (List UInt8) := if -9223372036854775808 ≤ x1 ∧ x1 ≤ 9223372036854775807 then some (Go.Lib.itoa x1) else none
noncomputable def strings_Join (x1 : List (List UInt8)) (x2 : List UInt8) : Option (List UInt8) := if x1.length ≤ 140737488355328 ∧ (Go.Lib.join x1 x2).length ≤ 140737488355328 then some (Go.Lib.join x1 x2) else none
noncomputable def adversary_Format.j1  (x13 : List (List UInt8)) : Option (List UInt8) :=
  ((strings_Join x13 ([59, 32] : List UInt8)).bind fun x19 =>
  some x19)
noncomputable def adversary_Format.j2 (x22 : List (List UInt8)) (x26 : Int) (x49 : List UInt8) : Option (((List (List UInt8)) × Int) ⊕ (List (List UInt8))) :=
  ((app 16 x22 [x49]).bind fun x52 =>
  (letV (IntKind.i64.wrap (x26 + 1)) fun x57 =>
  some (.inl (x52, x57))))
noncomputable def adversary_Format.l1 (x1 : List adversary_Rule) : ((List (List UInt8)) × Int) → Option (((List (List UInt8)) × Int) ⊕ (List (List UInt8))) := fun (x22, x26) =>
  (if (decide (x26 < (x1.length : Int))) then ((idx x1 x26).bind fun x33 =>
  ((idx words_ x33.Kind).bind fun x44 =>
  (if (decide (x33.Kind ≤ 6)) then ((strconv_Itoa x33.Arg).bind fun x62 =>
  ((cat ([32] : List UInt8) x62).bind fun x63 =>
  ((cat x44 x63).bind fun x64 =>
  adversary_Format.j2 x22 x26 x64))) else adversary_Format.j2 x22 x26 x44))) else some (.inr x22))
noncomputable def adversary_Format (x1 : List adversary_Rule) : Option (List UInt8) :=
  ((adversary_Validate x1).bind fun x7 =>
  (if (x7 != 0) then some ([] : List UInt8) else ((loopO (adversary_Format.l1 x1) ([], 0)).bind fun x65 => adversary_Format.j1 x65)))
noncomputable def adversary_Parse.j1 (x1 : List UInt8) (x10 : List adversary_Rule) : Option ((List adversary_Rule) × Int) :=
  ((adversary_Format x10).bind fun x17 =>
  (if (x17 != x1) then some ([], 11) else some (x10, 0)))
noncomputable def adversary_Parse.l1 (x22 : List (List UInt8)) : ((List adversary_Rule) × Int) → Option (((List adversary_Rule) × Int) ⊕ (List adversary_Rule)) := fun (x26, x30) =>
  (if (decide (x30 < (x22.length : Int))) then ((idx x22 x30).bind fun x37 =>
  ((adversary_parseRule x37).bind fun x40 =>
  ((app 16 x26 [x40]).bind fun x44 =>
  (letV (IntKind.i64.wrap (x30 + 1)) fun x49 =>
  some (.inl (x44, x49)))))) else some (.inr x26))
noncomputable def adversary_Parse (x1 : List UInt8) : Option ((List adversary_Rule) × Int) :=
  (if (x1 == ([] : List UInt8)) then some ([], 0) else ((strings_Split x1 ([59, 32] : List UInt8)).bind fun x22 =>
  ((loopO (adversary_Parse.l1 x22) ([], 0)).bind fun x50 => adversary_Parse.j1 x1 x50)))
noncomputable def network_side.j1   : Option Int :=
  some 0
noncomputable def network_side.l1 (x1 : network_Network) (x5 : Int) : Int → Option ((Int) ⊕ (Unit ⊕ Int)) := fun x17 =>
  (if (decide (x17 < ((x1.Sides).length : Int))) then ((idx x1.Sides x17).bind fun x24 =>
  (if (x24.Process == x5) then some (.inr (.inr x24.Side)) else (letV (IntKind.i64.wrap (x17 + 1)) fun x35 =>
  some (.inl x35)))) else some (.inr (.inl ())))
noncomputable def network_side (x1 : network_Network) (x5 : Int) : Option Int :=
  ((loopO (network_side.l1 x1 x5) 0).bind fun b => match b with | .inl _ => network_side.j1 | .inr x36 => some x36)
noncomputable def network_Blocked (x1 : network_Network) (x5 : Int) (x6 : Int) : Option Bool :=
  ((network_side x1 x5).bind fun x10 =>
  ((network_side x1 x6).bind fun x11 =>
  some (x10 != x11)))
noncomputable def network_Deliverable.j1  (x10 : List Int) : Option (List Int) :=
  some x10
noncomputable def network_Deliverable.j2 (x25 : Int) (x32 : List Int) : Option (((List Int) × Int) ⊕ (List Int)) :=
  (letV (IntKind.i64.wrap (x25 + 1)) fun x37 =>
  some (.inl (x32, x37)))
noncomputable def network_Deliverable.l1 (x1 : network_Network) : ((List Int) × Int) → Option (((List Int) × Int) ⊕ (List Int)) := fun (x21, x25) =>
  (if (decide (x25 < ((x1.Packets).length : Int))) then ((idx x1.Packets x25).bind fun x39 =>
  ((network_Blocked x1 x39.Message.From x39.Message.To).bind fun x48 =>
  (if (!x48) then ((app 8 x21 [x39.ID]).bind fun x52 =>
  network_Deliverable.j2 x25 x52) else network_Deliverable.j2 x25 x21))) else some (.inr x21))
noncomputable def network_Deliverable (x1 : network_Network) : Option (List Int) :=
  ((loopO (network_Deliverable.l1 x1) ([], 0)).bind fun x57 => network_Deliverable.j1 x57)
noncomputable def slices_BinarySearchFunc_int.j1  (x16 : Int) (x17 : Bool) : Option (Int × Bool) :=
  some (x16, x17)
noncomputable def slices_BinarySearchFunc_int.j2 (x1 : List network_Packet) (x4 : Int) (x5 : network_Packet × Int → Option Int) (x12 : Int) : Option (Int × Bool) :=
  (if (decide (x12 < (x1.length : Int))) then ((idx x1 x12).bind fun x20 =>
  ((x5 (x20, x4)).bind fun x25 =>
  slices_BinarySearchFunc_int.j1 x12 (x25 == 0))) else slices_BinarySearchFunc_int.j1 x12 false)
noncomputable def slices_BinarySearchFunc_int.l1 (x1 : List network_Packet) (x4 : Int) (x5 : network_Packet × Int → Option Int) : (Int × Int) → Option ((Int × Int) ⊕ (Int)) := fun (x27, x28) =>
  (if (decide (x27 < x28)) then (letV (IntKind.i64.wrap (x27 + x28)) fun x34 =>
  (letV (shrI .u64 (IntKind.u64.wrap x34) 1) fun x36 =>
  ((idx x1 (IntKind.i64.wrap x36)).bind fun x38 =>
  ((x5 (x38, x4)).bind fun x43 =>
  (if (decide (x43 < 0)) then (letV (IntKind.i64.wrap ((IntKind.i64.wrap x36) + 1)) fun x45 =>
  some (.inl (x45, x28))) else some (.inl (x27, (IntKind.i64.wrap x36)))))))) else some (.inr x27))
noncomputable def slices_BinarySearchFunc_int (x1 : List network_Packet) (x4 : Int) (x5 : network_Packet × Int → Option Int) : Option (Int × Bool) :=
  ((loopO (slices_BinarySearchFunc_int.l1 x1 x4 x5) (0, (x1.length : Int))).bind fun x46 => slices_BinarySearchFunc_int.j2 x1 x4 x5 x46)
noncomputable def cmp_isNaN_int (x1 : Int) : Option Bool :=
  some (x1 != x1)
noncomputable def cmp_Compare_int (x1 : Int) (x2 : Int) : Option Int :=
  ((cmp_isNaN_int x1).bind fun x5 =>
  ((cmp_isNaN_int x2).bind fun x7 =>
  (if x5 then (if x7 then some 0 else some (-1)) else (if x7 then some 1 else (if (decide (x1 < x2)) then some (-1) else (if (decide (x2 < x1)) then some 1 else some 0))))))
noncomputable def network_position_1 (x1 : network_Packet) (x5 : Int) : Option Int :=
  ((cmp_Compare_int x1.ID x5).bind fun x10 =>
  some x10)
noncomputable def network_position (x1 : network_Network) (x5 : Int) : Option (Int × Bool) :=
  ((slices_BinarySearchFunc_int x1.Packets x5 (fun p : network_Packet × Int => network_position_1 p.1 p.2)).bind fun (x12, x13) =>
  some (x12, x13))
noncomputable def network_Find (x1 : network_Network) (x5 : Int) : Option (api_Message × Bool) :=
  ((network_position x1 x5).bind fun (x10, x11) =>
  (if (!x11) then some ((⟨0, 0, 0, (⟨0, 0⟩ : api_AccessID), 0, 0, (⟨[], []⟩ : api_Certificate), (⟨[], []⟩ : api_Certificate), false, (⟨[], []⟩ : api_Certificate), [], [], [], false⟩ : api_Message), false) else ((idx x1.Packets x10).bind fun x20 =>
  some (x20.Message, true))))
noncomputable def adversary_matches.j1 (x1 : adversary_Rule) (x5 : api_Message) (x25 : Bool) : Option Bool :=
  (if x25 then some (x5.From == x1.Arg) else some (x5.Kind == x1.Arg))
noncomputable def adversary_matches.j2 (x1 : adversary_Rule) (x5 : api_Message) (x17 : Bool) : Option Bool :=
  (if x17 then some (x5.To == x1.Arg) else (if (x1.Kind == 2) then adversary_matches.j1 x1 x5 true else adversary_matches.j1 x1 x5 (x1.Kind == 5)))
noncomputable def adversary_matches (x1 : adversary_Rule) (x5 : api_Message) : Option Bool :=
  (if (x1.Kind == 1) then adversary_matches.j2 x1 x5 true else adversary_matches.j2 x1 x5 (x1.Kind == 4))
noncomputable def adversary_filterOf_1.j1 (x1 : List network_Packet) (x44 : List network_Packet) : Option (List network_Packet) :=
  (if ((x44.length : Int) == 0) then some x1 else some x44)
noncomputable def adversary_filterOf_1.j2 (x60 : Int) (x67 : List network_Packet) : Option (((List network_Packet) × Int) ⊕ (List network_Packet)) :=
  (letV (IntKind.i64.wrap (x60 + 1)) fun x72 =>
  some (.inl (x67, x72)))
noncomputable def adversary_filterOf_1.l1 (x1 : List network_Packet) (x4 : adversary_Rule) : ((List network_Packet) × Int) → Option (((List network_Packet) × Int) ⊕ (List network_Packet)) := fun (x56, x60) =>
  (if (decide (x60 < (x1.length : Int))) then ((idx x1 x60).bind fun x74 =>
  ((adversary_matches x4 x74.Message).bind fun x87 =>
  (if (x87 == (decide (x4.Kind ≤ 3))) then ((app 296 x56 [x74]).bind fun x121 =>
  adversary_filterOf_1.j2 x60 x121) else adversary_filterOf_1.j2 x60 x56))) else some (.inr x56))
noncomputable def adversary_filterOf_1 (x1 : List network_Packet) (x4 : adversary_Rule) (x6 : Int) : Option (List network_Packet) :=
  (if (x4.Kind == 7) then ((cut x1 0 1).bind fun x17 =>
  some x17) else (if (x4.Kind == 8) then (letV (IntKind.i64.wrap ((x1.length : Int) - 1)) fun x23 =>
  ((cut x1 x23 (x1.length : Int)).bind fun x24 =>
  some x24)) else (if (x4.Kind == 9) then (if (x1.length : Int) ≠ 0 then (letV (Int.tmod x6 (x1.length : Int)) fun x31 =>
  (letV (IntKind.i64.wrap (x31 + (x1.length : Int))) fun x33 =>
  (if (x1.length : Int) ≠ 0 then (letV (Int.tmod x33 (x1.length : Int)) fun x34 =>
  (letV (IntKind.i64.wrap (x34 + 1)) fun x37 =>
  ((cut x1 x34 x37).bind fun x38 =>
  some x38))) else none))) else none) else ((loopO (adversary_filterOf_1.l1 x1 x4) ([], 0)).bind fun x126 => adversary_filterOf_1.j1 x1 x126))))
noncomputable def adversary_filterOf (x1 : adversary_Rule) (x5 : Int) : Option ((List network_Packet) → Option (List network_Packet)) :=
  some (fun p : (List network_Packet) => adversary_filterOf_1 p x1 x5)
noncomputable def adversary_narrow.j1  (x10 : List network_Packet) : Option (List network_Packet) :=
  some x10
noncomputable def adversary_narrow.l1 (x4 : List ((List network_Packet) → Option (List network_Packet))) : ((List network_Packet) × Int) → Option (((List network_Packet) × Int) ⊕ (List network_Packet)) := fun (x17, x20) =>
  (if (decide (x20 < (x4.length : Int))) then ((idx x4 x20).bind fun x27 =>
  ((x27 x17).bind fun x30 =>
  (letV (IntKind.i64.wrap (x20 + 1)) fun x34 =>
  some (.inl (x30, x34))))) else some (.inr x17))
noncomputable def adversary_narrow (x1 : List network_Packet) (x4 : List ((List network_Packet) → Option (List network_Packet))) : Option (List network_Packet) :=
  ((loopO (adversary_narrow.l1 x4) (x1, 0)).bind fun x35 => adversary_narrow.j1 x35)
noncomputable def adversary_Choose.j1 (x14 : List network_Packet) (x29 : List ((List network_Packet) → Option (List network_Packet))) : Option (Int × Bool) :=
  ((adversary_narrow x14 x29).bind fun x35 =>
  ((idx x35 0).bind fun x38 =>
  some (x38.ID, true)))
noncomputable def adversary_Choose.l1 (x1 : List adversary_Rule) (x8 : Int) : ((List ((List network_Packet) → Option (List network_Packet))) × Int) → Option (((List ((List network_Packet) → Option (List network_Packet))) × Int) ⊕ (List ((List network_Packet) → Option (List network_Packet)))) := fun (x44, x48) =>
  (if (decide (x48 < (x1.length : Int))) then ((idx x1 x48).bind fun x55 =>
  ((adversary_filterOf x55 x8).bind fun x61 =>
  ((app 8 x44 [x61]).bind fun x66 =>
  (letV (IntKind.i64.wrap (x48 + 1)) fun x71 =>
  some (.inl (x66, x71)))))) else some (.inr x44))
noncomputable def adversary_Choose.j2 (x1 : List adversary_Rule) (x8 : Int) (x14 : List network_Packet) (x22 : Bool) : Option (Int × Bool) :=
  (if x22 then some (0, false) else ((loopO (adversary_Choose.l1 x1 x8) ([], 0)).bind fun x72 => adversary_Choose.j1 x14 x72))
noncomputable def adversary_Choose.j3 (x1 : List adversary_Rule) (x8 : Int) (x14 : List network_Packet) : Option (Int × Bool) :=
  (if ((x14.length : Int) == 0) then adversary_Choose.j2 x1 x8 x14 true else ((adversary_Validate x1).bind fun x74 =>
  adversary_Choose.j2 x1 x8 x14 (x74 != 0)))
noncomputable def adversary_Choose.l2 (x4 : network_Network) (x76 : List Int) : ((List network_Packet) × Int) → Option (((List network_Packet) × Int) ⊕ (List network_Packet)) := fun (x81, x85) =>
  (if (decide (x85 < (x76.length : Int))) then ((idx x76 x85).bind fun x92 =>
  ((network_Find x4 x92).bind fun (x96, x97) =>
  ((app 296 x81 [(⟨x92, x96⟩ : network_Packet)]).bind fun x102 =>
  (letV (IntKind.i64.wrap (x85 + 1)) fun x107 =>
  some (.inl (x102, x107)))))) else some (.inr x81))
noncomputable def adversary_Choose (x1 : List adversary_Rule) (x4 : network_Network) (x8 : Int) : Option (Int × Bool) :=
  ((network_Deliverable x4).bind fun x76 =>
  ((loopO (adversary_Choose.l2 x4 x76) ([], 0)).bind fun x108 => adversary_Choose.j3 x1 x8 x108))
noncomputable def network_remove (x1 : network_Network) (x5 : Int) : Option network_Network :=
  ((network_clone (⟨x1.Next, x1.Packets, x1.Sides⟩ : network_Network)).bind fun x14 =>
  ((cut x14.Packets 0 x5).bind fun x22 =>
  (letV (IntKind.i64.wrap (x5 + 1)) fun x24 =>
  ((cut x14.Packets x24 ((x14.Packets).length : Int)).bind fun x25 =>
  ((app 296 x22 x25).bind fun x50 =>
  some (⟨x14.Next, x50, x14.Sides⟩ : network_Network))))))
noncomputable def network_Deliver.j1 (x1 : network_Network) (x11 : Int) (x16 : Bool) : Option (network_Network × api_Message × Bool) :=
  (if x16 then ((network_clone x1).bind fun x20 =>
  some ((⟨x20.Next, x20.Packets, x20.Sides⟩ : network_Network), (⟨0, 0, 0, (⟨0, 0⟩ : api_AccessID), 0, 0, (⟨[], []⟩ : api_Certificate), (⟨[], []⟩ : api_Certificate), false, (⟨[], []⟩ : api_Certificate), [], [], [], false⟩ : api_Message), false)) else ((network_remove x1 x11).bind fun x28 =>
  ((idx x1.Packets x11).bind fun x34 =>
  some (x28, x34.Message, true))))
noncomputable def network_Deliver (x1 : network_Network) (x5 : Int) : Option (network_Network × api_Message × Bool) :=
  ((network_position x1 x5).bind fun (x11, x12) =>
  (if (!x12) then network_Deliver.j1 x1 x11 true else ((idx x1.Packets x11).bind fun x138 =>
  ((idx x1.Packets x11).bind fun x146 =>
  ((network_Blocked x1 x138.Message.From x146.Message.To).bind fun x151 =>
  network_Deliver.j1 x1 x11 x151)))))
noncomputable def adversary_Order.j1 (x12 : List Int) (x21 : Int) (x25 : Bool) (x26 : network_Network) : Option (((List Int) × network_Network) ⊕ (List Int)) :=
  (if (!x25) then some (.inr x12) else ((app 8 x12 [x21]).bind fun x35 =>
  some (.inl (x35, x26))))
noncomputable def adversary_Order.l1 (x1 : List adversary_Rule) : ((List Int) × network_Network) → Option (((List Int) × network_Network) ⊕ (List Int)) := fun (x12, x16) =>
  ((adversary_Choose x1 x16 (x12.length : Int)).bind fun (x21, x22) =>
  (if x22 then ((network_Deliver x16 x21).bind fun (x42, x43, x44) =>
  adversary_Order.j1 x12 x21 x44 x42) else adversary_Order.j1 x12 x21 x22 x16))
noncomputable def adversary_Order (x1 : List adversary_Rule) (x4 : network_Network) : Option (List Int) :=
  ((loopO (adversary_Order.l1 x1) ([], x4)).bind fun x49 => some x49)
noncomputable def eslaw36_awake.j1  (x35 : Bool) : Option Bool :=
  some x35
noncomputable def eslaw36_awake  : Option Bool :=
  ((network_New).bind fun x3 =>
  ((network_Send (⟨x3.Next, x3.Packets, x3.Sides⟩ : network_Network) ([(⟨2, 1, 2, (⟨0, 0⟩ : api_AccessID), 0, 0, (⟨[], []⟩ : api_Certificate), (⟨[], []⟩ : api_Certificate), false, (⟨[], []⟩ : api_Certificate), [], [], [], false⟩ : api_Message), (⟨1, 2, 3, (⟨0, 0⟩ : api_AccessID), 0, 0, (⟨[], []⟩ : api_Certificate), (⟨[], []⟩ : api_Certificate), false, (⟨[], []⟩ : api_Certificate), [], [], [], false⟩ : api_Message), (⟨2, 3, 1, (⟨0, 0⟩ : api_AccessID), 0, 0, (⟨[], []⟩ : api_Certificate), (⟨[], []⟩ : api_Certificate), false, (⟨[], []⟩ : api_Certificate), [], [], [], false⟩ : api_Message)])).bind fun x11 =>
  ((adversary_Parse ([112, 114, 101, 102, 101, 114, 32, 107, 105, 110, 100, 32, 50, 59, 32, 110, 101, 119, 101, 115, 116] : List UInt8)).bind fun (x20, x21) =>
  ((adversary_Choose x20 (⟨x11.Next, x11.Packets, x11.Sides⟩ : network_Network) 0).bind fun (x26, x27) =>
  ((adversary_Order x20 (⟨x11.Next, x11.Packets, x11.Sides⟩ : network_Network)).bind fun x29 =>
  (if (x21 == 0) then (if ((x20.length : Int) == 2) then (if x27 then (if (x26 == 3) then (if ((x29.length : Int) == 3) then ((idx x29 1).bind fun x42 =>
  (if (x42 == 1) then ((idx x29 2).bind fun x46 =>
  (if (x46 == 2) then ((adversary_Format x20).bind fun x50 =>
  eslaw36_awake.j1 (x50 == ([112, 114, 101, 102, 101, 114, 32, 107, 105, 110, 100, 32, 50, 59, 32, 110, 101, 119, 101, 115, 116] : List UInt8))) else eslaw36_awake.j1 false)) else eslaw36_awake.j1 false)) else eslaw36_awake.j1 false) else eslaw36_awake.j1 false) else eslaw36_awake.j1 false) else eslaw36_awake.j1 false) else eslaw36_awake.j1 false))))))
noncomputable def eslaw00_Index (x1 : Int) (x2 : Int) : Option Int :=
  (if (decide (x2 < 1)) then some 0 else (if x2 ≠ 0 then (letV (IntKind.i64.wrap ((Int.tmod x1 x2) + x2)) fun x10 =>
  (if x2 ≠ 0 then some (Int.tmod x10 x2) else none)) else none))
noncomputable def eslaw00_Digit.j1 (x2 : Int) (x9 : Int) : Option Int :=
  (if x2 ≠ 0 then some (Int.tmod x9 x2) else none)
noncomputable def eslaw00_Digit.l1 (x2 : Int) (x3 : Int) : (Int × Int) → Option ((Int × Int) ⊕ (Int)) := fun (x15, x16) =>
  (if (decide (x16 < x3)) then (if x2 ≠ 0 then (letV (IntKind.i64.wrap (Int.tdiv x15 x2)) fun x22 =>
  (letV (IntKind.i64.wrap (x16 + 1)) fun x24 =>
  some (.inl (x22, x24)))) else none) else some (.inr x15))
noncomputable def eslaw00_Digit (x1 : Int) (x2 : Int) (x3 : Int) : Option Int :=
  ((eslaw00_Index x1 1099511627776).bind fun x6 =>
  ((loopO (eslaw00_Digit.l1 x2 x3) (x6, 0)).bind fun x25 => eslaw00_Digit.j1 x2 x25))
noncomputable def eslaw36_Rules.j1  (x8 : List adversary_Rule) : Option (List adversary_Rule) :=
  some x8
noncomputable def eslaw36_Rules.j2 (x16 : List adversary_Rule) (x20 : Int) (x81 : Int) (x82 : Int) : Option (((List adversary_Rule) × Int) ⊕ (List adversary_Rule)) :=
  ((app 16 x16 [(⟨x81, x82⟩ : adversary_Rule)]).bind fun x85 =>
  (letV (IntKind.i64.wrap (x20 + 1)) fun x90 =>
  some (.inl (x85, x90))))
noncomputable def eslaw36_Rules.j3 (x1 : List Int) (x16 : List adversary_Rule) (x20 : Int) (x34 : Int) (x77 : Int) : Option (((List adversary_Rule) × Int) ⊕ (List adversary_Rule)) :=
  ((idx x1 x20).bind fun x92 =>
  ((eslaw00_Index x92 61).bind fun x95 =>
  (if (x95 == 60) then ((idx x1 x20).bind fun x97 =>
  ((eslaw00_Digit x97 12 1).bind fun x100 =>
  ((idx x1 x20).bind fun x101 =>
  ((eslaw00_Digit x101 16 3).bind fun x104 =>
  (letV (IntKind.i64.wrap (x104 * 100)) fun x105 =>
  eslaw36_Rules.j2 x16 x20 x100 x105))))) else eslaw36_Rules.j2 x16 x20 x34 x77)))
noncomputable def eslaw36_Rules.j4 (x1 : List Int) (x16 : List adversary_Rule) (x20 : Int) (x25 : Bool) : Option (((List adversary_Rule) × Int) ⊕ (List adversary_Rule)) :=
  (if x25 then ((idx x1 x20).bind fun x30 =>
  ((eslaw00_Digit x30 9 0).bind fun x33 =>
  (letV (IntKind.i64.wrap (1 + x33)) fun x34 =>
  ((idx x1 x20).bind fun x35 =>
  ((eslaw00_Digit x35 6 2).bind fun x38 =>
  (letV (IntKind.i64.wrap (1 + x38)) fun x39 =>
  (if (decide (7 ≤ x34)) then eslaw36_Rules.j3 x1 x16 x20 x34 0 else eslaw36_Rules.j3 x1 x16 x20 x34 x39))))))) else some (.inr x16))
noncomputable def eslaw36_Rules.l1 (x1 : List Int) : ((List adversary_Rule) × Int) → Option (((List adversary_Rule) × Int) ⊕ (List adversary_Rule)) := fun (x16, x20) =>
  (if (decide (x20 < (x1.length : Int))) then eslaw36_Rules.j4 x1 x16 x20 (decide (x20 < 20)) else eslaw36_Rules.j4 x1 x16 x20 false)
noncomputable def eslaw36_Rules (x1 : List Int) : Option (List adversary_Rule) :=
  ((loopO (eslaw36_Rules.l1 x1) ([], 0)).bind fun x139 => eslaw36_Rules.j1 x139)
noncomputable def esref36_ValidateRules.j1   : Option Int :=
  some 0
noncomputable def esref36_ValidateRules.j2 (x15 : Int) (x37 : Bool) : Option ((Int) ⊕ (Unit ⊕ Int)) :=
  (if x37 then some (.inr (.inr 9)) else (letV (IntKind.i64.wrap (x15 + 1)) fun x41 =>
  some (.inl x41)))
noncomputable def esref36_ValidateRules.j3 (x15 : Int) (x22 : adversary_Rule) (x31 : Bool) : Option ((Int) ⊕ (Unit ⊕ Int)) :=
  (if x31 then some (.inr (.inr 10)) else (if (decide (x22.Kind ≤ 6)) then (if (decide (x22.Arg < 1)) then esref36_ValidateRules.j2 x15 true else (if (decide (1000 < x22.Arg)) then esref36_ValidateRules.j2 x15 true else (if (decide (7 ≤ x22.Kind)) then esref36_ValidateRules.j2 x15 (x22.Arg != 0) else esref36_ValidateRules.j2 x15 false))) else (if (decide (7 ≤ x22.Kind)) then esref36_ValidateRules.j2 x15 (x22.Arg != 0) else esref36_ValidateRules.j2 x15 false)))
noncomputable def esref36_ValidateRules.l1 (x1 : List adversary_Rule) : Int → Option ((Int) ⊕ (Unit ⊕ Int)) := fun x15 =>
  (if (decide (x15 < (x1.length : Int))) then ((idx x1 x15).bind fun x22 =>
  (if (decide (x22.Kind < 1)) then esref36_ValidateRules.j3 x15 x22 true else esref36_ValidateRules.j3 x15 x22 (decide (9 < x22.Kind)))) else some (.inr (.inl ())))
noncomputable def esref36_ValidateRules (x1 : List adversary_Rule) : Option Int :=
  (if (decide (16 < (x1.length : Int))) then some 3 else ((loopO (esref36_ValidateRules.l1 x1) 0).bind fun b => match b with | .inl _ => esref36_ValidateRules.j1 | .inr x57 => some x57))
noncomputable def decimalF : Nat → Int → Option (List UInt8)
  | 0, _ => none
  | f + 1, x1 => (if (decide (x1 < 10)) then (letV (IntKind.i64.wrap (48 + x1)) fun x7 =>
    some (bts [(IntKind.u8.wrap x7)])) else (letV (IntKind.i64.wrap (Int.tdiv x1 10)) fun x10 =>
    ((decimalF f x10).bind fun x11 =>
    ((decimalF f (Int.tmod x1 10)).bind fun x12 =>
    ((cat x11 x12).bind fun x13 =>
    some x13)))))
noncomputable def esref36_decimal (x1 : Int) : Option (List UInt8) := decimalF 6 x1

noncomputable def esref36_Format.j1  (x15 : List UInt8) : Option (List UInt8) :=
  some x15
noncomputable def esref36_Format.j2 (x21 : Int) (x28 : List UInt8) : Option (((List UInt8) × Int) ⊕ (List UInt8)) :=
  (letV (IntKind.i64.wrap (x21 + 1)) fun x30 =>
  some (.inl (x28, x30)))
noncomputable def esref36_Format.j3 (x1 : List adversary_Rule) (x21 : Int) (x33 : List UInt8) : Option (((List UInt8) × Int) ⊕ (List UInt8)) :=
  ((idx x1 x21).bind fun x36 =>
  (letV (IntKind.i64.wrap (x36.Kind - 1)) fun x40 =>
  ((idx ([([112, 114, 101, 102, 101, 114, 32, 116, 111, 32] : List UInt8), ([112, 114, 101, 102, 101, 114, 32, 102, 114, 111, 109, 32] : List UInt8), ([112, 114, 101, 102, 101, 114, 32, 107, 105, 110, 100, 32] : List UInt8), ([97, 118, 111, 105, 100, 32, 116, 111, 32] : List UInt8), ([97, 118, 111, 105, 100, 32, 102, 114, 111, 109, 32] : List UInt8), ([97, 118, 111, 105, 100, 32, 107, 105, 110, 100, 32] : List UInt8), ([111, 108, 100, 101, 115, 116] : List UInt8), ([110, 101, 119, 101, 115, 116] : List UInt8), ([114, 111, 116, 97, 116, 101] : List UInt8)] : List (List UInt8)) x40).bind fun x41 =>
  ((cat x33 x41).bind fun x42 =>
  ((idx x1 x21).bind fun x44 =>
  (if (decide (x44.Kind ≤ 6)) then ((idx x1 x21).bind fun x49 =>
  ((esref36_decimal x49.Arg).bind fun x53 =>
  ((cat x42 x53).bind fun x54 =>
  esref36_Format.j2 x21 x54))) else esref36_Format.j2 x21 x42))))))
noncomputable def esref36_Format.l1 (x1 : List adversary_Rule) : ((List UInt8) × Int) → Option (((List UInt8) × Int) ⊕ (List UInt8)) := fun (x20, x21) =>
  (if (decide (x21 < (x1.length : Int))) then (if (decide (0 < x21)) then ((cat x20 ([59, 32] : List UInt8)).bind fun x57 =>
  esref36_Format.j3 x1 x21 x57) else esref36_Format.j3 x1 x21 x20) else some (.inr x20))
noncomputable def esref36_Format (x1 : List adversary_Rule) : Option (List UInt8) :=
  ((esref36_ValidateRules x1).bind fun x7 =>
  (if (x7 != 0) then some ([] : List UInt8) else ((loopO (esref36_Format.l1 x1) (([] : List UInt8), 0)).bind fun x58 => esref36_Format.j1 x58)))
noncomputable def esref36_split.j1 (x1 : List UInt8) (x7 : List (List UInt8)) (x11 : Int) : Option (List (List UInt8)) :=
  ((cut x1 x11 (x1.length : Int)).bind fun x14 =>
  ((app 16 x7 [x14]).bind fun x16 =>
  some x16))
noncomputable def esref36_split.j2 (x28 : Int) (x36 : List (List UInt8)) (x40 : Int) : Option (((List (List UInt8)) × Int × Int) ⊕ ((List (List UInt8)) × Int)) :=
  (letV (IntKind.i64.wrap (x28 + 1)) fun x42 =>
  some (.inl (x36, x40, x42)))
noncomputable def esref36_split.l1 (x1 : List UInt8) : ((List (List UInt8)) × Int × Int) → Option (((List (List UInt8)) × Int × Int) ⊕ ((List (List UInt8)) × Int)) := fun (x23, x27, x28) =>
  (letV (IntKind.i64.wrap (x28 + 2)) fun x32 =>
  (if (decide (x32 ≤ (x1.length : Int))) then (letV (IntKind.i64.wrap (x28 + 2)) fun x44 =>
  ((cut x1 x28 x44).bind fun x45 =>
  (if (x45 == ([59, 32] : List UInt8)) then ((cut x1 x27 x28).bind fun x48 =>
  ((app 16 x23 [x48]).bind fun x50 =>
  (letV (IntKind.i64.wrap (x28 + 2)) fun x55 =>
  esref36_split.j2 x28 x50 x55))) else esref36_split.j2 x28 x23 x27))) else some (.inr (x23, x27))))
noncomputable def esref36_split (x1 : List UInt8) : Option (List (List UInt8)) :=
  ((loopO (esref36_split.l1 x1) ([], 0, 0)).bind fun (x56, x57) => esref36_split.j1 x1 x56 x57)
noncomputable def esref36_parseRule.j1  (x11 : Int) (x12 : Int) : Option (adversary_Rule × Bool) :=
  some ((⟨0, 0⟩ : adversary_Rule), false)
noncomputable def esref36_parseRule.j2 (x17 : Int) (x18 : Int) (x19 : Int) (x29 : Int) (x36 : Bool) : Option ((Int × Int × Int) ⊕ ((Int × Int) ⊕ (adversary_Rule × Bool))) :=
  (if x36 then some (.inr (.inr ((⟨x17, x29⟩ : adversary_Rule), true))) else (letV (IntKind.i64.wrap (x17 + 1)) fun x40 =>
  some (.inl (x40, x18, x19))))
noncomputable def esref36_parseRule.j3 (x1 : List UInt8) (x17 : Int) (x18 : Int) (x19 : Int) (x29 : Int) : Option ((Int × Int × Int) ⊕ ((Int × Int) ⊕ (adversary_Rule × Bool))) :=
  ((esref36_Format [(⟨x17, x29⟩ : adversary_Rule)]).bind fun x33 =>
  (if (x33 != ([] : List UInt8)) then esref36_parseRule.j2 x17 x18 x19 x29 (x33 == x1) else esref36_parseRule.j2 x17 x18 x19 x29 false))
noncomputable def esref36_parseRule.l1 (x1 : List UInt8) (x7 : Int) : (Int × Int × Int) → Option ((Int × Int × Int) ⊕ ((Int × Int) ⊕ (adversary_Rule × Bool))) := fun (x17, x18, x19) =>
  (if (decide (x17 ≤ 9)) then (if (decide (7 ≤ x17)) then esref36_parseRule.j3 x1 x17 x18 x19 0 else esref36_parseRule.j3 x1 x17 x18 x19 x7) else some (.inr (.inl (x18, x19))))
noncomputable def esref36_parseRule.j4 (x1 : List UInt8) (x7 : Int) : Option (adversary_Rule × Bool) :=
  ((loopO (esref36_parseRule.l1 x1 x7) (1, 0, 0)).bind fun b => match b with | .inl (x44, x45) => esref36_parseRule.j1 x44 x45 | .inr (x46, x47) => some (x46, x47))
noncomputable def esref36_parseRule.j5 (x52 : Int) (x59 : Int) : Option ((Int × Int) ⊕ (Int)) :=
  (letV (IntKind.i64.wrap (x52 + 1)) fun x61 =>
  some (.inl (x59, x61)))
noncomputable def esref36_parseRule.j6 (x1 : List UInt8) (x51 : Int) (x52 : Int) (x64 : Bool) : Option ((Int × Int) ⊕ (Int)) :=
  (if x64 then (letV (IntKind.i64.wrap (x51 * 10)) fun x67 =>
  ((idx x1 x52).bind fun x68 =>
  (letV (IntKind.u8.wrap ((x68.toNat : Int) - 48)) fun x69 =>
  (letV (IntKind.i64.wrap (x67 + (IntKind.i64.wrap x69))) fun x70 =>
  esref36_parseRule.j5 x52 x70)))) else esref36_parseRule.j5 x52 x51)
noncomputable def esref36_parseRule.l2 (x1 : List UInt8) : (Int × Int) → Option ((Int × Int) ⊕ (Int)) := fun (x51, x52) =>
  (if (decide (x52 < (x1.length : Int))) then ((idx x1 x52).bind fun x71 =>
  (if (decide (48 ≤ (x71.toNat : Int))) then ((idx x1 x52).bind fun x73 =>
  esref36_parseRule.j6 x1 x51 x52 (decide ((x73.toNat : Int) ≤ 57))) else esref36_parseRule.j6 x1 x51 x52 false)) else some (.inr x51))
noncomputable def esref36_parseRule (x1 : List UInt8) : Option (adversary_Rule × Bool) :=
  (letV (IntKind.i64.wrap ((x1.length : Int) - 4)) fun x49 =>
  ((loopO (esref36_parseRule.l2 x1) (0, (maxI 0 x49))).bind fun x74 => esref36_parseRule.j4 x1 x74))
noncomputable def esref36_Parse.j1  (x19 : List adversary_Rule) : Option ((List adversary_Rule) × Int) :=
  some (x19, 0)
noncomputable def esref36_Parse.l1 (x8 : List (List UInt8)) : ((List adversary_Rule) × Int) → Option (((List adversary_Rule) × Int) ⊕ ((List adversary_Rule) ⊕ ((List adversary_Rule) × Int))) := fun (x27, x31) =>
  (if (decide (x31 < (x8.length : Int))) then ((idx x8 x31).bind fun x38 =>
  ((esref36_parseRule x38).bind fun (x41, x42) =>
  (if (!x42) then some (.inr (.inr ([], 11))) else ((app 16 x27 [x41]).bind fun x51 =>
  (letV (IntKind.i64.wrap (x31 + 1)) fun x56 =>
  some (.inl (x51, x56))))))) else some (.inr (.inl x27)))
noncomputable def esref36_Parse (x1 : List UInt8) : Option ((List adversary_Rule) × Int) :=
  (if (x1 == ([] : List UInt8)) then some ([], 0) else ((esref36_split x1).bind fun x8 =>
  (if (decide (16 < (x8.length : Int))) then some ([], 11) else ((loopO (esref36_Parse.l1 x8) ([], 0)).bind fun b => match b with | .inl x57 => esref36_Parse.j1 x57 | .inr (x58, x59) => some (x58, x59)))))
noncomputable def eslaw36_AdversaryText.j1   : Option Bool :=
  ((eslaw36_awake).bind fun x58 =>
  some x58)
noncomputable def eslaw36_AdversaryText.l1 (x36 : List adversary_Rule) (x42 : List adversary_Rule) : Int → Option ((Int) ⊕ (Unit ⊕ Bool)) := fun x61 =>
  (if (decide (x61 < (x36.length : Int))) then ((idx x36 x61).bind fun x68 =>
  ((idx x42 x61).bind fun x73 =>
  (if (!decide ((⟨x68.Kind, x68.Arg⟩ : adversary_Rule) = (⟨x73.Kind, x73.Arg⟩ : adversary_Rule))) then some (.inr (.inr false)) else (letV (IntKind.i64.wrap (x61 + 1)) fun x108 =>
  some (.inl x108))))) else some (.inr (.inl ())))
noncomputable def eslaw36_AdversaryText.j2 (x36 : List adversary_Rule) (x42 : List adversary_Rule) (x50 : Bool) : Option Bool :=
  (if x50 then some false else ((loopO (eslaw36_AdversaryText.l1 x36 x42) 0).bind fun b => match b with | .inl _ => eslaw36_AdversaryText.j1 | .inr x109 => some x109))
noncomputable def eslaw36_AdversaryText.j3  (x33 : List UInt8) : Option Bool :=
  ((adversary_Parse x33).bind fun (x36, x37) =>
  ((esref36_Parse x33).bind fun (x42, x43) =>
  (if (x37 != x43) then eslaw36_AdversaryText.j2 x36 x42 true else eslaw36_AdversaryText.j2 x36 x42 ((x36.length : Int) != (x42.length : Int)))))
noncomputable def eslaw36_AdversaryText.j4 (x4 : Int) (x5 : Int) (x6 : List UInt8) (x19 : List UInt8)  : Option Bool :=
  (letV (IntKind.i64.wrap ((x19.length : Int) + 1)) fun x29 =>
  ((eslaw00_Index x5 x29).bind fun x30 =>
  ((eslaw00_Index x4 4).bind fun x112 =>
  (if (x112 == 0) then ((cut x19 0 x30).bind fun x115 =>
  ((cat x115 x6).bind fun x116 =>
  ((cut x19 x30 (x19.length : Int)).bind fun x117 =>
  ((cat x116 x117).bind fun x118 =>
  eslaw36_AdversaryText.j3 x118)))) else (if (x112 == 1) then ((cut x19 0 x30).bind fun x139 =>
  (letV (IntKind.i64.wrap (Int.tdiv x4 4)) fun x142 =>
  ((eslaw00_Index x142 6).bind fun x143 =>
  ((idx ([([48] : List UInt8), ([32] : List UInt8), ([59] : List UInt8), ([59, 32] : List UInt8), ([57] : List UInt8), ([120] : List UInt8)]) x143).bind fun x144 =>
  ((cat x139 x144).bind fun x147 =>
  ((cut x19 x30 (x19.length : Int)).bind fun x148 =>
  ((cat x147 x148).bind fun x149 =>
  eslaw36_AdversaryText.j3 x149))))))) else (if (x112 == 2) then ((cut x19 0 x30).bind fun x188 =>
  eslaw36_AdversaryText.j3 x188) else eslaw36_AdversaryText.j3 x6))))))
noncomputable def eslaw36_AdversaryText.l2 (x14 : List adversary_Rule) (x193 : List adversary_Rule) : Int → Option ((Int) ⊕ (Unit ⊕ Bool)) := fun x207 =>
  (if (decide (x207 < (x193.length : Int))) then ((idx x193 x207).bind fun x214 =>
  ((idx x14 x207).bind fun x219 =>
  (if (!decide ((⟨x214.Kind, x214.Arg⟩ : adversary_Rule) = (⟨x219.Kind, x219.Arg⟩ : adversary_Rule))) then some (.inr (.inr false)) else (letV (IntKind.i64.wrap (x207 + 1)) fun x254 =>
  some (.inl x254))))) else some (.inr (.inl ())))
noncomputable def eslaw36_AdversaryText.j5 (x4 : Int) (x5 : Int) (x6 : List UInt8) (x14 : List adversary_Rule) (x19 : List UInt8) (x193 : List adversary_Rule) (x201 : Bool) : Option Bool :=
  (if x201 then some false else ((loopO (eslaw36_AdversaryText.l2 x14 x193) 0).bind fun b => match b with | .inl _ => eslaw36_AdversaryText.j4 x4 x5 x6 x19 | .inr x255 => some x255))
noncomputable def eslaw36_AdversaryText (x1 : List Int) (x4 : Int) (x5 : Int) (x6 : List UInt8) : Option Bool :=
  (if (decide (20 < (x6.length : Int))) then ((eslaw36_awake).bind fun x12 =>
  some x12) else ((eslaw36_Rules x1).bind fun x14 =>
  ((adversary_Format x14).bind fun x19 =>
  ((esref36_Format x14).bind fun x22 =>
  (if (x19 != x22) then some false else ((esref36_ValidateRules x14).bind fun x190 =>
  (if (x190 == 0) then ((adversary_Parse x19).bind fun (x193, x194) =>
  (if (x194 != 0) then eslaw36_AdversaryText.j5 x4 x5 x6 x14 x19 x193 true else (if ((x193.length : Int) != (x14.length : Int)) then eslaw36_AdversaryText.j5 x4 x5 x6 x14 x19 x193 true else ((adversary_Format x193).bind fun x258 =>
  eslaw36_AdversaryText.j5 x4 x5 x6 x14 x19 x193 (x258 != x19))))) else eslaw36_AdversaryText.j4 x4 x5 x6 x19)))))))
end Go.Proofs.YthcohhpmpdijoaaDoor
set_option linter.unusedVariables false
set_option linter.unusedSimpArgs false
namespace Go.Proofs.YthcohhpmpdijoaaDoor
open Go Go.RowKit Go.Proofs.YthcohhpmpdijoaaDoorL
set_option maxRecDepth 20000
def t_api_AccessID : Ty api_AccessID := tIso (tPair (tInt .i64) (tInt .i64)) fun x : api_AccessID => (x.Process, x.Number)
def t_api_Rule : Ty api_Rule := tIso (tPair (tInt .i64) (tPair (tInt .i64) (tInt .i64))) fun x : api_Rule => (x.Kind, x.Columns, x.Faulty)
def t_api_Change : Ty api_Change := tIso (tPair (tInt .i64) (tPair (tInt .i64) (tPair (tInt .i64) (tPair (tInt .i64) t_api_Rule)))) fun x : api_Change => (x.Kind, x.Server, x.Weight, x.Version, x.Rule)
def t_api_Proposal : Ty api_Proposal := tIso (tPair (tInt .i64) (tPair (tInt .i64) (tSlice t_api_Change))) fun x : api_Proposal => (x.Admin, x.Number, x.Changes)
def t_api_Certificate : Ty api_Certificate := tIso (tPair (tSlice t_api_Proposal) (tSlice t_api_Proposal)) fun x : api_Certificate => (x.From, x.To)
def t_api_Effect : Ty api_Effect := tIso (tPair (tInt .i64) (tPair tStr (tPair tStr (tPair (tInt .i64) tStr)))) fun x : api_Effect => (x.Kind, x.Object, x.Field, x.N, x.S)
def t_api_Update : Ty api_Update := tIso (tPair (tInt .i64) (tPair (tInt .i64) (tPair (tInt .i64) (tSlice t_api_Effect)))) fun x : api_Update => (x.Client, x.Seq, x.Tag, x.Effects)
def t_api_Entry : Ty api_Entry := tIso (tPair (tInt .i64) (tInt .i64)) fun x : api_Entry => (x.Author, x.Count)
def t_api_Message : Ty api_Message := tIso (tPair (tInt .i64) (tPair (tInt .i64) (tPair (tInt .i64) (tPair t_api_AccessID (tPair (tInt .i64) (tPair (tInt .i64) (tPair t_api_Certificate (tPair t_api_Certificate (tPair tBool (tPair t_api_Certificate (tPair (tSlice t_api_Proposal) (tPair (tSlice t_api_Update) (tPair (tSlice t_api_Entry) tBool))))))))))))) fun x : api_Message => (x.Kind, x.From, x.To, x.Access, x.Round, x.Mode, x.Cert, x.Base, x.HasBase, x.Established, x.Config, x.State, x.Have, x.More)
theorem F_api_Message_Kind : Fld t_api_Message (tInt .i64) 0 api_Message.Kind (fun x y => { x with Kind := y }) := (Fld.iso (Fld.fst _ _) (fun _ => rfl) (fun _ _ => rfl))
theorem F_api_Message_From : Fld t_api_Message (tInt .i64) 1 api_Message.From (fun x y => { x with From := y }) := (Fld.iso (Fld.snd (Fld.fst _ _)) (fun _ => rfl) (fun _ _ => rfl))
theorem F_api_Message_To : Fld t_api_Message (tInt .i64) 2 api_Message.To (fun x y => { x with To := y }) := (Fld.iso (Fld.snd (Fld.snd (Fld.fst _ _))) (fun _ => rfl) (fun _ _ => rfl))
def t_network_Packet : Ty network_Packet := tIso (tPair (tInt .i64) t_api_Message) fun x : network_Packet => (x.ID, x.Message)
theorem F_network_Packet_ID : Fld t_network_Packet (tInt .i64) 0 network_Packet.ID (fun x y => { x with ID := y }) := (Fld.iso (Fld.fst _ _) (fun _ => rfl) (fun _ _ => rfl))
theorem F_network_Packet_Message : Fld t_network_Packet t_api_Message 1 network_Packet.Message (fun x y => { x with Message := y }) := (Fld.iso (Fld.snd Fld.self) (fun _ => rfl) (fun _ _ => rfl))
def t_network_Side : Ty network_Side := tIso (tPair (tInt .i64) (tInt .i64)) fun x : network_Side => (x.Process, x.Side)
theorem F_network_Side_Process : Fld t_network_Side (tInt .i64) 0 network_Side.Process (fun x y => { x with Process := y }) := (Fld.iso (Fld.fst _ _) (fun _ => rfl) (fun _ _ => rfl))
theorem F_network_Side_Side : Fld t_network_Side (tInt .i64) 1 network_Side.Side (fun x y => { x with Side := y }) := (Fld.iso (Fld.snd Fld.self) (fun _ => rfl) (fun _ _ => rfl))
def t_network_Network : Ty network_Network := tIso (tPair (tInt .i64) (tPair (tSlice t_network_Packet) (tSlice t_network_Side))) fun x : network_Network => (x.Next, x.Packets, x.Sides)
theorem F_network_Network_Packets : Fld t_network_Network (tSlice t_network_Packet) 1 network_Network.Packets (fun x y => { x with Packets := y }) := (Fld.iso (Fld.snd (Fld.fst _ _)) (fun _ => rfl) (fun _ _ => rfl))
theorem F_network_Network_Sides : Fld t_network_Network (tSlice t_network_Side) 2 network_Network.Sides (fun x y => { x with Sides := y }) := (Fld.iso (Fld.snd (Fld.snd Fld.self)) (fun _ => rfl) (fun _ _ => rfl))
def t_adversary_Rule : Ty adversary_Rule := tIso (tPair (tInt .i64) (tInt .i64)) fun x : adversary_Rule => (x.Kind, x.Arg)
theorem F_adversary_Rule_Kind : Fld t_adversary_Rule (tInt .i64) 0 adversary_Rule.Kind (fun x y => { x with Kind := y }) := (Fld.iso (Fld.fst _ _) (fun _ => rfl) (fun _ _ => rfl))
theorem F_adversary_Rule_Arg : Fld t_adversary_Rule (tInt .i64) 1 adversary_Rule.Arg (fun x y => { x with Arg := y }) := (Fld.iso (Fld.snd Fld.self) (fun _ => rfl) (fun _ _ => rfl))
theorem EI3 : EI Tryd.prog 3 (.int .i64 0) 1 8 := ⟨by kernel_rfl, rfl, by decide⟩
theorem EI32 : EI Tryd.prog 32 (.agg #[.int .i64 0, .int .i64 0]) 2 16 := ⟨by kernel_rfl, rfl, by decide⟩
theorem EI69 : EI Tryd.prog 69 (.agg #[.int .i64 0, .int .i64 0, .int .i64 0, .int .i64 0, .int .i64 0, .int .i64 0, .int .i64 0, .int .i64 0, .slice none 0 0, .slice none 0 0, .slice none 0 0, .slice none 0 0, .bool false, .slice none 0 0, .slice none 0 0, .slice none 0 0, .slice none 0 0, .slice none 0 0, .bool false]) 19 296 := ⟨by kernel_rfl, rfl, by decide⟩
theorem EI75 : EI Tryd.prog 75 (.nilFunc) 1 8 := ⟨by kernel_rfl, rfl, by decide⟩
theorem EI9 : EI Tryd.prog 9 (.string ⟨#[]⟩) 1 16 := ⟨by kernel_rfl, rfl, by decide⟩
theorem EI95 : EI Tryd.prog 95 (.agg #[.int .i64 0, .int .i64 0]) 2 16 := ⟨by kernel_rfl, rfl, by decide⟩
theorem FA32_0 : FA Tryd.prog 32 0 0 := fun _ _ => by kernel_rfl
theorem FA32_1 : FA Tryd.prog 32 1 1 := fun _ _ => by kernel_rfl
theorem FA39_0 : FA Tryd.prog 39 0 0 := fun _ _ => by kernel_rfl
theorem FA39_1 : FA Tryd.prog 39 1 1 := fun _ _ => by kernel_rfl
theorem FA39_2 : FA Tryd.prog 39 2 2 := fun _ _ => by kernel_rfl
theorem FA53_0 : FA Tryd.prog 53 0 0 := fun _ _ => by kernel_rfl
theorem FA53_1 : FA Tryd.prog 53 1 1 := fun _ _ => by kernel_rfl
theorem FA53_2 : FA Tryd.prog 53 2 2 := fun _ _ => by kernel_rfl
theorem FA69_0 : FA Tryd.prog 69 0 0 := fun _ _ => by kernel_rfl
theorem FA69_1 : FA Tryd.prog 69 1 1 := fun _ _ => by kernel_rfl
theorem FA95_0 : FA Tryd.prog 95 0 0 := fun _ _ => by kernel_rfl
theorem FA95_1 : FA Tryd.prog 95 1 1 := fun _ _ => by kernel_rfl
theorem FN10 : FN Tryd.prog 10 := fun _ _ => by kernel_rfl
theorem FN11 : FN Tryd.prog 11 := fun _ _ => by kernel_rfl
theorem FN12 : FN Tryd.prog 12 := fun _ _ => by kernel_rfl
theorem FN13 : FN Tryd.prog 13 := fun _ _ => by kernel_rfl
theorem FN14 : FN Tryd.prog 14 := fun _ _ => by kernel_rfl
theorem FN15 : FN Tryd.prog 15 := fun _ _ => by kernel_rfl
theorem FN16 : FN Tryd.prog 16 := fun _ _ => by kernel_rfl
theorem FN17 : FN Tryd.prog 17 := fun _ _ => by kernel_rfl
theorem FN18 : FN Tryd.prog 18 := fun _ _ => by kernel_rfl
theorem FN19 : FN Tryd.prog 19 := fun _ _ => by kernel_rfl
theorem FN20 : FN Tryd.prog 20 := fun _ _ => by kernel_rfl
theorem FN21 : FN Tryd.prog 21 := fun _ _ => by kernel_rfl
theorem FN22 : FN Tryd.prog 22 := fun _ _ => by kernel_rfl
theorem FN23 : FN Tryd.prog 23 := fun _ _ => by kernel_rfl
theorem FN24 : FN Tryd.prog 24 := fun _ _ => by kernel_rfl
theorem FN25 : FN Tryd.prog 25 := fun _ _ => by kernel_rfl
theorem FN26 : FN Tryd.prog 26 := fun _ _ => by kernel_rfl
theorem FN27 : FN Tryd.prog 27 := fun _ _ => by kernel_rfl
theorem FN28 : FN Tryd.prog 28 := fun _ _ => by kernel_rfl
theorem FN29 : FN Tryd.prog 29 := fun _ _ => by kernel_rfl
theorem FN30 : FN Tryd.prog 30 := fun _ _ => by kernel_rfl
theorem FN36 : FN Tryd.prog 36 := fun _ _ => by kernel_rfl
theorem FN37 : FN Tryd.prog 37 := fun _ _ => by kernel_rfl
theorem FN38 : FN Tryd.prog 38 := fun _ _ => by kernel_rfl
theorem FN39 : FN Tryd.prog 39 := fun _ _ => by kernel_rfl
theorem FN4 : FN Tryd.prog 4 := fun _ _ => by kernel_rfl
theorem FN40 : FN Tryd.prog 40 := fun _ _ => by kernel_rfl
theorem FN41 : FN Tryd.prog 41 := fun _ _ => by kernel_rfl
theorem FN42 : FN Tryd.prog 42 := fun _ _ => by kernel_rfl
theorem FN43 : FN Tryd.prog 43 := fun _ _ => by kernel_rfl
theorem FN44 : FN Tryd.prog 44 := fun _ _ => by kernel_rfl
theorem FN5 : FN Tryd.prog 5 := fun _ _ => by kernel_rfl
theorem FN54 : FN Tryd.prog 54 := fun _ _ => by kernel_rfl
theorem FN55 : FN Tryd.prog 55 := fun _ _ => by kernel_rfl
theorem FN56 : FN Tryd.prog 56 := fun _ _ => by kernel_rfl
theorem FN57 : FN Tryd.prog 57 := fun _ _ => by kernel_rfl
theorem FN6 : FN Tryd.prog 6 := fun _ _ => by kernel_rfl
theorem FN7 : FN Tryd.prog 7 := fun _ _ => by kernel_rfl
theorem FN74 : FN Tryd.prog 74 := fun _ _ => by kernel_rfl
theorem FN8 : FN Tryd.prog 8 := fun _ _ => by kernel_rfl
theorem FN9 : FN Tryd.prog 9 := fun _ _ => by kernel_rfl
theorem GN1 : Tryd.prog.globalNamed "internal/strconv.uint64pow10" = some 1 := by kernel_rfl
theorem NEI86 : NEI Tryd.prog 86 := ⟨fun _ => by kernel_rfl, fun _ _ _ => by kernel_rfl⟩
theorem PL32 : PL Tryd.prog 32 [(0, 1), (1, 1)] [.int .i64 0, .int .i64 0] := ⟨⟨_, Tryd.underlying32, fun _ => by kernel_rfl⟩, .agg #[.int .i64 0, .int .i64 0], fun _ => by kernel_rfl, rfl⟩
theorem PL39 : PL Tryd.prog 39 [(0, 1), (1, 1), (2, 1)] [.int .i64 0, .slice none 0 0, .slice none 0 0] := ⟨⟨_, Tryd.underlying39, fun _ => by kernel_rfl⟩, .agg #[.int .i64 0, .slice none 0 0, .slice none 0 0], fun _ => by kernel_rfl, rfl⟩
theorem PL53 : PL Tryd.prog 53 [(0, 1), (1, 1), (2, 1), (3, 2), (5, 1), (6, 1), (7, 2), (9, 2), (11, 1), (12, 2), (14, 1), (15, 1), (16, 1), (17, 1)] [.int .i64 0, .int .i64 0, .int .i64 0, .int .i64 0, .int .i64 0, .int .i64 0, .int .i64 0, .slice none 0 0, .slice none 0 0, .slice none 0 0, .slice none 0 0, .bool false, .slice none 0 0, .slice none 0 0, .slice none 0 0, .slice none 0 0, .slice none 0 0, .bool false] := ⟨⟨_, Tryd.underlying53, fun _ => by kernel_rfl⟩, .agg #[.int .i64 0, .int .i64 0, .int .i64 0, .int .i64 0, .int .i64 0, .int .i64 0, .int .i64 0, .slice none 0 0, .slice none 0 0, .slice none 0 0, .slice none 0 0, .bool false, .slice none 0 0, .slice none 0 0, .slice none 0 0, .slice none 0 0, .slice none 0 0, .bool false], fun _ => by kernel_rfl, rfl⟩
theorem PL69 : PL Tryd.prog 69 [(0, 1), (1, 18)] [.int .i64 0, .int .i64 0, .int .i64 0, .int .i64 0, .int .i64 0, .int .i64 0, .int .i64 0, .int .i64 0, .slice none 0 0, .slice none 0 0, .slice none 0 0, .slice none 0 0, .bool false, .slice none 0 0, .slice none 0 0, .slice none 0 0, .slice none 0 0, .slice none 0 0, .bool false] := ⟨⟨_, Tryd.underlying69, fun _ => by kernel_rfl⟩, .agg #[.int .i64 0, .int .i64 0, .int .i64 0, .int .i64 0, .int .i64 0, .int .i64 0, .int .i64 0, .int .i64 0, .slice none 0 0, .slice none 0 0, .slice none 0 0, .slice none 0 0, .bool false, .slice none 0 0, .slice none 0 0, .slice none 0 0, .slice none 0 0, .slice none 0 0, .bool false], fun _ => by kernel_rfl, rfl⟩
theorem PS22 : PS Tryd.prog 22 3 1 [.int .i64 0] := ⟨by kernel_rfl, fun _ => by kernel_rfl, .int .i64 0, fun _ => by kernel_rfl, rfl⟩
theorem PS24 : PS Tryd.prog 24 32 2 [.int .i64 0, .int .i64 0] := ⟨by kernel_rfl, fun _ => by kernel_rfl, .agg #[.int .i64 0, .int .i64 0], fun _ => by kernel_rfl, rfl⟩
theorem PS34 : PS Tryd.prog 34 9 1 [.string ⟨#[]⟩] := ⟨by kernel_rfl, fun _ => by kernel_rfl, .string ⟨#[]⟩, fun _ => by kernel_rfl, rfl⟩
theorem PS36 : PS Tryd.prog 36 69 19 [.int .i64 0, .int .i64 0, .int .i64 0, .int .i64 0, .int .i64 0, .int .i64 0, .int .i64 0, .int .i64 0, .slice none 0 0, .slice none 0 0, .slice none 0 0, .slice none 0 0, .bool false, .slice none 0 0, .slice none 0 0, .slice none 0 0, .slice none 0 0, .slice none 0 0, .bool false] := ⟨by kernel_rfl, fun _ => by kernel_rfl, .agg #[.int .i64 0, .int .i64 0, .int .i64 0, .int .i64 0, .int .i64 0, .int .i64 0, .int .i64 0, .int .i64 0, .slice none 0 0, .slice none 0 0, .slice none 0 0, .slice none 0 0, .bool false, .slice none 0 0, .slice none 0 0, .slice none 0 0, .slice none 0 0, .slice none 0 0, .bool false], fun _ => by kernel_rfl, rfl⟩
theorem PS54 : PS Tryd.prog 54 53 18 [.int .i64 0, .int .i64 0, .int .i64 0, .int .i64 0, .int .i64 0, .int .i64 0, .int .i64 0, .slice none 0 0, .slice none 0 0, .slice none 0 0, .slice none 0 0, .bool false, .slice none 0 0, .slice none 0 0, .slice none 0 0, .slice none 0 0, .slice none 0 0, .bool false] := ⟨by kernel_rfl, fun _ => by kernel_rfl, .agg #[.int .i64 0, .int .i64 0, .int .i64 0, .int .i64 0, .int .i64 0, .int .i64 0, .int .i64 0, .slice none 0 0, .slice none 0 0, .slice none 0 0, .slice none 0 0, .bool false, .slice none 0 0, .slice none 0 0, .slice none 0 0, .slice none 0 0, .slice none 0 0, .bool false], fun _ => by kernel_rfl, rfl⟩
theorem PS73 : PS Tryd.prog 73 75 1 [.nilFunc] := ⟨by kernel_rfl, fun _ => by kernel_rfl, .nilFunc, fun _ => by kernel_rfl, rfl⟩
theorem PS81 : PS Tryd.prog 81 5 1 [.int .u8 0] := ⟨by kernel_rfl, fun _ => by kernel_rfl, .int .u8 0, fun _ => by kernel_rfl, rfl⟩
theorem TI3 : TI Tryd.prog 3 false 1 := ⟨fun _ => by kernel_rfl, fun _ => by kernel_rfl⟩
theorem TI32 : TI Tryd.prog 32 true 2 := ⟨fun _ => by kernel_rfl, fun _ => by kernel_rfl⟩
theorem TI34 : TI Tryd.prog 34 false 1 := ⟨fun _ => by kernel_rfl, fun _ => by kernel_rfl⟩
theorem TI36 : TI Tryd.prog 36 false 1 := ⟨fun _ => by kernel_rfl, fun _ => by kernel_rfl⟩
theorem TI37 : TI Tryd.prog 37 false 1 := ⟨fun _ => by kernel_rfl, fun _ => by kernel_rfl⟩
theorem TI39 : TI Tryd.prog 39 true 3 := ⟨fun _ => by kernel_rfl, fun _ => by kernel_rfl⟩
theorem TI53 : TI Tryd.prog 53 true 18 := ⟨fun _ => by kernel_rfl, fun _ => by kernel_rfl⟩
theorem TI61 : TI Tryd.prog 61 true 9 := ⟨fun _ => by kernel_rfl, fun _ => by kernel_rfl⟩
theorem TI69 : TI Tryd.prog 69 true 19 := ⟨fun _ => by kernel_rfl, fun _ => by kernel_rfl⟩
theorem TI75 : TI Tryd.prog 75 false 1 := ⟨fun _ => by kernel_rfl, fun _ => by kernel_rfl⟩
theorem TI9 : TI Tryd.prog 9 false 1 := ⟨fun _ => by kernel_rfl, fun _ => by kernel_rfl⟩
theorem TI95 : TI Tryd.prog 95 true 2 := ⟨fun _ => by kernel_rfl, fun _ => by kernel_rfl⟩
theorem UN128 : Tryd.prog.underlying 128 = some (.int .u64) := by kernel_rfl
theorem UN22 : Tryd.prog.underlying 22 = some (.slice 3) := by kernel_rfl
theorem UN24 : Tryd.prog.underlying 24 = some (.slice 32) := by kernel_rfl
theorem UN3 : Tryd.prog.underlying 3 = some (.int .i64) := by kernel_rfl
theorem UN34 : Tryd.prog.underlying 34 = some (.slice 9) := by kernel_rfl
theorem UN36 : Tryd.prog.underlying 36 = some (.slice 69) := by kernel_rfl
theorem UN37 : Tryd.prog.underlying 37 = some (.slice 95) := by kernel_rfl
theorem UN4 : Tryd.prog.underlying 4 = some (.bool) := by kernel_rfl
theorem UN5 : Tryd.prog.underlying 5 = some (.int .u8) := by kernel_rfl
theorem UN54 : Tryd.prog.underlying 54 = some (.slice 53) := by kernel_rfl
theorem UN61 : Tryd.prog.underlying 61 = some (.array 9 9) := by kernel_rfl
theorem UN73 : Tryd.prog.underlying 73 = some (.slice 75) := by kernel_rfl
theorem UN81 : Tryd.prog.underlying 81 = some (.slice 5) := by kernel_rfl
theorem UN9 : Tryd.prog.underlying 9 = some (.string) := by kernel_rfl
theorem ZA61 : ∀ w : World, (zeroValue 61).run Tryd.prog w = .ok (.agg ([bstr [], bstr [], bstr [], bstr [], bstr [], bstr [], bstr [], bstr [], bstr []] : List Value).toArray) w := fun _ => by kernel_rfl
theorem ZV32 : ZV Tryd.prog 32 [.int .i64 0, .int .i64 0] := ⟨.agg #[.int .i64 0, .int .i64 0], fun _ => by kernel_rfl, rfl⟩
theorem ZV39 : ZV Tryd.prog 39 [.int .i64 0, .slice none 0 0, .slice none 0 0] := ⟨.agg #[.int .i64 0, .slice none 0 0, .slice none 0 0], fun _ => by kernel_rfl, rfl⟩
theorem ZV53 : ZV Tryd.prog 53 [.int .i64 0, .int .i64 0, .int .i64 0, .int .i64 0, .int .i64 0, .int .i64 0, .int .i64 0, .slice none 0 0, .slice none 0 0, .slice none 0 0, .slice none 0 0, .bool false, .slice none 0 0, .slice none 0 0, .slice none 0 0, .slice none 0 0, .slice none 0 0, .bool false] := ⟨.agg #[.int .i64 0, .int .i64 0, .int .i64 0, .int .i64 0, .int .i64 0, .int .i64 0, .int .i64 0, .slice none 0 0, .slice none 0 0, .slice none 0 0, .slice none 0 0, .bool false, .slice none 0 0, .slice none 0 0, .slice none 0 0, .slice none 0 0, .slice none 0 0, .bool false], fun _ => by kernel_rfl, rfl⟩
theorem ZV61 : ZV Tryd.prog 61 [.string ⟨#[]⟩, .string ⟨#[]⟩, .string ⟨#[]⟩, .string ⟨#[]⟩, .string ⟨#[]⟩, .string ⟨#[]⟩, .string ⟨#[]⟩, .string ⟨#[]⟩, .string ⟨#[]⟩] := ⟨.agg #[.string ⟨#[]⟩, .string ⟨#[]⟩, .string ⟨#[]⟩, .string ⟨#[]⟩, .string ⟨#[]⟩, .string ⟨#[]⟩, .string ⟨#[]⟩, .string ⟨#[]⟩, .string ⟨#[]⟩], fun _ => by kernel_rfl, rfl⟩
theorem ZV69 : ZV Tryd.prog 69 [.int .i64 0, .int .i64 0, .int .i64 0, .int .i64 0, .int .i64 0, .int .i64 0, .int .i64 0, .int .i64 0, .slice none 0 0, .slice none 0 0, .slice none 0 0, .slice none 0 0, .bool false, .slice none 0 0, .slice none 0 0, .slice none 0 0, .slice none 0 0, .slice none 0 0, .bool false] := ⟨.agg #[.int .i64 0, .int .i64 0, .int .i64 0, .int .i64 0, .int .i64 0, .int .i64 0, .int .i64 0, .int .i64 0, .slice none 0 0, .slice none 0 0, .slice none 0 0, .slice none 0 0, .bool false, .slice none 0 0, .slice none 0 0, .slice none 0 0, .slice none 0 0, .slice none 0 0, .bool false], fun _ => by kernel_rfl, rfl⟩
theorem ZV95 : ZV Tryd.prog 95 [.int .i64 0, .int .i64 0] := ⟨.agg #[.int .i64 0, .int .i64 0], fun _ => by kernel_rfl, rfl⟩
theorem open_adversary_Rule {ok0 : Nat → Prop} {w0 : Base} {w : World} {Γ : List It} {Λ : List LObj} (hs : St ok0 w0 w Γ Λ) (i : Nat) {x : adversary_Rule} {cs : List Value} (hi : Γ[i]? = some (vl t_adversary_Rule x (.agg cs.toArray))) : cs = [.int .i64 x.Kind, .int .i64 x.Arg] := by
  obtain ⟨ok, h⟩ := hs.get i hi
  have h := R_agg h rfl
  obtain ⟨_, _, rfl, rfl, rfl⟩ := h
  exact rfl
theorem open_network_Network {ok0 : Nat → Prop} {w0 : Base} {w : World} {Γ : List It} {Λ : List LObj} (hs : St ok0 w0 w Γ Λ) (i : Nat) {x : network_Network} {cs : List Value} (hi : Γ[i]? = some (vl t_network_Network x (.agg cs.toArray))) : ∃ (a0 : Option Addr), ∃ (c1 : Nat), ∃ (a2 : Option Addr), ∃ (c3 : Nat), cs = [.int .i64 x.Next, .slice a0 x.Packets.length c1, .slice a2 x.Sides.length c3] := by
  obtain ⟨ok, h⟩ := hs.get i hi
  have h := R_agg h rfl
  obtain ⟨_, _, rfl, rfl, ⟨_, _, rfl, ⟨a0, c1, rfl, _, _⟩, ⟨a2, c3, rfl, _, _⟩⟩⟩ := h
  exact ⟨a0, c1, a2, c3, rfl⟩
theorem EG32 : Tryd.prog.eqGuardType Tryd.prog.depth 32 = false := by kernel_rfl
theorem NQ32 (x y : adversary_Rule) (w : World) : (binOp .neq 32 (.agg ([.int .i64 x.Kind, .int .i64 x.Arg] : List Value).toArray) (.agg ([.int .i64 y.Kind, .int .i64 y.Arg] : List Value).toArray)).run Tryd.prog w = .ok (.bool (!decide (x = y))) w :=
  neq_of (EqR.agg Tryd.underlying32 (by kernel_rfl) (EqL.cons (by decide) (u := .int .i64 x.Kind) (v := .int .i64 y.Kind) (fun _ => by kernel_rfl) (fun _ => by kernel_rfl) (EqR.int x.Kind y.Kind Tryd.underlying3) (EqL.cons (by decide) (u := .int .i64 x.Arg) (v := .int .i64 y.Arg) (fun _ => by kernel_rfl) (fun _ => by kernel_rfl) (EqR.int x.Arg y.Arg Tryd.underlying3) EqL.nil))) (by obtain ⟨p1, p2⟩ := x; obtain ⟨q1, q2⟩ := y; rw [Bool.eq_iff_iff]; simp [adversary_Rule.mk.injEq]) w

end Go.Proofs.YthcohhpmpdijoaaDoor
set_option linter.unusedVariables false
set_option maxRecDepth 100000
namespace Go.Proofs.YthcohhpmpdijoaaDoor
open Go Go.RowKit Go.Shelf Go.Proofs.YthcohhpmpdijoaaDoorL
def lay_itoa_ren : Go.Shelf.Ren := ⟨fun | 171 => 18 | 243 => 31 | 246 => 45 | 283 => 58 | 284 => 59 | 285 => 60 | 286 => 61 | 129 => 76 | 317 => 75 | 318 => 77 | 319 => 78 | 320 => 79 | 337 => 88 | 338 => 89 | n => n, fun | 3 => 3 | 9 => 9 | 2 => 2 | 4 => 4 | 171 => 108 | 0 => 0 | 53 => 109 | 37 => 81 | 5 => 5 | 173 => 112 | 212 => 132 | 51 => 133 | 20 => 20 | 213 => 134 | 46 => 128 | 232 => 154 | 233 => 155 | n => n, fun | 17 => 1 | 18 => 7 | 19 => 8 | n => n⟩
theorem lay_itoa : Go.Proofs.LaysM.n171 Tryd.prog lay_itoa_ren := {
  mixed := by kernel_rfl
  f129 := Tryd.func76.trans (congrArg some (by kernel_rfl))
  f171 := Tryd.func18.trans (congrArg some (by kernel_rfl))
  f243 := Tryd.func31.trans (congrArg some (by kernel_rfl))
  f246 := Tryd.func45.trans (congrArg some (by kernel_rfl))
  f283 := Tryd.func58.trans (congrArg some (by kernel_rfl))
  f284 := Tryd.func59.trans (congrArg some (by kernel_rfl))
  f285 := Tryd.func60.trans (congrArg some (by kernel_rfl))
  f286 := Tryd.func61.trans (congrArg some (by kernel_rfl))
  f317 := Tryd.func75.trans (congrArg some (by kernel_rfl))
  f318 := Tryd.func77.trans (congrArg some (by kernel_rfl))
  f319 := Tryd.func78.trans (congrArg some (by kernel_rfl))
  f320 := Tryd.func79.trans (congrArg some (by kernel_rfl))
  f337 := Tryd.func88.trans (congrArg some (by kernel_rfl))
  f338 := Tryd.func89.trans (congrArg some (by kernel_rfl))
  t0 := Tryd.underlying0
  a0 := Tryd.isAgg0
  z0 := Tryd.sizeOf0
  v0 := Tryd.zeroValue0
  t2 := Tryd.underlying2
  a2 := Tryd.isAgg2
  z2 := Tryd.sizeOf2
  v2 := Tryd.zeroValue2
  t3 := Tryd.underlying3
  a3 := Tryd.isAgg3
  z3 := Tryd.sizeOf3
  v3 := Tryd.zeroValue3
  t4 := Tryd.underlying4
  a4 := Tryd.isAgg4
  z4 := Tryd.sizeOf4
  v4 := Tryd.zeroValue4
  t5 := Tryd.underlying5
  a5 := Tryd.isAgg5
  z5 := Tryd.sizeOf5
  v5 := Tryd.zeroValue5
  t9 := Tryd.underlying9
  a9 := Tryd.isAgg9
  z9 := Tryd.sizeOf9
  v9 := Tryd.zeroValue9
  t20 := Tryd.underlying20
  a20 := Tryd.isAgg20
  z20 := Tryd.sizeOf20
  v20 := Tryd.zeroValue20
  t37 := Tryd.underlying81
  a37 := Tryd.isAgg81
  z37 := Tryd.sizeOf81
  v37 := Tryd.zeroValue81
  t46 := Tryd.underlying128
  a46 := Tryd.isAgg128
  z46 := Tryd.sizeOf128
  v46 := Tryd.zeroValue128
  t51 := Tryd.underlying133
  a51 := Tryd.isAgg133
  z51 := Tryd.sizeOf133
  v51 := Tryd.zeroValue133
  t53 := Tryd.underlying109
  a53 := Tryd.isAgg109
  z53 := Tryd.sizeOf109
  v53 := Tryd.zeroValue109
  t171 := Tryd.underlying108
  a171 := Tryd.isAgg108
  z171 := Tryd.sizeOf108
  v171 := Tryd.zeroValue108
  t173 := Tryd.underlying112
  a173 := Tryd.isAgg112
  z173 := Tryd.sizeOf112
  v173 := Tryd.zeroValue112
  t212 := Tryd.underlying132
  a212 := Tryd.isAgg132
  z212 := Tryd.sizeOf132
  v212 := Tryd.zeroValue132
  t213 := Tryd.underlying134
  a213 := Tryd.isAgg134
  z213 := Tryd.sizeOf134
  t232 := Tryd.underlying154
  a232 := Tryd.isAgg154
  z232 := Tryd.sizeOf154
  v232 := Tryd.zeroValue154
  t233 := Tryd.underlying155
  a233 := Tryd.isAgg155
  z233 := Tryd.sizeOf155
  v233 := Tryd.zeroValue155
  g17 := by kernel_rfl
  g18 := by kernel_rfl
  g19 := by kernel_rfl
  i0 := by kernel_rfl
  i2 := by kernel_rfl
  i3 := by kernel_rfl
  i4 := by kernel_rfl
  i5 := by kernel_rfl
  i9 := by kernel_rfl
  i20 := by kernel_rfl
  i37 := by kernel_rfl
  i46 := by kernel_rfl
  i51 := by kernel_rfl
  i53 := by kernel_rfl
  i171 := by kernel_rfl
  i173 := by kernel_rfl
  i212 := by kernel_rfl
  i232 := by kernel_rfl
  i233 := by kernel_rfl
  m17 := by kernel_rfl
  m18 := by kernel_rfl
  m19 := by kernel_rfl }
def lay_atoi_ren : Go.Shelf.Ren := ⟨fun | 172 => 37 | 244 => 52 | 245 => 53 | 247 => 69 | 279 => 70 | 280 => 71 | 281 => 72 | 282 => 73 | 287 => 85 | 316 => 86 | 171 => 18 | 205 => 87 | 321 => 92 | 322 => 93 | 243 => 31 | 246 => 45 | 283 => 58 | 284 => 59 | 285 => 60 | 286 => 61 | 129 => 76 | 317 => 75 | 318 => 77 | 319 => 78 | 320 => 79 | 337 => 88 | 338 => 89 | n => n, fun | 9 => 9 | 3 => 3 | 75 => 86 | 76 => 87 | 4 => 4 | 5 => 5 | 167 => 122 | 37 => 81 | 0 => 0 | 85 => 123 | 2 => 2 | 168 => 125 | 53 => 109 | 175 => 136 | 46 => 128 | 210 => 140 | 127 => 101 | 145 => 153 | 143 => 151 | 21 => 21 | 171 => 108 | 173 => 112 | 212 => 132 | 51 => 133 | 20 => 20 | 213 => 134 | 232 => 154 | 233 => 155 | 80 => 89 | n => n, fun | 15 => 3 | 16 => 4 | 17 => 1 | 18 => 7 | 19 => 8 | n => n⟩
theorem lay_atoi : Go.Proofs.LaysC.n172 Tryd.prog lay_atoi_ren := {
  mixed := by kernel_rfl
  f129 := Tryd.func76.trans (congrArg some (by kernel_rfl))
  f171 := Tryd.func18.trans (congrArg some (by kernel_rfl))
  f172 := Tryd.func37.trans (congrArg some (by kernel_rfl))
  f205 := Tryd.func87.trans (congrArg some (by kernel_rfl))
  f243 := Tryd.func31.trans (congrArg some (by kernel_rfl))
  f244 := Tryd.func52.trans (congrArg some (by kernel_rfl))
  f245 := Tryd.func53.trans (congrArg some (by kernel_rfl))
  f246 := Tryd.func45.trans (congrArg some (by kernel_rfl))
  f247 := Tryd.func69.trans (congrArg some (by kernel_rfl))
  f279 := Tryd.func70.trans (congrArg some (by kernel_rfl))
  f280 := Tryd.func71.trans (congrArg some (by kernel_rfl))
  f281 := Tryd.func72.trans (congrArg some (by kernel_rfl))
  f282 := Tryd.func73.trans (congrArg some (by kernel_rfl))
  f283 := Tryd.func58.trans (congrArg some (by kernel_rfl))
  f284 := Tryd.func59.trans (congrArg some (by kernel_rfl))
  f285 := Tryd.func60.trans (congrArg some (by kernel_rfl))
  f286 := Tryd.func61.trans (congrArg some (by kernel_rfl))
  f287 := Tryd.func85.trans (congrArg some (by kernel_rfl))
  f316 := Tryd.func86.trans (congrArg some (by kernel_rfl))
  f317 := Tryd.func75.trans (congrArg some (by kernel_rfl))
  f318 := Tryd.func77.trans (congrArg some (by kernel_rfl))
  f319 := Tryd.func78.trans (congrArg some (by kernel_rfl))
  f320 := Tryd.func79.trans (congrArg some (by kernel_rfl))
  f321 := Tryd.func92.trans (congrArg some (by kernel_rfl))
  f322 := Tryd.func93.trans (congrArg some (by kernel_rfl))
  f337 := Tryd.func88.trans (congrArg some (by kernel_rfl))
  f338 := Tryd.func89.trans (congrArg some (by kernel_rfl))
  t0 := Tryd.underlying0
  a0 := Tryd.isAgg0
  z0 := Tryd.sizeOf0
  v0 := Tryd.zeroValue0
  t2 := Tryd.underlying2
  a2 := Tryd.isAgg2
  z2 := Tryd.sizeOf2
  v2 := Tryd.zeroValue2
  t3 := Tryd.underlying3
  a3 := Tryd.isAgg3
  z3 := Tryd.sizeOf3
  v3 := Tryd.zeroValue3
  t4 := Tryd.underlying4
  a4 := Tryd.isAgg4
  z4 := Tryd.sizeOf4
  v4 := Tryd.zeroValue4
  t5 := Tryd.underlying5
  a5 := Tryd.isAgg5
  z5 := Tryd.sizeOf5
  v5 := Tryd.zeroValue5
  t9 := Tryd.underlying9
  a9 := Tryd.isAgg9
  z9 := Tryd.sizeOf9
  v9 := Tryd.zeroValue9
  t20 := Tryd.underlying20
  a20 := Tryd.isAgg20
  z20 := Tryd.sizeOf20
  v20 := Tryd.zeroValue20
  t21 := Tryd.underlying21
  a21 := Tryd.isAgg21
  z21 := Tryd.sizeOf21
  v21 := Tryd.zeroValue21
  t37 := Tryd.underlying81
  a37 := Tryd.isAgg81
  z37 := Tryd.sizeOf81
  v37 := Tryd.zeroValue81
  t46 := Tryd.underlying128
  a46 := Tryd.isAgg128
  z46 := Tryd.sizeOf128
  v46 := Tryd.zeroValue128
  t51 := Tryd.underlying133
  a51 := Tryd.isAgg133
  z51 := Tryd.sizeOf133
  v51 := Tryd.zeroValue133
  t53 := Tryd.underlying109
  a53 := Tryd.isAgg109
  z53 := Tryd.sizeOf109
  v53 := Tryd.zeroValue109
  t75 := Tryd.underlying86
  a75 := Tryd.isAgg86
  z75 := Tryd.sizeOf86
  v75 := Tryd.zeroValue86
  t76 := Tryd.underlying87
  a76 := Tryd.isAgg87
  z76 := Tryd.sizeOf87
  v76 := Tryd.zeroValue87
  t85 := Tryd.underlying123
  a85 := Tryd.isAgg123
  z85 := Tryd.sizeOf123
  v85 := Tryd.zeroValue123
  t127 := Tryd.underlying101
  a127 := Tryd.isAgg101
  z127 := Tryd.sizeOf101
  v127 := Tryd.zeroValue101
  t143 := Tryd.underlying151
  a143 := Tryd.isAgg151
  z143 := Tryd.sizeOf151
  v143 := Tryd.zeroValue151
  t145 := Tryd.underlying153
  a145 := Tryd.isAgg153
  z145 := Tryd.sizeOf153
  v145 := Tryd.zeroValue153
  t167 := Tryd.underlying122
  a167 := Tryd.isAgg122
  z167 := Tryd.sizeOf122
  v167 := Tryd.zeroValue122
  t168 := Tryd.underlying125
  a168 := Tryd.isAgg125
  z168 := Tryd.sizeOf125
  v168 := Tryd.zeroValue125
  t171 := Tryd.underlying108
  a171 := Tryd.isAgg108
  z171 := Tryd.sizeOf108
  v171 := Tryd.zeroValue108
  t173 := Tryd.underlying112
  a173 := Tryd.isAgg112
  z173 := Tryd.sizeOf112
  v173 := Tryd.zeroValue112
  t175 := Tryd.underlying136
  a175 := Tryd.isAgg136
  z175 := Tryd.sizeOf136
  v175 := Tryd.zeroValue136
  t210 := Tryd.underlying140
  a210 := Tryd.isAgg140
  z210 := Tryd.sizeOf140
  v210 := Tryd.zeroValue140
  t212 := Tryd.underlying132
  a212 := Tryd.isAgg132
  z212 := Tryd.sizeOf132
  v212 := Tryd.zeroValue132
  t213 := Tryd.underlying134
  a213 := Tryd.isAgg134
  z213 := Tryd.sizeOf134
  t232 := Tryd.underlying154
  a232 := Tryd.isAgg154
  z232 := Tryd.sizeOf154
  v232 := Tryd.zeroValue154
  t233 := Tryd.underlying155
  a233 := Tryd.isAgg155
  z233 := Tryd.sizeOf155
  v233 := Tryd.zeroValue155
  g15 := by kernel_rfl
  g16 := by kernel_rfl
  g17 := by kernel_rfl
  g18 := by kernel_rfl
  g19 := by kernel_rfl
  t80 := Tryd.underlying89
  a80 := Tryd.isAgg89
  z80 := Tryd.sizeOf89
  v80 := Tryd.zeroValue89
  i0 := by kernel_rfl
  i2 := by kernel_rfl
  i3 := by kernel_rfl
  i4 := by kernel_rfl
  i5 := by kernel_rfl
  i9 := by kernel_rfl
  i20 := by kernel_rfl
  i21 := by kernel_rfl
  i37 := by kernel_rfl
  i46 := by kernel_rfl
  i51 := by kernel_rfl
  i53 := by kernel_rfl
  i75 := by kernel_rfl
  i76 := by kernel_rfl
  i80 := by kernel_rfl
  i85 := by kernel_rfl
  i127 := by kernel_rfl
  i143 := by kernel_rfl
  i145 := by kernel_rfl
  i167 := by kernel_rfl
  i168 := by kernel_rfl
  i171 := by kernel_rfl
  i173 := by kernel_rfl
  i175 := by kernel_rfl
  i210 := by kernel_rfl
  i212 := by kernel_rfl
  i232 := by kernel_rfl
  i233 := by kernel_rfl
  m15 := by kernel_rfl
  m16 := by kernel_rfl
  m17 := by kernel_rfl
  m18 := by kernel_rfl
  m19 := by kernel_rfl
  c0 := by kernel_rfl
  c2 := by kernel_rfl
  c3 := by kernel_rfl
  c4 := by kernel_rfl
  c5 := by kernel_rfl
  c9 := by kernel_rfl
  c20 := by kernel_rfl
  c21 := by kernel_rfl
  c37 := by kernel_rfl
  c46 := by kernel_rfl
  c51 := by kernel_rfl
  c53 := by kernel_rfl
  c75 := by kernel_rfl
  c76 := by kernel_rfl
  c80 := by kernel_rfl
  c85 := by kernel_rfl
  c127 := by kernel_rfl
  c143 := by kernel_rfl
  c145 := by kernel_rfl
  c167 := by kernel_rfl
  c168 := by kernel_rfl
  c171 := by kernel_rfl
  c173 := by kernel_rfl
  c175 := by kernel_rfl
  c210 := by kernel_rfl
  c212 := by kernel_rfl
  c213 := by kernel_rfl
  c232 := by kernel_rfl
  c233 := by kernel_rfl }
def lay_split_ren : Go.Shelf.Ren := ⟨fun | 146 => 21 | 221 => 35 | 268 => 48 | 138 => 49 | 143 => 50 | 195 => 64 | 197 => 65 | 218 => 66 | 219 => 67 | 260 => 80 | 217 => 81 | 225 => 82 | 224 => 83 | 267 => 84 | 266 => 90 | 314 => 91 | n => n, fun | 9 => 9 | 31 => 34 | 3 => 3 | 4 => 4 | 0 => 0 | 105 => 118 | 21 => 21 | 5 => 5 | 46 => 128 | 119 => 143 | 139 => 146 | 138 => 145 | 146 => 147 | 51 => 133 | n => n, fun | 1 => 2 | 3 => 5 | 4 => 6 | n => n⟩
theorem lay_split : Go.Proofs.LaysM.n146 Tryd.prog lay_split_ren := {
  mixed := by kernel_rfl
  f138 := Tryd.func49.trans (congrArg some (by kernel_rfl))
  f143 := Tryd.func50.trans (congrArg some (by kernel_rfl))
  f146 := Tryd.func21.trans (congrArg some (by kernel_rfl))
  f195 := Tryd.func64.trans (congrArg some (by kernel_rfl))
  f197 := Tryd.func65.trans (congrArg some (by kernel_rfl))
  f217 := Tryd.func81.trans (congrArg some (by kernel_rfl))
  f218 := Tryd.func66.trans (congrArg some (by kernel_rfl))
  f219 := Tryd.func67.trans (congrArg some (by kernel_rfl))
  f221 := Tryd.func35.trans (congrArg some (by kernel_rfl))
  f224 := Tryd.func83.trans (congrArg some (by kernel_rfl))
  f225 := Tryd.func82.trans (congrArg some (by kernel_rfl))
  f260 := Tryd.func80.trans (congrArg some (by kernel_rfl))
  f266 := Tryd.func90.trans (congrArg some (by kernel_rfl))
  f267 := Tryd.func84.trans (congrArg some (by kernel_rfl))
  f268 := Tryd.func48.trans (congrArg some (by kernel_rfl))
  f314 := Tryd.func91.trans (congrArg some (by kernel_rfl))
  t0 := Tryd.underlying0
  a0 := Tryd.isAgg0
  z0 := Tryd.sizeOf0
  v0 := Tryd.zeroValue0
  t3 := Tryd.underlying3
  a3 := Tryd.isAgg3
  z3 := Tryd.sizeOf3
  v3 := Tryd.zeroValue3
  t4 := Tryd.underlying4
  a4 := Tryd.isAgg4
  z4 := Tryd.sizeOf4
  v4 := Tryd.zeroValue4
  t5 := Tryd.underlying5
  a5 := Tryd.isAgg5
  z5 := Tryd.sizeOf5
  v5 := Tryd.zeroValue5
  t9 := Tryd.underlying9
  a9 := Tryd.isAgg9
  z9 := Tryd.sizeOf9
  v9 := Tryd.zeroValue9
  t21 := Tryd.underlying21
  a21 := Tryd.isAgg21
  z21 := Tryd.sizeOf21
  v21 := Tryd.zeroValue21
  t31 := Tryd.underlying34
  a31 := Tryd.isAgg34
  z31 := Tryd.sizeOf34
  v31 := Tryd.zeroValue34
  t46 := Tryd.underlying128
  a46 := Tryd.isAgg128
  z46 := Tryd.sizeOf128
  v46 := Tryd.zeroValue128
  t51 := Tryd.underlying133
  a51 := Tryd.isAgg133
  z51 := Tryd.sizeOf133
  v51 := Tryd.zeroValue133
  t105 := Tryd.underlying118
  a105 := Tryd.isAgg118
  z105 := Tryd.sizeOf118
  v105 := Tryd.zeroValue118
  t119 := Tryd.underlying143
  a119 := Tryd.isAgg143
  z119 := Tryd.sizeOf143
  t138 := Tryd.underlying145
  a138 := Tryd.isAgg145
  z138 := Tryd.sizeOf145
  v138 := Tryd.zeroValue145
  t139 := Tryd.underlying146
  a139 := Tryd.isAgg146
  z139 := Tryd.sizeOf146
  v139 := Tryd.zeroValue146
  t146 := Tryd.underlying147
  a146 := Tryd.isAgg147
  z146 := Tryd.sizeOf147
  v146 := Tryd.zeroValue147
  g1 := by kernel_rfl
  g3 := by kernel_rfl
  g4 := by kernel_rfl
  i0 := by kernel_rfl
  i3 := by kernel_rfl
  i4 := by kernel_rfl
  i5 := by kernel_rfl
  i9 := by kernel_rfl
  i21 := by kernel_rfl
  i31 := by kernel_rfl
  i46 := by kernel_rfl
  i51 := by kernel_rfl
  i105 := by kernel_rfl
  i138 := by kernel_rfl
  i139 := by kernel_rfl
  i146 := by kernel_rfl
  m1 := by kernel_rfl
  s1_3 := fun w h => Go.Proofs.cell_of_shapedOpen_int (zero := #[.int .i64 0]) (t := 3) h (of_decide_eq_true (by kernel_rfl)) (by kernel_rfl) rfl (by kernel_rfl) (by kernel_rfl) Tryd.underlying3
  m3 := by kernel_rfl
  m4 := by kernel_rfl }
def lay_join_ren : Go.Shelf.Ren := ⟨fun | 156 => 19 | 165 => 32 | 166 => 33 | 169 => 34 | 240 => 46 | 241 => 47 | 276 => 62 | 277 => 63 | n => n, fun | 31 => 34 | 9 => 9 | 3 => 3 | 4 => 4 | 0 => 0 | 20 => 20 | 72 => 83 | 76 => 87 | 70 => 80 | 37 => 81 | 75 => 86 | 127 => 101 | 164 => 114 | 5 => 5 | 80 => 89 | n => n, fun | n => n⟩
theorem lay_join : Go.Proofs.Lays.n156 Tryd.prog lay_join_ren := {
  mixed := by kernel_rfl
  f156 := Tryd.func19.trans (congrArg some (by kernel_rfl))
  f165 := Tryd.func32.trans (congrArg some (by kernel_rfl))
  f166 := Tryd.func33.trans (congrArg some (by kernel_rfl))
  f169 := Tryd.func34.trans (congrArg some (by kernel_rfl))
  f240 := Tryd.func46.trans (congrArg some (by kernel_rfl))
  f241 := Tryd.func47.trans (congrArg some (by kernel_rfl))
  f276 := Tryd.func62.trans (congrArg some (by kernel_rfl))
  f277 := Tryd.func63.trans (congrArg some (by kernel_rfl))
  t0 := Tryd.underlying0
  a0 := Tryd.isAgg0
  z0 := Tryd.sizeOf0
  v0 := Tryd.zeroValue0
  t3 := Tryd.underlying3
  a3 := Tryd.isAgg3
  z3 := Tryd.sizeOf3
  v3 := Tryd.zeroValue3
  t4 := Tryd.underlying4
  a4 := Tryd.isAgg4
  z4 := Tryd.sizeOf4
  v4 := Tryd.zeroValue4
  t9 := Tryd.underlying9
  a9 := Tryd.isAgg9
  z9 := Tryd.sizeOf9
  v9 := Tryd.zeroValue9
  t20 := Tryd.underlying20
  a20 := Tryd.isAgg20
  z20 := Tryd.sizeOf20
  v20 := Tryd.zeroValue20
  t31 := Tryd.underlying34
  a31 := Tryd.isAgg34
  z31 := Tryd.sizeOf34
  v31 := Tryd.zeroValue34
  t37 := Tryd.underlying81
  a37 := Tryd.isAgg81
  z37 := Tryd.sizeOf81
  v37 := Tryd.zeroValue81
  t70 := Tryd.underlying80
  a70 := Tryd.isAgg80
  z70 := Tryd.sizeOf80
  v70 := Tryd.zeroValue80
  t72 := Tryd.underlying83
  a72 := Tryd.isAgg83
  z72 := Tryd.sizeOf83
  v72 := Tryd.zeroValue83
  t75 := Tryd.underlying86
  a75 := Tryd.isAgg86
  z75 := Tryd.sizeOf86
  v75 := Tryd.zeroValue86
  t76 := Tryd.underlying87
  a76 := Tryd.isAgg87
  z76 := Tryd.sizeOf87
  v76 := Tryd.zeroValue87
  t127 := Tryd.underlying101
  a127 := Tryd.isAgg101
  z127 := Tryd.sizeOf101
  v127 := Tryd.zeroValue101
  t164 := Tryd.underlying114
  a164 := Tryd.isAgg114
  z164 := Tryd.sizeOf114
  v164 := Tryd.zeroValue114 }
def lay_cut_ren : Go.Shelf.Ren := ⟨fun | 103 => 36 | 210 => 51 | 206 => 68 | n => n, fun | 9 => 9 | 4 => 4 | 24 => 91 | 3 => 3 | n => n, fun | n => n⟩
theorem lay_cut : Go.Proofs.Lays.n103 Tryd.prog lay_cut_ren := {
  mixed := by kernel_rfl
  f103 := Tryd.func36.trans (congrArg some (by kernel_rfl))
  f206 := Tryd.func68.trans (congrArg some (by kernel_rfl))
  f210 := Tryd.func51.trans (congrArg some (by kernel_rfl))
  t3 := Tryd.underlying3
  a3 := Tryd.isAgg3
  z3 := Tryd.sizeOf3
  v3 := Tryd.zeroValue3
  t4 := Tryd.underlying4
  a4 := Tryd.isAgg4
  z4 := Tryd.sizeOf4
  v4 := Tryd.zeroValue4
  t9 := Tryd.underlying9
  a9 := Tryd.isAgg9
  z9 := Tryd.sizeOf9
  v9 := Tryd.zeroValue9
  t24 := Tryd.underlying91
  a24 := Tryd.isAgg91
  z24 := Tryd.sizeOf91
  v24 := Tryd.zeroValue91 }

end Go.Proofs.YthcohhpmpdijoaaDoor
set_option linter.unusedVariables false
set_option linter.unusedSimpArgs false
namespace Go.Proofs.YthcohhpmpdijoaaDoorL
open Go

theorem w64 {x : Int} (h1 : -9223372036854775808 ≤ x) (h2 : x ≤ 9223372036854775807) : IntKind.i64.wrap x = x := by
  simp only [IntKind.wrap, IntKind.bits, IntKind.signed]; simp; split <;> omega
theorem w64n {k : Nat} (h : k < 9223372036854775807) : IntKind.i64.wrap ((k : Int) + 1) = ((k + 1 : Nat) : Int) := by
  rw [w64 (by omega) (by omega)]; omega
theorem idx_nat {α : Type} {xs : List α} {k : Nat} (h : k < xs.length) : idx xs (k : Int) = some xs[k] := by
  unfold idx
  rw [if_pos (by omega)]
  simp [h]
theorem app_of {α : Type} {b : Nat} {xs ys : List α} (h : (xs.length + ys.length) * b ≤ 140737488355328) : app b xs ys = some (xs ++ ys) := if_pos h
theorem cut_of {α : Type} {xs : List α} {l h : Int} (h1 : 0 ≤ l) (h2 : l ≤ h) (h3 : h ≤ xs.length) : cut xs l h = some ((xs.take h.toNat).drop l.toNat) := if_pos ⟨h1, h2, h3⟩
theorem letV_of {α β : Type} (e : α) (f : α → Option β) : letV e f = f e := rfl
theorem loopO_up {σ β : Type} {step : σ → Option (σ ⊕ β)} (f : Nat → σ) (n : Nat) {b : β} (hs : ∀ k, k < n → step (f k) = some (.inl (f (k + 1)))) (he : step (f n) = some (.inr b)) : loopO step (f 0) = some b := by
  have : ∀ m k, k + m = n → loopO step (f k) = some b := by
    intro m
    induction m with
    | zero => intro k hk; have : k = n := by omega
              subst this; exact loopO_done he
    | succ m ih => intro k hk; rw [loopO_next (hs k (by omega))]; exact ih (k + 1) (by omega)
  exact this n 0 (by omega)
theorem loopO_inv {σ β : Type} {step : σ → Option (σ ⊕ β)} (I : Nat → σ → Prop) (n : Nat) {s0 : σ} {Q : β → Prop} (h0 : I 0 s0)
    (hs : ∀ k s, k < n → I k s → ∃ s', step s = some (.inl s') ∧ I (k + 1) s') (he : ∀ s, I n s → ∃ b, step s = some (.inr b) ∧ Q b) : ∃ b, loopO step s0 = some b ∧ Q b := by
  have : ∀ m k s, k + m = n → I k s → ∃ b, loopO step s = some b ∧ Q b := by
    intro m
    induction m with
    | zero =>
      intro k s hk hI
      have : k = n := by omega
      subst this
      obtain ⟨b, h1, h2⟩ := he s hI
      exact ⟨b, loopO_done h1, h2⟩
    | succ m ih =>
      intro k s hk hI
      obtain ⟨s', h1, h2⟩ := hs k s (by omega) hI
      rw [loopO_next h1]
      exact ih (k + 1) s' (by omega) h2
  exact this n 0 s0 (by omega) h0
theorem loopO_ex {σ β : Type} {step : σ → Option (σ ⊕ β)} (I : Nat → σ → Prop) (n : Nat) {s0 : σ} {Q : β → Prop} (h0 : I 0 s0)
    (hs : ∀ k s, k < n → I k s → (∃ s', step s = some (.inl s') ∧ I (k + 1) s') ∨ ∃ b, step s = some (.inr b) ∧ Q b) (he : ∀ s, I n s → ∃ b, step s = some (.inr b) ∧ Q b) : ∃ b, loopO step s0 = some b ∧ Q b := by
  have : ∀ m k s, k + m = n → I k s → ∃ b, loopO step s = some b ∧ Q b := by
    intro m
    induction m with
    | zero =>
      intro k s hk hI
      have : k = n := by omega
      subst this
      obtain ⟨b, h1, h2⟩ := he s hI
      exact ⟨b, loopO_done h1, h2⟩
    | succ m ih =>
      intro k s hk hI
      rcases hs k s (by omega) hI with ⟨s', h1, h2⟩ | ⟨b, h1, h2⟩
      · rw [loopO_next h1]
        exact ih (k + 1) s' (by omega) h2
      · exact ⟨b, loopO_done h1, h2⟩
  exact this n 0 s0 (by omega) h0
theorem loopO_mu {σ β : Type} {step : σ → Option (σ ⊕ β)} (I : σ → Prop) (μ : σ → Nat) {s0 : σ} {Q : β → Prop} (h0 : I s0)
    (hs : ∀ s, I s → (∃ s', step s = some (.inl s') ∧ I s' ∧ μ s' < μ s) ∨ ∃ b, step s = some (.inr b) ∧ Q b) : ∃ b, loopO step s0 = some b ∧ Q b := by
  have : ∀ m s, μ s ≤ m → I s → ∃ b, loopO step s = some b ∧ Q b := by
    intro m
    induction m with
    | zero =>
      intro s hm hI
      rcases hs s hI with ⟨s', _, _, h3⟩ | ⟨b, h1, h2⟩
      · omega
      · exact ⟨b, loopO_done h1, h2⟩
    | succ m ih =>
      intro s hm hI
      rcases hs s hI with ⟨s', h1, h2, h3⟩ | ⟨b, h1, h2⟩
      · rw [loopO_next h1]
        exact ih s' (by omega) h2
      · exact ⟨b, loopO_done h1, h2⟩
  exact this _ s0 (Nat.le_refl _) h0
theorem half_eq {x : Int} (h1 : 0 ≤ x) (h2 : x ≤ 9223372036854775807) : shrI .u64 (IntKind.u64.wrap x) 1 = x / 2 := by
  have e : IntKind.u64.wrap x = x := by
    simp only [IntKind.wrap, IntKind.bits, IntKind.signed]; simp; omega
  rw [e, shrI]
  show x.fdiv (2 ^ 1) = x / 2
  rw [Int.fdiv_eq_ediv_of_nonneg _ (by decide)]
  rfl
theorem take_snoc {α : Type} {xs : List α} {k : Nat} (h : k < xs.length) : xs.take (k + 1) = xs.take k ++ [xs[k]] := by
  rw [List.take_succ_eq_append_getElem h]
end Go.Proofs.YthcohhpmpdijoaaDoorL
set_option linter.unusedVariables false
set_option linter.unusedSimpArgs false
set_option linter.unnecessarySimpa false
set_option maxRecDepth 20000
namespace Go.Proofs.YthcohhpmpdijoaaDoor
open Go Go.RowKit Go.Shelf Go.Sort Go.Lib Go.Proofs.YthcohhpmpdijoaaDoorL
theorem pl_cell {α : Type} {T : Ty α} {x : α} {g : Nat} {ok : Nat → Prop} {w : World} (h : (pl T x ⟨g, 0, none⟩).holds ok w) : ∃ cs, T.R ok w x cs ∧ ∀ v, cs[0]? = some v → w.cell? ⟨g, 0, none⟩ = some v := by
  obtain ⟨_, _, _, cs, hR, hc⟩ := h
  exact ⟨cs, hR, fun v hv => by have := hc 0 v hv; rwa [Nat.add_zero] at this⟩
theorem below_grow (w : World) (k : Nat) (os : Array Obj) : Below w.heap.size w (grow (w.drewN k) os) :=
  ⟨rfl, rfl, rfl, by simp [grow, World.drewN], fun j hj => by simp [grow, World.drewN, Array.getElem?_append_left hj]⟩
theorem strconv_Itoa.calls {ok : Nat → Prop} {w0 : World} {x1 : Int} {r : List UInt8} (hf : strconv_Itoa x1 = some r) (i0 : (vl (tTab Tryd.prog "internal/strconv.uint64pow10" 1 GN1 Go.Lib.pow10Tab) () (.int .i64 0)).holds ok w0) :
    Calls Tryd.prog 18 #[.int .i64 x1] w0 fun e w' => ∃ v, e = .returned v ∧ ∃ y : Unit, v = bstr r ∧ St ok (bz w0) w' [] [] := by
  unfold strconv_Itoa at hf
  obtain ⟨⟨h1, h2⟩, h3⟩ := guardE hf
  cases h3
  refine (Go.Proofs.Any.strconv_Itoa lay_itoa x1 h1 h2 w0 (tTab_V i0)).mono ?_
  rintro e w' ⟨he, k, os, rfl⟩
  exact ⟨_, he, (), rfl, (St.init All.nil).below (below_grow w0 k os)⟩
theorem strings_CutPrefix.calls {ok : Nat → Prop} {w0 : World} {x1 x2 : List UInt8} {r : List UInt8 × Bool} (hf : strings_CutPrefix x1 x2 = some r) :
    Calls Tryd.prog 36 #[bstr x1, bstr x2] w0 fun e w' => ∃ v, e = .returned v ∧ ∃ y : Unit, v = .tuple #[bstr r.1, .bool r.2] ∧ St ok (bz w0) w' [] [] := by
  unfold strings_CutPrefix at hf
  cases hf
  refine (Go.Proofs.Any.strings_CutPrefix lay_cut ⟨x1.toArray⟩ ⟨x2.toArray⟩ w0).mono ?_
  rintro e w' ⟨he, rfl⟩
  exact ⟨_, he, (), rfl, St.init All.nil⟩
theorem strconv_Atoi.calls {ok : Nat → Prop} {w0 : World} {x1 : List UInt8} {r : Int × Bool} (hf : strconv_Atoi x1 = some r) (i0 : (pl tErr true ⟨3, 0, none⟩).holds ok w0) (i1 : (pl tErr true ⟨4, 0, none⟩).holds ok w0) :
    Calls Tryd.prog 37 #[bstr x1] w0 fun e w' => ∃ v, e = .returned v ∧ ∃ y : Value, v = .tuple #[.int .i64 r.1, y] ∧ St ok (bz w0) w' [vl tErr r.2 y] [] := by
  unfold strconv_Atoi at hf
  obtain ⟨h1, h2⟩ := guardE hf
  have hsz : (⟨x1.toArray⟩ : ByteArray).size ≤ 281474976710656 := by simpa [ByteArray.size] using h1
  obtain ⟨cs0, ⟨v0, rfl, hv0⟩, hc0⟩ := pl_cell i0
  obtain ⟨cs1, ⟨v1, rfl, hv1⟩, hc1⟩ := pl_cell i1
  have hv0 : v0 = .nilIface ∨ ∃ te pe, v0 = .iface te pe := by rcases hv0 with ⟨h, _⟩ | ⟨_, h⟩; cases h; exact .inr h
  have hv1 : v1 = .nilIface ∨ ∃ te pe, v1 = .iface te pe := by rcases hv1 with ⟨h, _⟩ | ⟨_, h⟩; cases h; exact .inr h
  have hs0 : St ok (bz w0) w0 [] [] := St.init All.nil
  cases ha : Go.Lib.atoiAll x1 with
  | ok v =>
    rw [ha] at h2
    cases h2
    refine (Go.Proofs.Any.strconv_Atoi_ok lay_atoi ⟨x1.toArray⟩ (by omega) v ha w0).mono ?_
    rintro e w' ⟨he, hw⟩
    have hb : Below w0.heap.size w0 w' := by
      rcases hw with rfl | ⟨t, rfl⟩
      · exact Below.refl _ _
      · exact Lib.bytesWorld_below _ _ _
    exact ⟨_, he, _, rfl, (hs0.below hb).add (it := vl tErr false .nilIface) fun ok hA => tErr_V.2 (.inl ⟨rfl, rfl⟩)⟩
  | «syntax» =>
    rw [ha] at h2
    cases h2
    refine (Go.Proofs.Any.strconv_Atoi_syntax lay_atoi ⟨x1.toArray⟩ hsz ha v0 w0 (hc0 _ rfl) hv0).mono ?_
    rintro e w' ⟨n, he, _, _, hb⟩
    exact ⟨_, he, _, rfl, (hs0.below hb).add (it := vl tErr true _) fun ok hA => tErr_V.2 (.inr ⟨rfl, _, _, rfl⟩)⟩
  | range =>
    rw [ha] at h2
    cases h2
    refine (Go.Proofs.Any.strconv_Atoi_range lay_atoi ⟨x1.toArray⟩ hsz ha v1 w0 (hc1 _ rfl) hv1).mono ?_
    rintro e w' ⟨n, he, _, _, hb⟩
    exact ⟨_, he, _, rfl, (hs0.below hb).add (it := vl tErr true _) fun ok hA => tErr_V.2 (.inr ⟨rfl, _, _, rfl⟩)⟩
theorem str_cells (l : List (List UInt8)) (ok : Nat → Prop) (w : World) : Cells tStr ok w l (l.map bstr) := by
  refine ⟨by rw [List.length_map]; show _ = _ * 1; omega, fun j x hx => ?_⟩
  show _ = [bstr x]
  have hj := (List.getElem?_eq_some_iff.1 hx).1
  have e1 : (l.map bstr).drop (j * tStr.sz) = bstr x :: (l.map bstr).drop (j + 1) := by
    show (l.map bstr).drop (j * 1) = _
    rw [Nat.mul_one, List.drop_eq_getElem_cons (by simpa using hj)]
    congr 1
    rw [List.getElem_map, (List.getElem?_eq_some_iff.1 hx).2]
  rw [e1]
  rfl
theorem strings_Split.calls {ok : Nat → Prop} {w0 : World} {x1 x2 : List UInt8} {mxl : Int} {r : List (List UInt8)} (hf : strings_Split x1 x2 = some r) (i0 : (pl (tInt .i64) mxl ⟨2, 0, none⟩).holds ok w0) :
    Calls Tryd.prog 21 #[bstr x1, bstr x2] w0 fun e w' => ∃ v, e = .returned v ∧ ∃ y : Option Addr × Nat, v = .slice y.1 r.length y.2 ∧ St ok (bz w0) w' [vl (tSlice tStr) r (.slice y.1 r.length y.2)] [] := by
  unfold strings_Split at hf
  obtain ⟨⟨h1, h2⟩, h3⟩ := guardE hf
  cases h3
  obtain ⟨cs0, rfl, hc0⟩ := pl_cell i0
  have hs : (⟨x1.toArray⟩ : ByteArray).size < 4294967281 := by simpa [ByteArray.size] using h2
  have h1' : 1 ≤ (⟨x2.toArray⟩ : ByteArray).size := by simpa [ByteArray.size] using h1
  have hsplit : (Lib.splitB ⟨x2.toArray⟩ 0 (Lib.countB ⟨x1.toArray⟩ ⟨x2.toArray⟩) ⟨x1.toArray⟩).map (·.data.toList) = Go.Lib.split x1 x2 := by
    rw [Lib.splitB_data]
    rfl
  obtain ⟨R, hR⟩ : ∃ R, R = Go.Lib.split x1 x2 := ⟨_, rfl⟩
  rw [← hR] at hsplit ⊢
  have hlen : Lib.countB ⟨x1.toArray⟩ ⟨x2.toArray⟩ + 1 = R.length := by
    rw [← hsplit, List.length_map, Lib.splitB_all ⟨x2.toArray⟩ h1' 0 _ _ rfl]
  have hcells : (Lib.splitB ⟨x2.toArray⟩ 0 (Lib.countB ⟨x1.toArray⟩ ⟨x2.toArray⟩) ⟨x1.toArray⟩).map Value.string = R.map bstr := by
    rw [← hsplit, List.map_map]
    refine List.map_congr_left fun x hx => ?_
    simp [bstr, Function.comp]
  refine (Go.Proofs.Any.strings_Split { lay_split with } lay_split.i9 ⟨x1.toArray⟩ ⟨x2.toArray⟩ mxl w0 hs (hc0 _ rfl) h1').mono ?_
  rintro e w' ⟨he, hw⟩
  rw [hlen] at he
  rw [hcells] at hw
  refine ⟨_, he, (some ⟨w0.heap.size, 0, none⟩, R.length), rfl, ?_⟩
  subst hw
  have hp : 0 < R.length := by omega
  have hs0 : St ok (bz w0) w0 [] [] := St.init All.nil
  have hle : R.length ≤ 9223372036854775807 := by
    have := Lib.countB_le ⟨x2.toArray⟩ h1' (⟨x1.toArray⟩ : ByteArray).size ⟨x1.toArray⟩ (Nat.le_refl _)
    omega
  have h1 : St ok (bz w0) (w0.alloc (.cells (R.map bstr).toArray 9)) [] (own tStr 9 (.slice (some ⟨w0.heap.size, 0, none⟩) R.length R.length) R :: []) :=
    hs0.new (below_alloc w0 _) (bs := [w0.heap.size]) (by simp) (by simp [size_alloc]) fun ok ok1 hA hsub => by
      have hC1 := str_cells R ok (w0.alloc (.cells (R.map bstr).toArray 9))
      exact .inr ⟨hp, _, by simp [Value.ownBlock], ⟨hC1.1, .inr ⟨w0.heap.size, R.length, (R.map bstr).toArray, rfl, Nat.zero_le _, heap_new w0 _, Nat.le_refl _, hle, by simp [hC1.1], by rw [List.take_of_length_le (by rw [List.length_map]; show _ ≤ _ * 1; omega)]⟩⟩, hC1⟩
  exact h1.freezeOwn 0 rfl
theorem join_extra : Go.Proofs.Builder.Extra Tryd.prog lay_join_ren where
  sizeBuilder := by kernel_rfl
  liesBuilder := by kernel_rfl
  t5 := by kernel_rfl
  a5 := fun _ => by kernel_rfl
  z5 := fun _ => by kernel_rfl
  v5 := fun _ => by kernel_rfl
  infoByte := by kernel_rfl
  cellsByte := by kernel_rfl
  sizeByte := by kernel_rfl
  neB5 := by decide
theorem strings_Join.calls {ok : Nat → Prop} {w0 : World} {x1 : List (List UInt8)} {x2 : List UInt8} {a0 : Option Addr} {c0 : Nat} {r : List UInt8} (hf : strings_Join x1 x2 = some r) (i0 : (vl (tSlice tStr) x1 (.slice a0 x1.length c0)).holds ok w0) :
    Calls Tryd.prog 19 #[.slice a0 x1.length c0, bstr x2] w0 fun e w' => ∃ v, e = .returned v ∧ ∃ y : Unit, v = bstr r ∧ St ok (bz w0) w' [] [] := by
  unfold strings_Join at hf
  obtain ⟨⟨h1, h2⟩, h3⟩ := guardE hf
  cases h3
  have hs0 : St ok (bz w0) w0 [] [] := St.init All.nil
  obtain ⟨a, c, e1, hcap, hrow⟩ := tSlice_V.1 i0
  injection e1 with ea _ ec
  subst ea; subst ec
  rcases hrow with rfl | ⟨g, off, rfl, _, hlt, hc⟩
  · refine (Go.Proofs.Any.strings_Join_none lay_join join_extra a0 c0 ⟨x2.toArray⟩ w0).mono ?_
    rintro e w' ⟨he, rfl⟩
    exact ⟨_, he, (), rfl, hs0⟩
  · have hmap : (x1.map fun s => (⟨s.toArray⟩ : ByteArray)).map (·.data.toList) = x1 := by
      rw [List.map_map]
      conv => rhs; rw [← List.map_id x1]
      rfl
    have hj := Go.Proofs.Any.strings_Join lay_join join_extra g off c0 (x1.map fun s => (⟨s.toArray⟩ : ByteArray)) ⟨x2.toArray⟩ w0 (fun j x hx => by
      rw [List.getElem?_map] at hx
      obtain ⟨s, hs, rfl⟩ := Option.map_eq_some_iff.1 hx
      obtain ⟨cs, hR, hcs⟩ := hc j s hs
      have hR : cs = [bstr s] := hR
      have := hcs 0 (bstr s) (by rw [hR]; rfl)
      rwa [Nat.add_zero, show j * tStr.sz = j from Nat.mul_one j] at this) hlt (by rw [List.length_map]; exact h1) (by rw [List.length_map]; exact hcap) (by rw [hmap]; exact h2)
    rw [List.length_map, hmap] at hj
    refine hj.mono ?_
    rintro e w' ⟨he, hb⟩
    exact ⟨_, he, (), rfl, hs0.below hb⟩
theorem decimalF_calls : ∀ (f : Nat) {ok : Nat → Prop} {w0 : World} {x1 : Int} {r : List UInt8} (hf : decimalF f x1 = some r),
    Calls Tryd.prog 20 #[.int .i64 x1] w0 fun e w' => ∃ v, e = .returned v ∧ ∃ y : Unit, v = bstr r ∧ St ok (bz w0) w' [] [] := by
  intro f
  induction f with
  | zero => intro ok w0 x1 r hf; cases hf
  | succ f ih =>
  intro ok w0 x1 r hf
  unfold decimalF at hf
  refine calls_of_W (fn := Tryd.f20) (N := 17) Tryd.func20 rfl Tryd.ntmps20 rfl ?_
  have hs : St ok (bz w0) w0 [] [] := St.init All.nil
  refine W.seqK fun K2 hK2 => ?_
  refine W.region ?_
  refine WL.assign (v := bstr ([] : List UInt8)) rfl ?_
  refine WL.nil ?_
  refine hK2 _ _ ?_
  refine W.seqK fun K3 hK3 => ?_
  refine W.seqK fun K4 hK4 => ?_
  refine W.region ?_
  refine WL.move (v := .int .i64 x1) rfl ?_
  refine WL.bin (v := .bool (decide (x1 < 10))) rfl rfl (ib_lss _ _ _) ?_
  refine WL.nil ?_
  refine hK4 _ _ ?_
  rcases iteE hf with ⟨hc5, hf⟩ | ⟨hc5, hf⟩
  · refine W.cond_true (bool_tr rfl hc5) ?_
    refine W.seqK fun K6 hK6 => ?_
    refine W.region ?_
    refine WL.move (v := .int .i64 x1) rfl ?_
    obtain ⟨x7, ex7, hf⟩ := letE hf
    refine WL.bin (v := .int .i64 x7) rfl rfl (ib_as ex7 (ib_add _ _ _)) ?_
    refine WL.convI UN3 UN5 rfl ?_
    refine WL.buildSlice (n := 1) (vs := [(0, .int .u8 (IntKind.u8.wrap x7))]) (cs := [.int .u8 (IntKind.u8.wrap x7)]) hs ⟨⟨rfl, rfl⟩, trivial⟩ (bls PS81 (by decide) rfl) (fun g8 w hs => ?_)
    have hs := hs.ownLit (A := tInt .u8) (xs := [(IntKind.u8.wrap x7)]) 0 rfl (fun ok hA => (Cells.one (T := tInt .u8) rfl)) (Nat.le_of_ble_eq_true rfl)
    have hs := hs.freezeOwn 0 rfl
    refine WL.bytesStr hs 0 rfl UN81 UN5 UN9 rfl ?_
    refine WL.assign (v := bstr (bts [(IntKind.u8.wrap x7)])) rfl ?_
    refine WL.nil ?_
    refine hK6 _ _ ?_
    refine W.ret ?_
    have hr := Option.some.inj hf; subst hr
    exact ⟨_, resOk_one rfl rfl, (), rfl, (hs.mask []).pick []⟩
  · refine W.cond_false (bool_tr rfl hc5) ?_
    refine W.skip ?_
    refine hK3 _ _ ?_
    refine W.seqK fun K9 hK9 => ?_
    refine W.region ?_
    refine WL.move (v := .int .i64 x1) rfl ?_
    obtain ⟨x10, ex10, hf⟩ := letE hf
    refine WL.bin (v := .int .i64 x10) rfl rfl (ib_as ex10 (ib_quo _ _ _ (by decide))) ?_
    obtain ⟨x11, hxx11, hf⟩ := bindE hf
    refine WL.call (vs := [.int .i64 x10]) hs FN20 ⟨rfl, trivial⟩ (fun ok hA => ih hxx11) ?_
    rintro _ w hs
    refine WL.move (v := .int .i64 x1) rfl ?_
    refine WL.bin (v := .int .i64 (Int.tmod x1 10)) rfl rfl (ib_rem _ _ _ (by decide)) ?_
    obtain ⟨x12, hxx12, hf⟩ := bindE hf
    refine WL.call (vs := [.int .i64 (Int.tmod x1 10)]) hs FN20 ⟨rfl, trivial⟩ (fun ok hA => ih hxx12) ?_
    rintro _ w hs
    obtain ⟨x13, hxx13, hf⟩ := bindE hf
    refine WL.binS (v := bstr x13) rfl rfl (sb_cat hxx13) ?_
    refine WL.assign (v := bstr x13) rfl ?_
    refine WL.nil ?_
    refine hK9 _ _ ?_
    refine W.ret ?_
    have hr := Option.some.inj hf; subst hr
    exact ⟨_, resOk_one rfl rfl, (), rfl, (hs.mask []).pick []⟩
theorem esref36_decimal.calls {ok : Nat → Prop} {w0 : World} {x1 : Int} {r : List UInt8} (hf : esref36_decimal x1 = some r) :
    Calls Tryd.prog 20 #[.int .i64 x1] w0 fun e w' => ∃ v, e = .returned v ∧ ∃ y : Unit, v = bstr r ∧ St ok (bz w0) w' [] [] := decimalF_calls 6 hf
end Go.Proofs.YthcohhpmpdijoaaDoor
set_option linter.unusedVariables false
set_option linter.unusedSimpArgs false
set_option linter.unnecessarySimpa false
namespace Go.Proofs.YthcohhpmpdijoaaDoorL
open Go Go.RowKit

section
variable {l : List Oper} {m : Nat} {tk : Nat → List Nat}
end
section
variable {P : Program} {N : Nat} {Q : QE} {ρ ρ0 : Env} {w w1 : World} {w0 : Base} {l : List Oper} {ok0 : Nat → Prop} {Γ : List It} {Λ : List LObj}
end
end Go.Proofs.YthcohhpmpdijoaaDoorL
set_option linter.unusedVariables false
set_option linter.unusedSimpArgs false
namespace Go.Proofs.YthcohhpmpdijoaaDoorL
open Go
def po (R : Addr → Prop) : PO := ⟨fun _ v => ∃ ad, v = .pointer (some ad) ∧ R ad, fun _ => [], fun _ => [], [], []⟩
end Go.Proofs.YthcohhpmpdijoaaDoorL
set_option linter.unusedVariables false
set_option linter.unusedSimpArgs false
namespace Go.Proofs.YthcohhpmpdijoaaDoor
open Go Go.RowKit Go.Proofs.YthcohhpmpdijoaaDoorL
set_option maxRecDepth 100000
set_option maxHeartbeats 4000000
theorem network_New.calls {ok : Nat → Prop} {w0 : World}   {r : network_Network} (hf : network_New = some r)  :
    Calls Tryd.prog 13 #[] w0 fun e w' => ∃ v, e = .returned v ∧ ∃ y : (Option Addr × Nat × Nat) × (Option Addr × Nat × Nat), v = .agg ([.int .i64 r.Next, .slice y.1.1 y.1.2.1 y.1.2.2, .slice y.2.1 y.2.2.1 y.2.2.2] : List Value).toArray ∧ St ok (bz w0) w' [] [own t_network_Packet 69 (.slice y.1.1 y.1.2.1 y.1.2.2) r.Packets, own t_network_Side 95 (.slice y.2.1 y.2.2.1 y.2.2.2) r.Sides] := by
  unfold network_New at hf
  refine calls_of_W (fn := Tryd.f13) (N := 2) Tryd.func13 rfl Tryd.ntmps13 rfl ?_
  have hs : St ok (bz w0) w0 [] [] := St.init All.nil
  refine W.seqK fun K1 hK1 => ?_
  refine W.region ?_
  refine WL.alloc hs ZV39 (fun g2 w hs => ?_)
  refine WL.nil ?_
  refine hK1 _ _ ?_
  refine W.seqK fun K3 hK3 => ?_
  refine W.region ?_
  refine WL.build (vs := [(0, .int .i64 1)]) (cs := [.int .i64 1, .slice none 0 0, .slice none 0 0]) ⟨⟨rfl, rfl⟩, trivial⟩ (bld PL39 rfl) ?_
  refine WL.storeAll (vs := [.int .i64 1, .slice none 0 0, .slice none 0 0]) hs 0 rfl TI39 rfl rfl rfl rfl (ones_of rfl) rfl (fun w hs => ?_)
  refine WL.nil ?_
  refine hK3 _ _ ?_
  refine W.ret ?_
  have hr := Option.some.inj hf; subst hr
  have hs := hs.ownNil t_network_Packet 69
  have hs := hs.ownNil t_network_Side 95
  have hs := hs.front 0 rfl
  have hs := hs.front 1 rfl
  exact ⟨_, resOk_one rfl (res_all hs 2 rfl TI39 rfl rfl), ((none, 0, 0), (none, 0, 0)), rfl, (hs.mask [true, true]).pick []⟩
theorem slices_Clone_Packet.calls {ok : Nat → Prop} {w0 : World} {x1 : List network_Packet} {a2 : Option Addr} {c3 : Nat} {r : List network_Packet} (hf : slices_Clone_Packet x1 = some r) (i0 : (vl (tSlice t_network_Packet) x1 (.slice a2 x1.length c3)).holds ok w0) :
    Calls Tryd.prog 38 #[.slice a2 x1.length c3] w0 fun e w' => ∃ v, e = .returned v ∧ ∃ y : (Option Addr × Nat × Nat), v = .slice y.1 y.2.1 y.2.2 ∧ St ok (bz w0) w' [] [own t_network_Packet 69 (.slice y.1 y.2.1 y.2.2) r] := by
  unfold slices_Clone_Packet at hf
  refine calls_of_W (fn := Tryd.f38) (N := 8) Tryd.func38 rfl Tryd.ntmps38 rfl ?_
  have hs : St ok (bz w0) w0 [vl (tSlice t_network_Packet) x1 (.slice a2 x1.length c3)] [] := St.init (All.cons i0 All.nil)
  clear i0
  refine W.seqK fun K4 hK4 => ?_
  refine W.region ?_
  refine WL.assign (v := .slice none 0 0) rfl ?_
  refine WL.nil ?_
  refine hK4 _ _ ?_
  refine W.seqK fun K5 hK5 => ?_
  refine W.seqK fun K6 hK6 => ?_
  refine W.region ?_
  refine WL.move (v := .slice a2 x1.length c3) rfl ?_
  refine WL.nilEq UN36 rfl ?_
  rcases a2 with _ | ad7
  {
  obtain rfl := hs.nilx 0 rfl
  have hf : some [] = some r := by simpa [app, idx, cut] using hf
  refine WL.nil ?_
  refine hK6 _ _ ?_
  refine W.cond_true rfl ?_
  refine W.seqK fun K8 hK8 => ?_
  refine W.region ?_
  refine WL.assign (v := .slice none 0 0) rfl ?_
  refine WL.nil ?_
  refine hK8 _ _ ?_
  refine W.ret ?_
  have hr := Option.some.inj hf; subst hr
  have hs := hs.ownNil t_network_Packet 69
  exact ⟨_, resOk_one rfl rfl, (none, 0, 0), rfl, (hs.mask [true]).pick []⟩ }
  {
  refine WL.nil ?_
  refine hK6 _ _ ?_
  refine W.cond_false rfl ?_
  refine W.skip ?_
  refine hK5 _ _ ?_
  refine W.seqK fun K9 hK9 => ?_
  refine W.region ?_
  refine WL.buildSlice0 hs UN36 TI69 (fun a10 w hs => ?_)
  refine WL.move (v := .slice (some ad7) x1.length c3) rfl ?_
  have hs := hs.ownEmpty t_network_Packet 69 a10
  obtain ⟨x11, hxx11, hf⟩ := bindE hf
  obtain ⟨hbx11, hex11⟩ := appE hxx11
  refine WL.appendS (zs := x11) hs 0 rfl 0 rfl UN36 UN36 EI69 rfl rfl hbx11 (by omega) hex11 (fun v12 w hs => ?_)
  obtain ⟨a13, n15, c14, rfl⟩ := hs.ownv3 0 rfl
  refine WL.assign (v := .slice a13 n15 c14) rfl ?_
  refine WL.nil ?_
  refine hK9 _ _ ?_
  refine W.ret ?_
  have hr := Option.some.inj hf; subst hr
  exact ⟨_, resOk_one rfl rfl, (a13, n15, c14), rfl, (hs.mask [true]).pick []⟩ }
theorem slices_Clone_Side.calls {ok : Nat → Prop} {w0 : World} {x1 : List network_Side} {a2 : Option Addr} {c3 : Nat} {r : List network_Side} (hf : slices_Clone_Side x1 = some r) (i0 : (vl (tSlice t_network_Side) x1 (.slice a2 x1.length c3)).holds ok w0) :
    Calls Tryd.prog 39 #[.slice a2 x1.length c3] w0 fun e w' => ∃ v, e = .returned v ∧ ∃ y : (Option Addr × Nat × Nat), v = .slice y.1 y.2.1 y.2.2 ∧ St ok (bz w0) w' [] [own t_network_Side 95 (.slice y.1 y.2.1 y.2.2) r] := by
  unfold slices_Clone_Side at hf
  refine calls_of_W (fn := Tryd.f39) (N := 8) Tryd.func39 rfl Tryd.ntmps39 rfl ?_
  have hs : St ok (bz w0) w0 [vl (tSlice t_network_Side) x1 (.slice a2 x1.length c3)] [] := St.init (All.cons i0 All.nil)
  clear i0
  refine W.seqK fun K4 hK4 => ?_
  refine W.region ?_
  refine WL.assign (v := .slice none 0 0) rfl ?_
  refine WL.nil ?_
  refine hK4 _ _ ?_
  refine W.seqK fun K5 hK5 => ?_
  refine W.seqK fun K6 hK6 => ?_
  refine W.region ?_
  refine WL.move (v := .slice a2 x1.length c3) rfl ?_
  refine WL.nilEq UN37 rfl ?_
  rcases a2 with _ | ad7
  {
  obtain rfl := hs.nilx 0 rfl
  have hf : some [] = some r := by simpa [app, idx, cut] using hf
  refine WL.nil ?_
  refine hK6 _ _ ?_
  refine W.cond_true rfl ?_
  refine W.seqK fun K8 hK8 => ?_
  refine W.region ?_
  refine WL.assign (v := .slice none 0 0) rfl ?_
  refine WL.nil ?_
  refine hK8 _ _ ?_
  refine W.ret ?_
  have hr := Option.some.inj hf; subst hr
  have hs := hs.ownNil t_network_Side 95
  exact ⟨_, resOk_one rfl rfl, (none, 0, 0), rfl, (hs.mask [true]).pick []⟩ }
  {
  refine WL.nil ?_
  refine hK6 _ _ ?_
  refine W.cond_false rfl ?_
  refine W.skip ?_
  refine hK5 _ _ ?_
  refine W.seqK fun K9 hK9 => ?_
  refine W.region ?_
  refine WL.buildSlice0 hs UN37 TI95 (fun a10 w hs => ?_)
  refine WL.move (v := .slice (some ad7) x1.length c3) rfl ?_
  have hs := hs.ownEmpty t_network_Side 95 a10
  obtain ⟨x11, hxx11, hf⟩ := bindE hf
  obtain ⟨hbx11, hex11⟩ := appE hxx11
  refine WL.appendS (zs := x11) hs 0 rfl 0 rfl UN37 UN37 EI95 rfl rfl hbx11 (by omega) hex11 (fun v12 w hs => ?_)
  obtain ⟨a13, n15, c14, rfl⟩ := hs.ownv3 0 rfl
  refine WL.assign (v := .slice a13 n15 c14) rfl ?_
  refine WL.nil ?_
  refine hK9 _ _ ?_
  refine W.ret ?_
  have hr := Option.some.inj hf; subst hr
  exact ⟨_, resOk_one rfl rfl, (a13, n15, c14), rfl, (hs.mask [true]).pick []⟩ }
theorem network_clone.calls {ok : Nat → Prop} {w0 : World} {x1 : network_Network} {v2 : Value} {r : network_Network} (hf : network_clone x1 = some r) (i0 : (vl t_network_Network x1 v2).holds ok w0) :
    Calls Tryd.prog 25 #[v2] w0 fun e w' => ∃ v, e = .returned v ∧ ∃ y : (Option Addr × Nat × Nat) × (Option Addr × Nat × Nat), v = .agg ([.int .i64 r.Next, .slice y.1.1 y.1.2.1 y.1.2.2, .slice y.2.1 y.2.2.1 y.2.2.2] : List Value).toArray ∧ St ok (bz w0) w' [] [own t_network_Packet 69 (.slice y.1.1 y.1.2.1 y.1.2.2) r.Packets, own t_network_Side 95 (.slice y.2.1 y.2.2.1 y.2.2.2) r.Sides] := by
  unfold network_clone at hf
  refine calls_of_W (fn := Tryd.f25) (N := 12) Tryd.func25 rfl Tryd.ntmps25 rfl ?_
  have hs : St ok (bz w0) w0 [vl t_network_Network x1 v2] [] := St.init (All.cons i0 All.nil)
  clear i0
  obtain ⟨cs3, hl4, rfl⟩ := hs.aggv (n := 3) 0 rfl rfl rfl
  refine W.seqK fun K5 hK5 => ?_
  refine W.region ?_
  obtain ⟨a7, c8, a9, c10, rfl⟩ := open_network_Network hs 0 rfl
  have hs := hs.add (it := vl (tSlice t_network_Packet) x1.Packets (.slice a7 (x1.Packets).length c8)) fun ok hA => V_fld F_network_Network_Packets (hA.get 0 rfl) rfl rfl rfl
  have hs := hs.add (it := vl (tSlice t_network_Side) x1.Sides (.slice a9 (x1.Sides).length c10)) fun ok hA => V_fld F_network_Network_Sides (hA.get 1 rfl) rfl rfl rfl
  refine WL.box (vs := [.int .i64 x1.Next, .slice a7 (x1.Packets).length c8, .slice a9 (x1.Sides).length c10]) hs rfl rfl (fun g6 w hs => ?_)
  refine WL.alloc hs ZV39 (fun g11 w hs => ?_)
  refine WL.nil ?_
  refine hK5 _ _ ?_
  refine W.seqK fun K12 hK12 => ?_
  obtain ⟨x13, hxx13, hf⟩ := bindE hf
  obtain ⟨x17, hxx17, hf⟩ := bindE hf
  refine W.any (by kernel_rfl) 7 3 [true, true, true, true, true, true, true, false, false, false] rfl rfl (poAt [pv (.pointer (some ⟨g6, 1, none⟩)), pv (.slice a7 (x1.Packets).length c8), pq (fun y : (Option Addr × Nat × Nat) => .slice y.1 y.2.1 y.2.2) (fun v => []) (fun v => [own t_network_Packet 69 v x13]), pv (.pointer (some ⟨g6, 2, none⟩)), pv (.slice a9 (x1.Sides).length c10), pq (fun y : (Option Addr × Nat × Nat) => .slice y.1 y.2.1 y.2.2) (fun v => []) (fun v => [own t_network_Side 95 v x17]), pv (.pointer (some ⟨g6, 1, none⟩))]) (Λ := [blk g11 39 [.int .i64 0, .slice none 0 0, .slice none 0 0], blk g6 39 [.int .i64 x1.Next, .slice a7 (x1.Packets).length c8, .slice a9 (x1.Sides).length c10]]) hs (by kernel_rfl) (by kernel_rfl) (by kernel_rfl) ⟨⟨⟨⟨⟨⟨⟨trivial, ?_⟩, ?_⟩, ?_⟩, ?_⟩, ?_⟩, ?_⟩, ?_⟩ ?_
  {
  intro ρ w Γx Λx hs hu hp
  refine WL.fieldAddr (m := 1) (hu 1 rfl) FA39_1 rfl ?_
  exact WL.nil ⟨rfl, _, rfl, rfl, hs.cutG 0 0⟩ }
  {
  intro ρ w Γx Λx hs hu hp
  have e21 : ρ 3 = .pointer (some ⟨g6, 1, none⟩) := (hp 0 rfl).1
  refine WL.load1 (v := .slice a7 (x1.Packets).length c8) hs (Λx.length + 1) (getApp rfl) TI36 e21 rfl ?_
  exact WL.nil ⟨rfl, _, rfl, rfl, hs.cutG 0 0⟩ }
  {
  intro ρ w Γx Λx hs hu hp
  have e22 : ρ 4 = .slice a7 (x1.Packets).length c8 := (hp 1 rfl).1
  refine WL.call (vs := [.slice a7 (x1.Packets).length c8]) hs FN38 ⟨e22, trivial⟩ (fun ok hA => slices_Clone_Packet.calls (x1 := x1.Packets) hxx13 (hA.get (Γx.length + 1) (getApp rfl))) ?_
  rintro ⟨a14, n15, c16⟩ w hs
  exact WL.nil ⟨rfl, _, rfl, ⟨(a14, n15, c16), rfl⟩, hs.cutG 0 0⟩ }
  {
  intro ρ w Γx Λx hs hu hp
  refine WL.fieldAddr (m := 2) (hu 1 rfl) FA39_2 rfl ?_
  exact WL.nil ⟨rfl, _, rfl, rfl, hs.cutG 0 0⟩ }
  {
  intro ρ w Γx Λx hs hu hp
  have e23 : ρ 6 = .pointer (some ⟨g6, 2, none⟩) := (hp 3 rfl).1
  refine WL.load1 (v := .slice a9 (x1.Sides).length c10) hs (Λx.length + 1) (getApp rfl) TI37 e23 rfl ?_
  exact WL.nil ⟨rfl, _, rfl, rfl, hs.cutG 0 0⟩ }
  {
  intro ρ w Γx Λx hs hu hp
  have e24 : ρ 7 = .slice a9 (x1.Sides).length c10 := (hp 4 rfl).1
  refine WL.call (vs := [.slice a9 (x1.Sides).length c10]) hs FN39 ⟨e24, trivial⟩ (fun ok hA => slices_Clone_Side.calls (x1 := x1.Sides) hxx17 (hA.get (Γx.length + 0) (getApp rfl))) ?_
  rintro ⟨a18, n19, c20⟩ w hs
  exact WL.nil ⟨rfl, _, rfl, ⟨(a18, n19, c20), rfl⟩, hs.cutG 0 0⟩ }
  {
  intro ρ w Γx Λx hs hu hp
  refine WL.fieldAddr (m := 1) (hu 1 rfl) FA39_1 rfl ?_
  exact WL.nil ⟨rfl, _, rfl, rfl, hs.cutG 0 0⟩ }
  {
  intro ρ w hs hu25 hp
  obtain ⟨⟨⟨⟨⟨⟨⟨_, hp0_⟩, hp1_⟩, hp2_⟩, hp3_⟩, hp4_⟩, hp5_⟩, hp6_⟩ := hp
  have hs : St ok (bz w0) w [vl (tSlice t_network_Side) x1.Sides (.slice a9 (x1.Sides).length c10), vl (tSlice t_network_Packet) x1.Packets (.slice a7 (x1.Packets).length c8), vl t_network_Network x1 (.agg [.int .i64 x1.Next, .slice a7 (x1.Packets).length c8, .slice a9 (x1.Sides).length c10].toArray)] [own t_network_Side 95 ((ρ 8)) x17, own t_network_Packet 69 ((ρ 5)) x13, blk g11 39 [.int .i64 0, .slice none 0 0, .slice none 0 0], blk g6 39 [.int .i64 x1.Next, .slice a7 (x1.Packets).length c8, .slice a9 (x1.Sides).length c10]] := hs
  have e26 : ρ 9 = .pointer (some ⟨g6, 1, none⟩) := hp6_
  obtain ⟨⟨a27, n29, c28⟩, e30⟩ := hp5_
  have e30 : ρ 8 = .slice a27 n29 c28 := e30
  try rw [e30] at hs
  have e31 : ρ 7 = .slice a9 (x1.Sides).length c10 := hp4_
  have e32 : ρ 6 = .pointer (some ⟨g6, 2, none⟩) := hp3_
  obtain ⟨⟨a33, n35, c34⟩, e36⟩ := hp2_
  have e36 : ρ 5 = .slice a33 n35 c34 := e36
  try rw [e36] at hs
  have e37 : ρ 4 = .slice a7 (x1.Packets).length c8 := hp1_
  have e38 : ρ 3 = .pointer (some ⟨g6, 1, none⟩) := hp0_
  refine WA.step [7] (by kernel_rfl) (by simp) ⟨?_, trivial⟩
  refine WL.store (vs := [.slice a33 n35 c34]) (cs' := [.int .i64 x1.Next, .slice a33 n35 c34, .slice a9 (x1.Sides).length c10]) hs 3 rfl TI36 e26 e36 rfl rfl (ones_of rfl) (Nat.le_of_ble_eq_true rfl) rfl (fun w hs => ?_)
  refine WL.nil ⟨rfl, _, rfl, ?_⟩
  refine WA.step [8] (by kernel_rfl) (by simp) ⟨?_, trivial⟩
  refine WL.fieldAddr (m := 2) (hu25 1 rfl) FA39_2 rfl ?_
  refine WL.nil ⟨rfl, _, rfl, ?_⟩
  refine WA.step [9] (by kernel_rfl) (by simp) ⟨?_, trivial⟩
  refine WL.store (vs := [.slice a27 n29 c28]) (cs' := [.int .i64 x1.Next, .slice a33 n35 c34, .slice a27 n29 c28]) hs 3 rfl TI37 rfl e30 rfl rfl (ones_of rfl) (Nat.le_of_ble_eq_true rfl) rfl (fun w hs => ?_)
  refine WL.nil ⟨rfl, _, rfl, ?_⟩
  refine WA.done (by kernel_rfl) ?_
  refine hK12 _ _ ?_
  refine W.seqK fun K39 hK39 => ?_
  refine W.region ?_
  refine WL.loadN (vs := [.int .i64 x1.Next, .slice a33 n35 c34, .slice a27 n29 c28]) hs 3 rfl TI39 (hu25 1 rfl) rfl rfl ?_
  refine WL.storeAll (vs := [.int .i64 x1.Next, .slice a33 n35 c34, .slice a27 n29 c28]) hs 2 rfl TI39 (hu25 2 rfl) rfl rfl rfl (ones_of rfl) rfl (fun w hs => ?_)
  refine WL.nil ?_
  refine hK39 _ _ ?_
  refine W.ret ?_
  have hr := Option.some.inj hf; subst hr
  have hs := hs.front 0 rfl
  have hs := hs.front 1 rfl
  exact ⟨_, resOk_one rfl (res_all hs 2 rfl TI39 (hu25 2 rfl) rfl), ((a33, n35, c34), (a27, n29, c28)), rfl, (hs.mask [true, true]).pick []⟩ }
theorem network_Send.calls {ok : Nat → Prop} {w0 : World} {x1 : network_Network} {x5 : List api_Message} {v2 : Value} {a6 : Option Addr} {c7 : Nat} {r : network_Network} (hf : network_Send x1 x5 = some r) (i0 : (vl t_network_Network x1 v2).holds ok w0) (i1 : (vl (tSlice t_api_Message) x5 (.slice a6 x5.length c7)).holds ok w0) :
    Calls Tryd.prog 12 #[v2, .slice a6 x5.length c7] w0 fun e w' => ∃ v, e = .returned v ∧ ∃ y : (Option Addr × Nat × Nat) × (Option Addr × Nat × Nat), v = .agg ([.int .i64 r.Next, .slice y.1.1 y.1.2.1 y.1.2.2, .slice y.2.1 y.2.2.1 y.2.2.2] : List Value).toArray ∧ St ok (bz w0) w' [] [own t_network_Packet 69 (.slice y.1.1 y.1.2.1 y.1.2.2) r.Packets, own t_network_Side 95 (.slice y.2.1 y.2.2.1 y.2.2.2) r.Sides] := by
  unfold network_Send at hf
  refine calls_of_W (fn := Tryd.f12) (N := 34) Tryd.func12 rfl Tryd.ntmps12 rfl ?_
  have hs : St ok (bz w0) w0 [vl t_network_Network x1 v2, vl (tSlice t_api_Message) x5 (.slice a6 x5.length c7)] [] := St.init (All.cons i0 (All.cons i1 All.nil))
  clear i0 i1
  obtain ⟨cs3, hl4, rfl⟩ := hs.aggv (n := 3) 0 rfl rfl rfl
  refine W.seqK fun K8 hK8 => ?_
  refine W.region ?_
  obtain ⟨a10, c11, a12, c13, rfl⟩ := open_network_Network hs 0 rfl
  have hs := hs.add (it := vl (tSlice t_network_Packet) x1.Packets (.slice a10 (x1.Packets).length c11)) fun ok hA => V_fld F_network_Network_Packets (hA.get 0 rfl) rfl rfl rfl
  have hs := hs.add (it := vl (tSlice t_network_Side) x1.Sides (.slice a12 (x1.Sides).length c13)) fun ok hA => V_fld F_network_Network_Sides (hA.get 1 rfl) rfl rfl rfl
  refine WL.box (vs := [.int .i64 x1.Next, .slice a10 (x1.Packets).length c11, .slice a12 (x1.Sides).length c13]) hs rfl rfl (fun g9 w hs => ?_)
  refine WL.alloc hs ZV39 (fun g14 w hs => ?_)
  refine WL.nil ?_
  refine hK8 _ _ ?_
  refine W.seqK fun K15 hK15 => ?_
  refine W.region ?_
  refine WL.loadN (vs := [.int .i64 x1.Next, .slice a10 (x1.Packets).length c11, .slice a12 (x1.Sides).length c13]) hs 1 rfl TI39 rfl rfl rfl ?_
  have hs := hs.add (it := vl t_network_Network (⟨x1.Next, x1.Packets, x1.Sides⟩ : network_Network) (.agg [.int .i64 x1.Next, .slice a10 (x1.Packets).length c11, .slice a12 (x1.Sides).length c13].toArray)) fun ok hA => V_agg (show t_network_Network.R ok _ _ _ from ⟨[.int .i64 x1.Next], [.slice a10 (x1.Packets).length c11, .slice a12 (x1.Sides).length c13], rfl, rfl, ⟨[.slice a10 (x1.Packets).length c11], [.slice a12 (x1.Sides).length c13], rfl, (R_one (hA.get 1 rfl)), (R_one (hA.get 0 rfl))⟩⟩) rfl
  obtain ⟨x16, hxx16, hf⟩ := bindE hf
  refine WL.call (vs := [.agg ([.int .i64 x1.Next, .slice a10 (x1.Packets).length c11, .slice a12 (x1.Sides).length c13] : List Value).toArray]) hs FN25 ⟨rfl, trivial⟩ (fun ok hA => network_clone.calls (x1 := (⟨x1.Next, x1.Packets, x1.Sides⟩ : network_Network)) hxx16 (hA.get 0 rfl)) ?_
  rintro ⟨⟨a17, n18, c19⟩, ⟨a20, n21, c22⟩⟩ w hs
  refine WL.storeAll (vs := [.int .i64 x16.Next, .slice a17 n18 c19, .slice a20 n21 c22]) hs 3 rfl TI39 rfl rfl rfl rfl (ones_of rfl) rfl (fun w hs => ?_)
  refine WL.nil ?_
  refine hK15 _ _ ?_
  refine W.seqK fun K23 hK23 => ?_
  have Jk30 : ∀ (x25 : Int) (x26 : List network_Packet) (a27 : Option Addr) (c28 : Nat) (n29 : Nat) (ρ : Env) (w : World), ρ 2 = .pointer (some ⟨g9, 0, none⟩) → ρ 4 = .pointer (some ⟨g14, 0, none⟩) → St ok (bz w0) w [] [own t_network_Packet 69 (.slice a27 n29 c28) x26, own t_network_Side 95 (.slice a20 n21 c22) x16.Sides, blk g14 39 [.int .i64 0, .slice none 0 0, .slice none 0 0], blk g9 39 [.int .i64 x25, .slice a27 n29 c28, .slice a20 n21 c22]] → network_Send.j1 x16 x25 x26 = some r → K23 ρ w := by
    intro x25 x26 a27 c28 n29 ρ w h24_2 h24_4 hs hf
    refine hK23 _ _ ?_
    unfold network_Send.j1 at hf
    refine W.seqK fun K31 hK31 => ?_
    refine W.region ?_
    refine WL.loadN (vs := [.int .i64 x25, .slice a27 n29 c28, .slice a20 n21 c22]) hs 3 rfl TI39 h24_2 rfl rfl ?_
    refine WL.storeAll (vs := [.int .i64 x25, .slice a27 n29 c28, .slice a20 n21 c22]) hs 2 rfl TI39 h24_4 rfl rfl rfl (ones_of rfl) rfl (fun w hs => ?_)
    refine WL.nil ?_
    refine hK31 _ _ ?_
    refine W.ret ?_
    have hr := Option.some.inj hf; subst hr
    exact ⟨_, resOk_one rfl (res_all hs 2 rfl TI39 h24_4 rfl), ((a27, n29, c28), (a20, n21, c22)), rfl, (hs.mask [true, true]).pick []⟩
  refine W.seqK fun K32 hK32 => ?_
  refine W.region ?_
  refine WL.move (v := .slice a6 x5.length c7) rfl ?_
  refine WL.len (v := .slice a6 x5.length c7) rfl (len_slice UN54) ?_
  refine WL.move (v := .int .i64 0) rfl ?_
  refine WL.nil ?_
  refine hK32 _ _ ?_
  refine W.block ?_
  obtain ⟨bs40, hbs40, hfs40⟩ := bindE hf
  refine W.loop hbs40 (fun s ρ w => match s with | (x34, x35, x36) => ∃ (a37 : Option Addr), ∃ (c38 : Nat), ∃ (n39 : Nat), ρ 2 = .pointer (some ⟨g9, 0, none⟩) ∧ ρ 4 = .pointer (some ⟨g14, 0, none⟩) ∧ ρ 9 = .slice a6 x5.length c7 ∧ ρ 10 = .int .i64 (x5.length : Int) ∧ ρ 11 = .int .i64 x34 ∧ St ok (bz w0) w [vl (tSlice t_api_Message) x5 (.slice a6 x5.length c7)] [own t_network_Packet 69 (.slice a37 n39 c38) x36, own t_network_Side 95 (.slice a20 n21 c22) x16.Sides, blk g14 39 [.int .i64 0, .slice none 0 0, .slice none 0 0], blk g9 39 [.int .i64 x35, .slice a37 n39 c38, .slice a20 n21 c22]]) ⟨a17, c19, n18, rfl, rfl, rfl, rfl, rfl, (hs.mask [true, true, true, true]).pick [4]⟩ ?_
  intro s ρ w os40 hI hf hbbs40
  obtain ⟨x34, x35, x36⟩ := s
  obtain ⟨a37, c38, n39, h33_2, h33_4, h33_9, h33_10, h33_11, hs⟩ := hI
  unfold network_Send.l1 at hf
  refine W.seqK fun K41 hK41 => ?_
  refine W.region ?_
  refine WL.bin (v := .bool (decide (x34 < (x5.length : Int)))) h33_11 h33_10 (ib_lss _ _ _) ?_
  refine WL.nil ?_
  refine hK41 _ _ ?_
  refine W.seqK fun K42 hK42 => ?_
  rcases iteE hf with ⟨hc43, hf⟩ | ⟨hc43, hf⟩
  {
  refine W.cond_true (bool_tr rfl hc43) ?_
  refine W.skip ?_
  refine hK42 _ _ ?_
  refine W.seqK fun K44 hK44 => ?_
  refine W.block ?_
  refine W.seqK fun K45 hK45 => ?_
  refine W.region ?_
  obtain ⟨x46, hxx46, hf⟩ := bindE hf
  refine WL.indexAddr hs 0 rfl UN54 TI53 h33_9 h33_11 hxx46 (fun ad47 hs => ?_)
  refine WL.loadP hs 0 rfl TI53 (.inl rfl) rfl (fun v48 hs => ?_)
  obtain ⟨cs49, hl50, rfl⟩ := hs.aggv (n := 18) 0 rfl rfl rfl
  refine WL.alloc hs ZV53 (fun g51 w hs => ?_)
  refine WL.storeAll (vs := cs49) hs 0 rfl TI53 rfl rfl rfl hl50 (hs.ones 0 rfl rfl) rfl (fun w hs => ?_)
  refine WL.nil ?_
  refine hK45 _ _ ?_
  refine W.seqK fun K52 hK52 => ?_
  refine W.seqK fun K53 hK53 => ?_
  refine W.region ?_
  refine WL.fieldAddr (m := 1) h33_2 FA39_1 rfl ?_
  refine WL.load1 (v := .slice a37 n39 c38) hs 4 rfl TI36 rfl rfl ?_
  refine WL.len (v := .slice a37 n39 c38) rfl (len_own hs 1 rfl UN36) ?_
  refine WL.bin (v := .bool (decide (4096 ≤ (x36.length : Int)))) rfl rfl (ib_geq _ _ _) ?_
  refine WL.nil ?_
  refine hK53 _ _ ?_
  rcases iteE hf with ⟨hc54, hf⟩ | ⟨hc54, hf⟩
  {
  refine W.cond_true (bool_tr rfl hc54) ?_
  refine W.exit ?_
  have hr := Option.some.inj hf; subst hr
  have hr := hbbs40 _ rfl; subst hr
  have hf := hfs40
  exact Jk30 x35 x36 a37 c38 n39 _ _ h33_2 h33_4 ((hs.mask [false, true, true, true, true]).pick []) hf }
  {
  refine W.cond_false (bool_tr rfl hc54) ?_
  refine W.skip ?_
  refine hK52 _ _ ?_
  refine W.seqK fun K55 hK55 => ?_
  refine W.region ?_
  refine WL.fieldAddr (m := 1) h33_2 FA39_1 rfl ?_
  refine WL.load1 (v := .slice a37 n39 c38) hs 4 rfl TI36 rfl rfl ?_
  refine WL.fieldAddr (m := 0) h33_2 FA39_0 rfl ?_
  refine WL.load1 (v := .int .i64 x35) hs 4 rfl TI3 rfl rfl ?_
  refine WL.loadAll hs 0 rfl TI53 rfl hl50 ?_
  refine WL.build (vs := [(0, .int .i64 x35), (1, .agg cs49.toArray)]) (cs := ([.int .i64 x35] : List Value) ++ cs49) ⟨⟨rfl, rfl⟩, ⟨⟨rfl, rfl⟩, trivial⟩⟩ (bld PL69 (by simp [fillL, Value.cells, hl50])) ?_
  refine WL.buildSlice (n := 1) (vs := [(0, .agg (([.int .i64 x35] : List Value) ++ cs49 : List Value).toArray)]) (cs := ([.int .i64 x35] : List Value) ++ cs49) hs ⟨⟨rfl, rfl⟩, trivial⟩ (bls PS36 (by decide) (by simp [fillS, fillL, Value.cells, hl50])) (fun g56 w hs => ?_)
  obtain ⟨x57, hxx57, hf⟩ := bindE hf
  obtain ⟨hbx57, hex57⟩ := appE hxx57
  refine WL.append (ys := [(⟨x35, x46⟩ : network_Packet)]) (zs := x57) hs 2 rfl 0 rfl UN36 EI69 rfl rfl (fun ok hA => (Cells.one (T := t_network_Packet) (show t_network_Packet.R ok _ (⟨x35, x46⟩ : network_Packet) _ from ⟨[.int .i64 x35], cs49, by simp, rfl, (R_agg (hA.get 0 rfl) rfl)⟩))) hbx57 (by omega) hex57 (fun v58 w hs => ?_)
  obtain ⟨a59, n61, c60, rfl⟩ := hs.ownv3 2 rfl
  refine WL.fieldAddr (m := 1) h33_2 FA39_1 rfl ?_
  refine WL.store (vs := [.slice a59 n61 c60]) (cs' := [.int .i64 x35, .slice a59 n61 c60, .slice a20 n21 c22]) hs 5 rfl TI36 rfl rfl rfl rfl (ones_of rfl) (Nat.le_of_ble_eq_true rfl) rfl (fun w hs => ?_)
  refine WL.nil ?_
  refine hK55 _ _ ?_
  refine W.region ?_
  refine WL.fieldAddr (m := 0) h33_2 FA39_0 rfl ?_
  refine WL.load1 (v := .int .i64 x35) hs 5 rfl TI3 rfl rfl ?_
  obtain ⟨x62, ex62, hf⟩ := letE hf
  refine WL.bin (v := .int .i64 x62) rfl rfl (ib_as ex62 (ib_add _ _ _)) ?_
  refine WL.fieldAddr (m := 0) h33_2 FA39_0 rfl ?_
  refine WL.store (vs := [.int .i64 x62]) (cs' := [.int .i64 x62, .slice a59 n61 c60, .slice a20 n21 c22]) hs 5 rfl TI3 rfl rfl rfl rfl (ones_of rfl) (Nat.le_of_ble_eq_true rfl) rfl (fun w hs => ?_)
  refine WL.nil ?_
  refine hK44 _ _ ?_
  refine W.region ?_
  obtain ⟨x63, ex63, hf⟩ := letE hf
  refine WL.bin (v := .int .i64 x63) h33_11 rfl (ib_as ex63 (ib_add _ _ _)) ?_
  refine WL.move (v := .int .i64 x63) rfl ?_
  refine WL.nil ?_
  exact ⟨_, (Option.some.inj hf).symm, a59, c60, n61, h33_2, h33_4, h33_9, h33_10, rfl, (hs.mask [false, false, true, true, true, true]).pick [2]⟩ } }
  {
  refine W.cond_false (bool_tr rfl hc43) ?_
  refine W.exit ?_
  have hr := Option.some.inj hf; subst hr
  have hr := hbbs40 _ rfl; subst hr
  have hf := hfs40
  exact Jk30 x35 x36 a37 c38 n39 _ _ h33_2 h33_4 ((hs.mask [true, true, true, true]).pick []) hf }
theorem adversary_parseRule.calls {ok : Nat → Prop} {w0 : World} {x1 : List UInt8}  {r : adversary_Rule} (hf : adversary_parseRule x1 = some r) (i0 : (pl (tSlice tStr) words_ (⟨0, 0, none⟩)).holds ok w0) (i1 : (pl tErr true (⟨3, 0, none⟩)).holds ok w0) (i2 : (pl tErr true (⟨4, 0, none⟩)).holds ok w0) :
    Calls Tryd.prog 22 #[bstr x1] w0 fun e w' => ∃ v, e = .returned v ∧ ∃ y : List Value, v = .agg y.toArray ∧ St ok (bz w0) w' [vl t_adversary_Rule r (.agg y.toArray)] [] := by
  unfold adversary_parseRule at hf
  refine calls_of_W (fn := Tryd.f22) (N := 45) Tryd.func22 rfl Tryd.ntmps22 rfl ?_
  have hs : St ok (bz w0) w0 [pl (tSlice tStr) words_ (⟨0, 0, none⟩), pl tErr true (⟨3, 0, none⟩), pl tErr true (⟨4, 0, none⟩)] [] := St.init (All.cons i0 (All.cons i1 (All.cons i2 All.nil)))
  clear i0 i1 i2
  refine W.seqK fun K2 hK2 => ?_
  refine W.region ?_
  refine WL.alloc hs ZV32 (fun g3 w hs => ?_)
  refine WL.nil ?_
  refine hK2 _ _ ?_
  refine W.seqK fun K4 hK4 => ?_
  have Jk8 : ∀ (x6 : Int) (x7 : Int) (ρ : Env) (w : World), ρ 2 = .pointer (some ⟨g3, 0, none⟩) → St ok (bz w0) w [pl (tSlice tStr) words_ (⟨0, 0, none⟩), pl tErr true (⟨3, 0, none⟩), pl tErr true (⟨4, 0, none⟩)] [blk g3 32 [.int .i64 x6, .int .i64 x7]] → adversary_parseRule.j1 x6 x7 = some r → K4 ρ w := by
    intro x6 x7 ρ w h5_2 hs hf
    refine hK4 _ _ ?_
    unfold adversary_parseRule.j1 at hf
    refine W.seqK fun K9 hK9 => ?_
    refine W.region ?_
    refine WL.build (vs := []) (cs := [.int .i64 0, .int .i64 0]) trivial (bld PL32 rfl) ?_
    refine WL.storeAll (vs := [.int .i64 0, .int .i64 0]) hs 0 rfl TI32 h5_2 rfl rfl rfl (ones_of rfl) rfl (fun w hs => ?_)
    refine WL.nil ?_
    refine hK9 _ _ ?_
    refine W.ret ?_
    have hr := Option.some.inj hf; subst hr
    have hs := hs.add (it := vl t_adversary_Rule (⟨0, 0⟩ : adversary_Rule) (.agg [.int .i64 0, .int .i64 0].toArray)) fun ok hA => V_agg (show t_adversary_Rule.R ok _ _ _ from ⟨[.int .i64 0], [.int .i64 0], rfl, rfl, rfl⟩) rfl
    exact ⟨_, resOk_one rfl (res_all hs 0 rfl TI32 h5_2 rfl), [.int .i64 0, .int .i64 0], rfl, (hs.mask []).pick [0]⟩
  refine W.seqK fun K10 hK10 => ?_
  refine W.region ?_
  refine WL.assign (v := .int .i64 1) rfl ?_
  refine WL.nil ?_
  refine hK10 _ _ ?_
  refine W.block ?_
  obtain ⟨bs15, hbs15, hfs15⟩ := bindE hf
  refine W.loop hbs15 (fun s ρ w => match s with | (x12, x13, x14) => ρ 0 = bstr x1 ∧ ρ 2 = .pointer (some ⟨g3, 0, none⟩) ∧ ρ 3 = .int .i64 x12 ∧ St ok (bz w0) w [pl (tSlice tStr) words_ (⟨0, 0, none⟩), pl tErr true (⟨3, 0, none⟩), pl tErr true (⟨4, 0, none⟩)] [blk g3 32 [.int .i64 x13, .int .i64 x14]]) ⟨rfl, rfl, rfl, (hs.mask [true]).pick [0, 1, 2]⟩ ?_
  intro s ρ w os15 hI hf hbbs15
  obtain ⟨x12, x13, x14⟩ := s
  obtain ⟨h11_0, h11_2, h11_3, hs⟩ := hI
  unfold adversary_parseRule.l1 at hf
  refine W.seqK fun K16 hK16 => ?_
  refine W.seqK fun K17 hK17 => ?_
  refine W.region ?_
  refine WL.move (v := .int .i64 x12) h11_3 ?_
  refine WL.bin (v := .bool (decide (x12 ≤ 9))) rfl rfl (ib_leq _ _ _) ?_
  refine WL.nil ?_
  refine hK17 _ _ ?_
  rcases iteE hf with ⟨hc18, hf⟩ | ⟨hc18, hf⟩
  {
  refine W.cond_true (bool_tr rfl hc18) ?_
  refine W.skip ?_
  refine hK16 _ _ ?_
  refine W.seqK fun K19 hK19 => ?_
  have Jk23 : ∀ (x21 : Int) (x22 : Int) (ρ : Env) (w : World), ρ 0 = bstr x1 → ρ 2 = .pointer (some ⟨g3, 0, none⟩) → ρ 3 = .int .i64 x12 → St ok (bz w0) w [pl (tSlice tStr) words_ (⟨0, 0, none⟩), pl tErr true (⟨3, 0, none⟩), pl tErr true (⟨4, 0, none⟩)] [blk g3 32 [.int .i64 x21, .int .i64 x22]] → adversary_parseRule.j2 x12 x21 x22 = some os15 → K19 ρ w := by
    intro x21 x22 ρ w h20_0 h20_2 h20_3 hs hf
    refine hK19 _ _ ?_
    unfold adversary_parseRule.j2 at hf
    refine W.region ?_
    refine WL.move (v := .int .i64 x12) h20_3 ?_
    obtain ⟨x24, ex24, hf⟩ := letE hf
    refine WL.bin (v := .int .i64 x24) rfl rfl (ib_as ex24 (ib_add _ _ _)) ?_
    refine WL.assign (v := .int .i64 x24) rfl ?_
    refine WL.nil ?_
    exact ⟨_, (Option.some.inj hf).symm, h20_0, h20_2, rfl, (hs.mask [true]).pick [0, 1, 2]⟩
  refine W.block ?_
  refine W.seqK fun K25 hK25 => ?_
  refine W.seqK fun K26 hK26 => ?_
  refine W.region ?_
  refine WL.move (v := .int .i64 x12) h11_3 ?_
  refine WL.bin (v := .bool (decide (6 < x12))) rfl rfl (ib_gtr _ _ _) ?_
  refine WL.nil ?_
  refine hK26 _ _ ?_
  rcases iteE hf with ⟨hc27, hf⟩ | ⟨hc27, hf⟩
  {
  refine W.cond_true (bool_tr rfl hc27) ?_
  refine W.seqK fun K28 hK28 => ?_
  refine W.seqK fun K29 hK29 => ?_
  refine W.region ?_
  refine WL.move (v := bstr x1) h11_0 ?_
  refine WL.loadP hs 0 rfl TI34 (.inr rfl) rfl (fun v30 hs => ?_)
  obtain ⟨a31, c32, rfl⟩ := hs.slice 0 rfl
  refine WL.move (v := .int .i64 x12) h11_3 ?_
  obtain ⟨x33, hxx33, hf⟩ := bindE hf
  refine WL.indexAddr hs 0 rfl UN34 TI9 rfl rfl hxx33 (fun ad34 hs => ?_)
  refine WL.loadP hs 0 rfl TI9 (.inr rfl) rfl (fun v35 hs => ?_)
  obtain rfl := hs.str 0 rfl
  refine WL.binS (v := .bool (x1 == x33)) rfl rfl (sb_eql _ _) ?_
  refine WL.nil ?_
  refine hK29 _ _ ?_
  rcases iteE hf with ⟨hc36, hf⟩ | ⟨hc36, hf⟩
  {
  refine W.cond_true (bool_tr rfl hc36) ?_
  refine W.seqK fun K37 hK37 => ?_
  refine W.region ?_
  refine WL.move (v := .int .i64 x12) h11_3 ?_
  refine WL.build (vs := [(0, .int .i64 x12)]) (cs := [.int .i64 x12, .int .i64 0]) ⟨⟨rfl, rfl⟩, trivial⟩ (bld PL32 rfl) ?_
  refine WL.storeAll (vs := [.int .i64 x12, .int .i64 0]) hs 0 rfl TI32 h11_2 rfl rfl rfl (ones_of rfl) rfl (fun w hs => ?_)
  refine WL.nil ?_
  refine hK37 _ _ ?_
  refine W.ret ?_
  have hr := Option.some.inj hf; subst hr
  have hr := hbbs15 _ rfl; subst hr
  have hf := hfs15
  have hr := Option.some.inj hf; subst hr
  have hs := hs.add (it := vl t_adversary_Rule (⟨x12, 0⟩ : adversary_Rule) (.agg [.int .i64 x12, .int .i64 0].toArray)) fun ok hA => V_agg (show t_adversary_Rule.R ok _ _ _ from ⟨[.int .i64 x12], [.int .i64 0], rfl, rfl, rfl⟩) rfl
  exact ⟨_, resOk_one rfl (res_all hs 0 rfl TI32 h11_2 rfl), [.int .i64 x12, .int .i64 0], rfl, (hs.mask []).pick [0]⟩ }
  {
  refine W.cond_false (bool_tr rfl hc36) ?_
  refine W.skip ?_
  refine hK28 _ _ ?_
  refine W.exit ?_
  exact Jk23 x13 x14 _ _ h11_0 h11_2 h11_3 ((hs.mask [true]).pick [3, 4, 5]) hf } }
  {
  refine W.cond_false (bool_tr rfl hc27) ?_
  refine W.skip ?_
  refine hK25 _ _ ?_
  refine W.seqK fun K38 hK38 => ?_
  refine W.region ?_
  refine WL.move (v := bstr x1) h11_0 ?_
  refine WL.loadP hs 0 rfl TI34 (.inr rfl) rfl (fun v39 hs => ?_)
  obtain ⟨a40, c41, rfl⟩ := hs.slice 0 rfl
  refine WL.move (v := .int .i64 x12) h11_3 ?_
  obtain ⟨x42, hxx42, hf⟩ := bindE hf
  refine WL.indexAddr hs 0 rfl UN34 TI9 rfl rfl hxx42 (fun ad43 hs => ?_)
  refine WL.loadP hs 0 rfl TI9 (.inr rfl) rfl (fun v44 hs => ?_)
  obtain rfl := hs.str 0 rfl
  obtain ⟨x45, hxx45, hf⟩ := bindE hf
  refine WL.binS (v := bstr x45) rfl rfl (sb_cat hxx45) ?_
  obtain ⟨⟨x46, x47⟩, hxx46, hf⟩ := bindE hf
  refine WL.call (vs := [bstr x1, bstr x45]) hs FN36 ⟨rfl, ⟨rfl, trivial⟩⟩ (fun ok hA => strings_CutPrefix.calls (x1 := x1) (x2 := x45) hxx46) ?_
  rintro _ w hs
  refine WL.move (v := .tuple #[bstr x46, .bool x47]) rfl ?_
  refine WL.extract (v := bstr x46) rfl rfl ?_
  refine WL.extract (v := .bool x47) rfl rfl ?_
  refine WL.assign (v := bstr x46) rfl ?_
  refine WL.assign (v := .bool x47) rfl ?_
  refine WL.nil ?_
  refine hK38 _ _ ?_
  refine W.seqK fun K48 hK48 => ?_
  refine W.region ?_
  refine WL.move (v := .bool x47) rfl ?_
  refine WL.nil ?_
  refine hK48 _ _ ?_
  rcases iteE hf with ⟨hc49, hf⟩ | ⟨hc49, hf⟩
  {
  refine W.cond_true (bool_tr rfl hc49) ?_
  refine W.seqK fun K50 hK50 => ?_
  refine W.region ?_
  refine WL.move (v := bstr x46) rfl ?_
  obtain ⟨⟨x51, x52⟩, hxx51, hf⟩ := bindE hf
  refine WL.call (vs := [bstr x46]) hs FN37 ⟨rfl, trivial⟩ (fun ok hA => strconv_Atoi.calls (x1 := x46) hxx51 (hA.get 4 rfl) (hA.get 5 rfl)) ?_
  rintro v53 w hs
  refine WL.move (v := .tuple #[.int .i64 x51, v53]) rfl ?_
  refine WL.extract (v := .int .i64 x51) rfl rfl ?_
  refine WL.extract (v := v53) rfl rfl ?_
  refine WL.assign (v := .int .i64 x51) rfl ?_
  refine WL.assign (v := v53) rfl ?_
  refine WL.nil ?_
  refine hK50 _ _ ?_
  refine W.seqK fun K54 hK54 => ?_
  refine W.seqK fun K55 hK55 => ?_
  refine W.region ?_
  refine WL.move (v := v53) rfl ?_
  refine WL.neqErr hs 0 rfl rfl NEI86 ?_
  refine WL.nil ?_
  refine hK55 _ _ ?_
  rcases iteE hf with ⟨hc56, hf⟩ | ⟨hc56, hf⟩
  {
  refine W.cond_true (bool_tr rfl hc56) ?_
  refine W.seqK fun K57 hK57 => ?_
  refine W.region ?_
  refine WL.build (vs := []) (cs := [.int .i64 0, .int .i64 0]) trivial (bld PL32 rfl) ?_
  refine WL.storeAll (vs := [.int .i64 0, .int .i64 0]) hs 0 rfl TI32 h11_2 rfl rfl rfl (ones_of rfl) rfl (fun w hs => ?_)
  refine WL.nil ?_
  refine hK57 _ _ ?_
  refine W.ret ?_
  have hr := Option.some.inj hf; subst hr
  have hr := hbbs15 _ rfl; subst hr
  have hf := hfs15
  have hr := Option.some.inj hf; subst hr
  have hs := hs.add (it := vl t_adversary_Rule (⟨0, 0⟩ : adversary_Rule) (.agg [.int .i64 0, .int .i64 0].toArray)) fun ok hA => V_agg (show t_adversary_Rule.R ok _ _ _ from ⟨[.int .i64 0], [.int .i64 0], rfl, rfl, rfl⟩) rfl
  exact ⟨_, resOk_one rfl (res_all hs 0 rfl TI32 h11_2 rfl), [.int .i64 0, .int .i64 0], rfl, (hs.mask []).pick [0]⟩ }
  {
  refine W.cond_false (bool_tr rfl hc56) ?_
  refine W.skip ?_
  refine hK54 _ _ ?_
  refine W.seqK fun K58 hK58 => ?_
  refine W.region ?_
  refine WL.move (v := .int .i64 x12) h11_3 ?_
  refine WL.move (v := .int .i64 x51) rfl ?_
  refine WL.build (vs := [(0, .int .i64 x12), (1, .int .i64 x51)]) (cs := [.int .i64 x12, .int .i64 x51]) ⟨⟨rfl, rfl⟩, ⟨⟨rfl, rfl⟩, trivial⟩⟩ (bld PL32 rfl) ?_
  refine WL.storeAll (vs := [.int .i64 x12, .int .i64 x51]) hs 0 rfl TI32 h11_2 rfl rfl rfl (ones_of rfl) rfl (fun w hs => ?_)
  refine WL.nil ?_
  refine hK58 _ _ ?_
  refine W.ret ?_
  have hr := Option.some.inj hf; subst hr
  have hr := hbbs15 _ rfl; subst hr
  have hf := hfs15
  have hr := Option.some.inj hf; subst hr
  have hs := hs.add (it := vl t_adversary_Rule (⟨x12, x51⟩ : adversary_Rule) (.agg [.int .i64 x12, .int .i64 x51].toArray)) fun ok hA => V_agg (show t_adversary_Rule.R ok _ _ _ from ⟨[.int .i64 x12], [.int .i64 x51], rfl, rfl, rfl⟩) rfl
  exact ⟨_, resOk_one rfl (res_all hs 0 rfl TI32 h11_2 rfl), [.int .i64 x12, .int .i64 x51], rfl, (hs.mask []).pick [0]⟩ } }
  {
  refine W.cond_false (bool_tr rfl hc49) ?_
  refine W.skip ?_
  exact Jk23 x13 x14 _ _ h11_0 h11_2 h11_3 ((hs.mask [true]).pick [3, 4, 5]) hf } } }
  {
  refine W.cond_false (bool_tr rfl hc18) ?_
  refine W.exit ?_
  have hr := Option.some.inj hf; subst hr
  have hr := hbbs15 _ rfl; subst hr
  have hf := hfs15
  exact Jk8 x13 x14 _ _ h11_2 ((hs.mask [true]).pick [0, 1, 2]) hf }
theorem adversary_Validate.calls {ok : Nat → Prop} {w0 : World} {x1 : List adversary_Rule} {a2 : Option Addr} {c3 : Nat} {r : Int} (hf : adversary_Validate x1 = some r) (i0 : (vl (tSlice t_adversary_Rule) x1 (.slice a2 x1.length c3)).holds ok w0) :
    Calls Tryd.prog 17 #[.slice a2 x1.length c3] w0 fun e w' => ∃ v, e = .returned v ∧ ∃ y : Unit, v = .int .i64 r ∧ St ok (bz w0) w' [] [] := by
  unfold adversary_Validate at hf
  refine calls_of_W (fn := Tryd.f17) (N := 48) Tryd.func17 rfl Tryd.ntmps17 rfl ?_
  have hs : St ok (bz w0) w0 [vl (tSlice t_adversary_Rule) x1 (.slice a2 x1.length c3)] [] := St.init (All.cons i0 All.nil)
  clear i0
  refine W.seqK fun K4 hK4 => ?_
  refine W.region ?_
  refine WL.assign (v := .int .i64 0) rfl ?_
  refine WL.nil ?_
  refine hK4 _ _ ?_
  refine W.seqK fun K5 hK5 => ?_
  refine W.seqK fun K6 hK6 => ?_
  refine W.region ?_
  refine WL.move (v := .slice a2 x1.length c3) rfl ?_
  refine WL.len (v := .slice a2 x1.length c3) rfl (len_slice UN24) ?_
  refine WL.bin (v := .bool (decide (16 < (x1.length : Int)))) rfl rfl (ib_gtr _ _ _) ?_
  refine WL.nil ?_
  refine hK6 _ _ ?_
  rcases iteE hf with ⟨hc7, hf⟩ | ⟨hc7, hf⟩
  {
  refine W.cond_true (bool_tr rfl hc7) ?_
  refine W.seqK fun K8 hK8 => ?_
  refine W.region ?_
  refine WL.assign (v := .int .i64 3) rfl ?_
  refine WL.nil ?_
  refine hK8 _ _ ?_
  refine W.ret ?_
  have hr := Option.some.inj hf; subst hr
  exact ⟨_, resOk_one rfl rfl, (), rfl, (hs.mask []).pick []⟩ }
  {
  refine W.cond_false (bool_tr rfl hc7) ?_
  refine W.skip ?_
  refine hK5 _ _ ?_
  refine W.seqK fun K9 hK9 => ?_
  have Jk11 : ∀  (ρ : Env) (w : World), St ok (bz w0) w [] [] → adversary_Validate.j1 = some r → K9 ρ w := by
    intro  ρ w  hs hf
    refine hK9 _ _ ?_
    unfold adversary_Validate.j1 at hf
    refine W.seqK fun K12 hK12 => ?_
    refine W.region ?_
    refine WL.assign (v := .int .i64 0) rfl ?_
    refine WL.nil ?_
    refine hK12 _ _ ?_
    refine W.ret ?_
    have hr := Option.some.inj hf; subst hr
    exact ⟨_, resOk_one rfl rfl, (), rfl, (hs.mask []).pick []⟩
  refine W.seqK fun K13 hK13 => ?_
  refine W.region ?_
  refine WL.move (v := .slice a2 x1.length c3) rfl ?_
  refine WL.len (v := .slice a2 x1.length c3) rfl (len_slice UN24) ?_
  refine WL.move (v := .int .i64 0) rfl ?_
  refine WL.nil ?_
  refine hK13 _ _ ?_
  refine W.block ?_
  obtain ⟨bs16, hbs16, hfs16⟩ := bindE hf
  refine W.loop hbs16 (fun s ρ w => match s with | x15 => ρ 8 = .slice a2 x1.length c3 ∧ ρ 9 = .int .i64 (x1.length : Int) ∧ ρ 10 = .int .i64 x15 ∧ St ok (bz w0) w [vl (tSlice t_adversary_Rule) x1 (.slice a2 x1.length c3)] []) ⟨rfl, rfl, rfl, (hs.mask []).pick [0]⟩ ?_
  intro x15 ρ w os16 hI hf hbbs16
  obtain ⟨h14_8, h14_9, h14_10, hs⟩ := hI
  unfold adversary_Validate.l1 at hf
  refine W.seqK fun K17 hK17 => ?_
  refine W.region ?_
  refine WL.bin (v := .bool (decide (x15 < (x1.length : Int)))) h14_10 h14_9 (ib_lss _ _ _) ?_
  refine WL.nil ?_
  refine hK17 _ _ ?_
  refine W.seqK fun K18 hK18 => ?_
  rcases iteE hf with ⟨hc19, hf⟩ | ⟨hc19, hf⟩
  {
  refine W.cond_true (bool_tr rfl hc19) ?_
  refine W.skip ?_
  refine hK18 _ _ ?_
  refine W.seqK fun K20 hK20 => ?_
  refine W.block ?_
  refine W.seqK fun K21 hK21 => ?_
  refine W.region ?_
  obtain ⟨x22, hxx22, hf⟩ := bindE hf
  refine WL.indexAddr hs 0 rfl UN24 TI32 h14_8 h14_10 hxx22 (fun ad23 hs => ?_)
  refine WL.loadP hs 0 rfl TI32 (.inl rfl) rfl (fun v24 hs => ?_)
  obtain ⟨cs25, hl26, rfl⟩ := hs.aggv (n := 2) 0 rfl rfl rfl
  refine WL.alloc hs ZV32 (fun g27 w hs => ?_)
  refine WL.storeAll (vs := cs25) hs 0 rfl TI32 rfl rfl rfl hl26 (hs.ones 0 rfl rfl) rfl (fun w hs => ?_)
  refine WL.nil ?_
  refine hK21 _ _ ?_
  refine W.block ?_
  refine W.seqK fun K28 hK28 => ?_
  have Jk31 : ∀ (x30 : Bool) (ρ : Env) (w : World), ρ 4 = .pointer (some ⟨g27, 0, none⟩) → ρ 8 = .slice a2 x1.length c3 → ρ 9 = .int .i64 (x1.length : Int) → ρ 10 = .int .i64 x15 → ρ 14 = .bool x30 → St ok (bz w0) w [vl (tSlice t_adversary_Rule) x1 (.slice a2 x1.length c3), vl t_adversary_Rule x22 (.agg cs25.toArray)] [blk g27 32 cs25] → adversary_Validate.j3 x15 x22 x30 = some os16 → K28 ρ w := by
    intro x30 ρ w h29_4 h29_8 h29_9 h29_10 h29_14 hs hf
    refine hK28 _ _ ?_
    unfold adversary_Validate.j3 at hf
    rcases iteE hf with ⟨hc32, hf⟩ | ⟨hc32, hf⟩
    {
    refine W.cond_true (bool_tr h29_14 hc32) ?_
    refine W.seqK fun K33 hK33 => ?_
    refine W.region ?_
    refine WL.assign (v := .int .i64 10) rfl ?_
    refine WL.nil ?_
    refine hK33 _ _ ?_
    refine W.ret ?_
    have hr := Option.some.inj hf; subst hr
    have hr := hbbs16 _ rfl; subst hr
    have hf := hfs16
    have hr := Option.some.inj hf; subst hr
    exact ⟨_, resOk_one rfl rfl, (), rfl, (hs.mask []).pick []⟩ }
    {
    refine W.cond_false (bool_tr h29_14 hc32) ?_
    refine W.seqK fun K34 hK34 => ?_
    have Jk37 : ∀ (x36 : Bool) (ρ : Env) (w : World), ρ 8 = .slice a2 x1.length c3 → ρ 9 = .int .i64 (x1.length : Int) → ρ 10 = .int .i64 x15 → ρ 23 = .bool x36 → St ok (bz w0) w [vl (tSlice t_adversary_Rule) x1 (.slice a2 x1.length c3)] [] → adversary_Validate.j2 x15 x36 = some os16 → K34 ρ w := by
      intro x36 ρ w h35_8 h35_9 h35_10 h35_23 hs hf
      refine hK34 _ _ ?_
      unfold adversary_Validate.j2 at hf
      rcases iteE hf with ⟨hc38, hf⟩ | ⟨hc38, hf⟩
      {
      refine W.cond_true (bool_tr h35_23 hc38) ?_
      refine W.seqK fun K39 hK39 => ?_
      refine W.region ?_
      refine WL.assign (v := .int .i64 9) rfl ?_
      refine WL.nil ?_
      refine hK39 _ _ ?_
      refine W.ret ?_
      have hr := Option.some.inj hf; subst hr
      have hr := hbbs16 _ rfl; subst hr
      have hf := hfs16
      have hr := Option.some.inj hf; subst hr
      exact ⟨_, resOk_one rfl rfl, (), rfl, (hs.mask []).pick []⟩ }
      {
      refine W.cond_false (bool_tr h35_23 hc38) ?_
      refine W.skip ?_
      refine hK20 _ _ ?_
      refine W.region ?_
      obtain ⟨x40, ex40, hf⟩ := letE hf
      refine WL.bin (v := .int .i64 x40) h35_10 rfl (ib_as ex40 (ib_add _ _ _)) ?_
      refine WL.move (v := .int .i64 x40) rfl ?_
      refine WL.nil ?_
      exact ⟨_, (Option.some.inj hf).symm, h35_8, h35_9, rfl, (hs.mask []).pick [0]⟩ }
    refine W.region ?_
    refine WL.fieldAddr (m := 0) h29_4 FA32_0 rfl ?_
    refine WL.loadF (z := x22.Kind) F_adversary_Rule_Kind hs 0 rfl 1 rfl rfl TI3 (.inr rfl) rfl rfl (fun v41 hs => ?_)
    obtain rfl := hs.int 0 rfl
    refine WL.bin (v := .bool (decide (x22.Kind ≤ 6))) rfl rfl (ib_leq _ _ _) ?_
    refine WL.move (v := .bool (decide (x22.Kind ≤ 6))) rfl ?_
    rcases iteE hf with ⟨hc42, hf⟩ | ⟨hc42, hf⟩
    {
    refine WL.fieldAddr (m := 1) h29_4 FA32_1 rfl ?_ (hg := (wanted_of rfl rfl (bool_tr rfl hc42)).trans rfl)
    refine WL.loadF (z := x22.Arg) F_adversary_Rule_Arg hs 0 rfl 2 rfl rfl TI3 (.inr rfl) rfl rfl (fun v43 hs => ?_) (hg := (wanted_of rfl rfl (bool_tr rfl hc42)).trans rfl)
    obtain rfl := hs.int 0 rfl
    refine WL.bin (v := .bool (decide (x22.Arg < 1))) rfl rfl (ib_lss _ _ _) ?_ (hg := (wanted_of rfl rfl (bool_tr rfl hc42)).trans rfl)
    refine WL.move (v := .bool (decide (x22.Arg < 1))) rfl ?_ (hg := (wanted_of rfl rfl (bool_tr rfl hc42)).trans rfl)
    rcases iteE hf with ⟨hc44, hf⟩ | ⟨hc44, hf⟩
    {
    refine WL.pass ((wanted_of rfl rfl (bool_tr rfl hc44)).trans rfl) rfl ?_
    refine WL.pass ((wanted_of rfl rfl (bool_tr rfl hc44)).trans rfl) rfl ?_
    refine WL.pass ((wanted_of rfl rfl (bool_tr rfl hc44)).trans rfl) rfl ?_
    refine WL.pickT (v := .bool true) (bool_tr rfl hc44) rfl ?_ (hg := (wanted_of rfl rfl (bool_tr rfl hc42)).trans rfl)
    refine WL.pickT (v := .bool true) (bool_tr rfl hc42) rfl ?_
    refine WL.move (v := .bool true) rfl ?_
    refine WL.pass ((wanted_of rfl rfl rfl).trans rfl) rfl ?_
    refine WL.pass ((wanted_of rfl rfl rfl).trans rfl) rfl ?_
    refine WL.pass ((wanted_of rfl rfl rfl).trans rfl) rfl ?_
    refine WL.pass ((wanted_of rfl rfl rfl).trans rfl) rfl ?_
    refine WL.pass (wanted_undef rfl rfl rfl) rfl ?_
    refine WL.pass (wanted_undef rfl rfl rfl) rfl ?_
    refine WL.pass (wanted_undef rfl rfl rfl) rfl ?_
    refine WL.pass ((wanted_of rfl rfl rfl).trans rfl) rfl ?_
    refine WL.pickT (v := .bool true) rfl rfl ?_
    refine WL.assign (v := .bool true) rfl ?_
    refine WL.nil ?_
    exact Jk37 true _ _ h29_8 h29_9 h29_10 rfl ((hs.mask []).pick [2]) hf }
    {
    refine WL.fieldAddr (m := 1) h29_4 FA32_1 rfl ?_ (hg := (wanted_of rfl rfl (bool_tr rfl hc44)).trans rfl)
    refine WL.loadF (z := x22.Arg) F_adversary_Rule_Arg hs 0 rfl 3 rfl rfl TI3 (.inr rfl) rfl rfl (fun v45 hs => ?_) (hg := (wanted_of rfl rfl (bool_tr rfl hc44)).trans rfl)
    obtain rfl := hs.int 0 rfl
    refine WL.bin (v := .bool (decide (1000 < x22.Arg))) rfl rfl (ib_gtr _ _ _) ?_ (hg := (wanted_of rfl rfl (bool_tr rfl hc44)).trans rfl)
    refine WL.pickF (v := .bool (decide (1000 < x22.Arg))) (bool_tr rfl hc44) rfl ?_ (hg := (wanted_of rfl rfl (bool_tr rfl hc42)).trans rfl)
    refine WL.pickT (v := .bool (decide (1000 < x22.Arg))) (bool_tr rfl hc42) rfl ?_
    refine WL.move (v := .bool (decide (1000 < x22.Arg))) rfl ?_
    rcases iteE hf with ⟨hc46, hf⟩ | ⟨hc46, hf⟩
    {
    refine WL.pass ((wanted_of rfl rfl (bool_tr rfl hc46)).trans rfl) rfl ?_
    refine WL.pass ((wanted_of rfl rfl (bool_tr rfl hc46)).trans rfl) rfl ?_
    refine WL.pass ((wanted_of rfl rfl (bool_tr rfl hc46)).trans rfl) rfl ?_
    refine WL.pass ((wanted_of rfl rfl (bool_tr rfl hc46)).trans rfl) rfl ?_
    refine WL.pass (wanted_undef rfl rfl rfl) rfl ?_
    refine WL.pass (wanted_undef rfl rfl rfl) rfl ?_
    refine WL.pass (wanted_undef rfl rfl rfl) rfl ?_
    refine WL.pass ((wanted_of rfl rfl (bool_tr rfl hc46)).trans rfl) rfl ?_
    refine WL.pickT (v := .bool true) (bool_tr rfl hc46) rfl ?_
    refine WL.assign (v := .bool true) rfl ?_
    refine WL.nil ?_
    exact Jk37 true _ _ h29_8 h29_9 h29_10 rfl ((hs.mask []).pick [3]) hf }
    {
    refine WL.fieldAddr (m := 0) h29_4 FA32_0 rfl ?_ (hg := (wanted_of rfl rfl (bool_tr rfl hc46)).trans rfl)
    refine WL.loadF (z := x22.Kind) F_adversary_Rule_Kind hs 0 rfl 4 rfl rfl TI3 (.inr rfl) rfl rfl (fun v47 hs => ?_) (hg := (wanted_of rfl rfl (bool_tr rfl hc46)).trans rfl)
    obtain rfl := hs.int 0 rfl
    refine WL.bin (v := .bool (decide (6 < x22.Kind))) rfl rfl (ib_gtr _ _ _) ?_ (hg := (wanted_of rfl rfl (bool_tr rfl hc46)).trans rfl)
    refine WL.move (v := .bool (decide (6 < x22.Kind))) rfl ?_ (hg := (wanted_of rfl rfl (bool_tr rfl hc46)).trans rfl)
    rcases iteE hf with ⟨hc48, hf⟩ | ⟨hc48, hf⟩
    {
    refine WL.fieldAddr (m := 1) h29_4 FA32_1 rfl ?_ (hg := (wanted_of rfl rfl (bool_tr rfl hc48)).trans rfl)
    refine WL.loadF (z := x22.Arg) F_adversary_Rule_Arg hs 0 rfl 5 rfl rfl TI3 (.inr rfl) rfl rfl (fun v49 hs => ?_) (hg := (wanted_of rfl rfl (bool_tr rfl hc48)).trans rfl)
    obtain rfl := hs.int 0 rfl
    refine WL.bin (v := .bool (x22.Arg != 0)) rfl rfl (ib_neq _ _ _) ?_ (hg := (wanted_of rfl rfl (bool_tr rfl hc48)).trans rfl)
    refine WL.pickT (v := .bool (x22.Arg != 0)) (bool_tr rfl hc48) rfl ?_ (hg := (wanted_of rfl rfl (bool_tr rfl hc46)).trans rfl)
    refine WL.pickF (v := .bool (x22.Arg != 0)) (bool_tr rfl hc46) rfl ?_
    refine WL.assign (v := .bool (x22.Arg != 0)) rfl ?_
    refine WL.nil ?_
    exact Jk37 (x22.Arg != 0) _ _ h29_8 h29_9 h29_10 rfl ((hs.mask []).pick [5]) hf }
    {
    refine WL.pass ((wanted_of rfl rfl (bool_tr rfl hc48)).trans rfl) rfl ?_
    refine WL.pass ((wanted_of rfl rfl (bool_tr rfl hc48)).trans rfl) rfl ?_
    refine WL.pass ((wanted_of rfl rfl (bool_tr rfl hc48)).trans rfl) rfl ?_
    refine WL.pickF (v := .bool false) (bool_tr rfl hc48) rfl ?_ (hg := (wanted_of rfl rfl (bool_tr rfl hc46)).trans rfl)
    refine WL.pickF (v := .bool false) (bool_tr rfl hc46) rfl ?_
    refine WL.assign (v := .bool false) rfl ?_
    refine WL.nil ?_
    exact Jk37 false _ _ h29_8 h29_9 h29_10 rfl ((hs.mask []).pick [4]) hf } } } }
    {
    refine WL.pass ((wanted_of rfl rfl (bool_tr rfl hc42)).trans rfl) rfl ?_
    refine WL.pass ((wanted_of rfl rfl (bool_tr rfl hc42)).trans rfl) rfl ?_
    refine WL.pass ((wanted_of rfl rfl (bool_tr rfl hc42)).trans rfl) rfl ?_
    refine WL.pass ((wanted_of rfl rfl (bool_tr rfl hc42)).trans rfl) rfl ?_
    refine WL.pass (wanted_undef rfl rfl rfl) rfl ?_
    refine WL.pass (wanted_undef rfl rfl rfl) rfl ?_
    refine WL.pass (wanted_undef rfl rfl rfl) rfl ?_
    refine WL.pass ((wanted_of rfl rfl (bool_tr rfl hc42)).trans rfl) rfl ?_
    refine WL.pickF (v := .bool false) (bool_tr rfl hc42) rfl ?_
    refine WL.move (v := .bool false) rfl ?_
    refine WL.fieldAddr (m := 0) h29_4 FA32_0 rfl ?_ (hg := (wanted_of rfl rfl rfl).trans rfl)
    refine WL.loadF (z := x22.Kind) F_adversary_Rule_Kind hs 0 rfl 2 rfl rfl TI3 (.inr rfl) rfl rfl (fun v50 hs => ?_) (hg := (wanted_of rfl rfl rfl).trans rfl)
    obtain rfl := hs.int 0 rfl
    refine WL.bin (v := .bool (decide (6 < x22.Kind))) rfl rfl (ib_gtr _ _ _) ?_ (hg := (wanted_of rfl rfl rfl).trans rfl)
    refine WL.move (v := .bool (decide (6 < x22.Kind))) rfl ?_ (hg := (wanted_of rfl rfl rfl).trans rfl)
    rcases iteE hf with ⟨hc51, hf⟩ | ⟨hc51, hf⟩
    {
    refine WL.fieldAddr (m := 1) h29_4 FA32_1 rfl ?_ (hg := (wanted_of rfl rfl (bool_tr rfl hc51)).trans rfl)
    refine WL.loadF (z := x22.Arg) F_adversary_Rule_Arg hs 0 rfl 3 rfl rfl TI3 (.inr rfl) rfl rfl (fun v52 hs => ?_) (hg := (wanted_of rfl rfl (bool_tr rfl hc51)).trans rfl)
    obtain rfl := hs.int 0 rfl
    refine WL.bin (v := .bool (x22.Arg != 0)) rfl rfl (ib_neq _ _ _) ?_ (hg := (wanted_of rfl rfl (bool_tr rfl hc51)).trans rfl)
    refine WL.pickT (v := .bool (x22.Arg != 0)) (bool_tr rfl hc51) rfl ?_ (hg := (wanted_of rfl rfl rfl).trans rfl)
    refine WL.pickF (v := .bool (x22.Arg != 0)) rfl rfl ?_
    refine WL.assign (v := .bool (x22.Arg != 0)) rfl ?_
    refine WL.nil ?_
    exact Jk37 (x22.Arg != 0) _ _ h29_8 h29_9 h29_10 rfl ((hs.mask []).pick [3]) hf }
    {
    refine WL.pass ((wanted_of rfl rfl (bool_tr rfl hc51)).trans rfl) rfl ?_
    refine WL.pass ((wanted_of rfl rfl (bool_tr rfl hc51)).trans rfl) rfl ?_
    refine WL.pass ((wanted_of rfl rfl (bool_tr rfl hc51)).trans rfl) rfl ?_
    refine WL.pickF (v := .bool false) (bool_tr rfl hc51) rfl ?_ (hg := (wanted_of rfl rfl rfl).trans rfl)
    refine WL.pickF (v := .bool false) rfl rfl ?_
    refine WL.assign (v := .bool false) rfl ?_
    refine WL.nil ?_
    exact Jk37 false _ _ h29_8 h29_9 h29_10 rfl ((hs.mask []).pick [2]) hf } } }
  refine W.region ?_
  refine WL.fieldAddr (m := 0) rfl FA32_0 rfl ?_
  refine WL.loadF (z := x22.Kind) F_adversary_Rule_Kind hs 0 rfl 0 rfl rfl TI3 (.inr rfl) rfl rfl (fun v53 hs => ?_)
  obtain rfl := hs.int 0 rfl
  refine WL.bin (v := .bool (decide (x22.Kind < 1))) rfl rfl (ib_lss _ _ _) ?_
  refine WL.move (v := .bool (decide (x22.Kind < 1))) rfl ?_
  rcases iteE hf with ⟨hc54, hf⟩ | ⟨hc54, hf⟩
  {
  refine WL.pass ((wanted_of rfl rfl (bool_tr rfl hc54)).trans rfl) rfl ?_
  refine WL.pass ((wanted_of rfl rfl (bool_tr rfl hc54)).trans rfl) rfl ?_
  refine WL.pass ((wanted_of rfl rfl (bool_tr rfl hc54)).trans rfl) rfl ?_
  refine WL.pickT (v := .bool true) (bool_tr rfl hc54) rfl ?_
  refine WL.assign (v := .bool true) rfl ?_
  refine WL.nil ?_
  exact Jk31 true _ _ rfl h14_8 h14_9 h14_10 rfl ((hs.mask [true]).pick [3, 1]) hf }
  {
  refine WL.fieldAddr (m := 0) rfl FA32_0 rfl ?_ (hg := (wanted_of rfl rfl (bool_tr rfl hc54)).trans rfl)
  refine WL.loadF (z := x22.Kind) F_adversary_Rule_Kind hs 0 rfl 1 rfl rfl TI3 (.inr rfl) rfl rfl (fun v55 hs => ?_) (hg := (wanted_of rfl rfl (bool_tr rfl hc54)).trans rfl)
  obtain rfl := hs.int 0 rfl
  refine WL.bin (v := .bool (decide (9 < x22.Kind))) rfl rfl (ib_gtr _ _ _) ?_ (hg := (wanted_of rfl rfl (bool_tr rfl hc54)).trans rfl)
  refine WL.pickF (v := .bool (decide (9 < x22.Kind))) (bool_tr rfl hc54) rfl ?_
  refine WL.assign (v := .bool (decide (9 < x22.Kind))) rfl ?_
  refine WL.nil ?_
  exact Jk31 (decide (9 < x22.Kind)) _ _ rfl h14_8 h14_9 h14_10 rfl ((hs.mask [true]).pick [4, 2]) hf } }
  {
  refine W.cond_false (bool_tr rfl hc19) ?_
  refine W.exit ?_
  have hr := Option.some.inj hf; subst hr
  have hr := hbbs16 _ rfl; subst hr
  have hf := hfs16
  exact Jk11  _ _  ((hs.mask []).pick []) hf } }
end Go.Proofs.YthcohhpmpdijoaaDoor
set_option linter.unusedVariables false
set_option linter.unusedSimpArgs false
namespace Go.Proofs.YthcohhpmpdijoaaDoor
open Go Go.RowKit Go.Proofs.YthcohhpmpdijoaaDoorL
set_option maxRecDepth 100000
set_option maxHeartbeats 4000000
theorem adversary_Format.calls {ok : Nat → Prop} {w0 : World} {x1 : List adversary_Rule} {a2 : Option Addr} {c3 : Nat} {r : List UInt8} (hf : adversary_Format x1 = some r) (i0 : (vl (tSlice t_adversary_Rule) x1 (.slice a2 x1.length c3)).holds ok w0) (i1 : (pl (tSlice tStr) words_ (⟨0, 0, none⟩)).holds ok w0) (i2 : (vl (tTab Tryd.prog "internal/strconv.uint64pow10" 1 GN1 Go.Lib.pow10Tab) () (.int .i64 0)).holds ok w0) :
    Calls Tryd.prog 6 #[.slice a2 x1.length c3] w0 fun e w' => ∃ v, e = .returned v ∧ ∃ y : Unit, v = bstr r ∧ St ok (bz w0) w' [] [] := by
  unfold adversary_Format at hf
  refine calls_of_W (fn := Tryd.f6) (N := 37) Tryd.func6 rfl Tryd.ntmps6 rfl ?_
  have hs : St ok (bz w0) w0 [vl (tSlice t_adversary_Rule) x1 (.slice a2 x1.length c3), pl (tSlice tStr) words_ (⟨0, 0, none⟩), vl (tTab Tryd.prog "internal/strconv.uint64pow10" 1 GN1 Go.Lib.pow10Tab) () (.int .i64 0)] [] := St.init (All.cons i0 (All.cons i1 (All.cons i2 All.nil)))
  clear i0 i1 i2
  refine W.seqK fun K4 hK4 => ?_
  refine W.region ?_
  refine WL.assign (v := bstr ([] : List UInt8)) rfl ?_
  refine WL.nil ?_
  refine hK4 _ _ ?_
  refine W.seqK fun K5 hK5 => ?_
  refine W.seqK fun K6 hK6 => ?_
  refine W.region ?_
  refine WL.move (v := .slice a2 x1.length c3) rfl ?_
  obtain ⟨x7, hxx7, hf⟩ := bindE hf
  refine WL.call (vs := [.slice a2 x1.length c3]) hs FN17 ⟨rfl, trivial⟩ (fun ok hA => adversary_Validate.calls (x1 := x1) hxx7 (hA.get 0 rfl)) ?_
  rintro _ w hs
  refine WL.bin (v := .bool (x7 != 0)) rfl rfl (ib_neq _ _ _) ?_
  refine WL.nil ?_
  refine hK6 _ _ ?_
  rcases iteE hf with ⟨hc8, hf⟩ | ⟨hc8, hf⟩
  {
  refine W.cond_true (bool_tr rfl hc8) ?_
  refine W.seqK fun K9 hK9 => ?_
  refine W.region ?_
  refine WL.assign (v := bstr ([] : List UInt8)) rfl ?_
  refine WL.nil ?_
  refine hK9 _ _ ?_
  refine W.ret ?_
  have hr := Option.some.inj hf; subst hr
  exact ⟨_, resOk_one rfl rfl, (), rfl, (hs.mask []).pick []⟩ }
  {
  refine W.cond_false (bool_tr rfl hc8) ?_
  refine W.skip ?_
  refine hK5 _ _ ?_
  refine W.seqK fun K10 hK10 => ?_
  refine W.region ?_
  refine WL.assign (v := .slice none 0 0) rfl ?_
  refine WL.nil ?_
  refine hK10 _ _ ?_
  refine W.seqK fun K11 hK11 => ?_
  have hs := hs.ownNil tStr 9
  have Jk17 : ∀ (x13 : List (List UInt8)) (a14 : Option Addr) (c15 : Nat) (n16 : Nat) (ρ : Env) (w : World), ρ 3 = .slice a14 n16 c15 → St ok (bz w0) w [pl (tSlice tStr) words_ (⟨0, 0, none⟩), vl (tTab Tryd.prog "internal/strconv.uint64pow10" 1 GN1 Go.Lib.pow10Tab) () (.int .i64 0)] [own tStr 9 (.slice a14 n16 c15) x13] → adversary_Format.j1 x13 = some r → K11 ρ w := by
    intro x13 a14 c15 n16 ρ w h12_3 hs hf
    refine hK11 _ _ ?_
    unfold adversary_Format.j1 at hf
    refine W.seqK fun K18 hK18 => ?_
    refine W.region ?_
    refine WL.move (v := .slice a14 n16 c15) h12_3 ?_
    obtain ⟨x19, hxx19, hf⟩ := bindE hf
    refine WL.callL (vs := [.slice a14 x13.length c15, bstr ([59, 32] : List UInt8)]) hs FN19 ⟨(Eq.trans rfl (sl_len (hs.ownLen 0 rfl))), ⟨rfl, trivial⟩⟩ (strings_Join.calls (x1 := x13) (x2 := ([59, 32] : List UInt8)) hxx19 (hs.ownN 0 rfl)) ?_
    rintro _ w hs
    refine WL.assign (v := bstr x19) rfl ?_
    refine WL.nil ?_
    refine hK18 _ _ ?_
    refine W.ret ?_
    have hr := Option.some.inj hf; subst hr
    exact ⟨_, resOk_one rfl rfl, (), rfl, (hs.mask []).pick []⟩
  refine W.seqK fun K20 hK20 => ?_
  refine W.region ?_
  refine WL.move (v := .slice a2 x1.length c3) rfl ?_
  refine WL.len (v := .slice a2 x1.length c3) rfl (len_slice UN24) ?_
  refine WL.move (v := .int .i64 0) rfl ?_
  refine WL.nil ?_
  refine hK20 _ _ ?_
  refine W.block ?_
  obtain ⟨bs27, hbs27, hfs27⟩ := bindE hf
  refine W.loop hbs27 (fun s ρ w => match s with | (x22, x26) => ∃ (a23 : Option Addr), ∃ (c24 : Nat), ∃ (n25 : Nat), ρ 3 = .slice a23 n25 c24 ∧ ρ 10 = .slice a2 x1.length c3 ∧ ρ 11 = .int .i64 (x1.length : Int) ∧ ρ 12 = .int .i64 x26 ∧ St ok (bz w0) w [vl (tSlice t_adversary_Rule) x1 (.slice a2 x1.length c3), pl (tSlice tStr) words_ (⟨0, 0, none⟩), vl (tTab Tryd.prog "internal/strconv.uint64pow10" 1 GN1 Go.Lib.pow10Tab) () (.int .i64 0)] [own tStr 9 (.slice a23 n25 c24) x22]) ⟨none, 0, 0, rfl, rfl, rfl, rfl, (hs.mask [true]).pick [0, 1, 2]⟩ ?_
  intro s ρ w os27 hI hf hbbs27
  obtain ⟨x22, x26⟩ := s
  obtain ⟨a23, c24, n25, h21_3, h21_10, h21_11, h21_12, hs⟩ := hI
  unfold adversary_Format.l1 at hf
  refine W.seqK fun K28 hK28 => ?_
  refine W.region ?_
  refine WL.bin (v := .bool (decide (x26 < (x1.length : Int)))) h21_12 h21_11 (ib_lss _ _ _) ?_
  refine WL.nil ?_
  refine hK28 _ _ ?_
  refine W.seqK fun K29 hK29 => ?_
  rcases iteE hf with ⟨hc30, hf⟩ | ⟨hc30, hf⟩
  {
  refine W.cond_true (bool_tr rfl hc30) ?_
  refine W.skip ?_
  refine hK29 _ _ ?_
  refine W.seqK fun K31 hK31 => ?_
  refine W.block ?_
  refine W.seqK fun K32 hK32 => ?_
  refine W.region ?_
  obtain ⟨x33, hxx33, hf⟩ := bindE hf
  refine WL.indexAddr hs 0 rfl UN24 TI32 h21_10 h21_12 hxx33 (fun ad34 hs => ?_)
  refine WL.loadP hs 0 rfl TI32 (.inl rfl) rfl (fun v35 hs => ?_)
  obtain ⟨cs36, hl37, rfl⟩ := hs.aggv (n := 2) 0 rfl rfl rfl
  refine WL.alloc hs ZV32 (fun g38 w hs => ?_)
  refine WL.storeAll (vs := cs36) hs 0 rfl TI32 rfl rfl rfl hl37 (hs.ones 0 rfl rfl) rfl (fun w hs => ?_)
  refine WL.nil ?_
  refine hK32 _ _ ?_
  refine W.seqK fun K39 hK39 => ?_
  refine W.region ?_
  refine WL.loadP hs 3 rfl TI34 (.inr rfl) rfl (fun v40 hs => ?_)
  obtain ⟨a41, c42, rfl⟩ := hs.slice 0 rfl
  refine WL.fieldAddr (m := 0) rfl FA32_0 rfl ?_
  refine WL.loadF (z := x33.Kind) F_adversary_Rule_Kind hs 0 rfl 1 rfl rfl TI3 (.inr rfl) rfl rfl (fun v43 hs => ?_)
  obtain rfl := hs.int 0 rfl
  obtain ⟨x44, hxx44, hf⟩ := bindE hf
  refine WL.indexAddr hs 1 rfl UN34 TI9 rfl rfl hxx44 (fun ad45 hs => ?_)
  refine WL.loadP hs 0 rfl TI9 (.inr rfl) rfl (fun v46 hs => ?_)
  obtain rfl := hs.str 0 rfl
  refine WL.assign (v := bstr x44) rfl ?_
  refine WL.nil ?_
  refine hK39 _ _ ?_
  refine W.seqK fun K47 hK47 => ?_
  have Jk50 : ∀ (x49 : List UInt8) (ρ : Env) (w : World), ρ 3 = .slice a23 n25 c24 → ρ 6 = bstr x49 → ρ 10 = .slice a2 x1.length c3 → ρ 11 = .int .i64 (x1.length : Int) → ρ 12 = .int .i64 x26 → St ok (bz w0) w [vl (tSlice t_adversary_Rule) x1 (.slice a2 x1.length c3), pl (tSlice tStr) words_ (⟨0, 0, none⟩), vl (tTab Tryd.prog "internal/strconv.uint64pow10" 1 GN1 Go.Lib.pow10Tab) () (.int .i64 0)] [own tStr 9 (.slice a23 n25 c24) x22] → adversary_Format.j2 x22 x26 x49 = some os27 → K47 ρ w := by
    intro x49 ρ w h48_3 h48_6 h48_10 h48_11 h48_12 hs hf
    refine hK47 _ _ ?_
    unfold adversary_Format.j2 at hf
    refine W.region ?_
    refine WL.move (v := .slice a23 n25 c24) h48_3 ?_
    refine WL.move (v := bstr x49) h48_6 ?_
    refine WL.buildSlice (n := 1) (vs := [(0, bstr x49)]) (cs := [bstr x49]) hs ⟨⟨rfl, rfl⟩, trivial⟩ (bls PS34 (by decide) rfl) (fun g51 w hs => ?_)
    obtain ⟨x52, hxx52, hf⟩ := bindE hf
    obtain ⟨hbx52, hex52⟩ := appE hxx52
    refine WL.append (ys := [x49]) (zs := x52) hs 1 rfl 0 rfl UN34 EI9 rfl rfl (fun ok hA => (Cells.one (T := tStr) rfl)) hbx52 (by omega) hex52 (fun v53 w hs => ?_)
    obtain ⟨a54, n56, c55, rfl⟩ := hs.ownv3 1 rfl
    refine WL.assign (v := .slice a54 n56 c55) rfl ?_
    refine WL.nil ?_
    refine hK31 _ _ ?_
    refine W.region ?_
    obtain ⟨x57, ex57, hf⟩ := letE hf
    refine WL.bin (v := .int .i64 x57) h48_12 rfl (ib_as ex57 (ib_add _ _ _)) ?_
    refine WL.move (v := .int .i64 x57) rfl ?_
    refine WL.nil ?_
    exact ⟨_, (Option.some.inj hf).symm, a54, c55, n56, rfl, h48_10, h48_11, rfl, (hs.mask [false, true]).pick [0, 1, 2]⟩
  refine W.seqK fun K58 hK58 => ?_
  refine W.region ?_
  refine WL.fieldAddr (m := 0) rfl FA32_0 rfl ?_
  refine WL.loadF (z := x33.Kind) F_adversary_Rule_Kind hs 0 rfl 4 rfl rfl TI3 (.inr rfl) rfl rfl (fun v59 hs => ?_)
  obtain rfl := hs.int 0 rfl
  refine WL.bin (v := .bool (decide (x33.Kind ≤ 6))) rfl rfl (ib_leq _ _ _) ?_
  refine WL.nil ?_
  refine hK58 _ _ ?_
  rcases iteE hf with ⟨hc60, hf⟩ | ⟨hc60, hf⟩
  {
  refine W.cond_true (bool_tr rfl hc60) ?_
  refine W.region ?_
  refine WL.move (v := bstr x44) rfl ?_
  refine WL.fieldAddr (m := 1) rfl FA32_1 rfl ?_
  refine WL.loadF (z := x33.Arg) F_adversary_Rule_Arg hs 0 rfl 5 rfl rfl TI3 (.inr rfl) rfl rfl (fun v61 hs => ?_)
  obtain rfl := hs.int 0 rfl
  obtain ⟨x62, hxx62, hf⟩ := bindE hf
  refine WL.call (vs := [.int .i64 x33.Arg]) hs FN18 ⟨rfl, trivial⟩ (fun ok hA => strconv_Itoa.calls (x1 := x33.Arg) hxx62 (hA.get 10 rfl)) ?_
  rintro _ w hs
  obtain ⟨x63, hxx63, hf⟩ := bindE hf
  refine WL.binS (v := bstr x63) rfl rfl (sb_cat hxx63) ?_
  obtain ⟨x64, hxx64, hf⟩ := bindE hf
  refine WL.binS (v := bstr x64) rfl rfl (sb_cat hxx64) ?_
  refine WL.assign (v := bstr x64) rfl ?_
  refine WL.nil ?_
  exact Jk50 x64 _ _ h21_3 rfl h21_10 h21_11 h21_12 ((hs.mask [false, true]).pick [8, 9, 10]) hf }
  {
  refine W.cond_false (bool_tr rfl hc60) ?_
  refine W.skip ?_
  exact Jk50 x44 _ _ h21_3 rfl h21_10 h21_11 h21_12 ((hs.mask [false, true]).pick [7, 8, 9]) hf } }
  {
  refine W.cond_false (bool_tr rfl hc30) ?_
  refine W.exit ?_
  have hr := Option.some.inj hf; subst hr
  have hr := hbbs27 _ rfl; subst hr
  have hf := hfs27
  exact Jk17 x22 a23 c24 n25 _ _ h21_3 ((hs.mask [true]).pick [1, 2]) hf } }
theorem adversary_Parse.calls {ok : Nat → Prop} {w0 : World} {x1 : List UInt8} {mxl : Int} {r : (List adversary_Rule) × Int} (hf : adversary_Parse x1 = some r) (i0 : (pl (tSlice tStr) words_ (⟨0, 0, none⟩)).holds ok w0) (i1 : (vl (tTab Tryd.prog "internal/strconv.uint64pow10" 1 GN1 Go.Lib.pow10Tab) () (.int .i64 0)).holds ok w0) (i2 : (pl (tInt .i64) mxl (⟨2, 0, none⟩)).holds ok w0) (i3 : (pl tErr true (⟨3, 0, none⟩)).holds ok w0) (i4 : (pl tErr true (⟨4, 0, none⟩)).holds ok w0) :
    Calls Tryd.prog 9 #[bstr x1] w0 fun e w' => ∃ v, e = .returned v ∧ ∃ y : (Option Addr × Nat × Nat), v = .tuple #[.slice y.1 y.2.1 y.2.2, .int .i64 r.2] ∧ St ok (bz w0) w' [] [own t_adversary_Rule 32 (.slice y.1 y.2.1 y.2.2) r.1] := by
  unfold adversary_Parse at hf
  refine calls_of_W (fn := Tryd.f9) (N := 27) Tryd.func9 rfl Tryd.ntmps9 rfl ?_
  have hs : St ok (bz w0) w0 [pl (tSlice tStr) words_ (⟨0, 0, none⟩), vl (tTab Tryd.prog "internal/strconv.uint64pow10" 1 GN1 Go.Lib.pow10Tab) () (.int .i64 0), pl (tInt .i64) mxl (⟨2, 0, none⟩), pl tErr true (⟨3, 0, none⟩), pl tErr true (⟨4, 0, none⟩)] [] := St.init (All.cons i0 (All.cons i1 (All.cons i2 (All.cons i3 (All.cons i4 All.nil)))))
  clear i0 i1 i2 i3 i4
  refine W.seqK fun K2 hK2 => ?_
  refine W.region ?_
  refine WL.assign (v := .slice none 0 0) rfl ?_
  refine WL.assign (v := .int .i64 0) rfl ?_
  refine WL.nil ?_
  refine hK2 _ _ ?_
  refine W.seqK fun K3 hK3 => ?_
  refine W.seqK fun K4 hK4 => ?_
  refine W.region ?_
  refine WL.move (v := bstr x1) rfl ?_
  refine WL.binS (v := .bool (x1 == ([] : List UInt8))) rfl rfl (sb_eql _ _) ?_
  refine WL.nil ?_
  refine hK4 _ _ ?_
  rcases iteE hf with ⟨hc5, hf⟩ | ⟨hc5, hf⟩
  {
  refine W.cond_true (bool_tr rfl hc5) ?_
  refine W.seqK fun K6 hK6 => ?_
  refine W.region ?_
  refine WL.assign (v := .slice none 0 0) rfl ?_
  refine WL.assign (v := .int .i64 0) rfl ?_
  refine WL.nil ?_
  refine hK6 _ _ ?_
  refine W.ret ?_
  have hr := Option.some.inj hf; subst hr
  have hs := hs.ownNil t_adversary_Rule 32
  exact ⟨_, resOk_two rfl rfl rfl, (none, 0, 0), rfl, (hs.mask [true]).pick []⟩ }
  {
  refine W.cond_false (bool_tr rfl hc5) ?_
  refine W.skip ?_
  refine hK3 _ _ ?_
  refine W.seqK fun K7 hK7 => ?_
  refine W.region ?_
  refine WL.assign (v := .slice none 0 0) rfl ?_
  refine WL.nil ?_
  refine hK7 _ _ ?_
  refine W.seqK fun K8 hK8 => ?_
  have hs := hs.ownNil t_adversary_Rule 32
  have Jk14 : ∀ (x10 : List adversary_Rule) (a11 : Option Addr) (c12 : Nat) (n13 : Nat) (ρ : Env) (w : World), ρ 0 = bstr x1 → ρ 4 = .slice a11 n13 c12 → St ok (bz w0) w [pl (tSlice tStr) words_ (⟨0, 0, none⟩), vl (tTab Tryd.prog "internal/strconv.uint64pow10" 1 GN1 Go.Lib.pow10Tab) () (.int .i64 0), pl (tInt .i64) mxl (⟨2, 0, none⟩), pl tErr true (⟨3, 0, none⟩), pl tErr true (⟨4, 0, none⟩)] [own t_adversary_Rule 32 (.slice a11 n13 c12) x10] → adversary_Parse.j1 x1 x10 = some r → K8 ρ w := by
    intro x10 a11 c12 n13 ρ w h9_0 h9_4 hs hf
    refine hK8 _ _ ?_
    unfold adversary_Parse.j1 at hf
    refine W.seqK fun K15 hK15 => ?_
    refine W.seqK fun K16 hK16 => ?_
    refine W.region ?_
    refine WL.move (v := .slice a11 n13 c12) h9_4 ?_
    obtain ⟨x17, hxx17, hf⟩ := bindE hf
    refine WL.callL (vs := [.slice a11 x10.length c12]) hs FN6 ⟨(Eq.trans rfl (sl_len (hs.ownLen 0 rfl))), trivial⟩ (adversary_Format.calls (x1 := x10) hxx17 (hs.ownN 0 rfl) (hs.allT.get 0 rfl) (hs.allT.get 1 rfl)) ?_
    rintro _ w hs
    refine WL.move (v := bstr x1) h9_0 ?_
    refine WL.binS (v := .bool (x17 != x1)) rfl rfl (sb_neq _ _) ?_
    refine WL.nil ?_
    refine hK16 _ _ ?_
    rcases iteE hf with ⟨hc18, hf⟩ | ⟨hc18, hf⟩
    {
    refine W.cond_true (bool_tr rfl hc18) ?_
    refine W.seqK fun K19 hK19 => ?_
    refine W.region ?_
    refine WL.assign (v := .slice none 0 0) rfl ?_
    refine WL.assign (v := .int .i64 11) rfl ?_
    refine WL.nil ?_
    refine hK19 _ _ ?_
    refine W.ret ?_
    have hr := Option.some.inj hf; subst hr
    have hs := hs.ownNil t_adversary_Rule 32
    exact ⟨_, resOk_two rfl rfl rfl, (none, 0, 0), rfl, (hs.mask [true]).pick []⟩ }
    {
    refine W.cond_false (bool_tr rfl hc18) ?_
    refine W.skip ?_
    refine hK15 _ _ ?_
    refine W.seqK fun K20 hK20 => ?_
    refine W.region ?_
    refine WL.move (v := .slice a11 n13 c12) h9_4 ?_
    refine WL.assign (v := .slice a11 n13 c12) rfl ?_
    refine WL.assign (v := .int .i64 0) rfl ?_
    refine WL.nil ?_
    refine hK20 _ _ ?_
    refine W.ret ?_
    have hr := Option.some.inj hf; subst hr
    exact ⟨_, resOk_two rfl rfl rfl, (a11, n13, c12), rfl, (hs.mask [true]).pick []⟩ }
  refine W.seqK fun K21 hK21 => ?_
  refine W.region ?_
  refine WL.move (v := bstr x1) rfl ?_
  obtain ⟨x22, hxx22, hf⟩ := bindE hf
  refine WL.call (vs := [bstr x1, bstr ([59, 32] : List UInt8)]) hs FN21 ⟨rfl, ⟨rfl, trivial⟩⟩ (fun ok hA => strings_Split.calls (x1 := x1) (x2 := ([59, 32] : List UInt8)) hxx22 (hA.get 2 rfl)) ?_
  rintro ⟨a23, c24⟩ w hs
  refine WL.len (v := .slice a23 x22.length c24) rfl (len_slice UN34) ?_
  refine WL.move (v := .int .i64 0) rfl ?_
  refine WL.nil ?_
  refine hK21 _ _ ?_
  refine W.block ?_
  obtain ⟨bs31, hbs31, hfs31⟩ := bindE hf
  refine W.loop hbs31 (fun s ρ w => match s with | (x26, x30) => ∃ (a27 : Option Addr), ∃ (c28 : Nat), ∃ (n29 : Nat), ρ 0 = bstr x1 ∧ ρ 4 = .slice a27 n29 c28 ∧ ρ 10 = .slice a23 x22.length c24 ∧ ρ 11 = .int .i64 (x22.length : Int) ∧ ρ 12 = .int .i64 x30 ∧ St ok (bz w0) w [vl (tSlice tStr) x22 (.slice a23 x22.length c24), pl (tSlice tStr) words_ (⟨0, 0, none⟩), vl (tTab Tryd.prog "internal/strconv.uint64pow10" 1 GN1 Go.Lib.pow10Tab) () (.int .i64 0), pl (tInt .i64) mxl (⟨2, 0, none⟩), pl tErr true (⟨3, 0, none⟩), pl tErr true (⟨4, 0, none⟩)] [own t_adversary_Rule 32 (.slice a27 n29 c28) x26]) ⟨none, 0, 0, rfl, rfl, rfl, rfl, rfl, (hs.mask [true]).pick [0, 1, 2, 3, 4, 5]⟩ ?_
  intro s ρ w os31 hI hf hbbs31
  obtain ⟨x26, x30⟩ := s
  obtain ⟨a27, c28, n29, h25_0, h25_4, h25_10, h25_11, h25_12, hs⟩ := hI
  unfold adversary_Parse.l1 at hf
  refine W.seqK fun K32 hK32 => ?_
  refine W.region ?_
  refine WL.bin (v := .bool (decide (x30 < (x22.length : Int)))) h25_12 h25_11 (ib_lss _ _ _) ?_
  refine WL.nil ?_
  refine hK32 _ _ ?_
  refine W.seqK fun K33 hK33 => ?_
  rcases iteE hf with ⟨hc34, hf⟩ | ⟨hc34, hf⟩
  {
  refine W.cond_true (bool_tr rfl hc34) ?_
  refine W.skip ?_
  refine hK33 _ _ ?_
  refine W.seqK fun K35 hK35 => ?_
  refine W.block ?_
  refine W.seqK fun K36 hK36 => ?_
  refine W.region ?_
  obtain ⟨x37, hxx37, hf⟩ := bindE hf
  refine WL.indexAddr hs 0 rfl UN34 TI9 h25_10 h25_12 hxx37 (fun ad38 hs => ?_)
  refine WL.loadP hs 0 rfl TI9 (.inr rfl) rfl (fun v39 hs => ?_)
  obtain rfl := hs.str 0 rfl
  refine WL.assign (v := bstr x37) rfl ?_
  refine WL.nil ?_
  refine hK36 _ _ ?_
  refine W.region ?_
  refine WL.move (v := .slice a27 n29 c28) h25_4 ?_
  refine WL.move (v := bstr x37) rfl ?_
  obtain ⟨x40, hxx40, hf⟩ := bindE hf
  refine WL.call (vs := [bstr x37]) hs FN22 ⟨rfl, trivial⟩ (fun ok hA => adversary_parseRule.calls (x1 := x37) hxx40 (hA.get 3 rfl) (hA.get 6 rfl) (hA.get 7 rfl)) ?_
  rintro cs41 w hs
  have hl42 := hs.agglen (n := 2) 0 rfl rfl rfl
  refine WL.buildSlice (n := 1) (vs := [(0, .agg cs41.toArray)]) (cs := cs41) hs ⟨⟨rfl, rfl⟩, trivial⟩ (bls PS24 (by decide) (by simp [fillS, fillL, Value.cells, hl42])) (fun g43 w hs => ?_)
  obtain ⟨x44, hxx44, hf⟩ := bindE hf
  obtain ⟨hbx44, hex44⟩ := appE hxx44
  refine WL.append (ys := [x40]) (zs := x44) hs 1 rfl 0 rfl UN24 EI32 rfl rfl (fun ok hA => (Cells.one (T := t_adversary_Rule) (R_agg (hA.get 0 rfl) rfl))) hbx44 (by omega) hex44 (fun v45 w hs => ?_)
  obtain ⟨a46, n48, c47, rfl⟩ := hs.ownv3 1 rfl
  refine WL.assign (v := .slice a46 n48 c47) rfl ?_
  refine WL.nil ?_
  refine hK35 _ _ ?_
  refine W.region ?_
  obtain ⟨x49, ex49, hf⟩ := letE hf
  refine WL.bin (v := .int .i64 x49) h25_12 rfl (ib_as ex49 (ib_add _ _ _)) ?_
  refine WL.move (v := .int .i64 x49) rfl ?_
  refine WL.nil ?_
  exact ⟨_, (Option.some.inj hf).symm, a46, c47, n48, h25_0, rfl, h25_10, h25_11, rfl, (hs.mask [false, true]).pick [3, 4, 5, 6, 7, 8]⟩ }
  {
  refine W.cond_false (bool_tr rfl hc34) ?_
  refine W.exit ?_
  have hr := Option.some.inj hf; subst hr
  have hr := hbbs31 _ rfl; subst hr
  have hf := hfs31
  exact Jk14 x26 a27 c28 n29 _ _ h25_0 h25_4 ((hs.mask [true]).pick [1, 2, 3, 4, 5]) hf } }
theorem network_side.calls {ok : Nat → Prop} {w0 : World} {x1 : network_Network} {x5 : Int} {v2 : Value} {r : Int} (hf : network_side x1 x5 = some r) (i0 : (vl t_network_Network x1 v2).holds ok w0) :
    Calls Tryd.prog 54 #[v2, .int .i64 x5] w0 fun e w' => ∃ v, e = .returned v ∧ ∃ y : Unit, v = .int .i64 r ∧ St ok (bz w0) w' [] [] := by
  unfold network_side at hf
  refine calls_of_W (fn := Tryd.f54) (N := 21) Tryd.func54 rfl Tryd.ntmps54 rfl ?_
  have hs : St ok (bz w0) w0 [vl t_network_Network x1 v2] [] := St.init (All.cons i0 All.nil)
  clear i0
  obtain ⟨cs3, hl4, rfl⟩ := hs.aggv (n := 3) 0 rfl rfl rfl
  refine W.seqK fun K6 hK6 => ?_
  refine W.region ?_
  refine WL.box (vs := cs3) hs rfl rfl (fun g7 w hs => ?_)
  refine WL.assign (v := .int .i64 0) rfl ?_
  refine WL.nil ?_
  refine hK6 _ _ ?_
  refine W.seqK fun K8 hK8 => ?_
  have Jk10 : ∀  (ρ : Env) (w : World), St ok (bz w0) w [] [] → network_side.j1 = some r → K8 ρ w := by
    intro  ρ w  hs hf
    refine hK8 _ _ ?_
    unfold network_side.j1 at hf
    refine W.seqK fun K11 hK11 => ?_
    refine W.region ?_
    refine WL.assign (v := .int .i64 0) rfl ?_
    refine WL.nil ?_
    refine hK11 _ _ ?_
    refine W.ret ?_
    have hr := Option.some.inj hf; subst hr
    exact ⟨_, resOk_one rfl rfl, (), rfl, (hs.mask []).pick []⟩
  refine W.seqK fun K12 hK12 => ?_
  refine W.region ?_
  refine WL.fieldAddr (m := 2) rfl FA39_2 rfl ?_
  refine WL.loadF (z := x1.Sides) F_network_Network_Sides hs 0 rfl 0 rfl rfl TI37 (.inr rfl) rfl rfl (fun v13 hs => ?_)
  obtain ⟨a14, c15, rfl⟩ := hs.slice 0 rfl
  refine WL.len (v := .slice a14 (x1.Sides).length c15) rfl (len_slice UN37) ?_
  refine WL.move (v := .int .i64 0) rfl ?_
  refine WL.nil ?_
  refine hK12 _ _ ?_
  refine W.block ?_
  obtain ⟨bs18, hbs18, hfs18⟩ := bindE hf
  refine W.loop hbs18 (fun s ρ w => match s with | x17 => ρ 1 = .int .i64 x5 ∧ ρ 8 = .slice a14 (x1.Sides).length c15 ∧ ρ 9 = .int .i64 ((x1.Sides).length : Int) ∧ ρ 10 = .int .i64 x17 ∧ St ok (bz w0) w [vl (tSlice t_network_Side) x1.Sides (.slice a14 (x1.Sides).length c15)] []) ⟨rfl, rfl, rfl, rfl, (hs.mask []).pick [0]⟩ ?_
  intro x17 ρ w os18 hI hf hbbs18
  obtain ⟨h16_1, h16_8, h16_9, h16_10, hs⟩ := hI
  unfold network_side.l1 at hf
  refine W.seqK fun K19 hK19 => ?_
  refine W.region ?_
  refine WL.bin (v := .bool (decide (x17 < ((x1.Sides).length : Int)))) h16_10 h16_9 (ib_lss _ _ _) ?_
  refine WL.nil ?_
  refine hK19 _ _ ?_
  refine W.seqK fun K20 hK20 => ?_
  rcases iteE hf with ⟨hc21, hf⟩ | ⟨hc21, hf⟩
  {
  refine W.cond_true (bool_tr rfl hc21) ?_
  refine W.skip ?_
  refine hK20 _ _ ?_
  refine W.seqK fun K22 hK22 => ?_
  refine W.block ?_
  refine W.seqK fun K23 hK23 => ?_
  refine W.region ?_
  obtain ⟨x24, hxx24, hf⟩ := bindE hf
  refine WL.indexAddr hs 0 rfl UN37 TI95 h16_8 h16_10 hxx24 (fun ad25 hs => ?_)
  refine WL.loadP hs 0 rfl TI95 (.inl rfl) rfl (fun v26 hs => ?_)
  obtain ⟨cs27, hl28, rfl⟩ := hs.aggv (n := 2) 0 rfl rfl rfl
  refine WL.alloc hs ZV95 (fun g29 w hs => ?_)
  refine WL.storeAll (vs := cs27) hs 0 rfl TI95 rfl rfl rfl hl28 (hs.ones 0 rfl rfl) rfl (fun w hs => ?_)
  refine WL.nil ?_
  refine hK23 _ _ ?_
  refine W.seqK fun K30 hK30 => ?_
  refine W.region ?_
  refine WL.fieldAddr (m := 0) rfl FA95_0 rfl ?_
  refine WL.loadF (z := x24.Process) F_network_Side_Process hs 0 rfl 0 rfl rfl TI3 (.inr rfl) rfl rfl (fun v31 hs => ?_)
  obtain rfl := hs.int 0 rfl
  refine WL.move (v := .int .i64 x5) h16_1 ?_
  refine WL.bin (v := .bool (x24.Process == x5)) rfl rfl (ib_eql _ _ _) ?_
  refine WL.nil ?_
  refine hK30 _ _ ?_
  rcases iteE hf with ⟨hc32, hf⟩ | ⟨hc32, hf⟩
  {
  refine W.cond_true (bool_tr rfl hc32) ?_
  refine W.seqK fun K33 hK33 => ?_
  refine W.region ?_
  refine WL.fieldAddr (m := 1) rfl FA95_1 rfl ?_
  refine WL.loadF (z := x24.Side) F_network_Side_Side hs 0 rfl 1 rfl rfl TI3 (.inr rfl) rfl rfl (fun v34 hs => ?_)
  obtain rfl := hs.int 0 rfl
  refine WL.assign (v := .int .i64 x24.Side) rfl ?_
  refine WL.nil ?_
  refine hK33 _ _ ?_
  refine W.ret ?_
  have hr := Option.some.inj hf; subst hr
  have hr := hbbs18 _ rfl; subst hr
  have hf := hfs18
  have hr := Option.some.inj hf; subst hr
  exact ⟨_, resOk_one rfl rfl, (), rfl, (hs.mask []).pick []⟩ }
  {
  refine W.cond_false (bool_tr rfl hc32) ?_
  refine W.skip ?_
  refine hK22 _ _ ?_
  refine W.region ?_
  obtain ⟨x35, ex35, hf⟩ := letE hf
  refine WL.bin (v := .int .i64 x35) h16_10 rfl (ib_as ex35 (ib_add _ _ _)) ?_
  refine WL.move (v := .int .i64 x35) rfl ?_
  refine WL.nil ?_
  exact ⟨_, (Option.some.inj hf).symm, h16_1, h16_8, h16_9, rfl, (hs.mask []).pick [3]⟩ } }
  {
  refine W.cond_false (bool_tr rfl hc21) ?_
  refine W.exit ?_
  have hr := Option.some.inj hf; subst hr
  have hr := hbbs18 _ rfl; subst hr
  have hf := hfs18
  exact Jk10  _ _  ((hs.mask []).pick []) hf }
theorem network_Blocked.calls {ok : Nat → Prop} {w0 : World} {x1 : network_Network} {x5 : Int} {x6 : Int} {v2 : Value} {r : Bool} (hf : network_Blocked x1 x5 x6 = some r) (i0 : (vl t_network_Network x1 v2).holds ok w0) :
    Calls Tryd.prog 40 #[v2, .int .i64 x5, .int .i64 x6] w0 fun e w' => ∃ v, e = .returned v ∧ ∃ y : Unit, v = .bool r ∧ St ok (bz w0) w' [] [] := by
  unfold network_Blocked at hf
  refine calls_of_W (fn := Tryd.f40) (N := 14) Tryd.func40 rfl Tryd.ntmps40 rfl ?_
  have hs : St ok (bz w0) w0 [vl t_network_Network x1 v2] [] := St.init (All.cons i0 All.nil)
  clear i0
  obtain ⟨cs3, hl4, rfl⟩ := hs.aggv (n := 3) 0 rfl rfl rfl
  refine W.seqK fun K7 hK7 => ?_
  refine W.region ?_
  refine WL.box (vs := cs3) hs rfl rfl (fun g8 w hs => ?_)
  refine WL.assign (v := .bool false) rfl ?_
  refine WL.nil ?_
  refine hK7 _ _ ?_
  refine W.seqK fun K9 hK9 => ?_
  obtain ⟨x10, hxx10, hf⟩ := bindE hf
  obtain ⟨x11, hxx11, hf⟩ := bindE hf
  refine W.any (by kernel_rfl) 7 1 [true, true, true, true, true, true, true, false] rfl rfl (poAt [pv (.agg cs3.toArray), pv (.int .i64 x5), pv (.int .i64 x10), pv (.agg cs3.toArray), pv (.int .i64 x6), pv (.int .i64 x11), pv (.bool (x10 != x11))]) (Λ := [blk g8 39 cs3]) hs (by kernel_rfl) (by kernel_rfl) (by kernel_rfl) ⟨⟨⟨⟨⟨⟨⟨trivial, ?_⟩, ?_⟩, ?_⟩, ?_⟩, ?_⟩, ?_⟩, ?_⟩ ?_
  {
  intro ρ w Γx Λx hs hu hp
  refine WL.loadAll hs (Λx.length + 0) (getApp rfl) TI39 (hu 3 rfl) hl4 ?_
  exact WL.nil ⟨rfl, _, rfl, rfl, hs.cutG 0 0⟩ }
  {
  intro ρ w Γx Λx hs hu hp
  refine WL.move (v := .int .i64 x5) (hu 1 rfl) ?_
  exact WL.nil ⟨rfl, _, rfl, rfl, hs.cutG 0 0⟩ }
  {
  intro ρ w Γx Λx hs hu hp
  have e12 : ρ 7 = .agg cs3.toArray := (hp 0 rfl).1
  have e13 : ρ 8 = .int .i64 x5 := (hp 1 rfl).1
  refine WL.call (vs := [.agg cs3.toArray, .int .i64 x5]) hs FN54 ⟨e12, ⟨e13, trivial⟩⟩ (fun ok hA => network_side.calls (x1 := x1) (x5 := x5) hxx10 (hA.get (Γx.length + 0) (getApp rfl))) ?_
  rintro _ w hs
  exact WL.nil ⟨rfl, _, rfl, rfl, hs.cutG 0 0⟩ }
  {
  intro ρ w Γx Λx hs hu hp
  refine WL.loadAll hs (Λx.length + 0) (getApp rfl) TI39 (hu 3 rfl) hl4 ?_
  exact WL.nil ⟨rfl, _, rfl, rfl, hs.cutG 0 0⟩ }
  {
  intro ρ w Γx Λx hs hu hp
  refine WL.move (v := .int .i64 x6) (hu 2 rfl) ?_
  exact WL.nil ⟨rfl, _, rfl, rfl, hs.cutG 0 0⟩ }
  {
  intro ρ w Γx Λx hs hu hp
  have e14 : ρ 10 = .agg cs3.toArray := (hp 3 rfl).1
  have e15 : ρ 11 = .int .i64 x6 := (hp 4 rfl).1
  refine WL.call (vs := [.agg cs3.toArray, .int .i64 x6]) hs FN54 ⟨e14, ⟨e15, trivial⟩⟩ (fun ok hA => network_side.calls (x1 := x1) (x5 := x6) hxx11 (hA.get (Γx.length + 0) (getApp rfl))) ?_
  rintro _ w hs
  exact WL.nil ⟨rfl, _, rfl, rfl, hs.cutG 0 0⟩ }
  {
  intro ρ w Γx Λx hs hu hp
  have e16 : ρ 9 = .int .i64 x10 := (hp 2 rfl).1
  have e17 : ρ 12 = .int .i64 x11 := (hp 5 rfl).1
  refine WL.bin (v := .bool (x10 != x11)) e16 e17 (ib_neq _ _ _) ?_
  exact WL.nil ⟨rfl, _, rfl, rfl, hs.cutG 0 0⟩ }
  {
  intro ρ w hs hu18 hp
  obtain ⟨⟨⟨⟨⟨⟨⟨_, hp0_⟩, hp1_⟩, hp2_⟩, hp3_⟩, hp4_⟩, hp5_⟩, hp6_⟩ := hp
  have hs : St ok (bz w0) w [vl t_network_Network x1 (.agg cs3.toArray)] [blk g8 39 cs3] := hs
  have e19 : ρ 13 = .bool (x10 != x11) := hp6_
  have e20 : ρ 12 = .int .i64 x11 := hp5_
  have e21 : ρ 11 = .int .i64 x6 := hp4_
  have e22 : ρ 10 = .agg cs3.toArray := hp3_
  have e23 : ρ 9 = .int .i64 x10 := hp2_
  have e24 : ρ 8 = .int .i64 x5 := hp1_
  have e25 : ρ 7 = .agg cs3.toArray := hp0_
  refine WA.step [7] (by kernel_rfl) (by simp) ⟨?_, trivial⟩
  refine WL.assign (v := .bool (x10 != x11)) e19 ?_
  refine WL.nil ⟨rfl, _, rfl, ?_⟩
  refine WA.done (by kernel_rfl) ?_
  refine hK9 _ _ ?_
  refine W.ret ?_
  have hr := Option.some.inj hf; subst hr
  exact ⟨_, resOk_one rfl rfl, (), rfl, (hs.mask []).pick []⟩ }
theorem network_Deliverable.calls {ok : Nat → Prop} {w0 : World} {x1 : network_Network} {v2 : Value} {r : List Int} (hf : network_Deliverable x1 = some r) (i0 : (vl t_network_Network x1 v2).holds ok w0) :
    Calls Tryd.prog 26 #[v2] w0 fun e w' => ∃ v, e = .returned v ∧ ∃ y : (Option Addr × Nat × Nat), v = .slice y.1 y.2.1 y.2.2 ∧ St ok (bz w0) w' [] [own (tInt .i64) 3 (.slice y.1 y.2.1 y.2.2) r] := by
  unfold network_Deliverable at hf
  refine calls_of_W (fn := Tryd.f26) (N := 29) Tryd.func26 rfl Tryd.ntmps26 rfl ?_
  have hs : St ok (bz w0) w0 [vl t_network_Network x1 v2] [] := St.init (All.cons i0 All.nil)
  clear i0
  obtain ⟨cs3, hl4, rfl⟩ := hs.aggv (n := 3) 0 rfl rfl rfl
  refine W.seqK fun K5 hK5 => ?_
  refine W.region ?_
  refine WL.box (vs := cs3) hs rfl rfl (fun g6 w hs => ?_)
  refine WL.assign (v := .slice none 0 0) rfl ?_
  refine WL.nil ?_
  refine hK5 _ _ ?_
  refine W.seqK fun K7 hK7 => ?_
  refine W.region ?_
  refine WL.assign (v := .slice none 0 0) rfl ?_
  refine WL.nil ?_
  refine hK7 _ _ ?_
  refine W.seqK fun K8 hK8 => ?_
  have hs := hs.ownNil (tInt .i64) 3
  have Jk14 : ∀ (x10 : List Int) (a11 : Option Addr) (c12 : Nat) (n13 : Nat) (ρ : Env) (w : World), ρ 3 = .slice a11 n13 c12 → St ok (bz w0) w [] [own (tInt .i64) 3 (.slice a11 n13 c12) x10] → network_Deliverable.j1 x10 = some r → K8 ρ w := by
    intro x10 a11 c12 n13 ρ w h9_3 hs hf
    refine hK8 _ _ ?_
    unfold network_Deliverable.j1 at hf
    refine W.seqK fun K15 hK15 => ?_
    refine W.region ?_
    refine WL.move (v := .slice a11 n13 c12) h9_3 ?_
    refine WL.assign (v := .slice a11 n13 c12) rfl ?_
    refine WL.nil ?_
    refine hK15 _ _ ?_
    refine W.ret ?_
    have hr := Option.some.inj hf; subst hr
    exact ⟨_, resOk_one rfl rfl, (a11, n13, c12), rfl, (hs.mask [true]).pick []⟩
  refine W.seqK fun K16 hK16 => ?_
  refine W.region ?_
  refine WL.fieldAddr (m := 1) rfl FA39_1 rfl ?_
  refine WL.loadF (z := x1.Packets) F_network_Network_Packets hs 1 rfl 0 rfl rfl TI36 (.inr rfl) rfl rfl (fun v17 hs => ?_)
  obtain ⟨a18, c19, rfl⟩ := hs.slice 0 rfl
  refine WL.len (v := .slice a18 (x1.Packets).length c19) rfl (len_slice UN36) ?_
  refine WL.move (v := .int .i64 0) rfl ?_
  refine WL.nil ?_
  refine hK16 _ _ ?_
  refine W.block ?_
  obtain ⟨bs26, hbs26, hfs26⟩ := bindE hf
  refine W.loop hbs26 (fun s ρ w => match s with | (x21, x25) => ∃ (a22 : Option Addr), ∃ (c23 : Nat), ∃ (n24 : Nat), ρ 1 = .pointer (some ⟨g6, 0, none⟩) ∧ ρ 3 = .slice a22 n24 c23 ∧ ρ 7 = .slice a18 (x1.Packets).length c19 ∧ ρ 8 = .int .i64 ((x1.Packets).length : Int) ∧ ρ 9 = .int .i64 x25 ∧ St ok (bz w0) w [vl (tSlice t_network_Packet) x1.Packets (.slice a18 (x1.Packets).length c19), vl t_network_Network x1 (.agg cs3.toArray)] [own (tInt .i64) 3 (.slice a22 n24 c23) x21, blk g6 39 cs3]) ⟨none, 0, 0, rfl, rfl, rfl, rfl, rfl, (hs.mask [true, true]).pick [0, 1]⟩ ?_
  intro s ρ w os26 hI hf hbbs26
  obtain ⟨x21, x25⟩ := s
  obtain ⟨a22, c23, n24, h20_1, h20_3, h20_7, h20_8, h20_9, hs⟩ := hI
  unfold network_Deliverable.l1 at hf
  refine W.seqK fun K27 hK27 => ?_
  refine W.region ?_
  refine WL.bin (v := .bool (decide (x25 < ((x1.Packets).length : Int)))) h20_9 h20_8 (ib_lss _ _ _) ?_
  refine WL.nil ?_
  refine hK27 _ _ ?_
  refine W.seqK fun K28 hK28 => ?_
  rcases iteE hf with ⟨hc29, hf⟩ | ⟨hc29, hf⟩
  {
  refine W.cond_true (bool_tr rfl hc29) ?_
  refine W.skip ?_
  refine hK28 _ _ ?_
  refine W.seqK fun K30 hK30 => ?_
  have Jk36 : ∀ (x32 : List Int) (a33 : Option Addr) (c34 : Nat) (n35 : Nat) (ρ : Env) (w : World), ρ 1 = .pointer (some ⟨g6, 0, none⟩) → ρ 3 = .slice a33 n35 c34 → ρ 7 = .slice a18 (x1.Packets).length c19 → ρ 8 = .int .i64 ((x1.Packets).length : Int) → ρ 9 = .int .i64 x25 → St ok (bz w0) w [vl (tSlice t_network_Packet) x1.Packets (.slice a18 (x1.Packets).length c19), vl t_network_Network x1 (.agg cs3.toArray)] [own (tInt .i64) 3 (.slice a33 n35 c34) x32, blk g6 39 cs3] → network_Deliverable.j2 x25 x32 = some os26 → K30 ρ w := by
    intro x32 a33 c34 n35 ρ w h31_1 h31_3 h31_7 h31_8 h31_9 hs hf
    refine hK30 _ _ ?_
    unfold network_Deliverable.j2 at hf
    refine W.region ?_
    obtain ⟨x37, ex37, hf⟩ := letE hf
    refine WL.bin (v := .int .i64 x37) h31_9 rfl (ib_as ex37 (ib_add _ _ _)) ?_
    refine WL.move (v := .int .i64 x37) rfl ?_
    refine WL.nil ?_
    exact ⟨_, (Option.some.inj hf).symm, a33, c34, n35, h31_1, h31_3, h31_7, h31_8, rfl, (hs.mask [true, true]).pick [0, 1]⟩
  refine W.block ?_
  refine W.seqK fun K38 hK38 => ?_
  refine W.region ?_
  obtain ⟨x39, hxx39, hf⟩ := bindE hf
  refine WL.indexAddr hs 0 rfl UN36 TI69 h20_7 h20_9 hxx39 (fun ad40 hs => ?_)
  refine WL.loadP hs 0 rfl TI69 (.inl rfl) rfl (fun v41 hs => ?_)
  obtain ⟨cs42, hl43, rfl⟩ := hs.aggv (n := 19) 0 rfl rfl rfl
  refine WL.alloc hs ZV69 (fun g44 w hs => ?_)
  refine WL.storeAll (vs := cs42) hs 0 rfl TI69 rfl rfl rfl hl43 (hs.ones 0 rfl rfl) rfl (fun w hs => ?_)
  refine WL.nil ?_
  refine hK38 _ _ ?_
  refine W.seqK fun K45 hK45 => ?_
  refine W.region ?_
  refine WL.loadAll hs 2 rfl TI39 h20_1 hl4 ?_
  refine WL.fieldAddr (m := 1) rfl FA69_1 rfl ?_
  refine WL.fieldAddr (m := 2) rfl FA53_1 rfl ?_
  refine WL.loadF (z := x39.Message.From) (F_network_Packet_Message.comp F_api_Message_From) hs 0 rfl 0 rfl rfl TI3 (.inr rfl) rfl rfl (fun v46 hs => ?_)
  obtain rfl := hs.int 0 rfl
  refine WL.fieldAddr (m := 1) rfl FA69_1 rfl ?_
  refine WL.fieldAddr (m := 3) rfl FA53_2 rfl ?_
  refine WL.loadF (z := x39.Message.To) (F_network_Packet_Message.comp F_api_Message_To) hs 0 rfl 1 rfl rfl TI3 (.inr rfl) rfl rfl (fun v47 hs => ?_)
  obtain rfl := hs.int 0 rfl
  obtain ⟨x48, hxx48, hf⟩ := bindE hf
  refine WL.call (vs := [.agg cs3.toArray, .int .i64 x39.Message.From, .int .i64 x39.Message.To]) hs FN40 ⟨rfl, ⟨rfl, ⟨rfl, trivial⟩⟩⟩ (fun ok hA => network_Blocked.calls (x1 := x1) (x5 := x39.Message.From) (x6 := x39.Message.To) hxx48 (hA.get 5 rfl)) ?_
  rintro _ w hs
  refine WL.not rfl ?_
  refine WL.nil ?_
  refine hK45 _ _ ?_
  rcases iteE hf with ⟨hc49, hf⟩ | ⟨hc49, hf⟩
  {
  refine W.cond_true (bool_tr rfl hc49) ?_
  refine W.region ?_
  refine WL.move (v := .slice a22 n24 c23) h20_3 ?_
  refine WL.fieldAddr (m := 0) rfl FA69_0 rfl ?_
  refine WL.loadF (z := x39.ID) F_network_Packet_ID hs 0 rfl 2 rfl rfl TI3 (.inr rfl) rfl rfl (fun v50 hs => ?_)
  obtain rfl := hs.int 0 rfl
  refine WL.buildSlice (n := 1) (vs := [(0, .int .i64 x39.ID)]) (cs := [.int .i64 x39.ID]) hs ⟨⟨rfl, rfl⟩, trivial⟩ (bls PS22 (by decide) rfl) (fun g51 w hs => ?_)
  obtain ⟨x52, hxx52, hf⟩ := bindE hf
  obtain ⟨hbx52, hex52⟩ := appE hxx52
  refine WL.append (ys := [x39.ID]) (zs := x52) hs 2 rfl 0 rfl UN22 EI3 rfl rfl (fun ok hA => (Cells.one (T := tInt .i64) rfl)) hbx52 (by omega) hex52 (fun v53 w hs => ?_)
  obtain ⟨a54, n56, c55, rfl⟩ := hs.ownv3 2 rfl
  refine WL.assign (v := .slice a54 n56 c55) rfl ?_
  refine WL.nil ?_
  exact Jk36 x52 a54 c55 n56 _ _ h20_1 rfl h20_7 h20_8 h20_9 ((hs.mask [false, false, true, true]).pick [5, 6]) hf }
  {
  refine W.cond_false (bool_tr rfl hc49) ?_
  refine W.skip ?_
  exact Jk36 x21 a22 c23 n24 _ _ h20_1 h20_3 h20_7 h20_8 h20_9 ((hs.mask [false, true, true]).pick [4, 5]) hf } }
  {
  refine W.cond_false (bool_tr rfl hc29) ?_
  refine W.exit ?_
  have hr := Option.some.inj hf; subst hr
  have hr := hbbs26 _ rfl; subst hr
  have hf := hfs26
  exact Jk14 x21 a22 c23 n24 _ _ h20_3 ((hs.mask [true]).pick []) hf }
theorem slices_BinarySearchFunc_int.calls {ok : Nat → Prop} {w0 : World} {x1 : List network_Packet} {x4 : Int} {x5 : network_Packet × Int → Option Int} {a2 : Option Addr} {c3 : Nat} {v6 : Value} {r : Int × Bool} (hf : slices_BinarySearchFunc_int x1 x4 x5 = some r) (i0 : (vl (tSlice t_network_Packet) x1 (.slice a2 x1.length c3)).holds ok w0) (i1 : (vl (tFun Tryd.prog (argK2 t_network_Packet (tInt .i64)) (fun r : Int => .int .i64 r)) x5 v6).holds ok w0) :
    Calls Tryd.prog 55 #[.slice a2 x1.length c3, .int .i64 x4, v6] w0 fun e w' => ∃ v, e = .returned v ∧ ∃ y : Unit, v = .tuple #[.int .i64 r.1, .bool r.2] ∧ St ok (bz w0) w' [] [] := by
  unfold slices_BinarySearchFunc_int at hf
  refine calls_of_W (fn := Tryd.f55) (N := 49) Tryd.func55 rfl Tryd.ntmps55 rfl ?_
  have hs : St ok (bz w0) w0 [vl (tSlice t_network_Packet) x1 (.slice a2 x1.length c3), vl (tFun Tryd.prog (argK2 t_network_Packet (tInt .i64)) (fun r : Int => .int .i64 r)) x5 v6] [] := St.init (All.cons i0 (All.cons i1 All.nil))
  clear i0 i1
  refine W.seqK fun K7 hK7 => ?_
  refine W.region ?_
  refine WL.assign (v := .int .i64 0) rfl ?_
  refine WL.assign (v := .bool false) rfl ?_
  refine WL.nil ?_
  refine hK7 _ _ ?_
  refine W.seqK fun K8 hK8 => ?_
  refine W.region ?_
  refine WL.move (v := .slice a2 x1.length c3) rfl ?_
  refine WL.len (v := .slice a2 x1.length c3) rfl (len_slice UN36) ?_
  refine WL.assign (v := .int .i64 (x1.length : Int)) rfl ?_
  refine WL.nil ?_
  refine hK8 _ _ ?_
  refine W.seqK fun K9 hK9 => ?_
  refine W.region ?_
  refine WL.move (v := .int .i64 (x1.length : Int)) rfl ?_
  refine WL.assign (v := .int .i64 0) rfl ?_
  refine WL.assign (v := .int .i64 (x1.length : Int)) rfl ?_
  refine WL.nil ?_
  refine hK9 _ _ ?_
  refine W.seqK fun K10 hK10 => ?_
  have Jk13 : ∀ (x12 : Int) (ρ : Env) (w : World), ρ 0 = .slice a2 x1.length c3 → ρ 1 = .int .i64 x4 → ρ 2 = v6 → ρ 8 = .int .i64 (x1.length : Int) → ρ 9 = .int .i64 x12 → St ok (bz w0) w [vl (tSlice t_network_Packet) x1 (.slice a2 x1.length c3), vl (tFun Tryd.prog (argK2 t_network_Packet (tInt .i64)) (fun r : Int => .int .i64 r)) x5 v6] [] → slices_BinarySearchFunc_int.j2 x1 x4 x5 x12 = some r → K10 ρ w := by
    intro x12 ρ w h11_0 h11_1 h11_2 h11_8 h11_9 hs hf
    refine hK10 _ _ ?_
    unfold slices_BinarySearchFunc_int.j2 at hf
    refine W.seqK fun K14 hK14 => ?_
    have Jk18 : ∀ (x16 : Int) (x17 : Bool) (ρ : Env) (w : World), ρ 6 = .int .i64 x16 → ρ 7 = .bool x17 → St ok (bz w0) w [] [] → slices_BinarySearchFunc_int.j1 x16 x17 = some r → K14 ρ w := by
      intro x16 x17 ρ w h15_6 h15_7 hs hf
      refine hK14 _ _ ?_
      unfold slices_BinarySearchFunc_int.j1 at hf
      refine W.ret ?_
      have hr := Option.some.inj hf; subst hr
      exact ⟨_, resOk_two rfl h15_6 h15_7, (), rfl, (hs.mask []).pick []⟩
    refine W.region ?_
    refine WL.move (v := .int .i64 x12) h11_9 ?_
    refine WL.move (v := .int .i64 x12) h11_9 ?_
    refine WL.move (v := .int .i64 (x1.length : Int)) h11_8 ?_
    refine WL.bin (v := .bool (decide (x12 < (x1.length : Int)))) rfl rfl (ib_lss _ _ _) ?_
    refine WL.move (v := .bool (decide (x12 < (x1.length : Int)))) rfl ?_
    rcases iteE hf with ⟨hc19, hf⟩ | ⟨hc19, hf⟩
    {
    refine WL.move (v := v6) h11_2 ?_ (hg := (wanted_of rfl rfl (bool_tr rfl hc19)).trans rfl)
    refine WL.move (v := .slice a2 x1.length c3) h11_0 ?_ (hg := (wanted_of rfl rfl (bool_tr rfl hc19)).trans rfl)
    refine WL.move (v := .int .i64 x12) h11_9 ?_ (hg := (wanted_of rfl rfl (bool_tr rfl hc19)).trans rfl)
    obtain ⟨x20, hxx20, hf⟩ := bindE hf
    refine WL.indexAddr hs 0 rfl UN36 TI69 rfl rfl hxx20 (fun ad21 hs => ?_) (hg := (wanted_of rfl rfl (bool_tr rfl hc19)).trans rfl)
    refine WL.loadP hs 0 rfl TI69 (.inl rfl) rfl (fun v22 hs => ?_) (hg := (wanted_of rfl rfl (bool_tr rfl hc19)).trans rfl)
    obtain ⟨cs23, hl24, rfl⟩ := hs.aggv (n := 19) 0 rfl rfl rfl
    refine WL.move (v := .int .i64 x4) h11_1 ?_ (hg := (wanted_of rfl rfl (bool_tr rfl hc19)).trans rfl)
    obtain ⟨x25, hxx25, hf⟩ := bindE hf
    refine WL.callF (x := (x20, x4)) (vs := [.agg cs23.toArray, .int .i64 x4]) hs 3 rfl rfl ⟨rfl, ⟨rfl, trivial⟩⟩ (fun ok hA => ⟨_, _, rfl, hA.get 0 rfl, tInt_V.2 rfl⟩) hxx25 (fun w hs => ?_) (hg := (wanted_of rfl rfl (bool_tr rfl hc19)).trans rfl)
    refine WL.bin (v := .bool (x25 == 0)) rfl rfl (ib_eql _ _ _) ?_ (hg := (wanted_of rfl rfl (bool_tr rfl hc19)).trans rfl)
    refine WL.pickT (v := .bool (x25 == 0)) (bool_tr rfl hc19) rfl ?_
    refine WL.assign (v := .int .i64 x12) rfl ?_
    refine WL.assign (v := .bool (x25 == 0)) rfl ?_
    refine WL.nil ?_
    exact Jk18 x12 (x25 == 0) _ _ rfl rfl ((hs.mask []).pick []) hf }
    {
    refine WL.pass ((wanted_of rfl rfl (bool_tr rfl hc19)).trans rfl) rfl ?_
    refine WL.pass ((wanted_of rfl rfl (bool_tr rfl hc19)).trans rfl) rfl ?_
    refine WL.pass ((wanted_of rfl rfl (bool_tr rfl hc19)).trans rfl) rfl ?_
    refine WL.pass ((wanted_of rfl rfl (bool_tr rfl hc19)).trans rfl) rfl ?_
    refine WL.pass ((wanted_of rfl rfl (bool_tr rfl hc19)).trans rfl) rfl ?_
    refine WL.pass ((wanted_of rfl rfl (bool_tr rfl hc19)).trans rfl) rfl ?_
    refine WL.pass ((wanted_of rfl rfl (bool_tr rfl hc19)).trans rfl) rfl ?_
    refine WL.pass ((wanted_of rfl rfl (bool_tr rfl hc19)).trans rfl) rfl ?_
    refine WL.pickF (v := .bool false) (bool_tr rfl hc19) rfl ?_
    refine WL.assign (v := .int .i64 x12) rfl ?_
    refine WL.assign (v := .bool false) rfl ?_
    refine WL.nil ?_
    exact Jk18 x12 false _ _ rfl rfl ((hs.mask []).pick []) hf }
  refine W.block ?_
  obtain ⟨bs29, hbs29, hfs29⟩ := bindE hf
  refine W.loop hbs29 (fun s ρ w => match s with | (x27, x28) => ρ 0 = .slice a2 x1.length c3 ∧ ρ 1 = .int .i64 x4 ∧ ρ 2 = v6 ∧ ρ 8 = .int .i64 (x1.length : Int) ∧ ρ 9 = .int .i64 x27 ∧ ρ 10 = .int .i64 x28 ∧ St ok (bz w0) w [vl (tSlice t_network_Packet) x1 (.slice a2 x1.length c3), vl (tFun Tryd.prog (argK2 t_network_Packet (tInt .i64)) (fun r : Int => .int .i64 r)) x5 v6] []) ⟨rfl, rfl, rfl, rfl, rfl, rfl, (hs.mask []).pick [0, 1]⟩ ?_
  intro s ρ w os29 hI hf hbbs29
  obtain ⟨x27, x28⟩ := s
  obtain ⟨h26_0, h26_1, h26_2, h26_8, h26_9, h26_10, hs⟩ := hI
  unfold slices_BinarySearchFunc_int.l1 at hf
  refine W.seqK fun K30 hK30 => ?_
  refine W.seqK fun K31 hK31 => ?_
  refine W.region ?_
  refine WL.move (v := .int .i64 x27) h26_9 ?_
  refine WL.move (v := .int .i64 x28) h26_10 ?_
  refine WL.bin (v := .bool (decide (x27 < x28))) rfl rfl (ib_lss _ _ _) ?_
  refine WL.nil ?_
  refine hK31 _ _ ?_
  rcases iteE hf with ⟨hc32, hf⟩ | ⟨hc32, hf⟩
  {
  refine W.cond_true (bool_tr rfl hc32) ?_
  refine W.skip ?_
  refine hK30 _ _ ?_
  refine W.block ?_
  refine W.seqK fun K33 hK33 => ?_
  refine W.region ?_
  refine WL.move (v := .int .i64 x27) h26_9 ?_
  refine WL.move (v := .int .i64 x28) h26_10 ?_
  obtain ⟨x34, ex34, hf⟩ := letE hf
  refine WL.bin (v := .int .i64 x34) rfl rfl (ib_as ex34 (ib_add _ _ _)) ?_
  refine WL.convI UN3 UN128 rfl ?_
  obtain ⟨x36, ex36, hf⟩ := letE hf
  refine WL.shr_ (e := x36) rfl rfl (by decide) ex36 ?_
  refine WL.convI UN128 UN3 rfl ?_
  refine WL.assign (v := .int .i64 (IntKind.i64.wrap x36)) rfl ?_
  refine WL.nil ?_
  refine hK33 _ _ ?_
  refine W.seqK fun K37 hK37 => ?_
  refine W.region ?_
  refine WL.move (v := v6) h26_2 ?_
  refine WL.move (v := .slice a2 x1.length c3) h26_0 ?_
  refine WL.move (v := .int .i64 (IntKind.i64.wrap x36)) rfl ?_
  obtain ⟨x38, hxx38, hf⟩ := bindE hf
  refine WL.indexAddr hs 0 rfl UN36 TI69 rfl rfl hxx38 (fun ad39 hs => ?_)
  refine WL.loadP hs 0 rfl TI69 (.inl rfl) rfl (fun v40 hs => ?_)
  obtain ⟨cs41, hl42, rfl⟩ := hs.aggv (n := 19) 0 rfl rfl rfl
  refine WL.move (v := .int .i64 x4) h26_1 ?_
  obtain ⟨x43, hxx43, hf⟩ := bindE hf
  refine WL.callF (x := (x38, x4)) (vs := [.agg cs41.toArray, .int .i64 x4]) hs 3 rfl rfl ⟨rfl, ⟨rfl, trivial⟩⟩ (fun ok hA => ⟨_, _, rfl, hA.get 0 rfl, tInt_V.2 rfl⟩) hxx43 (fun w hs => ?_)
  refine WL.bin (v := .bool (decide (x43 < 0))) rfl rfl (ib_lss _ _ _) ?_
  refine WL.nil ?_
  refine hK37 _ _ ?_
  rcases iteE hf with ⟨hc44, hf⟩ | ⟨hc44, hf⟩
  {
  refine W.cond_true (bool_tr rfl hc44) ?_
  refine W.region ?_
  refine WL.move (v := .int .i64 (IntKind.i64.wrap x36)) rfl ?_
  obtain ⟨x45, ex45, hf⟩ := letE hf
  refine WL.bin (v := .int .i64 x45) rfl rfl (ib_as ex45 (ib_add _ _ _)) ?_
  refine WL.assign (v := .int .i64 x45) rfl ?_
  refine WL.nil ?_
  exact ⟨_, (Option.some.inj hf).symm, h26_0, h26_1, h26_2, h26_8, rfl, h26_10, (hs.mask []).pick [2, 3]⟩ }
  {
  refine W.cond_false (bool_tr rfl hc44) ?_
  refine W.region ?_
  refine WL.move (v := .int .i64 (IntKind.i64.wrap x36)) rfl ?_
  refine WL.assign (v := .int .i64 (IntKind.i64.wrap x36)) rfl ?_
  refine WL.nil ?_
  exact ⟨_, (Option.some.inj hf).symm, h26_0, h26_1, h26_2, h26_8, h26_9, rfl, (hs.mask []).pick [2, 3]⟩ } }
  {
  refine W.cond_false (bool_tr rfl hc32) ?_
  refine W.exit ?_
  have hr := Option.some.inj hf; subst hr
  have hr := hbbs29 _ rfl; subst hr
  have hf := hfs29
  exact Jk13 x27 _ _ h26_0 h26_1 h26_2 h26_8 h26_9 ((hs.mask []).pick [0, 1]) hf }
theorem cmp_isNaN_int.calls {ok : Nat → Prop} {w0 : World} {x1 : Int}  {r : Bool} (hf : cmp_isNaN_int x1 = some r)  :
    Calls Tryd.prog 74 #[.int .i64 x1] w0 fun e w' => ∃ v, e = .returned v ∧ ∃ y : Unit, v = .bool r ∧ St ok (bz w0) w' [] [] := by
  unfold cmp_isNaN_int at hf
  refine calls_of_W (fn := Tryd.f74) (N := 6) Tryd.func74 rfl Tryd.ntmps74 rfl ?_
  have hs : St ok (bz w0) w0 [] [] := St.init All.nil
  refine W.seqK fun K2 hK2 => ?_
  refine W.region ?_
  refine WL.assign (v := .bool false) rfl ?_
  refine WL.nil ?_
  refine hK2 _ _ ?_
  refine W.seqK fun K3 hK3 => ?_
  refine W.region ?_
  refine WL.move (v := .int .i64 x1) rfl ?_
  refine WL.move (v := .int .i64 x1) rfl ?_
  refine WL.bin (v := .bool (x1 != x1)) rfl rfl (ib_neq _ _ _) ?_
  refine WL.assign (v := .bool (x1 != x1)) rfl ?_
  refine WL.nil ?_
  refine hK3 _ _ ?_
  refine W.ret ?_
  have hr := Option.some.inj hf; subst hr
  exact ⟨_, resOk_one rfl rfl, (), rfl, (hs.mask []).pick []⟩
theorem cmp_Compare_int.calls {ok : Nat → Prop} {w0 : World} {x1 : Int} {x2 : Int}  {r : Int} (hf : cmp_Compare_int x1 x2 = some r)  :
    Calls Tryd.prog 57 #[.int .i64 x1, .int .i64 x2] w0 fun e w' => ∃ v, e = .returned v ∧ ∃ y : Unit, v = .int .i64 r ∧ St ok (bz w0) w' [] [] := by
  unfold cmp_Compare_int at hf
  refine calls_of_W (fn := Tryd.f57) (N := 20) Tryd.func57 rfl Tryd.ntmps57 rfl ?_
  have hs : St ok (bz w0) w0 [] [] := St.init All.nil
  refine W.seqK fun K3 hK3 => ?_
  refine W.region ?_
  refine WL.assign (v := .int .i64 0) rfl ?_
  refine WL.nil ?_
  refine hK3 _ _ ?_
  refine W.seqK fun K4 hK4 => ?_
  refine W.region ?_
  refine WL.move (v := .int .i64 x1) rfl ?_
  obtain ⟨x5, hxx5, hf⟩ := bindE hf
  refine WL.call (vs := [.int .i64 x1]) hs FN74 ⟨rfl, trivial⟩ (fun ok hA => cmp_isNaN_int.calls (x1 := x1) hxx5) ?_
  rintro _ w hs
  refine WL.assign (v := .bool x5) rfl ?_
  refine WL.nil ?_
  refine hK4 _ _ ?_
  refine W.seqK fun K6 hK6 => ?_
  refine W.region ?_
  refine WL.move (v := .int .i64 x2) rfl ?_
  obtain ⟨x7, hxx7, hf⟩ := bindE hf
  refine WL.call (vs := [.int .i64 x2]) hs FN74 ⟨rfl, trivial⟩ (fun ok hA => cmp_isNaN_int.calls (x1 := x2) hxx7) ?_
  rintro _ w hs
  refine WL.assign (v := .bool x7) rfl ?_
  refine WL.nil ?_
  refine hK6 _ _ ?_
  refine W.seqK fun K8 hK8 => ?_
  refine W.seqK fun K9 hK9 => ?_
  refine W.region ?_
  refine WL.move (v := .bool x5) rfl ?_
  refine WL.nil ?_
  refine hK9 _ _ ?_
  rcases iteE hf with ⟨hc10, hf⟩ | ⟨hc10, hf⟩
  {
  refine W.cond_true (bool_tr rfl hc10) ?_
  refine W.seqK fun K11 hK11 => ?_
  refine W.seqK fun K12 hK12 => ?_
  refine W.region ?_
  refine WL.move (v := .bool x7) rfl ?_
  refine WL.nil ?_
  refine hK12 _ _ ?_
  rcases iteE hf with ⟨hc13, hf⟩ | ⟨hc13, hf⟩
  {
  refine W.cond_true (bool_tr rfl hc13) ?_
  refine W.seqK fun K14 hK14 => ?_
  refine W.region ?_
  refine WL.assign (v := .int .i64 0) rfl ?_
  refine WL.nil ?_
  refine hK14 _ _ ?_
  refine W.ret ?_
  have hr := Option.some.inj hf; subst hr
  exact ⟨_, resOk_one rfl rfl, (), rfl, (hs.mask []).pick []⟩ }
  {
  refine W.cond_false (bool_tr rfl hc13) ?_
  refine W.skip ?_
  refine hK11 _ _ ?_
  refine W.seqK fun K15 hK15 => ?_
  refine W.region ?_
  refine WL.assign (v := .int .i64 (-1)) rfl ?_
  refine WL.nil ?_
  refine hK15 _ _ ?_
  refine W.ret ?_
  have hr := Option.some.inj hf; subst hr
  exact ⟨_, resOk_one rfl rfl, (), rfl, (hs.mask []).pick []⟩ } }
  {
  refine W.cond_false (bool_tr rfl hc10) ?_
  refine W.skip ?_
  refine hK8 _ _ ?_
  refine W.seqK fun K16 hK16 => ?_
  refine W.seqK fun K17 hK17 => ?_
  refine W.region ?_
  refine WL.move (v := .bool x7) rfl ?_
  refine WL.nil ?_
  refine hK17 _ _ ?_
  rcases iteE hf with ⟨hc18, hf⟩ | ⟨hc18, hf⟩
  {
  refine W.cond_true (bool_tr rfl hc18) ?_
  refine W.seqK fun K19 hK19 => ?_
  refine W.region ?_
  refine WL.assign (v := .int .i64 1) rfl ?_
  refine WL.nil ?_
  refine hK19 _ _ ?_
  refine W.ret ?_
  have hr := Option.some.inj hf; subst hr
  exact ⟨_, resOk_one rfl rfl, (), rfl, (hs.mask []).pick []⟩ }
  {
  refine W.cond_false (bool_tr rfl hc18) ?_
  refine W.skip ?_
  refine hK16 _ _ ?_
  refine W.seqK fun K20 hK20 => ?_
  refine W.seqK fun K21 hK21 => ?_
  refine W.region ?_
  refine WL.move (v := .int .i64 x1) rfl ?_
  refine WL.move (v := .int .i64 x2) rfl ?_
  refine WL.bin (v := .bool (decide (x1 < x2))) rfl rfl (ib_lss _ _ _) ?_
  refine WL.nil ?_
  refine hK21 _ _ ?_
  rcases iteE hf with ⟨hc22, hf⟩ | ⟨hc22, hf⟩
  {
  refine W.cond_true (bool_tr rfl hc22) ?_
  refine W.seqK fun K23 hK23 => ?_
  refine W.region ?_
  refine WL.assign (v := .int .i64 (-1)) rfl ?_
  refine WL.nil ?_
  refine hK23 _ _ ?_
  refine W.ret ?_
  have hr := Option.some.inj hf; subst hr
  exact ⟨_, resOk_one rfl rfl, (), rfl, (hs.mask []).pick []⟩ }
  {
  refine W.cond_false (bool_tr rfl hc22) ?_
  refine W.skip ?_
  refine hK20 _ _ ?_
  refine W.seqK fun K24 hK24 => ?_
  refine W.seqK fun K25 hK25 => ?_
  refine W.region ?_
  refine WL.move (v := .int .i64 x1) rfl ?_
  refine WL.move (v := .int .i64 x2) rfl ?_
  refine WL.bin (v := .bool (decide (x2 < x1))) rfl rfl (ib_gtr _ _ _) ?_
  refine WL.nil ?_
  refine hK25 _ _ ?_
  rcases iteE hf with ⟨hc26, hf⟩ | ⟨hc26, hf⟩
  {
  refine W.cond_true (bool_tr rfl hc26) ?_
  refine W.seqK fun K27 hK27 => ?_
  refine W.region ?_
  refine WL.assign (v := .int .i64 1) rfl ?_
  refine WL.nil ?_
  refine hK27 _ _ ?_
  refine W.ret ?_
  have hr := Option.some.inj hf; subst hr
  exact ⟨_, resOk_one rfl rfl, (), rfl, (hs.mask []).pick []⟩ }
  {
  refine W.cond_false (bool_tr rfl hc26) ?_
  refine W.skip ?_
  refine hK24 _ _ ?_
  refine W.seqK fun K28 hK28 => ?_
  refine W.region ?_
  refine WL.assign (v := .int .i64 0) rfl ?_
  refine WL.nil ?_
  refine hK28 _ _ ?_
  refine W.ret ?_
  have hr := Option.some.inj hf; subst hr
  exact ⟨_, resOk_one rfl rfl, (), rfl, (hs.mask []).pick []⟩ } } } }
theorem network_position_1.calls {ok : Nat → Prop} {w0 : World} {x1 : network_Packet} {x5 : Int} {v2 : Value} {r : Int} (hf : network_position_1 x1 x5 = some r) (i0 : (vl t_network_Packet x1 v2).holds ok w0) :
    Calls Tryd.prog 56 #[v2, .int .i64 x5] w0 fun e w' => ∃ v, e = .returned v ∧ ∃ y : Unit, v = .int .i64 r ∧ St ok (bz w0) w' [] [] := by
  unfold network_position_1 at hf
  refine calls_of_W (fn := Tryd.f56) (N := 9) Tryd.func56 rfl Tryd.ntmps56 rfl ?_
  have hs : St ok (bz w0) w0 [vl t_network_Packet x1 v2] [] := St.init (All.cons i0 All.nil)
  clear i0
  obtain ⟨cs3, hl4, rfl⟩ := hs.aggv (n := 19) 0 rfl rfl rfl
  refine W.seqK fun K6 hK6 => ?_
  refine W.region ?_
  refine WL.box (vs := cs3) hs rfl rfl (fun g7 w hs => ?_)
  refine WL.assign (v := .int .i64 0) rfl ?_
  refine WL.nil ?_
  refine hK6 _ _ ?_
  refine W.seqK fun K8 hK8 => ?_
  refine W.region ?_
  refine WL.fieldAddr (m := 0) rfl FA69_0 rfl ?_
  refine WL.loadF (z := x1.ID) F_network_Packet_ID hs 0 rfl 0 rfl rfl TI3 (.inr rfl) rfl rfl (fun v9 hs => ?_)
  obtain rfl := hs.int 0 rfl
  refine WL.move (v := .int .i64 x5) rfl ?_
  obtain ⟨x10, hxx10, hf⟩ := bindE hf
  refine WL.call (vs := [.int .i64 x1.ID, .int .i64 x5]) hs FN57 ⟨rfl, ⟨rfl, trivial⟩⟩ (fun ok hA => cmp_Compare_int.calls (x1 := x1.ID) (x2 := x5) hxx10) ?_
  rintro _ w hs
  refine WL.assign (v := .int .i64 x10) rfl ?_
  refine WL.nil ?_
  refine hK8 _ _ ?_
  refine W.ret ?_
  have hr := Option.some.inj hf; subst hr
  exact ⟨_, resOk_one rfl rfl, (), rfl, (hs.mask []).pick []⟩
theorem network_position.calls {ok : Nat → Prop} {w0 : World} {x1 : network_Network} {x5 : Int} {v2 : Value} {r : Int × Bool} (hf : network_position x1 x5 = some r) (i0 : (vl t_network_Network x1 v2).holds ok w0) :
    Calls Tryd.prog 41 #[v2, .int .i64 x5] w0 fun e w' => ∃ v, e = .returned v ∧ ∃ y : Unit, v = .tuple #[.int .i64 r.1, .bool r.2] ∧ St ok (bz w0) w' [] [] := by
  unfold network_position at hf
  refine calls_of_W (fn := Tryd.f41) (N := 12) Tryd.func41 rfl Tryd.ntmps41 rfl ?_
  have hs : St ok (bz w0) w0 [vl t_network_Network x1 v2] [] := St.init (All.cons i0 All.nil)
  clear i0
  obtain ⟨cs3, hl4, rfl⟩ := hs.aggv (n := 3) 0 rfl rfl rfl
  refine W.seqK fun K6 hK6 => ?_
  refine W.region ?_
  refine WL.box (vs := cs3) hs rfl rfl (fun g7 w hs => ?_)
  refine WL.assign (v := .int .i64 0) rfl ?_
  refine WL.assign (v := .bool false) rfl ?_
  refine WL.nil ?_
  refine hK6 _ _ ?_
  refine W.seqK fun K8 hK8 => ?_
  refine W.region ?_
  refine WL.fieldAddr (m := 1) rfl FA39_1 rfl ?_
  refine WL.loadF (z := x1.Packets) F_network_Network_Packets hs 0 rfl 0 rfl rfl TI36 (.inr rfl) rfl rfl (fun v9 hs => ?_)
  obtain ⟨a10, c11, rfl⟩ := hs.slice 0 rfl
  refine WL.move (v := .int .i64 x5) rfl ?_
  have hs := hs.add (it := vl (tFun Tryd.prog (argK2 t_network_Packet (tInt .i64)) (fun r : Int => .int .i64 r)) (fun p : network_Packet × Int => network_position_1 p.1 p.2) (.func (.func 56) #[] #[])) fun ok hA => tFun_V.2 ⟨56, _, rfl, FN56, fun ok' w' hm p r vs hF har => by
    obtain ⟨u1, u2, rfl, h1, h2⟩ := har
    obtain rfl := tInt_V.1 h2
    exact (network_position_1.calls (x1 := p.1) (x5 := p.2) hF h1).mono (by rintro e w2 ⟨v, h1, y, h2, h3⟩; exact ⟨v, h1, h2, h3⟩)⟩
  obtain ⟨⟨x12, x13⟩, hxx12, hf⟩ := bindE hf
  refine WL.call (vs := [.slice a10 (x1.Packets).length c11, .int .i64 x5, (.func (.func 56) #[] #[])]) hs FN55 ⟨rfl, ⟨rfl, ⟨rfl, trivial⟩⟩⟩ (fun ok hA => slices_BinarySearchFunc_int.calls (x1 := x1.Packets) (x4 := x5) (x5 := (fun p : network_Packet × Int => network_position_1 p.1 p.2)) hxx12 (hA.get 1 rfl) (hA.get 0 rfl)) ?_
  rintro _ w hs
  refine WL.extract (v := .int .i64 x12) rfl rfl ?_
  refine WL.extract (v := .bool x13) rfl rfl ?_
  refine WL.assign (v := .int .i64 x12) rfl ?_
  refine WL.assign (v := .bool x13) rfl ?_
  refine WL.nil ?_
  refine hK8 _ _ ?_
  refine W.ret ?_
  have hr := Option.some.inj hf; subst hr
  exact ⟨_, resOk_two rfl rfl rfl, (), rfl, (hs.mask []).pick []⟩
end Go.Proofs.YthcohhpmpdijoaaDoor
