/- Regions whose tail Go leaves open; structs compared; slices that may be nil. -/
import Derived.Test.YtbbeobiampbddaaLi
import Derived.Laws.StructEq
set_option linter.unusedVariables false
set_option linter.unusedSimpArgs false
set_option linter.unnecessarySimpa false
namespace Go.Proofs.YtbbeobiampbddaaL
open Go Go.RowKit

section
variable {P : Program} {N : Nat} {Q : QE} {ρ ρ0 : Env} {w w1 : World} {w0 : Base} {l : List Oper} {ok0 : Nat → Prop} {Γ : List It} {Λ : List LObj}
/-! Structs compared. -/
def EqR (P : Program) (d : Nat) (T : TypeId) (u v : Value) (b : Bool) : Prop := ∀ w, (Op.equalIn d T u v).run P w = .ok b w
def EqL (P : Program) (d : Nat) (xs ys : Array Value) (fs : List Field) (b : Bool) : Prop := ∀ w, (Op.eqFields d xs ys fs).run P w = .ok b w
theorem EqR.int {d : Nat} {T : TypeId} {k k' : IntKind} (a b : Int) (h : P.underlying T = some (.int k')) : EqR P (d + 1) T (.int k a) (.int k b) (a == b) := fun w => run_equalIn_int w d T k k' a b h
theorem EqR.bool {d : Nat} {T : TypeId} (a b : Bool) (h : P.underlying T = some .bool) : EqR P (d + 1) T (.bool a) (.bool b) (a == b) := fun w => run_equalIn_bool w d T a b h
theorem bstr_list (l : List UInt8) : (⟨l.toArray⟩ : ByteArray).toList = l := by rw [ByteArray.toList_eq]
theorem EqR.str {d : Nat} {T : TypeId} (a b : List UInt8) (h : P.underlying T = some .string) : EqR P (d + 1) T (bstr a) (bstr b) (a == b) := fun w => by
  have := run_equalIn_string w d T ⟨a.toArray⟩ ⟨b.toArray⟩ h
  rw [bstr_list, bstr_list] at this
  exact this
theorem EqR.agg {d : Nat} {T : TypeId} {xs ys : Array Value} {fs : Array Field} {b : Bool} (hS : P.underlying T = some (.struct fs)) (hp : P.stoodInHeld T = false) (h : EqL P d xs ys fs.toList b) : EqR P (d + 1) T (.agg xs) (.agg ys) b := by
  have e : P.fieldsOf T = fs := by simp [Program.fieldsOf, hS]
  intro w
  rw [run_equalIn_agg w d T xs ys (e ▸ hS) hp, e]
  exact h w
theorem EqL.nil {d : Nat} {xs ys : Array Value} : EqL P d xs ys [] true := fun w => rfl
theorem EqL.cons {d : Nat} {xs ys : Array Value} {f : Field} {fs : List Field} {u v : Value} {b c : Bool} (hn : f.name ≠ "_") (hu : ∀ w, (part f.type xs f.offset).run P w = .ok u w) (hv : ∀ w, (part f.type ys f.offset).run P w = .ok v w)
    (h : EqR P d f.type u v b) (hr : EqL P d xs ys fs c) : EqL P d xs ys (f :: fs) (b && c) := by
  intro w
  unfold Op.eqFields
  rw [if_pos hn]
  refine (run_bind (hu w)).trans ((run_bind (hv w)).trans ((run_bind (h w)).trans ?_))
  cases b with
  | false => rfl
  | true => exact hr w
theorem eql_of {T : TypeId} {xs ys : Array Value} {b c : Bool} (h : EqR P 10000 T (.agg xs) (.agg ys) b) (e : b = c) (w : World) : (binOp .eql T (.agg xs) (.agg ys)).run P w = .ok (.bool c) w := by
  subst e
  rw [run_eql_struct, h w]
  rfl
theorem neq_of {T : TypeId} {xs ys : Array Value} {b c : Bool} (h : EqR P 10000 T (.agg xs) (.agg ys) b) (e : b = c) (w : World) : (binOp .neq T (.agg xs) (.agg ys)).run P w = .ok (.bool (!c)) w := by
  subst e
  rw [run_neq_struct, h w]
  rfl
variable {d : Option Tmp} {ty : TypeId} {pos : String} {aft : Array Edge} {gd : Option (Nat × Bool)} {ops : Array Oper} {rest : List Oper}
theorem WL.eqA {op : BinOp} {T T' : TypeId} {x y : Operand} {xs ys : Array Value} {b : Bool} (hx : ρ.ev x = .agg xs) (hy : ρ.ev y = .agg ys) (hgt : P.eqGuardType P.depth T = false)
    (hb : ∀ w, (binOp op T (.agg xs) (.agg ys)).run P w = .ok (.bool b) w) (K : WL P N ops Q rest (putE ρ d (.bool b)) w)
    (hg : wantedE ops ρ ⟨d, .binOp op T x y T', ty, pos, aft, gd⟩ = true := by rfl) (hd : fits N d = true := by rfl) :
    WL P N ops Q (⟨d, .binOp op T x y T', ty, pos, aft, gd⟩ :: rest) ρ w :=
  WL.value hg hd (v := .bool b) (w' := w) (by
    show (do pure (Next.value (← (do eqGuard op T x y (ρ.ev x) (ρ.ev y); binOp op T (ρ.ev x) (ρ.ev y)))) : Sem Next).run P w = _
    rw [hx, hy]
    exact exec_v ((run_bind (run_eqGuard_agg w op T x y xs ys hgt)).trans (hb w))) K
end
end Go.Proofs.YtbbeobiampbddaaL
