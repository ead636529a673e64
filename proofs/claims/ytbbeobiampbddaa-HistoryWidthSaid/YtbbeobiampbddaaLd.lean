/- The operations, one by one: numbers, tests, memory. -/
import Derived.Test.YtbbeobiampbddaaLc
set_option linter.unusedVariables false
set_option linter.unusedSimpArgs false
namespace Go.Proofs.YtbbeobiampbddaaL
open Go Go.RowKit

theorem exec_v {P : Program} {w w' : World} {s : Sem Value} {v : Value} (h : s.run P w = .ok v w') : (do pure (Next.value (← s)) : Sem Next).run P w = .ok (.value v) w' := (run_bind h).trans rfl
theorem exec_u {P : Program} {w w' : World} {s : Sem Unit} (h : s.run P w = .ok () w') : (do s; pure Next.skip : Sem Next).run P w = .ok .skip w' := (run_bind h).trans rfl

section
variable {P : Program} {N : Nat} {Q : QE} {ρ : Env} {w : World} {ops : Array Oper} {rest : List Oper}
variable {d : Option Tmp} {ty : TypeId} {pos : String} {aft : Array Edge} {g : Option (Nat × Bool)}

theorem WL.move {x : Operand} {v : Value} (h : ρ.ev x = v) (k : WL P N ops Q rest (putE ρ d v) w)
    (hg : wantedE ops ρ ⟨d, .move x, ty, pos, aft, g⟩ = true := by rfl) (hd : fits N d = true := by rfl) :
    WL P N ops Q (⟨d, .move x, ty, pos, aft, g⟩ :: rest) ρ w := WL.value hg hd (v := v) (w' := w) (by subst h; rfl) k
theorem WL.assign {x : Operand} {v : Value} (h : ρ.ev x = v) (k : WL P N ops Q rest (putE ρ d v) w)
    (hg : wantedE ops ρ ⟨d, .assign x, ty, pos, aft, g⟩ = true := by rfl) (hd : fits N d = true := by rfl) :
    WL P N ops Q (⟨d, .assign x, ty, pos, aft, g⟩ :: rest) ρ w := WL.value hg hd (v := v) (w' := w) (by subst h; rfl) k
theorem WL.pickT {c a b : Operand} {v : Value} (hc : ρ.ev c = .bool true) (h : ρ.ev a = v) (k : WL P N ops Q rest (putE ρ d v) w)
    (hg : wantedE ops ρ ⟨d, .pick c a b, ty, pos, aft, g⟩ = true := by rfl) (hd : fits N d = true := by rfl) :
    WL P N ops Q (⟨d, .pick c a b, ty, pos, aft, g⟩ :: rest) ρ w :=
  WL.value hg hd (v := v) (w' := w) (by subst h; show (do pure (Next.value (if ← asBool (ρ.ev c) then ρ.ev a else ρ.ev b)) : Sem Next).run P w = _; rw [hc]; rfl) k
theorem WL.pickF {c a b : Operand} {v : Value} (hc : ρ.ev c = .bool false) (h : ρ.ev b = v) (k : WL P N ops Q rest (putE ρ d v) w)
    (hg : wantedE ops ρ ⟨d, .pick c a b, ty, pos, aft, g⟩ = true := by rfl) (hd : fits N d = true := by rfl) :
    WL P N ops Q (⟨d, .pick c a b, ty, pos, aft, g⟩ :: rest) ρ w :=
  WL.value hg hd (v := v) (w' := w) (by subst h; show (do pure (Next.value (if ← asBool (ρ.ev c) then ρ.ev a else ρ.ev b)) : Sem Next).run P w = _; rw [hc]; rfl) k

/-- A guard that is met, or not, by a fact on its test. -/
theorem wanted_of {o : Oper} {j : Nat} {b : Bool} (ho : o.guard = some (j, b)) {t : Tmp} (ht : (ops[j]?).bind (·.dst) = some t) {c : Bool} (hc : ρ t = .bool c) :
    wantedE ops ρ o = (c == b) := by
  unfold wantedE Region.wanted
  rw [ho]
  simp only [yld, ht, hc]
  cases c <;> cases b <;> rfl

theorem wanted_undef {o : Oper} {j : Nat} {b : Bool} (ho : o.guard = some (j, b)) {t : Tmp} (ht : (ops[j]?).bind (·.dst) = some t) (hc : ρ t = undef) : wantedE ops ρ o = false := by
  unfold wantedE Region.wanted
  rw [ho]
  simp [yld, ht, hc, undef]

/-! Two operands. -/
def IntBin (op : BinOp) (k : IntKind) (a b : Int) (v : Value) : Prop := ∀ (P : Program) (T : TypeId) (w : World), (binOp op T (.int k a) (.int k b)).run P w = .ok v w
theorem ib_add (k : IntKind) (a b : Int) : IntBin .add k a b (.int k (k.wrap (a + b))) := fun P T w => by simp [binOp, Op.intArith, Sem.run]
theorem ib_sub (k : IntKind) (a b : Int) : IntBin .sub k a b (.int k (k.wrap (a - b))) := fun P T w => by simp [binOp, Op.intArith, Sem.run]
theorem ib_mul (k : IntKind) (a b : Int) : IntBin .mul k a b (.int k (k.wrap (a * b))) := fun P T w => by simp [binOp, Op.intArith, Sem.run]
theorem ib_quo (k : IntKind) (a b : Int) (h : b ≠ 0) : IntBin .quo k a b (.int k (k.wrap (a.tdiv b))) := fun P T w => by simp [binOp, Op.intDiv, Sem.run, h]
theorem ib_rem (k : IntKind) (a b : Int) (h : b ≠ 0) : IntBin .rem k a b (.int k (a.tmod b)) := fun P T w => by simp [binOp, Op.intDiv, Sem.run, h]
theorem ib_eql (k : IntKind) (a b : Int) : IntBin .eql k a b (.bool (a == b)) := fun P T w => by simp [binOp, Op.intCmp, Sem.run]
theorem ib_neq (k : IntKind) (a b : Int) : IntBin .neq k a b (.bool (a != b)) := fun P T w => by simp [binOp, Op.intCmp, Sem.run]
theorem ib_lss (k : IntKind) (a b : Int) : IntBin .lss k a b (.bool (decide (a < b))) := fun P T w => by simp [binOp, Op.intCmp, Sem.run]
theorem ib_leq (k : IntKind) (a b : Int) : IntBin .leq k a b (.bool (decide (a ≤ b))) := fun P T w => by simp [binOp, Op.intCmp, Sem.run]
theorem ib_gtr (k : IntKind) (a b : Int) : IntBin .gtr k a b (.bool (decide (b < a))) := fun P T w => by simp [binOp, Op.intCmp, Sem.run]
theorem ib_geq (k : IntKind) (a b : Int) : IntBin .geq k a b (.bool (decide (b ≤ a))) := fun P T w => by simp [binOp, Op.intCmp, Sem.run]
/-- The bits of two numbers. -/
def bitsOf (op : BinOp) (k : IntKind) (a b : Int) : Int :=
  k.wrap (match op with
    | .and => (BitVec.ofInt k.bits a &&& BitVec.ofInt k.bits b).toNat
    | .or => (BitVec.ofInt k.bits a ||| BitVec.ofInt k.bits b).toNat
    | .xor => (BitVec.ofInt k.bits a ^^^ BitVec.ofInt k.bits b).toNat
    | _ => (BitVec.ofInt k.bits a &&& ~~~ BitVec.ofInt k.bits b).toNat : Nat)
theorem ib_and (k : IntKind) (a b : Int) : IntBin .and k a b (.int k (bitsOf .and k a b)) := fun P T w => by simp [binOp, Op.intBits, Sem.run, bitsOf]
theorem ib_or (k : IntKind) (a b : Int) : IntBin .or k a b (.int k (bitsOf .or k a b)) := fun P T w => by simp [binOp, Op.intBits, Sem.run, bitsOf]
theorem ib_xor (k : IntKind) (a b : Int) : IntBin .xor k a b (.int k (bitsOf .xor k a b)) := fun P T w => by simp [binOp, Op.intBits, Sem.run, bitsOf]
theorem ib_andNot (k : IntKind) (a b : Int) : IntBin .andNot k a b (.int k (bitsOf .andNot k a b)) := fun P T w => by simp [binOp, Op.intBits, Sem.run, bitsOf]
def shlI (k : IntKind) (a b : Int) : Int := k.wrap (a * 2 ^ (min b.toNat k.bits))
def shrI (k : IntKind) (a b : Int) : Int := a.fdiv (2 ^ (min b.toNat k.bits))

theorem guard_int (op : BinOp) (T : TypeId) (x y : Operand) (k k' : IntKind) (a b : Int) (P : Program) (w : World) : (eqGuard op T x y (.int k a) (.int k' b)).run P w = .ok () w := by
  unfold eqGuard; cases op <;> rfl
theorem WL.bin {op : BinOp} {T T' : TypeId} {x y : Operand} {k : IntKind} {a b : Int} {v : Value} (hx : ρ.ev x = .int k a) (hy : ρ.ev y = .int k b) (hb : IntBin op k a b v)
    (K : WL P N ops Q rest (putE ρ d v) w)
    (hg : wantedE ops ρ ⟨d, .binOp op T x y T', ty, pos, aft, g⟩ = true := by rfl) (hd : fits N d = true := by rfl) :
    WL P N ops Q (⟨d, .binOp op T x y T', ty, pos, aft, g⟩ :: rest) ρ w :=
  WL.value hg hd (v := v) (w' := w) (by
    show (do pure (Next.value (← (do eqGuard op T x y (ρ.ev x) (ρ.ev y); binOp op T (ρ.ev x) (ρ.ev y)))) : Sem Next).run P w = _
    rw [hx, hy]
    exact exec_v ((run_bind (guard_int op T x y k k a b P w)).trans (hb P T w))) K
theorem WL.shl {T T' : TypeId} {x y : Operand} {k k' : IntKind} {a b : Int} (hx : ρ.ev x = .int k a) (hy : ρ.ev y = .int k' b) (hb : 0 ≤ b)
    (K : WL P N ops Q rest (putE ρ d (.int k (shlI k a b))) w)
    (hg : wantedE ops ρ ⟨d, .binOp .shl T x y T', ty, pos, aft, g⟩ = true := by rfl) (hd : fits N d = true := by rfl) :
    WL P N ops Q (⟨d, .binOp .shl T x y T', ty, pos, aft, g⟩ :: rest) ρ w :=
  WL.value hg hd (v := .int k (shlI k a b)) (w' := w) (by
    show (do pure (Next.value (← (do eqGuard .shl T x y (ρ.ev x) (ρ.ev y); binOp .shl T (ρ.ev x) (ρ.ev y)))) : Sem Next).run P w = _
    rw [hx, hy]
    refine exec_v ((run_bind (guard_int .shl T x y k k' a b P w)).trans ?_)
    have : ¬ b < 0 := by omega
    simp [binOp, Op.shift, Sem.run, this, shlI]) K
theorem WL.shr {T T' : TypeId} {x y : Operand} {k k' : IntKind} {a b : Int} (hx : ρ.ev x = .int k a) (hy : ρ.ev y = .int k' b) (hb : 0 ≤ b)
    (K : WL P N ops Q rest (putE ρ d (.int k (shrI k a b))) w)
    (hg : wantedE ops ρ ⟨d, .binOp .shr T x y T', ty, pos, aft, g⟩ = true := by rfl) (hd : fits N d = true := by rfl) :
    WL P N ops Q (⟨d, .binOp .shr T x y T', ty, pos, aft, g⟩ :: rest) ρ w :=
  WL.value hg hd (v := .int k (shrI k a b)) (w' := w) (by
    show (do pure (Next.value (← (do eqGuard .shr T x y (ρ.ev x) (ρ.ev y); binOp .shr T (ρ.ev x) (ρ.ev y)))) : Sem Next).run P w = _
    rw [hx, hy]
    refine exec_v ((run_bind (guard_int .shr T x y k k' a b P w)).trans ?_)
    have : ¬ b < 0 := by omega
    simp [binOp, Op.shift, Sem.run, this, shrI]) K

/-! Strings and bools. -/
def StrBin (op : BinOp) (a b : List UInt8) (v : Value) : Prop := ∀ (P : Program) (T : TypeId) (w : World), (binOp op T (bstr a) (bstr b)).run P w = .ok v w
theorem bl (a : List UInt8) : (⟨a.toArray⟩ : ByteArray).toList = a := by rw [ByteArray.toList_eq]
theorem sb_eql (a b : List UInt8) : StrBin .eql a b (.bool (a == b)) := fun P T w => by simp [binOp, bstr, Op.stringOp, Sem.run, bl]
theorem sb_neq (a b : List UInt8) : StrBin .neq a b (.bool (a != b)) := fun P T w => by simp [binOp, bstr, Op.stringOp, Sem.run, bl, bne]
theorem sb_lss (a b : List UInt8) : StrBin .lss a b (.bool (Op.bytesLess a b)) := fun P T w => by simp [binOp, bstr, Op.stringOp, Sem.run, bl]
theorem sb_leq (a b : List UInt8) : StrBin .leq a b (.bool (Op.bytesLess a b || a == b)) := fun P T w => by simp [binOp, bstr, Op.stringOp, Sem.run, bl]
theorem sb_gtr (a b : List UInt8) : StrBin .gtr a b (.bool (!(Op.bytesLess a b || a == b))) := fun P T w => by simp [binOp, bstr, Op.stringOp, Sem.run, bl]
theorem sb_geq (a b : List UInt8) : StrBin .geq a b (.bool (!Op.bytesLess a b)) := fun P T w => by simp [binOp, bstr, Op.stringOp, Sem.run, bl]
theorem sb_add (a b : List UInt8) (h : a.length + b.length ≤ 9223372036854775807) : StrBin .add a b (bstr (a ++ b)) := fun P T w => by
  have e : (⟨a.toArray⟩ : ByteArray) ++ ⟨b.toArray⟩ = ⟨(a ++ b).toArray⟩ := by
    apply ByteArray.ext
    simp
  have hs : ¬ (((⟨a.toArray⟩ : ByteArray).size + (⟨b.toArray⟩ : ByteArray).size : Nat) : Int) > IntKind.i64.max := by
    have : IntKind.i64.max = 9223372036854775807 := by decide
    rw [this]
    simp only [ByteArray.size, List.size_toArray]
    omega
  simp only [binOp, bstr, Op.stringOp]
  rw [if_neg hs, e]
  rfl
theorem guard_str (op : BinOp) (T : TypeId) (x y : Operand) (a b : List UInt8) (P : Program) (w : World) : (eqGuard op T x y (bstr a) (bstr b)).run P w = .ok () w := by
  unfold eqGuard; cases op <;> rfl
theorem WL.binS {op : BinOp} {T T' : TypeId} {x y : Operand} {a b : List UInt8} {v : Value} (hx : ρ.ev x = bstr a) (hy : ρ.ev y = bstr b) (hb : StrBin op a b v)
    (K : WL P N ops Q rest (putE ρ d v) w)
    (hg : wantedE ops ρ ⟨d, .binOp op T x y T', ty, pos, aft, g⟩ = true := by rfl) (hd : fits N d = true := by rfl) :
    WL P N ops Q (⟨d, .binOp op T x y T', ty, pos, aft, g⟩ :: rest) ρ w :=
  WL.value hg hd (v := v) (w' := w) (by
    show (do pure (Next.value (← (do eqGuard op T x y (ρ.ev x) (ρ.ev y); binOp op T (ρ.ev x) (ρ.ev y)))) : Sem Next).run P w = _
    rw [hx, hy]
    exact exec_v ((run_bind (guard_str op T x y a b P w)).trans (hb P T w))) K
theorem run_und {P : Program} {T : TypeId} {u : TypeDesc} (h : P.underlying T = some u) (w : World) : (Go.underlying T).run P w = .ok u w := by
  simp [Go.underlying, Sem.run, program, h]
theorem WL.eqB {T T' : TypeId} {x y : Operand} {a b : Bool} (hT : P.underlying T = some .bool) (hx : ρ.ev x = .bool a) (hy : ρ.ev y = .bool b)
    (K : WL P N ops Q rest (putE ρ d (.bool (a == b))) w)
    (hg : wantedE ops ρ ⟨d, .binOp .eql T x y T', ty, pos, aft, g⟩ = true := by rfl) (hd : fits N d = true := by rfl) :
    WL P N ops Q (⟨d, .binOp .eql T x y T', ty, pos, aft, g⟩ :: rest) ρ w :=
  WL.value hg hd (v := .bool (a == b)) (w' := w) (by
    show (do pure (Next.value (← (do eqGuard .eql T x y (ρ.ev x) (ρ.ev y); binOp .eql T (ρ.ev x) (ρ.ev y)))) : Sem Next).run P w = _
    rw [hx, hy]
    refine exec_v ((run_bind (show (eqGuard .eql T x y (.bool a) (.bool b)).run P w = .ok () w from rfl)).trans ?_)
    show (do pure (Value.bool (← Op.equal T (.bool a) (.bool b))) : Sem Value).run P w = _
    refine (run_bind (x := a == b) (w' := w) ?_).trans rfl
    exact (run_bind (run_und hT w)).trans rfl) K
theorem WL.neB {T T' : TypeId} {x y : Operand} {a b : Bool} (hT : P.underlying T = some .bool) (hx : ρ.ev x = .bool a) (hy : ρ.ev y = .bool b)
    (K : WL P N ops Q rest (putE ρ d (.bool (a != b))) w)
    (hg : wantedE ops ρ ⟨d, .binOp .neq T x y T', ty, pos, aft, g⟩ = true := by rfl) (hd : fits N d = true := by rfl) :
    WL P N ops Q (⟨d, .binOp .neq T x y T', ty, pos, aft, g⟩ :: rest) ρ w :=
  WL.value hg hd (v := .bool (a != b)) (w' := w) (by
    show (do pure (Next.value (← (do eqGuard .neq T x y (ρ.ev x) (ρ.ev y); binOp .neq T (ρ.ev x) (ρ.ev y)))) : Sem Next).run P w = _
    rw [hx, hy]
    refine exec_v ((run_bind (show (eqGuard .neq T x y (.bool a) (.bool b)).run P w = .ok () w from rfl)).trans ?_)
    show (do pure (Value.bool (!(← Op.equal T (.bool a) (.bool b)))) : Sem Value).run P w = _
    refine (run_bind (x := a == b) (w' := w) ?_).trans rfl
    exact (run_bind (run_und hT w)).trans rfl) K
theorem WL.not {T : TypeId} {x : Operand} {b : Bool} (hx : ρ.ev x = .bool b) (K : WL P N ops Q rest (putE ρ d (.bool (!b))) w)
    (hg : wantedE ops ρ ⟨d, .unOp .not T x, ty, pos, aft, g⟩ = true := by rfl) (hd : fits N d = true := by rfl) :
    WL P N ops Q (⟨d, .unOp .not T x, ty, pos, aft, g⟩ :: rest) ρ w :=
  WL.value hg hd (v := .bool (!b)) (w' := w) (by
    show (do pure (Next.value (← Op.unary .not (ρ.ev x))) : Sem Next).run P w = _
    rw [hx]
    exact exec_v rfl) K
theorem WL.neg {T : TypeId} {x : Operand} {k : IntKind} {b : Int} (hx : ρ.ev x = .int k b) (K : WL P N ops Q rest (putE ρ d (.int k (k.wrap (0 - b)))) w)
    (hg : wantedE ops ρ ⟨d, .unOp .neg T x, ty, pos, aft, g⟩ = true := by rfl) (hd : fits N d = true := by rfl) :
    WL P N ops Q (⟨d, .unOp .neg T x, ty, pos, aft, g⟩ :: rest) ρ w :=
  WL.value hg hd (v := .int k (k.wrap (0 - b))) (w' := w) (by
    show (do pure (Next.value (← Op.unary .neg (ρ.ev x))) : Sem Next).run P w = _
    rw [hx]
    exact exec_v rfl) K
/-- A conversion between whole numbers. -/
theorem WL.convI {T U : TypeId} {x : Operand} {k k' : IntKind} {b : Int} {u : TypeDesc} (hT : P.underlying T = some u) (hU : P.underlying U = some (.int k')) (hx : ρ.ev x = .int k b)
    (K : WL P N ops Q rest (putE ρ d (.int k' (k'.wrap b))) w)
    (hg : wantedE ops ρ ⟨d, .convert T U x, ty, pos, aft, g⟩ = true := by rfl) (hd : fits N d = true := by rfl) :
    WL P N ops Q (⟨d, .convert T U x, ty, pos, aft, g⟩ :: rest) ρ w :=
  WL.value hg hd (v := .int k' (k'.wrap b)) (w' := w) (by
    show (do pure (Next.value (← convert T U (ρ.ev x))) : Sem Next).run P w = _
    rw [hx]
    refine exec_v ?_
    unfold convert
    refine (run_bind (run_und hT w)).trans ?_
    refine (run_bind (run_und hU w)).trans ?_
    rfl) K
theorem WL.extract {x : Operand} {vs : List Value} {i : Nat} {v : Value} (hx : ρ.ev x = .tuple vs.toArray) (hv : vs[i]? = some v) (K : WL P N ops Q rest (putE ρ d v) w)
    (hg : wantedE ops ρ ⟨d, .extract x i, ty, pos, aft, g⟩ = true := by rfl) (hd : fits N d = true := by rfl) :
    WL P N ops Q (⟨d, .extract x i, ty, pos, aft, g⟩ :: rest) ρ w :=
  WL.value hg hd (v := v) (w' := w) (by
    show (do pure (Next.value (← Instr.extract (ρ.ev x) i)) : Sem Next).run P w = _
    rw [hx]
    refine exec_v ?_
    simp [Instr.extract, hv, Sem.run]) K
end
end Go.Proofs.YtbbeobiampbddaaL
