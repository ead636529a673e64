/- Small rules for walks by hand over a map of maps. -/
import Derived.Test.YtbbeobiampbddaaMc
set_option linter.unusedVariables false
set_option linter.unusedSimpArgs false
namespace Go.Proofs.YtbbeobiampbddaaL
open Go Go.RowKit
section
variable {P : Program} {N : Nat} {Q : QE} {ρ : Env} {w w' : World} {w0 : Base} {ok0 : Nat → Prop} {Γ : List It} {Λ : List LObj}
variable {d : Option Tmp} {ty : TypeId} {pos : String} {aft : Array Edge} {gd : Option (Nat × Bool)} {ops : Array Oper} {rest : List Oper}
theorem St.drewN (hs : St ok0 w0 w Γ Λ) (q : Nat) : St ok0 w0 (w.drewN q) Γ Λ := hs.below ⟨rfl, rfl, rfl, Nat.le_refl _, fun _ _ => rfl⟩
theorem mapEq_run {T K V : TypeId} {a : Option Nat} (hT : P.underlying T = some (.map K V)) (w : World) : (Op.equal T (.map a) (.map none)).run P w = .ok a.isNone w := by
  show (Op.equalIn 10000 T (.map a) (.map none)).run P w = _
  unfold Op.equalIn
  refine (run_bind (run_und hT w)).trans ?_
  cases a <;> rfl
theorem WL.nilEqM {T K V T' : TypeId} {x : Operand} {a : Option Nat} (hT : P.underlying T = some (.map K V)) (hx : ρ.ev x = .map a)
    (K : WL P N ops Q rest (putE ρ d (.bool a.isNone)) w)
    (hg : wantedE ops ρ ⟨d, .binOp .eql T x (.const (.map none)) T', ty, pos, aft, gd⟩ = true := by rfl) (hd : fits N d = true := by rfl) :
    WL P N ops Q (⟨d, .binOp .eql T x (.const (.map none)) T', ty, pos, aft, gd⟩ :: rest) ρ w :=
  WL.value hg hd (v := .bool a.isNone) (w' := w) (by
    show (do pure (Next.value (← (do eqGuard .eql T x (.const (.map none)) (ρ.ev x) (.map none); binOp .eql T (ρ.ev x) (.map none)))) : Sem Next).run P w = _
    rw [hx]
    refine exec_v ((run_bind (x := ()) (w' := w) (by unfold eqGuard; rfl)).trans ?_)
    show (do pure (Value.bool (← Op.equal T (.map a) (.map none))) : Sem Value).run P w = _
    exact (run_bind (mapEq_run hT w)).trans rfl) K
/-- A call, by what it does to the whole state. -/
theorem WL.callR {f : FuncId} {args : List Operand} {ats : Array TypeId} {vs : List Value} {R : Value → World → Prop} (hf : FN P f) (ha : Evs ρ args vs)
    (hc : Calls P f vs.toArray w fun e w' => ∃ v, e = .returned v ∧ R v w')
    (K : ∀ v w', R v w' → WL P N ops Q rest (putE ρ d v) w')
    (hg : wantedE ops ρ ⟨d, .call { callee := .value (.func f), args := args.toArray, argTypes := ats }, ty, pos, aft, gd⟩ = true := by rfl) (hd : fits N d = true := by rfl) :
    WL P N ops Q (⟨d, .call { callee := .value (.func f), args := args.toArray, argTypes := ats }, ty, pos, aft, gd⟩ :: rest) ρ w := by
  refine WL.enter (R := R) hg hd (w' := w) (f := f) (args := vs.toArray) ?_ hc K
  show (invoke (.fn (.func f) #[]) (#[] ++ args.toArray.map ρ.ev)).run P w = _
  rw [List.map_toArray, ha.map]
  simpa [invoke] using hf vs.toArray w
theorem St.bldWeak {φ : Type} {K : FK φ} {C : List (BE φ) → Prop} {g : Nat} {x : List (List UInt8 × List φ)} (hs : St ok0 w0 w Γ (bldc K C g x :: Λ)) : St ok0 w0 w Γ (bldo K g x :: Λ) := by
  obtain ⟨b, ⟨_, hc⟩, h⟩ := hs.bldOpen
  exact St.bldClose (K := K) h trivial hc
/-- The inner map that a hole is in, looked up. -/
theorem WL.holeLook {φ : Type} (K : FK φ) {h : Hole φ} {g : Nat} {t kt et : TypeId} {m xo : Operand} (hs : St ok0 w0 w Γ (allo (holeL K g h) :: Λ)) (hk : KK P kt bstr) (ht : P.underlying t = some (.map kt et)) (hm : ρ.ev m = .map (some g)) (hx : ρ.ev xo = bstr h.k) (hz : ∀ w, (zeroValue et).run P w = .ok (.map none) w)
    (hb : ∀ q ∈ h.b1, q.1 ≠ h.k)
    (K1 : WL P N ops Q rest (putE ρ d (.map (some h.gi))) w)
    (hg : wantedE ops ρ ⟨d, .lookup t m xo false, ty, pos, aft, gd⟩ = true := by rfl) (hd : fits N d = true := by rfl) :
    WL P N ops Q (⟨d, .lookup t m xo false, ty, pos, aft, gd⟩ :: rest) ρ w := by
  have h1 : St ok0 w0 w Γ (mapo bstr tCell g (outL h.all) :: (mapo bstr (tRaw K.n) h.gi (ents K (h.f1 ++ (h.y, h.v) :: h.f2)) :: (owns K (h.f1 ++ h.f2) ++ restL K (h.b1 ++ h.b2)) ++ Λ)) := hs.allOpen
  refine WL.lookup (V := tCell) (z0 := Value.map none) h1 0 rfl hk ht hm hx hz (fun _ _ => tCell_V.2 ⟨rfl, rfl⟩) rfl (fun v h3 => ?_) hg hd
  have hv := h3.cellv 0 rfl
  have ha : (outL h.all).lookup h.k = some (Value.map (some h.gi)) := at_hole hb
  rw [ha] at hv
  rw [hv]
  exact K1
end
end Go.Proofs.YtbbeobiampbddaaL
