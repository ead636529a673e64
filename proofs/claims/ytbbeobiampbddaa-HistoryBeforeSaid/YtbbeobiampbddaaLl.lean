/- Function values as plain data: what they answer, wherever they are called. -/
import Derived.Test.YtbbeobiampbddaaLk
set_option linter.unusedVariables false
set_option linter.unusedSimpArgs false
namespace Go.Proofs.YtbbeobiampbddaaL
open Go Go.RowKit

/-- How a closure's arguments lie. -/
def argK1 {α : Type} (T : Ty α) : α → (Nat → Prop) → World → List Value → Prop := fun x ok w vs => ∃ v, vs = [v] ∧ T.V ok w x v
def argK2 {α β : Type} (S : Ty α) (T : Ty β) : α × β → (Nat → Prop) → World → List Value → Prop := fun x ok w vs => ∃ u v, vs = [u, v] ∧ S.V ok w x.1 u ∧ T.V ok w x.2 v
/-- What a function value does, from (ok, w) on. -/
def Does (P : Program) {α β : Type} (ar : α → (Nat → Prop) → World → List Value → Prop) (res : β → Value) (g : FuncId) (caps : Array Value) (ok : Nat → Prop) (w : World) (F : α → Option β) : Prop :=
  FN P g ∧ ∀ (ok' : Nat → Prop) (w' : World), (∀ b, ok b → b < w.heap.size → w'.heap[b]? = w.heap[b]? ∧ ok' b) →
    ∀ x r vs, F x = some r → ar x ok' w' vs → Calls P g (vs.toArray ++ caps) w' fun e w'' => ∃ v, e = .returned v ∧ v = res r ∧ St ok' (bz w') w'' [] []
def tFun (P : Program) {α β : Type} (ar : α → (Nat → Prop) → World → List Value → Prop) (res : β → Value) : Ty (α → Option β) where
  sz := 1
  agg := false
  R := fun ok w F cs => ∃ g caps, cs = [.func (.func g) #[] caps] ∧ Does P ar res g caps ok w F
  len := by rintro _ _ _ _ ⟨g, caps, rfl, _⟩; rfl
  one := by rintro _ _ _ _ ⟨g, caps, rfl, _⟩ u hu; simp at hu; subst hu; rfl
  move := by
    rintro ok ok' w w' F cs ⟨g, caps, rfl, hf, hd⟩ hm
    refine ⟨g, caps, rfl, hf, fun ok2 w2 hm2 => hd ok2 w2 fun b hb hl => ?_⟩
    obtain ⟨h1, h2⟩ := hm b hb hl
    have hl' : b < w'.heap.size := lt_of_some (h1.trans (Array.getElem?_eq_getElem hl))
    obtain ⟨h3, h4⟩ := hm2 b h2 hl'
    exact ⟨h3.trans h1, h4⟩
theorem tFun_V {P : Program} {α β : Type} {ar : α → (Nat → Prop) → World → List Value → Prop} {res : β → Value} {ok : Nat → Prop} {w : World} {F : α → Option β} {v : Value} :
    (tFun P ar res).V ok w F v ↔ ∃ g caps, v = .func (.func g) #[] caps ∧ Does P ar res g caps ok w F :=
  ⟨by rintro ⟨_, ⟨g, caps, rfl, h⟩, e⟩; exact ⟨g, caps, e, h⟩, by rintro ⟨g, caps, rfl, h⟩; exact ⟨_, ⟨g, caps, rfl, h⟩, rfl⟩⟩
section
variable {P : Program} {N : Nat} {Q : QE} {ρ : Env} {w : World} {w0 : Base} {ok0 : Nat → Prop} {Γ : List It} {Λ : List LObj}
variable {d : Option Tmp} {ty : TypeId} {pos : String} {aft : Array Edge} {gd : Option (Nat × Bool)} {ops : Array Oper} {rest : List Oper}
theorem WL.callF {α β : Type} {ar : α → (Nat → Prop) → World → List Value → Prop} {res : β → Value} {F : α → Option β} {f : Tmp} {fv : Value} {args : List Operand} {ats : Array TypeId} {vs : List Value} {x : α} {r : β}
    (hs : St ok0 w0 w Γ Λ) (i : Nat) (hi : Γ[i]? = some (vl (tFun P ar res) F fv)) (hf : ρ f = fv) (ha : Evs ρ args vs) (har : ∀ ok, All ok w Γ → ar x ok w vs) (hF : F x = some r)
    (K : ∀ w', St ok0 w0 w' Γ Λ → WL P N ops Q rest (putE ρ d (res r)) w')
    (hg : wantedE ops ρ ⟨d, .call { callee := .value (.tmp f), args := args.toArray, argTypes := ats }, ty, pos, aft, gd⟩ = true := by rfl) (hd : fits N d = true := by rfl) :
    WL P N ops Q (⟨d, .call { callee := .value (.tmp f), args := args.toArray, argTypes := ats }, ty, pos, aft, gd⟩ :: rest) ρ w := by
  obtain ⟨ok, hA, hput⟩ := hs.call
  obtain ⟨g, caps, rfl, hFN, hdo⟩ := tFun_V.1 (hA.get i hi)
  refine WL.enter hg hd (w' := w) (f := g) (args := vs.toArray ++ caps) ?_ (hdo ok w (fun b hb _ => ⟨rfl, hb⟩) x r vs hF (har ok hA)) ?_
  · show (do let df ← Deferred.ofValue (ρ f) (args.toArray.map ρ.ev); invoke df.target df.args : Sem Next).run P w = _
    rw [hf, List.map_toArray, ha.map]
    simpa [Deferred.ofValue, invoke] using hFN (vs.toArray ++ caps) w
  · rintro v w' ⟨rfl, hs'⟩
    exact K w' (hput w' [] [] hs')
/-- A variable of the call's own is from now on only read: what a closure has captured. -/
theorem St.freezeB (hs : St ok0 w0 w Γ Λ) (i : Nat) {α : Type} {A : Ty α} {x : α} {g : Nat} {T : TypeId} {cs : List Value} (hi : Λ[i]? = some (blk g T cs)) (hR : ∀ ok, All ok w Γ → A.R ok w x cs) :
    St ok0 w0 w (pl A x ⟨g, 0, none⟩ :: Γ) (Λ.eraseIdx i) := by
  have h1 := hs.toT i hi hR
  have hlt : i < Λ.length := (List.getElem?_eq_some_iff.1 hi).1
  have h2 := h1.freeze i (o := tbx A x g T) (it := pl A x ⟨g, 0, none⟩) (by rw [List.getElem?_set_self hlt]) fun ok bs h => by
    obtain ⟨rfl, cs', hc, hR'⟩ := h
    exact ⟨rfl, .inr (by simp), lt_of_some hc, cs', A.move hR' fun b hb _ => ⟨rfl, .inl hb⟩, fun k u hu => by
      have := blk_cell hc (0 + k)
      rw [this, Nat.zero_add]
      exact hu⟩
  have e : (Λ.set i (tbx A x g T)).eraseIdx i = Λ.eraseIdx i := by
    apply List.ext_getElem?
    intro k
    rw [List.getElem?_eraseIdx, List.getElem?_eraseIdx]
    by_cases hk : k < i
    · rw [if_pos hk, if_pos hk, List.getElem?_set_ne (by omega)]
    · rw [if_neg hk, if_neg hk, List.getElem?_set_ne (by omega)]
  rwa [e] at h2
end
end Go.Proofs.YtbbeobiampbddaaL
