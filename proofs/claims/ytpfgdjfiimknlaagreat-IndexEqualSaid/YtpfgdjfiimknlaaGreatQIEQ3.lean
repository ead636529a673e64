/- What the row leans on, as few texts. -/
import Derived.Test.YtpfgdjfiimknlaaGreatQIEQ0
import Derived.Sort.Grow
import Derived.Deep.Draws
import Derived.Shelf.SlSortCmp.WholeK
import Derived.Shelf.SlSortCmp.NoneTotal
import Derived.Test.YtpfgdjfiimknlaaGreatQIEQ1
import Derived.Test.YtpfgdjfiimknlaaGreatQIEQ2
import Derived.RangeFuncFrom
import Derived.RangeFuncBox
import Derived.RangeFuncLeaves
import Derived.RangeFuncNested
import Derived.RangeFuncBound
import Derived.RangeFuncCalls
import Derived.Shelf.Abstract
import Derived.WalkKit
import Derived.OwnWalkIn
import Derived.TacticsInMore
import Derived.LoopNIn
import Derived.LoopIn
import Derived.BigRegionIn
import Derived.Maps.AppendAt
import Derived.Maps.RangeWalk
import Derived.Sort.OwnSorted
set_option linter.unusedVariables false
set_option linter.unusedSimpArgs false
set_option linter.unnecessarySimpa false
set_option linter.unusedSectionVars false
set_option maxRecDepth 20000
namespace Go.Proofs.YtpfgdjfiimknlaaGreatL
section
open Go Go.RowKit
section
variable {P : Program} {N : Nat} {Q : QE} {ρ ρ0 : Env} {w w1 : World} {l : List Oper}
def oblI (P : Program) (N : Nat) (l : List Oper) (I : World → Prop) (ρ0 : Env) (po : Nat → Value → Prop) (m i : Nat) : Prop :=
 match l[i]? with
 | none => True
 | some o => ∀ ρ w, I w → (∀ s, Y38 (l.take m) s = true → ρ s = ρ0 s) → (∀ j, Y3e l l.length i j = true → po j (Y14 ρ (Y1b l j))) →
   WL P N l.toArray (oneQ ρ o.dst fun v w' => po i (Y3L o.dst v) ∧ I w') [o] ρ w
theorem W.anyI {I : World → Prop} (hI0 : ∀ w, I w → I w.drew) {id : Nat} (hm : P.follows .mixedOrders = true) (m F : Nat) (B : List Bool) (hF : l.length - m = F) (hB : Y5j l.length m = B) (po : Nat → Value → Prop) (hs : I w1) (hok : Y4a l m = true) (hdd : Y2C l = true)
  (hops : upTo (oblI P N l I ρ0 po m) m)
  (hfin : ∀ ρ w, I w → (∀ s, Y38 (l.take m) s = true → ρ s = ρ0 s) → upTo (fun i => po i (Y14 ρ (Y1b l i))) m → WA P N l Q F B ρ w) :
  W P N (.region id l.toArray true) Q ρ0 w1 := by
 intro a0 ha0
 refine wp_region_any hm ?_
 let InvA : Array Bool → Act → World → Prop := fun listed a w => ∃ (ρ : Env), Y3d N a ρ ∧ I w ∧ (∀ s, Y38 (l.take m) s = true → ρ s = ρ0 s) ∧
  (∀ i, listed.getD i false = true → i < m ∧ po i (Y14 ρ (Y1b l i)))
 have hsz : l.toArray.size = l.length := by simp
 have finish : ∀ listed a w, InvA listed a w → (∀ i, i < m → listed.getD i false = true) → wpAny P .any l.toArray (lift N Q) F B.toArray a w := by
  rintro listed a w ⟨ρ, hρ, hst, hu, hp⟩ hall
  exact hfin ρ w hst hu (upTo.mk m fun i hi => (hp i (hall i hi)).2) a hρ
 have hdeps : ∀ {listed : Array Bool} {i : Nat}, i ∈ Region.ready .any l.toArray listed → i < l.length ∧ listed.getD i true = false ∧ ∀ d ∈ Y29 l i, listed.getD d false = true := by
  intro listed i hi
  rw [mem_ready] at hi
  obtain ⟨h0, o, ho, hall⟩ := hi
  have ho' : l[i]? = some o := by simpa using ho
  refine ⟨(List.getElem?_eq_some_iff.1 ho').1, h0, fun d hd => ?_⟩
  simp only [Y29, ho', Option.map_some, Option.getD_some, List.mem_map, List.mem_filter] at hd
  obtain ⟨e, ⟨he, hb⟩, rfl⟩ := hd
  exact hall e (by simpa using he) hb
 have hready : ∀ {listed : Array Bool}, Region.ready .any l.toArray listed = [] → listed.size = l.length → ∀ i, i < l.length → listed.getD i false = true := by
  intro listed hr hls i
  induction i using Nat.strongRecOn with
  | _ i ih =>
   intro hi
   cases hb : listed.getD i false with
   | true => rfl
   | false =>
    exfalso
    have hin : i ∈ Region.ready .any l.toArray listed := by
     rw [mem_ready]
     refine ⟨?_, l[i], by simp [hi], fun e he hbd => ?_⟩
     ·have : i < listed.size := by omega
      simp [this] at hb ⊢
      exact hb
     ·have hd : e.on ∈ Y29 l i := by
       simp only [Y29, List.getElem?_eq_getElem hi, Option.map_some, Option.getD_some, List.mem_map, List.mem_filter]
       exact ⟨e, ⟨by simpa using he, hbd⟩, rfl⟩
      have hlt := Y4A hok hi hd
      exact ih e.on hlt (by omega)
    rw [hr] at hin
    cases hin
 have hset : ∀ {listed : Array Bool} {i j : Nat}, listed.size = l.length → i < l.length → ((listed.setIfInBounds i true).getD j false = true ↔ (j = i ∨ listed.getD j false = true)) := by
  intro listed i j hls hi
  by_cases hij : i = j
  ·subst hij
   have : i < listed.size := by omega
   simp [this]
  ·rw [getD_set_ne false hij]
   constructor
   ·exact .inr
   ·rintro (h | h)
    ·exact absurd h.symm hij
    ·exact h
 have main : ∀ fuel listed a w, listed.size = l.length → Y1F listed l.length = fuel →
   (∀ k, listed.getD k false = true → ∀ d ∈ Y29 l k, listed.getD d false = true) → InvA listed a w → wpAny P .any l.toArray (lift N Q) fuel listed a w := by
  intro fuel
  induction fuel with
  | zero =>
   intro listed a w hls hlf hcl hI
   have hall : ∀ i, i < l.length → listed.getD i false = true := by
    intro i hi
    have h1 := Y2j hlf i hi
    have : i < listed.size := by omega
    simp [this] at h1 ⊢
    exact h1
   refine ⟨?_, ?_⟩
   ·cases hr : Region.ready .any l.toArray listed with
    | nil => rfl
    | cons i rs =>
     exfalso
     obtain ⟨h1, h2, _⟩ := hdeps (listed := listed) (i := i) (by rw [hr]; simp)
     rw [Y2j hlf i h1] at h2
     cases h2
   ·have hmn : m = l.length := by
     obtain ⟨ρ, hρ, hst, hu, hp⟩ := hI
     rcases Nat.lt_or_ge m l.length with h | h
     ·have := (hp m (hall m h)).1; omega
     ·have := Y2V hok; omega
    have h0 := finish listed a w hI fun i hi => hall i (by omega)
    have hF0 : F = 0 := by omega
    subst hF0
    exact h0.2
  | succ fuel ih =>
   intro listed a w hls hlf hcl hI
   have hne : Region.ready .any l.toArray listed ≠ [] := by
    intro hr
    have hall := hready hr hls
    have : ∀ n, n ≤ l.length → Y1F listed n = 0 := by
     intro n
     induction n with
     | zero => exact fun _ => rfl
     | succ n ihn =>
      intro hn
      have h1 := hall n (by omega)
      have : n < listed.size := by omega
      have h2 : listed.getD n true = true := by simp [this] at h1 ⊢; exact h1
      rw [Y1F, ihn (by omega), h2]; rfl
    rw [this l.length (Nat.le_refl _)] at hlf
    cases hlf
   refine ⟨fun hr => absurd hr hne, fun i hi => ?_⟩
   obtain ⟨hin, hi0, hid⟩ := hdeps hi
   have hri : ∀ j, Y3e l l.length i j = true → listed.getD j false = true := fun j hj => Y1B hcl _ i j hid hj
   have ho : l[i]? = some l[i] := List.getElem?_eq_getElem hin
   have ho2 : l.toArray[i]? = some l[i] := by simpa using ho
   have hls' : (listed.setIfInBounds i true).size = l.length := by simpa using hls
   have hlf' : Y1F (listed.setIfInBounds i true) l.length = fuel := by
    have := Y3n hi0 l.length
    rw [if_pos hin] at this
    omega
   have hcl' : ∀ k, (listed.setIfInBounds i true).getD k false = true → ∀ d ∈ Y29 l k, (listed.setIfInBounds i true).getD d false = true := by
    intro k hk d hd
    rcases (hset hls hin).1 hk with rfl | hk
    ·exact getD_set_true (hid d hd)
    ·exact getD_set_true (hcl k hk d hd)
   have hif : listed.getD i false = false := by
    have : i < listed.size := by omega
    simp [this] at hi0 ⊢
    exact hi0
   rcases Nat.lt_or_ge i m with him | him
   ·obtain ⟨ρ, hρ, hst, hu, hp⟩ := hI
    have hob := hops.at_ i him
    unfold oblI at hob
    rw [ho] at hob
    refine Y3l ho2 hρ (hob ρ w hst hu fun j hj => (hp j (hri j hj)).2) fun a' v w' ha' hR => ih _ a' w' hls' hlf' hcl' ?_
    have hdi : Y1b l i = l[i].dst := by simp [Y1b, ho]
    have hsame : ∀ j, j ≠ i → Y14 (putE ρ l[i].dst v) (Y1b l j) = Y14 ρ (Y1b l j) := fun j hj => Y52 fun t ht e => hj (Y3C hdd e (hdi.trans ht))
    refine ⟨_, ha', hR.2, fun s hsn => ?_, fun j hj => ?_⟩
    ·cases hd : l[i].dst with
     | none => exact hu s hsn
     | some t =>
      have : s ≠ t := by
       rintro rfl
       exact Y37 hsn (i := i) (by simp [Y1b, List.getElem?_take, him, ho, hd])
      show upd ρ t v s = ρ0 s
      rw [Y5N _ _ this]
      exact hu s hsn
    ·by_cases hji : j = i
     ·subst hji
      refine ⟨him, ?_⟩
      rw [hdi, Y3t]
      exact hR.1
     ·have hj' := ((hset hls hin).1 hj).resolve_left hji
      rw [hsame j hji]
      exact hp j hj'
   ·have hall : ∀ j, j < m → listed.getD j false = true := fun j hj => hri j (Y43 hok hin him hj)
    have h0 := finish listed a w hI hall
    obtain ⟨ρ, hρ, hst, hu, hp⟩ := hI
    have hl2 : ∀ j, j < l.length → (listed.getD j false = true ↔ j < m) := fun j hj => ⟨fun h => (hp j h).1, fun h => hall j h⟩
    have e1 := Y3w l.length m hls hl2
    have e2 := Y3x l.length m (Y2V hok) hls hl2
    have e3 : F = fuel + 1 := by omega
    rw [← hB, ← e1, e3] at h0
    exact h0.2 i hi
 have hfull : Y1F (Array.replicate l.length false) l.length = l.length := by
  have : ∀ n, n ≤ l.length → Y1F (Array.replicate l.length false) n = n := by
   intro n
   induction n with
   | zero => exact fun _ => rfl
   | succ n ih =>
    intro hn
    have h2 : (Array.replicate l.length false).getD n true = false := by
     have : n < l.length := by omega
     simp [this]
    rw [Y1F, ih (by omega), h2]; rfl
  exact this _ (Nat.le_refl _)
 have hnone : ∀ i, (Array.replicate l.length false).getD i false ≠ true := by
  intro i hi
  rcases Nat.lt_or_ge i l.length with h | h <;> simp [h] at hi
 suffices hgo : InvA (Array.replicate l.length false) a0 { w1 with drawn := w1.drawn + 1 } by
  have := main l.length (Array.replicate l.length false) a0 { w1 with drawn := w1.drawn + 1 } (by simp) hfull (fun k hk => absurd hk (hnone k)) hgo
  simpa using this
 exact ⟨ρ0, ha0, hI0 _ hs, fun _ _ => rfl, fun i hi => absurd hi (hnone i)⟩
end
def Gr (W w : World) : Prop := ∃ q os, w = Go.Sort.grow (W.drewN q) os
theorem Gr.refl (W : World) : Gr W W := ⟨0, #[], by cases W; simp [Go.Sort.grow, World.drewN]⟩
theorem Gr.drew {W w : World} (h : Gr W w) : Gr W w.drew := by
 obtain ⟨q, os, rfl⟩ := h
 exact ⟨q + 1, os, by simp [Go.Sort.grow, World.drewN, World.drew, Nat.add_assoc]⟩
theorem Gr.alloc {W w : World} (h : Gr W w) (o : Obj) : Gr W (w.alloc o) := by
 obtain ⟨q, os, rfl⟩ := h
 exact ⟨q, os.push o, by simp [Go.Sort.grow, World.drewN, World.alloc]⟩
theorem Gr.trans {A B C : World} (h : Gr A B) (k : Gr B C) : Gr A C := by
 obtain ⟨q, os, rfl⟩ := h
 obtain ⟨q', os', rfl⟩ := k
 exact ⟨q + q', os ++ os', by simp [Go.Sort.grow, World.drewN, Nat.add_assoc]⟩
theorem Gr.block {W w : World} (h : Gr W w) {g : Nat} (hg : g < W.heap.size) : w.heap[g]? = W.heap[g]? := by
 obtain ⟨q, os, rfl⟩ := h
 show (W.heap ++ os)[g]? = _
 rw [Array.getElem?_append_left hg]
section
variable {P : Program} {N : Nat} {Q : QE} {ρ : Env} {w : World} {ops : Array Oper} {rest : List Oper}
variable {d : Option Tmp} {ty : TypeId} {pos : String} {aft : Array Edge} {gd : Option (Nat × Bool)}
theorem WL.boxE {t : TypeId} {x : Operand} {v : Value} {vs : List Value} (hx : ρ.ev x = v) (hv : v.cells = vs.toArray)
  (K : WL P N ops Q rest (putE ρ d (.pointer (some ⟨w.heap.size, 0, none⟩))) (w.alloc (.cells vs.toArray t)))
  (hg : Y0C ops ρ ⟨d, .box t x, ty, pos, aft, gd⟩ = true := by rfl) (hd : fits N d = true := by rfl) :
  WL P N ops Q (⟨d, .box t x, ty, pos, aft, gd⟩ :: rest) ρ w :=
 WL.value hg hd (v := .pointer (some ⟨w.heap.size, 0, none⟩)) (w' := w.alloc (.cells vs.toArray t)) (by
  show (do pure (Next.value (← Instr.box t (ρ.ev x))) : Sem Next).run P w = _
  rw [hx]
  refine Y1K ?_
  unfold Instr.box newVar
  rw [hv]
  rfl) K
theorem WL.loadE {t : TypeId} {x : Operand} {g j : Nat} {T : TypeId} {cs : List Value} {v : Value} {sz : Nat} (hb : w.heap[g]? = some (.cells cs.toArray T (0, 0))) (ht : TI P t false sz)
  (hx : ρ.ev x = .pointer (some ⟨g, j, none⟩)) (hv : cs[j]? = some v) (K : WL P N ops Q rest (putE ρ d v) w)
  (hg : Y0C ops ρ ⟨d, .load t x, ty, pos, aft, gd⟩ = true := by rfl) (hd : fits N d = true := by rfl) :
  WL P N ops Q (⟨d, .load t x, ty, pos, aft, gd⟩ :: rest) ρ w := WL.load_ hx (Y2F ht ((Y2s hb j).trans hv)) K hg hd
theorem WL.loadNE {t : TypeId} {x : Operand} {g j : Nat} {T : TypeId} {cs vs : List Value} {sz : Nat} (hb : w.heap[g]? = some (.cells cs.toArray T (0, 0))) (ht : TI P t true sz)
  (hx : ρ.ev x = .pointer (some ⟨g, j, none⟩)) (hv : (cs.drop j).take sz = vs) (hl : vs.length = sz) (K : WL P N ops Q rest (putE ρ d (.agg vs.toArray)) w)
  (hg : Y0C ops ρ ⟨d, .load t x, ty, pos, aft, gd⟩ = true := by rfl) (hd : fits N d = true := by rfl) :
  WL P N ops Q (⟨d, .load t x, ty, pos, aft, gd⟩ :: rest) ρ w :=
 WL.load_ hx (Y2g ht hl fun k u hu => by
  rw [← hv, List.getElem?_take] at hu
  split at hu
  ·rw [List.getElem?_drop] at hu
   exact (Y2s hb (j + k)).trans hu
  ·cases hu) K hg hd
theorem WL.buildSliceE {t E : TypeId} {n : Nat} {parts : List (Nat × Operand)} {vs : List (Nat × Value)} {cs : List Value} (ha : EvsN ρ parts vs) (hb : BLS P t n vs E cs)
  (K : WL P N ops Q rest (putE ρ d (.slice (some ⟨w.heap.size, 0, none⟩) n n)) (w.alloc (.cells cs.toArray E)))
  (hg : Y0C ops ρ ⟨d, .buildSlice t n parts.toArray, ty, pos, aft, gd⟩ = true := by rfl) (hd : fits N d = true := by rfl) :
  WL P N ops Q (⟨d, .buildSlice t n parts.toArray, ty, pos, aft, gd⟩ :: rest) ρ w :=
 WL.value hg hd (v := .slice (some ⟨w.heap.size, 0, none⟩) n n) (w' := w.alloc (.cells cs.toArray E)) (by
  show (do pure (Next.value (← Instr.buildSlice t n (parts.toArray.map fun (i, x) => (i, ρ.ev x)))) : Sem Next).run P w = _
  rw [List.map_toArray, ha.map]
  exact Y1K (hb w)) K
theorem WL.callQ {f : FuncId} {args : List Operand} {ats : Array TypeId} {vs : List Value} {u : Value} (hf : FN P f) (ha : Evs ρ args vs)
  (hc : Calls P f vs.toArray w fun e w' => ∃ v, e = .returned v ∧ v = u ∧ w' = w) (K : WL P N ops Q rest (putE ρ d u) w)
  (hg : Y0C ops ρ ⟨d, .call { callee := .value (.func f), args := args.toArray, argTypes := ats }, ty, pos, aft, gd⟩ = true := by rfl) (hd : fits N d = true := by rfl) :
  WL P N ops Q (⟨d, .call { callee := .value (.func f), args := args.toArray, argTypes := ats }, ty, pos, aft, gd⟩ :: rest) ρ w := by
 refine WL.enter hg hd (w' := w) (f := f) (args := vs.toArray) (R := fun v w' => v = u ∧ w' = w) ?_ hc ?_
 ·show (invoke (.fn (.func f) #[]) (#[] ++ args.toArray.map ρ.ev)).run P w = _
  rw [List.map_toArray, ha.map]
  simpa [invoke] using hf vs.toArray w
 ·rintro v w' ⟨rfl, rfl⟩
  exact K
theorem WL.callE {f : FuncId} {args : List Operand} {ats : Array TypeId} {vs : List Value} {R : Value → World → Prop} (hf : FN P f) (ha : Evs ρ args vs)
  (hc : Calls P f vs.toArray w fun e w' => ∃ v, e = .returned v ∧ R v w') (K : ∀ v w', R v w' → WL P N ops Q rest (putE ρ d v) w')
  (hg : Y0C ops ρ ⟨d, .call { callee := .value (.func f), args := args.toArray, argTypes := ats }, ty, pos, aft, gd⟩ = true := by rfl) (hd : fits N d = true := by rfl) :
  WL P N ops Q (⟨d, .call { callee := .value (.func f), args := args.toArray, argTypes := ats }, ty, pos, aft, gd⟩ :: rest) ρ w := by
 refine WL.enter hg hd (w' := w) (f := f) (args := vs.toArray) (R := R) ?_ hc K
 show (invoke (.fn (.func f) #[]) (#[] ++ args.toArray.map ρ.ev)).run P w = _
 rw [List.map_toArray, ha.map]
 simpa [invoke] using hf vs.toArray w
theorem WL.callT {f : FuncId} {fo : Operand} {args : List Operand} {ats : Array TypeId} {vs : List Value} {R : Value → World → Prop} (hfo : ρ.ev fo = .func (.func f) #[] #[]) (hf : FN P f) (ha : Evs ρ args vs)
  (hc : Calls P f vs.toArray w fun e w' => ∃ v, e = .returned v ∧ R v w') (K : ∀ v w', R v w' → WL P N ops Q rest (putE ρ d v) w')
  (hg : Y0C ops ρ ⟨d, .call { callee := .value fo, args := args.toArray, argTypes := ats }, ty, pos, aft, gd⟩ = true := by rfl) (hd : fits N d = true := by rfl) :
  WL P N ops Q (⟨d, .call { callee := .value fo, args := args.toArray, argTypes := ats }, ty, pos, aft, gd⟩ :: rest) ρ w := by
 refine WL.enter hg hd (w' := w) (f := f) (args := vs.toArray) (R := R) ?_ hc K
 unfold execOp
 simp only [resolve, hfo]
 show (invoke (.fn (.func f) #[]) (#[] ++ args.toArray.map ρ.ev)).run P w = _
 rw [List.map_toArray, ha.map]
 simpa [invoke] using hf vs.toArray w
end
end
section
open Go Go.RowKit Go.Shelf Go.Sort Go.Lib
section
variable {P : Program} {ρ : Ren} {α : Type} {w0 : World} {F : Base} {ok : Nat → Prop}
abbrev Hk (A : Ty α) (okr : Nat → Prop) (w : World) : Type := { p : List Value × α // A.R okr w p.2 p.1 }
theorem Y5d (L : Go.Proofs.SlLaysF0.n6 P ρ) {A : Ty α} {E : TypeId} (h0 : 0 < A.sz)
  (aE : ∀ w, (isAgg (ρ.t 24)).run P w = .ok true w) (zE : ∀ w, (Go.sizeOf (ρ.t 24)).run P w = .ok A.sz w) (cf : α → α → Int) (hO : SWO (Go.Proofs.ltOf cf)) (g : Nat) (eg : ∀ args w, (callFunc g args).run P w = .ok (.enter g args) w)
  (hcmp : ∀ (ok : Nat → Prop) (W : World) (x y : α) (cs ds : List Value), A.R ok W x cs → A.R ok W y ds → Calls P g #[.agg cs.toArray, .agg ds.toArray] W fun e w' => e = .returned (.int .i64 (cf x y)) ∧ Gr W w')
  {a : Option Addr} {n c : Nat} {xs ys : List α} (hs : St ok F w0 [] [own A E (.slice a n c) xs]) (hf : Y79 (Go.Proofs.ltOf cf) xs = some ys) :
  Calls P (ρ.f 6) #[.slice a n c, .func (.func g) #[] #[]] w0 fun e w' => ∃ v, e = .returned v ∧ ∃ y : Unit, v = .tuple #[] ∧ St ok F w' [] [own A E (.slice a n c) ys] := by
 obtain rfl := hs.ownLen 0 rfl
 have hys := Y8e hf
 have hsrt := Y4Q hO hf
 obtain ⟨⟨hpw, hsize⟩, _⟩ := Y2O hf
 rcases Nat.eq_zero_or_pos xs.length with hz | hz
 ·have hx0 : xs = [] := List.length_eq_zero_iff.1 hz
  subst hx0
  have hy0 : ys = [] := hys.eq_nil
  subst hy0
  refine (Go.Proofs.AnyF.slices_SortFunc_none (L := { L with }) a c (.func (.func g) #[] #[]) w0).mono ?_
  rintro e w' ⟨rfl, rfl⟩
  exact ⟨_, rfl, (), rfl, hs⟩
 obtain ⟨okr, bs, ho, hA, hn, hbs, hput⟩ := hs.split 0 rfl
 obtain ⟨gb, c', cur, e, hb, hgh, hc', hmx, hsz, hC⟩ := Y2Z ho hz
 cases e
 have hgbk : ¬ okr gb := (hbs gb (by rw [hb]; simp)).1
 have hcl : xs.length * A.sz ≤ cur.size := by rw [hsz]; exact Nat.mul_le_mul_right _ hc'
 let cellsAt : Nat → List Value := fun i => ((cur.toList.take (xs.length * A.sz)).drop (i * A.sz)).take A.sz
 have hel : ∀ i (hi : i < xs.length), A.R okr w0 xs[i] (cellsAt i) := fun i hi => hC.2 i xs[i] (List.getElem?_eq_getElem hi)
 have : Inhabited (Hk A okr w0) := ⟨⟨(cellsAt 0, xs[0]), hel 0 hz⟩⟩
 let enc : Hk A okr w0 → List Value := fun p => p.1.1
 have hk : ∀ p : Hk A okr w0, (enc p).length = A.sz := fun p => A.len p.2
 have h1 : ∀ p : Hk A okr w0, ∀ v ∈ enc p, v.oneCell' = true := fun p => A.one p.2
 let d : Array (Hk A okr w0) := Array.ofFn fun i : Fin xs.length => ⟨(cellsAt i.1, xs[i.1]), hel i.1 i.2⟩
 have hds : d.size = xs.length := Array.size_ofFn
 have hdg : ∀ i (hi : i < xs.length), (d[i]!).1 = (cellsAt i, xs[i]) := by
  intro i hi
  rw [getElem!_pos d i (by omega)]
  exact congrArg (fun p : Hk A okr w0 => p.1) (Array.getElem_ofFn _)
 have hdm : d.toList.map (fun p => p.1.2) = xs := by
  apply List.ext_getElem
  ·simp [hds]
  ·intro i h1 h2
   have := hdg i h2
   rw [getElem!_pos d i (by omega)] at this
   simp only [List.getElem_map, Array.getElem_toList, this]
 have hH : HoldsK enc A.sz w0 gb 0 d := by
  intro j hj
  rw [size_flatK, hds] at hj
  have hjd : j / A.sz < xs.length := Nat.div_lt_of_lt_mul (by rw [Nat.mul_comm]; exact hj)
  have hjm : j % A.sz < A.sz := Nat.mod_lt _ h0
  rw [get_flatK _ _ _ _ (by rw [hds]; exact hj), Nat.zero_add]
  have hcell : cur.toList[j]? = (cellsAt (j / A.sz))[j % A.sz]? := by
   show _ = (((cur.toList.take (xs.length * A.sz)).drop (j / A.sz * A.sz)).take A.sz)[j % A.sz]?
   rw [List.getElem?_take, if_pos hjm, List.getElem?_drop, List.getElem?_take, Nat.div_add_mod' j A.sz, if_pos hj]
  refine ⟨?_, by simp [World.frozen?, hgh]⟩
  simp only [World.cell?, hgh]
  have e1 : enc (d[j / A.sz]!) = cellsAt (j / A.sz) := by show (d[j / A.sz]!).1.1 = _; rw [hdg _ hjd]
  rw [e1]
  have hlen : (cellsAt (j / A.sz)).length = A.sz := A.len (hel _ hjd)
  have e2 : (cellsAt (j / A.sz))[j % A.sz]! = (cellsAt (j / A.sz))[j % A.sz]'(by rw [hlen]; exact hjm) := getElem!_pos _ _ _
  have e3 : cur[j]? = some ((cellsAt (j / A.sz))[j % A.sz]'(by rw [hlen]; exact hjm)) := by
   rw [← Array.getElem?_toList, hcell]
   exact List.getElem?_eq_getElem _
  rw [e2]
  simpa using e3
 have hO' : SWO (Go.Proofs.ltOf fun p q : Hk A okr w0 => cf p.1.2 q.1.2) := ⟨fun x => hO.irrefl _, fun x y z => hO.trans _ _ _, fun x y z => hO.ntrans _ _ _⟩
 have hkeep : ∀ (m : Nat) (os : Array Obj) (dk : Array (Hk A okr w0)) (b : Nat), b ≠ gb → b < w0.heap.size → (Go.Proofs.sortWorldK enc A.sz w0 gb 0 m dk os).heap[b]? = w0.heap[b]? := by
  intro m os dk b hne hlt
  simp only [Go.Proofs.sortWorldK, grow, putRowK, putRow, mapBlock, ahead]
  rw [Array.getElem?_append_left (by simpa using hlt), Array.getElem?_modify, if_neg (fun e => hne e.symm)]
  rfl
 have hlay : Go.Proofs.CmpLays P g #[] enc A.sz (fun p q => cf p.1.2 q.1.2) gb 0 d.size w0 := by
  intro m os dk hdk x y
  have hmv : ∀ b, okr b → b < w0.heap.size → (Go.Proofs.sortWorldK enc A.sz w0 gb 0 m dk os).heap[b]? = w0.heap[b]? ∧ okr b := fun b hb1 hb2 => ⟨hkeep m os dk b (fun e => hgbk (e ▸ hb1)) hb2, hb1⟩
  exact hcmp okr _ x.1.2 y.1.2 x.1.1 y.1.1 (A.move x.2 hmv) (A.move y.2 hmv)
 have hmain := Go.Proofs.AnyQ.slices_SortFunc L A.sz aE zE enc hk h1 (fun p q => cf p.1.2 q.1.2) hO' g #[] gb 0 c d w0 eg hlay hH (Y0K hgh) (by rw [hds]; simpa using hsize)
 rw [hds] at hmain
 refine hmain.mono ?_
 rintro e w' ⟨rfl, d', q, os, hperm, hsorted, rfl⟩
 obtain ⟨hp1, _, hp3⟩ := hperm
 have hd' : d'.size = xs.length := hp1.trans hds
 have hpe : d'.toList.Perm d.toList := by
  have e1 : (d'.extract 0 xs.length).toList = d'.toList := by rw [← hd']; simp
  have e2 : (d.extract 0 xs.length).toList = d.toList := by rw [← hds]; simp
  rw [e1, e2] at hp3
  exact hp3
 have hyeq : d'.toList.map (fun p => p.1.2) = ys := by
  refine Y78 hO hpw ?_ hys ?_ hsrt
  ·have := hpe.map (fun p : Hk A okr w0 => p.1.2)
   rwa [hdm] at this
  ·rw [List.pairwise_map]
   exact Y44 (d := d') (by rw [hd']; exact hsorted)
 have hyl : ys.length = xs.length := hys.length_eq
 refine ⟨_, rfl, (), rfl, hput (own A E (.slice (some ⟨gb, 0, none⟩) xs.length c) ys) [gb] _ ?_ (by simp) ?_ fun ok' hm => ?_⟩
 ·rw [hb]
  refine ⟨rfl, rfl, rfl, ?_, fun k hk' hkn => ?_⟩
  ·simp [Go.Proofs.sortWorldK, grow, putRowK, putRow, mapBlock, ahead]
  ·exact hkeep q os d' k (fun e => hkn (by simp [e])) hk'
 ·intro b hb'
  simp only [List.mem_singleton] at hb'
  subst hb'
  refine ⟨.inl (by rw [hb]; simp), ?_⟩
  have := Y0K hgh
  simp [Go.Proofs.sortWorldK, grow, putRowK, putRow, mapBlock, ahead]
  omega
 ·have hnew : (Go.Proofs.sortWorldK enc A.sz w0 gb 0 q d' os).heap[gb]? = some (.cells (putCells id 0 (flatK enc A.sz d') cur) E (0, 0)) := by
   have := Y0K hgh
   simp only [Go.Proofs.sortWorldK, grow, putRowK, putRow, mapBlock, ahead]
   rw [Array.getElem?_append_left (by simpa using this), Array.getElem?_modify, if_pos rfl, show (Go.Sort.ahead w0 q).heap[gb]? = w0.heap[gb]? from rfl, hgh]
   rfl
  have hfs : (flatK enc A.sz d').size = xs.length * A.sz := by rw [size_flatK, hd']
  have htake : (putCells id 0 (flatK enc A.sz d') cur).toList.take (xs.length * A.sz) = (flatK enc A.sz d').toList := by
   apply List.ext_getElem?
   intro j
   rw [List.getElem?_take]
   by_cases hj : j < xs.length * A.sz
   ·rw [if_pos hj, Array.getElem?_toList, Array.getElem?_toList]
    have hjc : j < cur.size := by omega
    simp only [putCells, Array.getElem?_mapIdx, Array.getElem?_eq_getElem hjc, Option.map_some]
    rw [if_pos ⟨Nat.zero_le _, by omega⟩, Nat.sub_zero, getElem!_pos _ _ (by rw [hfs]; exact hj), Array.getElem?_eq_getElem (by rw [hfs]; exact hj)]
    rfl
   ·rw [if_neg hj, List.getElem?_eq_none (by rw [Array.length_toList, hfs]; omega)]
  have hC2 : ∀ (w2 : World), (∀ b, okr b → b < w0.heap.size → w2.heap[b]? = w0.heap[b]? ∧ ok' b) → Y0U A ok' w2 ys (flatK enc A.sz d').toList := by
   intro w2 hm2
   refine ⟨by rw [Array.length_toList, hfs, hyl], fun j y hj => ?_⟩
   have hjl : j < ys.length := (List.getElem?_eq_some_iff.1 hj).1
   have hjd : j < d'.size := by omega
   have hy : (d'[j]).1.2 = y := by
    rw [← hyeq] at hj
    simpa [hjd] using hj
   have hR := A.move (d'[j]).2 hm2
   rw [hy] at hR
   have : (((flatK enc A.sz d').toList.drop (j * A.sz)).take A.sz) = (d'[j]).1.1 := by
    apply List.ext_getElem?
    intro i
    rw [List.getElem?_take]
    by_cases hi : i < A.sz
    ·have hlt : j * A.sz + i < d'.size * A.sz := by
      have := Nat.mul_le_mul_right A.sz (show j + 1 ≤ d'.size from hjd)
      rw [Nat.add_mul, Nat.one_mul] at this
      omega
     have hdiv : (j * A.sz + i) / A.sz = j := by rw [Nat.mul_comm, Nat.mul_add_div h0, Nat.div_eq_of_lt hi, Nat.add_zero]
     have hmod : (j * A.sz + i) % A.sz = i := by rw [Nat.mul_comm, Nat.mul_add_mod, Nat.mod_eq_of_lt hi]
     have hget := get_flatK enc A.sz d' (j * A.sz + i) hlt
     rw [hdiv, hmod, getElem!_pos d' j hjd] at hget
     rw [if_pos hi, List.getElem?_drop, Array.getElem?_toList, Array.getElem?_eq_getElem (by rw [size_flatK]; exact hlt)]
     rw [getElem!_pos _ _ (by rw [size_flatK]; exact hlt), getElem!_pos _ _ (by rw [hk]; exact hi)] at hget
     rw [hget, List.getElem?_eq_getElem (by have h9 := hk d'[j]; show i < (enc d'[j]).length; rw [h9]; exact hi)]
    ·rw [if_neg hi, List.getElem?_eq_none (by have := hk d'[j]; show (enc d'[j]).length ≤ i; omega)]
   rw [this]
   exact hR
  refine .inr ⟨by show 0 < c; omega, _, by simp [Value.ownBlock], ⟨(hC2 _ hm).1, .inr ⟨gb, c, _, by rw [hyl], Nat.zero_le _, hnew, by rw [hyl]; exact hc', hmx, by simp [putCells, hsz], ?_⟩⟩, hC2 _ hm⟩
  rw [hyl, htake]
end
end
section
open Go
theorem w64 {x : Int} (h1 : -9223372036854775808 ≤ x) (h2 : x ≤ 9223372036854775807) : IntKind.i64.wrap x = x := by
 simp only [IntKind.wrap, IntKind.bits, IntKind.signed]; simp; split <;> omega
theorem w64n {k : Nat} (h : k < 9223372036854775807) : IntKind.i64.wrap ((k : Int) + 1) = ((k + 1 : Nat) : Int) := by
 rw [w64 (by omega) (by omega)]; omega
theorem Y1g {α : Type} {xs : List α} {k : Nat} (h : k < xs.length) : idx xs (k : Int) = some xs[k] := by
 unfold idx
 rw [if_pos (by omega)]
 simp [h]
theorem Y2R {α : Type} {b : Nat} {xs ys : List α} (h : (xs.length + ys.length) * b ≤ 140737488355328) : app b xs ys = some (xs ++ ys) := if_pos h
theorem cut_of {α : Type} {xs : List α} {l h : Int} (h1 : 0 ≤ l) (h2 : l ≤ h) (h3 : h ≤ xs.length) : cut xs l h = some ((xs.take h.toNat).drop l.toNat) := if_pos ⟨h1, h2, h3⟩
theorem Y1f {α β : Type} (e : α) (f : α → Option β) : letV e f = f e := rfl
theorem Y3f {σ β : Type} {step : σ → Option (σ ⊕ β)} (f : Nat → σ) (n : Nat) {b : β} (hs : ∀ k, k < n → step (f k) = some (.inl (f (k + 1)))) (he : step (f n) = some (.inr b)) : Y18 step (f 0) = some b := by
 have : ∀ m k, k + m = n → Y18 step (f k) = some b := by
  intro m
  induction m with
  | zero => intro k hk; have : k = n := by omega
            subst this; exact Y22 he
  | succ m ih => intro k hk; rw [Y2e (hs k (by omega))]; exact ih (k + 1) (by omega)
 exact this n 0 (by omega)
theorem Y2L {σ β : Type} {step : σ → Option (σ ⊕ β)} (I : Nat → σ → Prop) (n : Nat) {s0 : σ} {Q : β → Prop} (h0 : I 0 s0)
  (hs : ∀ k s, k < n → I k s → ∃ s', step s = some (.inl s') ∧ I (k + 1) s') (he : ∀ s, I n s → ∃ b, step s = some (.inr b) ∧ Q b) : ∃ b, Y18 step s0 = some b ∧ Q b := by
 have : ∀ m k s, k + m = n → I k s → ∃ b, Y18 step s = some b ∧ Q b := by
  intro m
  induction m with
  | zero =>
   intro k s hk hI
   have : k = n := by omega
   subst this
   obtain ⟨b, h1, h2⟩ := he s hI
   exact ⟨b, Y22 h1, h2⟩
  | succ m ih =>
   intro k s hk hI
   obtain ⟨s', h1, h2⟩ := hs k s (by omega) hI
   rw [Y2e h1]
   exact ih (k + 1) s' (by omega) h2
 exact this n 0 s0 (by omega) h0
theorem Y7N {σ β : Type} {step : σ → Option (σ ⊕ β)} (I : Nat → σ → Prop) (n : Nat) {s0 : σ} {Q : β → Prop} (h0 : I 0 s0)
  (hs : ∀ k s, k < n → I k s → (∃ s', step s = some (.inl s') ∧ I (k + 1) s') ∨ ∃ b, step s = some (.inr b) ∧ Q b) (he : ∀ s, I n s → ∃ b, step s = some (.inr b) ∧ Q b) : ∃ b, Y18 step s0 = some b ∧ Q b := by
 have : ∀ m k s, k + m = n → I k s → ∃ b, Y18 step s = some b ∧ Q b := by
  intro m
  induction m with
  | zero =>
   intro k s hk hI
   have : k = n := by omega
   subst this
   obtain ⟨b, h1, h2⟩ := he s hI
   exact ⟨b, Y22 h1, h2⟩
  | succ m ih =>
   intro k s hk hI
   rcases hs k s (by omega) hI with ⟨s', h1, h2⟩ | ⟨b, h1, h2⟩
   ·rw [Y2e h1]
    exact ih (k + 1) s' (by omega) h2
   ·exact ⟨b, Y22 h1, h2⟩
 exact this n 0 s0 (by omega) h0
theorem Y7M {σ β : Type} {step : σ → Option (σ ⊕ β)} (I : σ → Prop) (μ : σ → Nat) {s0 : σ} {Q : β → Prop} (h0 : I s0)
  (hs : ∀ s, I s → (∃ s', step s = some (.inl s') ∧ I s' ∧ μ s' < μ s) ∨ ∃ b, step s = some (.inr b) ∧ Q b) : ∃ b, Y18 step s0 = some b ∧ Q b := by
 have : ∀ m s, μ s ≤ m → I s → ∃ b, Y18 step s = some b ∧ Q b := by
  intro m
  induction m with
  | zero =>
   intro s hm hI
   rcases hs s hI with ⟨s', _, _, h3⟩ | ⟨b, h1, h2⟩
   ·omega
   ·exact ⟨b, Y22 h1, h2⟩
  | succ m ih =>
   intro s hm hI
   rcases hs s hI with ⟨s', h1, h2, h3⟩ | ⟨b, h1, h2⟩
   ·rw [Y2e h1]
    exact ih s' (by omega) h2
   ·exact ⟨b, Y22 h1, h2⟩
 exact this _ s0 (Nat.le_refl _) h0
theorem Y1w {α : Type} {xs : List α} {k : Nat} (h : k < xs.length) : xs.take (k + 1) = xs.take k ++ [xs[k]] := by
 rw [List.take_succ_eq_append_getElem h]
theorem Y5i {κ β : Type} [BEq κ] [LawfulBEq κ] (k : κ) (y : β) : ∀ l : List (κ × β), (l.map (·.1)).Nodup → ((mset l k y).map (·.1)).Nodup ∧ ∀ x, x ∈ (mset l k y).map (·.1) → x = k ∨ x ∈ l.map (·.1)
 | [], _ => by simp [mset]
 | e :: l, h => by
  simp only [List.map_cons, List.nodup_cons] at h
  unfold mset
  by_cases hk : k == e.1
  ·rw [if_pos hk]
   simp only [List.map_cons, List.nodup_cons]
   exact ⟨h, fun x hx => .inr hx⟩
  ·rw [if_neg hk]
   obtain ⟨h1, h2⟩ := Y5i k y l h.2
   simp only [List.map_cons, List.nodup_cons]
   refine ⟨⟨fun hm => ?_, h1⟩, fun x hx => ?_⟩
   ·rcases h2 _ hm with h3 | h3
    ·exact hk (by simp [h3])
    ·exact h.1 h3
   ·rcases List.mem_cons.1 hx with hx | hx
    ·exact .inr (List.mem_cons.2 (.inl hx))
    ·rcases h2 x hx with h3 | h3
     ·exact .inl h3
     ·exact .inr (List.mem_cons.2 (.inr h3))
theorem Y4g {κ β : Type} [BEq κ] (k : κ) (y : β) : ∀ l : List (κ × β), (mset l k y).length ≤ l.length + 1
 | [] => by simp [mset]
 | e :: l => by
  unfold mset
  split
  ·simp
  ·have := Y4g k y l
   simp only [List.length_cons]
   omega
theorem Y4f {κ β : Type} [BEq κ] [LawfulBEq κ] (k : κ) (y : β) (x : κ) : ∀ l : List (κ × β), (mset l k y).lookup x = if x == k then some y else l.lookup x
 | [] => by
  simp only [mset, List.lookup]
  cases h : x == k <;> simp
 | e :: l => by
  unfold mset
  by_cases hk : k == e.1
  ·rw [if_pos hk]
   have he : k = e.1 := by simpa using hk
   simp only [List.lookup, ← he]
   cases h : x == k <;> simp
  ·rw [if_neg hk]
   have ih := Y4f k y x l
   simp only [List.lookup]
   cases h : x == e.1 with
   | true =>
    have : (x == k) = false := by
     have hx : x = e.1 := by simpa using h
     rw [hx]
     cases h2 : e.1 == k with
     | false => rfl
     | true => have : e.1 = k := by simpa using h2
               exact absurd (by simp [this]) hk
    simp [this]
   | false => simpa using ih
end
section
open Go
def runL {α σ β : Type} (g : Nat → α → σ → Option (σ ⊕ β)) (fin : σ → Option β) : Nat → List α → σ → Option β
 | _, [], s => fin s
 | i, x :: xs, s => match g i x s with
  | none => none
  | some (.inl s') => runL g fin (i + 1) xs s'
  | some (.inr b) => some b
theorem Y5V {α σ τ β : Type} {step : τ → Option (τ ⊕ β)} (pack : Nat → σ → τ) (g : Nat → α → σ → Option (σ ⊕ β)) (fin : σ → Option β) (xs : List α)
  (hs : ∀ k (hk : k < xs.length) s, step (pack k s) = match g k xs[k] s with | none => none | some (.inl s') => some (.inl (pack (k + 1) s')) | some (.inr b) => some (.inr b))
  (he : ∀ s, step (pack xs.length s) = (fin s).map .inr) (s : σ) : Y18 step (pack 0 s) = runL g fin 0 xs s := by
 have : ∀ m k s, k + m = xs.length → Y18 step (pack k s) = runL g fin k (xs.drop k) s := by
  intro m
  induction m with
  | zero =>
   intro k s hk
   have hk : k = xs.length := by omega
   subst hk
   rw [List.drop_length, runL, Y3g, he]
   cases fin s <;> rfl
  | succ m ih =>
   intro k s hk
   have hk' : k < xs.length := by omega
   rw [List.drop_eq_getElem_cons hk', runL, Y3g, hs k hk']
   cases g k xs[k] s with
   | none => rfl
   | some o =>
    cases o with
    | inl s' => exact ih (k + 1) s' (by omega)
    | inr b => rfl
 have h := this xs.length 0 s (by omega)
 rwa [List.drop_zero] at h
theorem Y1r {k n : Nat} (h : k < n) : decide ((k : Int) < (n : Int)) = true := by simpa using h
theorem Y1j {n : Nat} : decide ((n : Int) < (n : Int)) = false := by simp
theorem Y33 {k n : Nat} (hk : k < n) (h : n ≤ 4611686018427387904) : IntKind.i64.wrap ((k : Int) + 1) = ((k + 1 : Nat) : Int) := w64n (by omega)
end
end Go.Proofs.YtpfgdjfiimknlaaGreatL
namespace Go.Proofs.YtpfgdjfiimknlaaGreat
section
open Go Go.Proofs.YtpfgdjfiimknlaaGreatL
section
variable {α : Type} (key : α → List UInt8)
abbrev SA (l : List α) : Prop := l.Pairwise fun a b => Op.bytesLess (key a) (key b) = true
def upd (k : List UInt8) (g : Option α → α) : List α → List α
 | [] => [g none]
 | a :: l => if Op.bytesLess (key a) k then a :: upd k g l else if key a == k then g (some a) :: l else g none :: a :: l
def get (l : List α) (k : List UInt8) : Option α := l.find? fun a => key a == k
variable {key}
theorem Y5u (k : List UInt8) : get key [] k = none := rfl
theorem Y1l (a : α) (l : List α) (k : List UInt8) : get key (a :: l) k = if key a = k then some a else get key l k := by
 unfold get
 rw [List.find?_cons]
 by_cases h : key a = k
 ·rw [if_pos h, show (key a == k) = true by simp [h]]
 ·rw [if_neg h, show (key a == k) = false by simp [h]]
theorem Y7n {l : List α} {k : List UInt8} {a : α} (h : get key l k = some a) : key a = k := by
 unfold get at h
 simpa using List.find?_some h
theorem Y6h {l : List α} {k : List UInt8} {a : α} (h : get key l k = some a) : a ∈ l := List.mem_of_find?_eq_some h
theorem Y4i {l : List α} {k : List UInt8} (h : ∀ a ∈ l, key a ≠ k) : get key l k = none := by
 unfold get
 rw [List.find?_eq_none]
 intro a ha
 simpa using h a ha
theorem Y6F {l : List α} {k : List UInt8} : (get key l k).isSome = true ↔ ∃ a ∈ l, key a = k := by
 unfold get
 rw [List.find?_isSome]
 simp
theorem Y9b {a : α} {l : List α} (h : SA key (a :: l)) : ∀ b ∈ l, Op.bytesLess (key a) (key b) = true := (List.pairwise_cons.1 h).1
theorem SA_ne {a : α} {l : List α} (h : SA key (a :: l)) : ∀ b ∈ l, key b ≠ key a := fun b hb e => by
 have := Y9b h b hb
 rw [e, Y2a] at this
 cases this
theorem Y6G {l : List α} (h : SA key l) {a : α} (ha : a ∈ l) : get key l (key a) = some a := by
 induction l with
 | nil => simp at ha
 | cons b l ih =>
  rw [Y1l]
  rcases List.mem_cons.1 ha with rfl | ha
  ·rw [if_pos rfl]
  ·rw [if_neg (fun e => SA_ne h a ha e.symm), ih (List.pairwise_cons.1 h).2 ha]
theorem Y4v {a : α} {l : List α} (h : SA key (a :: l)) {k : List UInt8} (hk : Op.bytesLess k (key a) = true) : get key (a :: l) k = none := Y4i fun b hb => by
 rcases List.mem_cons.1 hb with rfl | hb
 ·intro e; rw [e, Y2a] at hk; cases hk
 ·intro e
  have := Y3E hk (Y9b h b hb)
  rw [e, Y2a] at this
  cases this
theorem Y5t {k : List UInt8} {g : Option α → α} (hg : ∀ o, (∀ a, o = some a → key a = k) → key (g o) = k) (k' : List UInt8) : ∀ {l : List α}, SA key l → get key (upd key k g l) k' = if k' = k then some (g (get key l k)) else get key l k'
 | [], _ => by
  unfold upd
  have e : key (g none) = k := hg none (by simp)
  rw [Y1l, e, Y5u]
  by_cases h : k' = k
  ·rw [if_pos h.symm, if_pos h, Y5u]
  ·rw [if_neg (fun e => h e.symm), if_neg h]
 | a :: l, hl => by
  have hl' := (List.pairwise_cons.1 hl).2
  unfold upd
  cases h1 : Op.bytesLess (key a) k with
  | true =>
   rw [if_pos rfl, Y1l, Y5t hg k' hl']
   have hne : key a ≠ k := fun e => by rw [e, Y2a] at h1; cases h1
   by_cases h : k' = k
   ·rw [if_neg (by rw [h]; exact hne), if_pos h, if_pos h, Y1l, if_neg hne]
   ·rw [if_neg h, if_neg h, Y1l]
  | false =>
   rw [if_neg (by simp)]
   by_cases h2 : key a = k
   ·rw [if_pos (by simp [h2]), Y1l, hg (some a) (by simp [h2]), Y1l, if_pos h2]
    by_cases h : k' = k
    ·rw [if_pos h.symm, if_pos h]
    ·rw [if_neg (fun e => h e.symm), if_neg h, Y1l, if_neg (by rw [h2]; exact fun e => h e.symm)]
   ·rw [if_neg (by simpa using h2), Y1l, hg none (by simp)]
    have h3 : Op.bytesLess k (key a) = true := by
     cases h4 : Op.bytesLess k (key a) with
     | true => rfl
     | false => exact absurd (Y4T h1 h4) h2
    by_cases h : k' = k
    ·rw [if_pos h.symm, if_pos h, Y4v hl h3]
    ·rw [if_neg (fun e => h e.symm), if_neg h]
theorem Y8L {k : List UInt8} {g : Option α → α} : ∀ {l : List α}, SA key l → ∀ x ∈ upd key k g l, x ∈ l ∨ x = g (get key l k)
 | [], _, x, hx => by
  unfold upd at hx
  simp at hx
  exact .inr hx
 | a :: l, hl, x, hx => by
  have hl' := (List.pairwise_cons.1 hl).2
  unfold upd at hx
  cases h1 : Op.bytesLess (key a) k with
  | true =>
   rw [h1, if_pos rfl] at hx
   have hne : key a ≠ k := fun e => by rw [e, Y2a] at h1; cases h1
   rcases List.mem_cons.1 hx with rfl | hx
   ·exact .inl (by simp)
   ·rw [Y1l, if_neg hne]
    rcases Y8L hl' x hx with h | h
    ·exact .inl (by simp [h])
    ·exact .inr h
  | false =>
   rw [h1, if_neg (by simp)] at hx
   by_cases h2 : key a = k
   ·rw [if_pos (by simp [h2])] at hx
    rw [Y1l, if_pos h2]
    rcases List.mem_cons.1 hx with h | h
    ·exact .inr h
    ·exact .inl (by simp [h])
   ·rw [if_neg (by simpa using h2)] at hx
    have h3 : Op.bytesLess k (key a) = true := by
     cases h4 : Op.bytesLess k (key a) with
     | true => rfl
     | false => exact absurd (Y4T h1 h4) h2
    rw [Y4v hl h3]
    rcases List.mem_cons.1 hx with h | h
    ·exact .inr h
    ·exact .inl h
theorem Y6W {k : List UInt8} {g : Option α → α} (hg : ∀ o, (∀ a, o = some a → key a = k) → key (g o) = k) : ∀ {l : List α}, SA key l → SA key (upd key k g l)
 | [], _ => by unfold upd; exact List.pairwise_singleton _ _
 | a :: l, hl => by
  have hl' := (List.pairwise_cons.1 hl).2
  unfold upd
  cases h1 : Op.bytesLess (key a) k with
  | true =>
   rw [if_pos rfl]
   refine List.pairwise_cons.2 ⟨fun x hx => ?_, Y6W hg hl'⟩
   rcases Y8L hl' x hx with h | h
   ·exact Y9b hl x h
   ·rw [h, hg _ fun b hb => Y7n hb]; exact h1
  | false =>
   rw [if_neg (by simp)]
   by_cases h2 : key a = k
   ·rw [if_pos (by simp [h2])]
    refine List.pairwise_cons.2 ⟨fun x hx => ?_, hl'⟩
    rw [hg (some a) (by simp [h2]), ← h2]
    exact Y9b hl x hx
   ·rw [if_neg (by simpa using h2)]
    have h3 : Op.bytesLess k (key a) = true := by
     cases h4 : Op.bytesLess k (key a) with
     | true => rfl
     | false => exact absurd (Y4T h1 h4) h2
    refine List.pairwise_cons.2 ⟨fun x hx => ?_, hl⟩
    rw [hg none (by simp)]
    rcases List.mem_cons.1 hx with rfl | hx
    ·exact h3
    ·exact Y3E h3 (Y9b hl x hx)
theorem Y5Z : ∀ {l l' : List α}, SA key l → SA key l' → (∀ k, get key l k = get key l' k) → l = l'
 | [], [], _, _, _ => rfl
 | [], b :: l', _, _, h => by
  have := h (key b)
  rw [Y5u, Y1l, if_pos rfl] at this
  cases this
 | a :: l, [], _, _, h => by
  have := h (key a)
  rw [Y5u, Y1l, if_pos rfl] at this
  cases this
 | a :: l, b :: l', hl, hl', h => by
  have hab : key a = key b := by
   refine Y4T ?_ ?_
   ·cases hk : Op.bytesLess (key a) (key b) with
    | false => rfl
    | true =>
     have := h (key a)
     rw [Y4v hl' hk, Y1l, if_pos rfl] at this
     cases this
   ·cases hk : Op.bytesLess (key b) (key a) with
    | false => rfl
    | true =>
     have := h (key b)
     rw [Y4v hl hk, Y1l, if_pos rfl] at this
     cases this
  have e1 : a = b := by
   have := h (key a)
   rw [Y1l, if_pos rfl, Y1l, if_pos hab.symm] at this
   exact Option.some.inj this
  subst e1
  have : l = l' := by
   refine Y5Z (List.pairwise_cons.1 hl).2 (List.pairwise_cons.1 hl').2 fun k => ?_
   by_cases hk : key a = k
   ·rw [← hk, Y4i (SA_ne hl), Y4i (SA_ne hl')]
   ·have := h k
    rw [Y1l, if_neg hk, Y1l, if_neg hk] at this
    exact this
  rw [this]
theorem Y6o {k : List UInt8} {g g' : Option α → α} (hg : ∀ o, (∀ a, o = some a → key a = k) → key (g o) = k) {l : List α} (hl : SA key l) (h : g (get key l k) = g' (get key l k)) (hg' : ∀ o, (∀ a, o = some a → key a = k) → key (g' o) = k) : upd key k g l = upd key k g' l := by
 refine Y5Z (Y6W hg hl) (Y6W hg' hl) fun q => ?_
 rw [Y5t hg q hl, Y5t hg' q hl, h]
end
section
variable {β : Type}
theorem Y7A {m : List (List UInt8 × β)} (h1 : ∀ x ∈ m, x.1.length ≤ 1000000) (h2 : m.length ≤ 1000000) : Y65 m = some ((m.map (·.1)).mergeSort fun a b => decide (a ≤ b)) := by
 unfold Y65
 rw [if_pos ⟨fun x hx => Nat.le_trans (h1 x hx) (by decide), by omega⟩]
theorem Y5P {l : List (List UInt8)} (h : l.Nodup) : Asc (l.mergeSort fun a b => decide (a ≤ b)) := by
 have tr : ∀ a b c : List UInt8, (decide (a ≤ b)) = true → (decide (b ≤ c)) = true → (decide (a ≤ c)) = true := fun a b c h1 h2 => by simp only [decide_eq_true_eq] at *; exact List.le_trans h1 h2
 have to : ∀ a b : List UInt8, ((decide (a ≤ b)) || (decide (b ≤ a))) = true := fun a b => by simp only [Bool.or_eq_true, decide_eq_true_eq]; exact List.le_total a b
 have h1 := List.pairwise_mergeSort tr to l
 have h2 : (l.mergeSort fun a b => decide (a ≤ b)).Nodup := (List.mergeSort_perm l _).nodup_iff.2 h
 refine (h1.and h2).imp fun {a b} hab => ?_
 obtain ⟨h3, h4⟩ := hab
 rw [Go.Proofs.bytesLess_eq, decide_eq_true_eq]
 rw [decide_eq_true_eq] at h3
 refine Decidable.byContradiction fun h => ?_
 exact h4 (List.le_antisymm h3 h)
end
end
section
open Go Go.Proofs.YtpfgdjfiimknlaaGreatL
abbrev FN_ : Y07 → List UInt8 := Y07.Name
abbrev ON_ : Y0f → List UInt8 := Y0f.Name
abbrev srtN (l : List (List UInt8)) : List (List UInt8) := l.mergeSort fun a b => decide (a ≤ b)
def Y2I (fs : List Y07) : List Y07 := (srtN (fs.map (·.Name))).map fun n => (get FN_ fs n).getD Y19
def Y2J (x : Y1u) : List Y0f := (srtN (x.map (·.1))).map fun n => ⟨n, Y2I ((x.lookup n).getD [])⟩
theorem Y7L {γ δ : Type} {b : Nat} {ns : List γ} {step : (Int × List δ) → Option ((Int × List δ) ⊕ List δ)} (F : γ → δ)
  (hs : ∀ (k : Nat) (hk : k < ns.length) (out : List δ), step ((k : Int), out) = (app b out [F ns[k]]).bind fun out' => letV (IntKind.i64.wrap ((k : Int) + 1)) fun j => some (.inl (j, out')))
  (he : ∀ out : List δ, step ((ns.length : Int), out) = some (.inr out)) (hb : ns.length * b ≤ 140737488355328) (hn : ns.length ≤ 4611686018427387904) : Y18 step (0, []) = some (ns.map F) := by
 have := Y3f (step := step) (fun k => ((k : Int), (ns.take k).map F)) ns.length (b := ns.map F) (fun k hk => ?_) ?_
 ·simpa using this
 ·show step ((k : Int), (ns.take k).map F) = _
  rw [hs k hk, Y2R (by
   have e : ((ns.take k).map F).length + [F ns[k]].length ≤ ns.length := by simp; omega
   exact Nat.le_trans (Nat.mul_le_mul_right b e) hb)]
  show letV _ _ = _
  rw [letV, Y33 hk hn, Y1w hk, List.map_append]
  rfl
 ·show step ((ns.length : Int), (ns.take ns.length).map F) = _
  rw [he, List.take_length]
theorem Y7m {α : Type} {key : α → List UInt8} {F : List UInt8 → α} : ∀ {ns : List (List UInt8)}, (∀ n ∈ ns, key (F n) = n) → ∀ k, get key (ns.map F) k = if k ∈ ns then some (F k) else none
 | [], _, k => by simp [get]
 | n :: ns, h, k => by
  rw [List.map_cons, Y1l, h n (by simp), Y7m (fun m hm => h m (by simp [hm]))]
  by_cases hk : n = k
  ·rw [if_pos hk, if_pos (by simp [hk]), hk]
  ·rw [if_neg hk]
   by_cases hm : k ∈ ns
   ·rw [if_pos hm, if_pos (by simp [hm])]
   ·rw [if_neg hm, if_neg (by simp only [List.mem_cons, not_or]; exact ⟨fun e => hk e.symm, hm⟩)]
theorem SA_map {α : Type} {key : α → List UInt8} {F : List UInt8 → α} {ns : List (List UInt8)} (ha : Asc ns) (h : ∀ n ∈ ns, key (F n) = n) : SA key (ns.map F) := by
 refine List.pairwise_map.2 (ha.imp_of_mem fun {a b} ha hb hab => ?_)
 rw [h a ha, h b hb]
 exact hab
theorem Y4h {l : List (List UInt8)} {k : List UInt8} : k ∈ srtN l ↔ k ∈ l := (List.mergeSort_perm l _).mem_iff
theorem Y4u {fs : List Y07} {k : List UInt8} : k ∈ fs.map (·.Name) ↔ (get FN_ fs k).isSome = true := by
 rw [Y6F, List.mem_map]
theorem Y5E (fs : List Y07) : ∀ n ∈ srtN (fs.map (·.Name)), FN_ ((get FN_ fs n).getD Y19) = n := by
 intro n hn
 rw [Y4h, Y4u] at hn
 cases h : get FN_ fs n with
 | none => rw [h] at hn; cases hn
 | some y => exact Y7n h
theorem Y41 (fs : List Y07) (k : List UInt8) : get FN_ (Y2I fs) k = get FN_ fs k := by
 unfold Y2I
 rw [Y7m (Y5E fs)]
 by_cases h : k ∈ srtN (fs.map (·.Name))
 ·rw [if_pos h]
  rw [Y4h, Y4u] at h
  cases hg : get FN_ fs k with
  | none => rw [hg] at h; cases h
  | some y => rfl
 ·rw [if_neg h]
  rw [Y4h, Y4u] at h
  cases hg : get FN_ fs k with
  | none => rfl
  | some y => rw [hg] at h; simp at h
theorem Y3r {fs : List Y07} (h : (fs.map (·.Name)).Nodup) : SA FN_ (Y2I fs) := SA_map (Y5P h) (Y5E fs)
theorem Y32 (x : Y1u) (k : List UInt8) : get ON_ (Y2J x) k = (x.lookup k).map fun fs => ⟨k, Y2I fs⟩ := by
 unfold Y2J
 rw [Y7m (fun n _ => rfl)]
 have hm : k ∈ x.map (·.1) ↔ (x.lookup k).isSome = true := by
  induction x with
  | nil => simp
  | cons a x ih =>
   rw [List.map_cons, List.mem_cons, List.lookup_cons]
   cases hk : k == a.1 with
   | true => have : k = a.1 := by simpa using hk
             simp [this]
   | false =>
    have : k ≠ a.1 := by simpa using hk
    simp only [this, false_or]
    exact ih
 by_cases h : k ∈ srtN (x.map (·.1))
 ·rw [if_pos h]
  rw [Y4h, hm] at h
  cases hg : x.lookup k with
  | none => rw [hg] at h; cases h
  | some y => rfl
 ·rw [if_neg h]
  rw [Y4h, hm] at h
  cases hg : x.lookup k with
  | none => rfl
  | some y => rw [hg] at h; simp at h
theorem Y3b {x : Y1u} (h : (x.map (·.1)).Nodup) : SA ON_ (Y2J x) := SA_map (Y5P h) (fun n _ => rfl)
structure GF (n : Nat) (y : Y07) : Prop where
 name : y.Name.length ≤ 1000
 asc : Asc y.Elems
 len : y.Elems.length ≤ n
 els : ∀ s ∈ y.Elems, s.length ≤ 1000
 reg : y.Register.S.length ≤ 1000
structure BI (n : Nat) (x : Y1u) : Prop where
 keys : (x.map (·.1)).Nodup
 len : x.length ≤ n
 name : ∀ o ∈ x, o.1.length ≤ 1000
 ne : ∀ o ∈ x, o.2 ≠ []
 names : ∀ o ∈ x, (o.2.map (·.Name)).Nodup
 flen : ∀ o ∈ x, o.2.length ≤ n
 good : ∀ o ∈ x, ∀ y ∈ o.2, GF n y
theorem Y2l {β : Type} {x : List (List UInt8 × β)} {k : List UInt8} {b : β} (h : x.lookup k = some b) : (k, b) ∈ x := by
 induction x with
 | nil => cases h
 | cons a x ih =>
  rw [List.lookup_cons] at h
  cases hk : k == a.1 with
  | true =>
   rw [hk] at h
   have e : k = a.1 := by simpa using hk
   have : a = (k, b) := by rw [e]; exact Prod.ext rfl (Option.some.inj h)
   rw [this]; simp
  | false => rw [hk] at h; exact List.mem_cons_of_mem _ (ih h)
theorem Y68 (fs : List Y07) (k : List UInt8) : (fs.map fun y => (y.Name, y)).lookup k = get FN_ fs k := by
 induction fs with
 | nil => rfl
 | cons a fs ih =>
  rw [List.map_cons, List.lookup_cons, Y1l]
  by_cases h : a.Name = k
  ·rw [if_pos h, show (k == a.Name) = true by simp [h]]
  ·rw [if_neg h, show (k == a.Name) = false by simpa using fun e => h e.symm]
   exact ih
theorem Y8k (x : Y1u) (k : List UInt8) : (Y2z x).lookup k = (x.lookup k).map fun fs => fs.map fun y => (y.Name, y) := by
 induction x with
 | nil => rfl
 | cons a x ih =>
  unfold Y2z at ih ⊢
  rw [List.map_cons, List.lookup_cons, List.lookup_cons]
  cases h : k == a.1 with
  | true => rfl
  | false => exact ih
theorem Y4y {n : Nat} {x : Y1u} (h : BI n x) (hn : n ≤ 1000000) : Y1o (Y2z x) = some ⟨Y2J x⟩ := by
 unfold Y1o
 have e1 : Y65 (Y2z x) = some (srtN (x.map (·.1))) := by
  have e0 : (Y2z x).map (·.1) = x.map (·.1) := by
   unfold Y2z
   rw [List.map_map]
   rfl
  rw [Y7A (m := Y2z x), e0]
  ·intro y hy
   unfold Y2z at hy
   obtain ⟨o, ho, rfl⟩ := List.mem_map.1 hy
   have := h.name o ho
   show o.1.length ≤ _
   omega
  ·have := h.len
   unfold Y2z
   rw [List.length_map]
   omega
 rw [e1, Option.bind_some]
 have hlen : (srtN (x.map (·.1))).length ≤ n := by rw [List.length_mergeSort, List.length_map]; exact h.len
 rw [Y7L (b := 40) (ns := srtN (x.map (·.1))) (fun n => (⟨n, Y2I ((x.lookup n).getD [])⟩ : Y0f)) ?_ ?_ (by omega) (by omega)]
 ·rfl
 ·intro k hk out
  unfold Y1o.l2
  simp only [Y1r hk, if_true, Y1g hk, Option.bind_some]
  have hmem : (srtN (x.map (·.1)))[k] ∈ x.map (·.1) := Y4h.1 (List.getElem_mem hk)
  obtain ⟨nm, hnm⟩ : ∃ nm, nm = (srtN (x.map (·.1)))[k] := ⟨_, rfl⟩
  rw [← hnm] at hmem ⊢
  obtain ⟨o, ho, he⟩ := List.mem_map.1 hmem
  have hfs : ∃ fs, x.lookup nm = some fs := by
   cases hl : x.lookup nm with
   | some fs => exact ⟨fs, rfl⟩
   | none =>
    exfalso
    clear hnm hmem hk out h hlen e1 hn
    induction x with
    | nil => simp at ho
    | cons a x ih =>
     rw [List.lookup_cons] at hl
     cases hk : nm == a.1 with
     | true => rw [hk] at hl; cases hl
     | false =>
      rw [hk] at hl
      rcases List.mem_cons.1 ho with rfl | ho
      ·rw [he] at hk; simp at hk
      ·exact ih ho hl
  obtain ⟨fs, hfs⟩ := hfs
  have hm := Y2l hfs
  have hfl : fs.length ≤ n := h.flen _ hm
  rw [Y8k, hfs]
  show ((Y65 (fs.map fun y => (y.Name, y))).bind _) = _
  have e2 : Y65 (fs.map fun y => (y.Name, y)) = some (srtN (fs.map (·.Name))) := by
   rw [Y7A]
   ·rw [List.map_map]; rfl
   ·intro y hy
    obtain ⟨z, hz, rfl⟩ := List.mem_map.1 hy
    have := (h.good _ hm z hz).name
    show z.Name.length ≤ _
    omega
   ·rw [List.length_map]; omega
  rw [e2, Option.bind_some]
  have hl2 : (srtN (fs.map (·.Name))).length ≤ n := by rw [List.length_mergeSort, List.length_map]; exact hfl
  rw [Y7L (b := 128) (ns := srtN (fs.map (·.Name))) (fun n => (get FN_ fs n).getD Y19) ?_ ?_ (by omega) (by omega)]
  ·rfl
  ·intro k hk out
   unfold Y1o.l1
   simp only [Y1r hk, if_true, Y1g hk, Option.bind_some]
   show ((app 128 out [(((fs.map fun y => (y.Name, y)).lookup _).getD Y19)]).bind _) = _
   rw [Y68]
  ·intro out
   unfold Y1o.l1
   simp only [Y1j, Bool.false_eq_true, if_false]
 ·intro out
  unfold Y1o.l2
  simp only [Y1j, Bool.false_eq_true, if_false]
end
section
open Go Go.Proofs.YtpfgdjfiimknlaaGreatL
def Y7I (u : Y0l) (r : Y0L) : Bool := !r.Set || decide (r.Tag < u.Tag ∨ r.Tag = u.Tag ∧ (r.Client < u.Client ∨ r.Client = u.Client ∧ r.Seq < u.Seq))
theorem Y4K (a b : Int) : Y0W a b = some (cmpI a b) := by
 unfold Y0W Y1q cmpI
 simp only [Option.bind_some, bne_self_eq_false, Bool.false_eq_true, if_false]
 by_cases h1 : a < b
 ·simp [h1]
 ·by_cases h2 : b < a <;> simp [h1, h2]
theorem or_eq (a b c : Int) : Y0S [a, b, c] = some (if a ≠ 0 then a else if b ≠ 0 then b else c) := by
 unfold Y0S
 have e : Y18 (Y0S.l1 [a, b, c]) 0 = some (if a ≠ 0 then .inr a else if b ≠ 0 then .inr b else if c ≠ 0 then .inr c else .inl ()) := by
  by_cases ha : a = 0
  ·rw [Y2e (s' := 1) (by unfold Y0S.l1; simp [idx, ha, letV, w64])]
   by_cases hb : b = 0
   ·rw [Y2e (s' := 2) (by unfold Y0S.l1; simp [idx, hb, letV, w64])]
    by_cases hc : c = 0
    ·rw [Y2e (s' := 3) (by unfold Y0S.l1; simp [idx, hc, letV, w64]), Y22 (b := .inl ()) (by unfold Y0S.l1; simp)]
     simp [ha, hb, hc]
    ·rw [Y22 (b := .inr c) (by unfold Y0S.l1; simp [idx, hc])]
     simp [ha, hb, hc]
   ·rw [Y22 (b := .inr b) (by unfold Y0S.l1; simp [idx, hb])]
    simp [ha, hb]
  ·rw [Y22 (b := .inr a) (by unfold Y0S.l1; simp [idx, ha])]
   simp [ha]
 rw [e, Option.bind_some]
 by_cases ha : a = 0
 ·by_cases hb : b = 0
  ·by_cases hc : c = 0
   ·simp [ha, hb, hc, Y0S.j1]
   ·simp [ha, hb, hc]
  ·simp [ha, hb]
 ·simp [ha]
theorem cmp_lex (a b c d e f : Int) : (0 < (if cmpI a b ≠ 0 then cmpI a b else if cmpI c d ≠ 0 then cmpI c d else cmpI e f)) ↔ (b < a ∨ b = a ∧ (d < c ∨ d = c ∧ f < e)) := by
 unfold cmpI
 grind
theorem newer_eq (u : Y0l) (r : Y0L) : Y23 u r = some (Y7I u r) := by
 unfold Y23 Y7I
 cases r.Set with
 | false => rfl
 | true =>
  simp only [Bool.not_true, Bool.false_eq_true, if_false, Y4K, Option.bind_some, or_eq, Y23.j1, Bool.false_or]
  congr 1
  rw [Bool.eq_iff_iff, decide_eq_true_eq, decide_eq_true_eq]
  exact cmp_lex _ _ _ _ _ _
def updF (u : Y0l) (e : Y0y) (f : Y07) : Y07 :=
 if e.Kind = 1 then (if Y7I u f.Register then { f with Register := ⟨true, u.Tag, u.Client, u.Seq, e.N, e.S⟩ } else f) else
 if e.Kind = 2 then (if !f.HasMax || decide (f.Max < e.N) then { f with HasMax := true, Max := e.N } else f) else
 if e.Kind = 3 then { f with Sum := IntKind.i64.wrap (f.Sum + e.N) } else
 if e.Kind = 4 then { f with Elems := insS f.Elems e.S } else
 if e.Kind = 5 then { f with Flag := true } else f
theorem Y7q {n : Nat} {u : Y0l} {e : Y0y} {f : Y07} (h : GF n f) (hn : n ≤ 1000000) : Y4x u e f = some (updF u e f) := by
 unfold Y4x updF
 by_cases h1 : e.Kind = 1
 ·simp only [h1, beq_self_eq_true, if_true, newer_eq, Option.bind_some]
  cases Y7I u f.Register <;> rfl
 ·rw [if_neg (by simpa using h1), if_neg h1]
  by_cases h2 : e.Kind = 2
  ·simp only [h2, beq_self_eq_true, if_true]
   cases f.HasMax with
   | false => rfl
   | true =>
    simp only [Bool.not_true, Bool.false_or, Bool.false_eq_true, if_false]
    cases decide (f.Max < e.N) <;> rfl
  ·rw [if_neg (by simpa using h2), if_neg h2]
   by_cases h3 : e.Kind = 3
   ·simp only [h3, beq_self_eq_true, if_true]
   ·rw [if_neg (by simpa using h3), if_neg h3]
    by_cases h4 : e.Kind = 4
    ·simp only [h4, beq_self_eq_true, if_true, insO]
     rw [if_pos ⟨h.asc, by have := h.len; omega⟩]
     rfl
    ·rw [if_neg (by simpa using h4), if_neg h4]
     by_cases h5 : e.Kind = 5
     ·simp only [h5, beq_self_eq_true, if_true]
     ·rw [if_neg (by simpa using h5), if_neg h5]
theorem Y6d : ∀ {l : List (List UInt8)} {s x : List UInt8}, x ∈ insS l s → x = s ∨ x ∈ l
 | [], s, x, h => by simp [insS] at h; exact .inl h
 | a :: l, s, x, h => by
  unfold insS at h
  split at h
  ·rcases List.mem_cons.1 h with rfl | h
   ·exact .inr (by simp)
   ·rcases Y6d h with h | h
    ·exact .inl h
    ·exact .inr (by simp [h])
  ·split at h
   ·exact .inr h
   ·rcases List.mem_cons.1 h with rfl | h
    ·exact .inl rfl
    ·exact .inr h
theorem Y7P : ∀ {l : List (List UInt8)} {s : List UInt8}, Asc l → Asc (insS l s)
 | [], s, _ => by unfold insS; exact List.pairwise_singleton _ _
 | a :: l, s, h => by
  have h1 := (List.pairwise_cons.1 h).1
  have h2 := (List.pairwise_cons.1 h).2
  unfold insS
  cases hc : Op.bytesLess a s with
  | true =>
   rw [if_pos rfl]
   refine List.pairwise_cons.2 ⟨fun x hx => ?_, Y7P h2⟩
   rcases Y6d hx with rfl | hx
   ·exact hc
   ·exact h1 x hx
  | false =>
   rw [if_neg (by simp)]
   by_cases he : a = s
   ·rw [if_pos (by simp [he])]; exact h
   ·rw [if_neg (by simpa using he)]
    have hs : Op.bytesLess s a = true := by
     cases hk : Op.bytesLess s a with
     | true => rfl
     | false => exact absurd (Y4T hc hk) he
    refine List.pairwise_cons.2 ⟨fun x hx => ?_, h⟩
    rcases List.mem_cons.1 hx with rfl | hx
    ·exact hs
    ·exact Y3E hs (h1 x hx)
theorem Y5q : ∀ (l : List (List UInt8)) (s : List UInt8), (insS l s).length ≤ l.length + 1
 | [], s => by simp [insS]
 | a :: l, s => by
  unfold insS
  have := Y5q l s
  split
  ·simp only [List.length_cons]; omega
  ·split <;> simp
theorem Y6p (u : Y0l) (e : Y0y) (f : Y07) : (updF u e f).Name = f.Name := by
 unfold updF
 repeat' split
 all_goals rfl
structure EF (e : Y0y) : Prop where
 obj : e.Object.length ≤ 1000
 fld : e.Field.length ≤ 1000
 str : e.S.length ≤ 1000
theorem GF.mono {n m : Nat} {y : Y07} (h : GF n y) (hm : n ≤ m) : GF m y := ⟨h.name, h.asc, Nat.le_trans h.len hm, h.els, h.reg⟩
theorem GF_upd {n : Nat} {u : Y0l} {e : Y0y} {f : Y07} (h : GF n f) (he : EF e) : GF (n + 1) (updF u e f) := by
 have hm : GF (n + 1) f := h.mono (by omega)
 unfold updF
 split
 ·split
  ·exact ⟨hm.name, hm.asc, hm.len, hm.els, he.str⟩
  ·exact hm
 ·split
  ·split
   ·exact ⟨hm.name, hm.asc, hm.len, hm.els, hm.reg⟩
   ·exact hm
  ·split
   ·exact ⟨hm.name, hm.asc, hm.len, hm.els, hm.reg⟩
   ·split
    ·refine ⟨hm.name, Y7P h.asc, Nat.le_trans (Y5q _ _) (by have := h.len; omega), fun s hs => ?_, hm.reg⟩
     rcases Y6d hs with rfl | hs
     ·exact he.str
     ·exact h.els s hs
    ·split
     ·exact ⟨hm.name, hm.asc, hm.len, hm.els, hm.reg⟩
     ·exact hm
theorem GF_named {n : Nat} {f : Y07} (h : GF n f) {k : List UInt8} (hk : k.length ≤ 1000) : GF n { f with Name := k } := ⟨hk, h.asc, h.len, h.els, h.reg⟩
theorem Y9c (n : Nat) : GF n Y19 := ⟨by decide, List.Pairwise.nil, Nat.zero_le _, fun s hs => by simp [Y19] at hs, by decide⟩
def inObj (k f : List UInt8) (h : Option Y07 → Y07) : Option Y0f → Y0f := fun o => ⟨k, upd FN_ f h ((o.map (·.Fields)).getD [])⟩
theorem Y4s (k f : List UInt8) (h : Option Y07 → Y07) : ∀ o, (∀ a, o = some a → ON_ a = k) → ON_ (inObj k f h o) = k := fun _ _ => rfl
def inFld (u : Y0l) (e : Y0y) : Option Y07 → Y07 := fun y => updF u e { y.getD Y19 with Name := e.Field }
theorem Y8U (u : Y0l) (e : Y0y) : ∀ o, (∀ a, o = some a → FN_ a = e.Field) → FN_ (inFld u e o) = e.Field := fun _ _ => Y6p _ _ _
def effT (u : Y0l) (objs : List Y0f) (e : Y0y) : List Y0f := upd ON_ e.Object (inObj e.Object e.Field (inFld u e)) objs
theorem Y7T {y : Y07} {k : List UInt8} : ∀ {fs : List Y07}, get FN_ (fput Y07.Name y fs) k = if k = y.Name then some y else get FN_ fs k
 | [] => by
  unfold fput
  rw [Y1l, Y5u]
  by_cases h : y.Name = k
  ·rw [if_pos h, if_pos h.symm]
  ·rw [if_neg h, if_neg (fun e => h e.symm)]
 | a :: fs => by
  unfold fput
  by_cases h : y.Name = a.Name
  ·rw [if_pos (by simp [h]), Y1l, Y1l]
   by_cases hk : y.Name = k
   ·rw [if_pos hk, if_pos hk.symm]
   ·rw [if_neg hk, if_neg (fun e => hk e.symm), if_neg (by show ¬ a.Name = k; rw [← h]; exact hk)]
  ·rw [if_neg (by simpa using h), Y1l, Y1l, Y7T]
   by_cases hk : a.Name = k
   ·rw [if_pos hk, if_neg (by rw [← hk]; exact fun e => h e.symm), if_pos hk]
   ·rw [if_neg hk, if_neg hk]
theorem Y6i {y z : Y07} : ∀ {fs : List Y07}, z ∈ fput Y07.Name y fs → z = y ∨ z ∈ fs
 | [], h => by simp [fput] at h; exact .inl h
 | a :: fs, h => by
  unfold fput at h
  split at h
  ·rcases List.mem_cons.1 h with h | h
   ·exact .inl h
   ·exact .inr (by simp [h])
  ·rcases List.mem_cons.1 h with h | h
   ·exact .inr (by simp [h])
   ·rcases Y6i h with h | h
    ·exact .inl h
    ·exact .inr (by simp [h])
theorem Y4H {y : Y07} : ∀ {fs : List Y07}, (fs.map (·.Name)).Nodup → ((fput Y07.Name y fs).map (·.Name)).Nodup
 | [], _ => by simp [fput]
 | a :: fs, h => by
  rw [List.map_cons, List.nodup_cons] at h
  unfold fput
  by_cases hk : y.Name = a.Name
  ·rw [if_pos (by simp [hk]), List.map_cons, List.nodup_cons, hk]
   exact h
  ·rw [if_neg (by simpa using hk), List.map_cons, List.nodup_cons]
   refine ⟨fun hm => ?_, Y4H h.2⟩
   obtain ⟨z, hz, he⟩ := List.mem_map.1 hm
   rcases Y6i hz with rfl | hz
   ·exact hk he
   ·exact h.1 (List.mem_map.2 ⟨z, hz, he⟩)
theorem Y5v {y : Y07} : ∀ fs : List Y07, (fput Y07.Name y fs).length ≤ fs.length + 1
 | [] => by simp [fput]
 | a :: fs => by
  unfold fput
  have := Y5v (y := y) fs
  split
  ·simp
  ·simp only [List.length_cons]; omega
theorem fput_ne {y : Y07} (fs : List Y07) : fput Y07.Name y fs ≠ [] := by
 cases fs with
 | nil => simp [fput]
 | cons a fs => unfold fput; split <;> simp
theorem Y4d (x : Y1u) (k q : List UInt8) : (Y1i x k).lookup q = if q = k then some ((x.lookup k).getD []) else x.lookup q := by
 unfold Y1i
 cases h : x.lookup k with
 | some fs =>
  simp only [Option.isNone_some, Bool.false_eq_true, if_false, Option.getD_some]
  by_cases hq : q = k
  ·rw [if_pos hq, hq, h]
  ·rw [if_neg hq]
 | none =>
  simp only [Option.isNone_none, if_true, Option.getD_none]
  revert h
  induction x with
  | nil =>
   intro h
   rw [List.nil_append, List.lookup_cons]
   by_cases hq : q = k
   ·rw [if_pos hq, show (q == k) = true by simp [hq]]
   ·rw [if_neg hq, show (q == k) = false by simp [hq]]
  | cons a x ih =>
   intro h
   rw [List.lookup_cons] at h
   rw [List.cons_append, List.lookup_cons, List.lookup_cons]
   cases hk : k == a.1 with
   | true => rw [hk] at h; cases h
   | false =>
    rw [hk] at h
    cases hq : q == a.1 with
    | true =>
     have e1 : q = a.1 := by simpa using hq
     have e2 : q ≠ k := fun e => by rw [← e, hq] at hk; cases hk
     rw [if_neg e2]
    | false => exact ih h
theorem Y5Q (x : Y1u) (k q : List UInt8) (y : Y07) : (Y2y (Y1i x k) k y).lookup q = if q = k then some (fput Y07.Name y ((x.lookup k).getD [])) else x.lookup q := by
 unfold Y2y
 rw [Y4f, Y4d, Y4d, if_pos rfl]
 by_cases hq : q = k
 ·simp [hq]
 ·simp [hq]
theorem Y3P {β : Type} : ∀ {x : List (List UInt8 × β)}, (x.map (·.1)).Nodup → ∀ o ∈ x, x.lookup o.1 = some o.2
 | [], _, o, h => by simp at h
 | a :: x, hn, o, h => by
  rw [List.map_cons, List.nodup_cons] at hn
  rw [List.lookup_cons]
  rcases List.mem_cons.1 h with rfl | h
  ·simp
  ·have : (o.1 == a.1) = false := by
    rw [beq_eq_false_iff_ne]
    exact fun e => hn.1 (List.mem_map.2 ⟨o, h, e⟩)
   rw [this]
   exact Y3P hn.2 o h
theorem Y66 (x : Y1u) (k : List UInt8) (y : Y07) (h : (x.map (·.1)).Nodup) : ((Y2y (Y1i x k) k y).map (·.1)).Nodup := by
 have h2 : ((Y1i x k).map (·.1)).Nodup := by
  unfold Y1i
  cases hl : x.lookup k with
  | some fs => simpa using h
  | none =>
   simp only [Option.isNone_none, if_true, List.map_append, List.map_cons, List.map_nil]
   rw [List.nodup_append]
   refine ⟨h, by simp, fun a ha b hb e => ?_⟩
   simp at hb
   subst hb
   subst e
   obtain ⟨o, ho, he⟩ := List.mem_map.1 ha
   have := Y3P h o ho
   rw [he, hl] at this
   cases this
 exact (Y5i k _ _ h2).1
theorem Y8f (x : Y1u) (k : List UInt8) (y : Y07) : (Y2y (Y1i x k) k y).length ≤ x.length + 1 := by
 unfold Y2y Y1i
 cases hl : x.lookup k with
 | none =>
  simp only [Option.isNone_none, if_true]
  have : ∀ (l : Y1u) (v : List Y07) (v' : List Y07), (mset (l ++ [(k, v)]) k v').length ≤ l.length + 1 := by
   intro l v v'
   induction l with
   | nil => simp [mset]
   | cons a l ih =>
    rw [List.cons_append, mset]
    split
    ·simp
    ·simp only [List.length_cons]; omega
  exact this x _ _
 | some fs =>
  simp only [Option.isNone_some, Bool.false_eq_true, if_false]
  exact Y4g _ _ _
theorem Y98 {x : Y1u} {k : List UInt8} {y : Y07} (hk : (x.map (·.1)).Nodup) (hn : ∀ o ∈ x, (o.2.map (·.Name)).Nodup) :
  Y2J (Y2y (Y1i x k) k y) = upd ON_ k (inObj k y.Name fun _ => y) (Y2J x) := by
 refine Y5Z (Y3b (Y66 x k y hk)) (Y6W (Y4s k y.Name fun _ => y) (Y3b hk)) fun q => ?_
 rw [Y5t (Y4s k y.Name fun _ => y) q (Y3b hk), Y32, Y32, Y32, Y5Q]
 by_cases hq : q = k
 ·rw [if_pos hq, if_pos hq, hq]
  show some (⟨k, Y2I (fput Y07.Name y ((x.lookup k).getD []))⟩ : Y0f) = some (⟨k, _⟩ : Y0f)
  congr 2
  have hnn : (((x.lookup k).getD []).map (·.Name)).Nodup := by
   cases hl : x.lookup k with
   | none => simp
   | some fs => exact hn _ (Y2l hl)
  have e : (((x.lookup k).map fun fs => (⟨k, Y2I fs⟩ : Y0f)).map (·.Fields)).getD [] = Y2I ((x.lookup k).getD []) := by
   cases x.lookup k with
   | none => simp [Y2I, srtN]
   | some fs => rfl
  rw [e]
  refine Y5Z (Y3r (Y4H hnn)) (Y6W (fun o _ => rfl) (Y3r hnn)) fun p => ?_
  rw [Y5t (fun o _ => rfl) p (Y3r hnn), Y41, Y41, Y7T]
 ·rw [if_neg hq, if_neg hq]
theorem find_get {fs : List Y07} {f : List UInt8} : fs.find? (fun q => f == q.Name) = get FN_ fs f := by
 unfold get
 congr 1
 funext q
 rw [Bool.eq_iff_iff, beq_iff_eq, beq_iff_eq]
 exact eq_comm
theorem eff_eq {n : Nat} {u : Y0l} {x : Y1u} {e : Y0y} (h : BI n x) (he : EF e) (hn : n ≤ 1000000) :
  ∃ x', Y55 u x e = some x' ∧ BI (n + 1) x' ∧ Y2J x' = effT u (Y2J x) e := by
 unfold Y55
 have hat : Y4I (Y1i x e.Object) e.Object e.Field = (get FN_ ((x.lookup e.Object).getD []) e.Field).getD Y19 := by
  unfold Y4I
  rw [Y4d, if_pos rfl, Option.getD_some, find_get]
 rw [hat]
 obtain ⟨y0, hy0⟩ : ∃ y0, y0 = (get FN_ ((x.lookup e.Object).getD []) e.Field).getD Y19 := ⟨_, rfl⟩
 rw [← hy0]
 have hg0 : GF n y0 := by
  rw [hy0]
  cases hl : x.lookup e.Object with
  | none => exact Y9c n
  | some fs =>
   cases hg : get FN_ fs e.Field with
   | none => simp only [Option.getD_some, hg]; exact Y9c n
   | some y => simp only [Option.getD_some, hg]; exact h.good _ (Y2l hl) y (Y6h hg)
 have hg1 : GF n { y0 with Name := e.Field } := GF_named hg0 he.fld
 rw [Y7q hg1 hn, Option.bind_some]
 obtain ⟨y1, hy1⟩ : ∃ y1, y1 = updF u e { y0 with Name := e.Field } := ⟨_, rfl⟩
 rw [← hy1]
 have hg2 : GF (n + 1) y1 := by rw [hy1]; exact GF_upd hg1 he
 have hn1 : y1.Name = e.Field := by rw [hy1, Y6p]
 refine ⟨_, rfl, ?_, ?_⟩
 ·have hmem : ∀ o ∈ Y2y (Y1i x e.Object) e.Object y1, o = (e.Object, fput Y07.Name y1 ((x.lookup e.Object).getD [])) ∨ o ∈ x := by
   intro o ho
   have hl := Y3P (Y66 x e.Object y1 h.keys) o ho
   rw [Y5Q] at hl
   by_cases hq : o.1 = e.Object
   ·rw [if_pos hq] at hl
    exact .inl (Prod.ext hq (Option.some.inj hl).symm)
   ·rw [if_neg hq] at hl
    exact .inr (Y2l hl)
  have hin : ∀ o, o = (e.Object, fput Y07.Name y1 ((x.lookup e.Object).getD [])) ∨ o ∈ x → o.1.length ≤ 1000 ∧ o.2 ≠ [] ∧ (o.2.map (·.Name)).Nodup ∧ o.2.length ≤ n + 1 ∧ ∀ y ∈ o.2, GF (n + 1) y := by
   rintro o (rfl | ho)
   ·refine ⟨he.obj, fput_ne _, Y4H ?_, ?_, fun y hy => ?_⟩
    ·cases hl : x.lookup e.Object with
     | none => simp
     | some fs => exact h.names _ (Y2l hl)
    ·refine Nat.le_trans (Y5v _) ?_
     cases hl : x.lookup e.Object with
     | none => simp
     | some fs => have := h.flen _ (Y2l hl); simpa using this
    ·rcases Y6i hy with rfl | hy
     ·exact hg2
     ·cases hl : x.lookup e.Object with
      | none => rw [hl] at hy; simp at hy
      | some fs => rw [hl] at hy; exact (h.good _ (Y2l hl) y hy).mono (by omega)
   ·exact ⟨h.name o ho, h.ne o ho, h.names o ho, by have := h.flen o ho; omega, fun y hy => (h.good o ho y hy).mono (by omega)⟩
  exact ⟨Y66 x e.Object y1 h.keys, Nat.le_trans (Y8f _ _ _) (by have := h.len; omega), fun o ho => (hin o (hmem o ho)).1, fun o ho => (hin o (hmem o ho)).2.1, fun o ho => (hin o (hmem o ho)).2.2.1, fun o ho => (hin o (hmem o ho)).2.2.2.1, fun o ho => (hin o (hmem o ho)).2.2.2.2⟩
 ·rw [Y98 h.keys h.names]
  unfold effT
  refine Y6o (Y4s _ _ _) (Y3b h.keys) ?_ (Y4s _ _ _)
  rw [Y32]
  unfold inObj
  have e1 : (((x.lookup e.Object).map fun fs => (⟨e.Object, Y2I fs⟩ : Y0f)).map (·.Fields)).getD [] = Y2I ((x.lookup e.Object).getD []) := by
   cases x.lookup e.Object with
   | none => simp [Y2I, srtN]
   | some fs => rfl
  have hnn : (((x.lookup e.Object).getD []).map (·.Name)).Nodup := by
   cases hl : x.lookup e.Object with
   | none => simp
   | some fs => exact h.names _ (Y2l hl)
  simp only [e1]
  congr 1
  rw [hn1]
  refine Y6o (g := fun _ => y1) (g' := inFld u e) (fun o _ => hn1) (Y3r hnn) ?_ (Y8U u e)
  rw [Y41]
  unfold inFld
  rw [← hy0]
  exact hy1
end
section
open Go Go.RowKit Go.Shelf Go.Proofs.YtpfgdjfiimknlaaGreatL
theorem Y1q.callq {w0 : World} {x1 : Int}  {r : Bool} (hf : Y1q x1 = some r)  :
  Calls Tryz.prog 91 #[.int .i64 x1] w0 fun e w' => ∃ v, e = .returned v ∧ v = .bool r ∧ w' = w0 := by
 unfold Y1q at hf
 refine Y0t (fn := Tryz.f91) (N := 6) Tryz.func91 rfl Tryz.ntmps91 rfl ?_
 refine W.seqK fun K2 hK2 => ?_
 refine W.region ?_
 refine WL.assign (v := .bool false) rfl ?_
 refine WL.nil ?_
 refine hK2 _ _ ?_
 refine W.seqK fun K3 hK3 => ?_
 refine W.region ?_
 refine WL.move (v := .int .i64 x1) rfl ?_
 refine WL.move (v := .int .i64 x1) rfl ?_
 refine WL.bin (v := .bool (x1 != x1)) rfl rfl (Y48 _ _ _) ?_
 refine WL.assign (v := .bool (x1 != x1)) rfl ?_
 refine WL.nil ?_
 refine hK3 _ _ ?_
 refine W.ret ?_
 have hr := Option.some.inj hf; subst hr
 exact ⟨_, Y0e rfl rfl, rfl, rfl⟩
theorem Y0W.callq {w0 : World} {x1 : Int} {x2 : Int}  {r : Int} (hf : Y0W x1 x2 = some r)  :
  Calls Tryz.prog 64 #[.int .i64 x1, .int .i64 x2] w0 fun e w' => ∃ v, e = .returned v ∧ v = .int .i64 r ∧ w' = w0 := by
 unfold Y0W at hf
 refine Y0t (fn := Tryz.f64) (N := 20) Tryz.func64 rfl Tryz.ntmps64 rfl ?_
 refine W.seqK fun K3 hK3 => ?_
 refine W.region ?_
 refine WL.assign (v := .int .i64 0) rfl ?_
 refine WL.nil ?_
 refine hK3 _ _ ?_
 refine W.seqK fun K4 hK4 => ?_
 refine W.region ?_
 refine WL.move (v := .int .i64 x1) rfl ?_
 obtain ⟨x5, hxx5, hf⟩ := Y0s hf
 refine WL.callQ (vs := [.int .i64 x1]) FN91 ⟨rfl, trivial⟩ (Y1q.callq (x1 := x1) hxx5) ?_
 refine WL.assign (v := .bool x5) rfl ?_
 refine WL.nil ?_
 refine hK4 _ _ ?_
 refine W.seqK fun K6 hK6 => ?_
 refine W.region ?_
 refine WL.move (v := .int .i64 x2) rfl ?_
 obtain ⟨x7, hxx7, hf⟩ := Y0s hf
 refine WL.callQ (vs := [.int .i64 x2]) FN91 ⟨rfl, trivial⟩ (Y1q.callq (x1 := x2) hxx7) ?_
 refine WL.assign (v := .bool x7) rfl ?_
 refine WL.nil ?_
 refine hK6 _ _ ?_
 refine W.seqK fun K8 hK8 => ?_
 refine W.seqK fun K9 hK9 => ?_
 refine W.region ?_
 refine WL.move (v := .bool x5) rfl ?_
 refine WL.nil ?_
 refine hK9 _ _ ?_
 rcases iteE hf with ⟨hc10, hf⟩ | ⟨hc10, hf⟩
 ·refine W.cond_true (Y02 rfl hc10) ?_
  refine W.seqK fun K11 hK11 => ?_
  refine W.seqK fun K12 hK12 => ?_
  refine W.region ?_
  refine WL.move (v := .bool x7) rfl ?_
  refine WL.nil ?_
  refine hK12 _ _ ?_
  rcases iteE hf with ⟨hc13, hf⟩ | ⟨hc13, hf⟩
  ·refine W.cond_true (Y02 rfl hc13) ?_
   refine W.seqK fun K14 hK14 => ?_
   refine W.region ?_
   refine WL.assign (v := .int .i64 0) rfl ?_
   refine WL.nil ?_
   refine hK14 _ _ ?_
   refine W.ret ?_
   have hr := Option.some.inj hf; subst hr
   exact ⟨_, Y0e rfl rfl, rfl, rfl⟩
  ·refine W.cond_false (Y02 rfl hc13) ?_
   refine W.skip ?_
   refine hK11 _ _ ?_
   refine W.seqK fun K15 hK15 => ?_
   refine W.region ?_
   refine WL.assign (v := .int .i64 (-1)) rfl ?_
   refine WL.nil ?_
   refine hK15 _ _ ?_
   refine W.ret ?_
   have hr := Option.some.inj hf; subst hr
   exact ⟨_, Y0e rfl rfl, rfl, rfl⟩
 ·refine W.cond_false (Y02 rfl hc10) ?_
  refine W.skip ?_
  refine hK8 _ _ ?_
  refine W.seqK fun K16 hK16 => ?_
  refine W.seqK fun K17 hK17 => ?_
  refine W.region ?_
  refine WL.move (v := .bool x7) rfl ?_
  refine WL.nil ?_
  refine hK17 _ _ ?_
  rcases iteE hf with ⟨hc18, hf⟩ | ⟨hc18, hf⟩
  ·refine W.cond_true (Y02 rfl hc18) ?_
   refine W.seqK fun K19 hK19 => ?_
   refine W.region ?_
   refine WL.assign (v := .int .i64 1) rfl ?_
   refine WL.nil ?_
   refine hK19 _ _ ?_
   refine W.ret ?_
   have hr := Option.some.inj hf; subst hr
   exact ⟨_, Y0e rfl rfl, rfl, rfl⟩
  ·refine W.cond_false (Y02 rfl hc18) ?_
   refine W.skip ?_
   refine hK16 _ _ ?_
   refine W.seqK fun K20 hK20 => ?_
   refine W.seqK fun K21 hK21 => ?_
   refine W.region ?_
   refine WL.move (v := .int .i64 x1) rfl ?_
   refine WL.move (v := .int .i64 x2) rfl ?_
   refine WL.bin (v := .bool (decide (x1 < x2))) rfl rfl (Y1n _ _ _) ?_
   refine WL.nil ?_
   refine hK21 _ _ ?_
   rcases iteE hf with ⟨hc22, hf⟩ | ⟨hc22, hf⟩
   ·refine W.cond_true (Y02 rfl hc22) ?_
    refine W.seqK fun K23 hK23 => ?_
    refine W.region ?_
    refine WL.assign (v := .int .i64 (-1)) rfl ?_
    refine WL.nil ?_
    refine hK23 _ _ ?_
    refine W.ret ?_
    have hr := Option.some.inj hf; subst hr
    exact ⟨_, Y0e rfl rfl, rfl, rfl⟩
   ·refine W.cond_false (Y02 rfl hc22) ?_
    refine W.skip ?_
    refine hK20 _ _ ?_
    refine W.seqK fun K24 hK24 => ?_
    refine W.seqK fun K25 hK25 => ?_
    refine W.region ?_
    refine WL.move (v := .int .i64 x1) rfl ?_
    refine WL.move (v := .int .i64 x2) rfl ?_
    refine WL.bin (v := .bool (decide (x2 < x1))) rfl rfl (Y5X _ _ _) ?_
    refine WL.nil ?_
    refine hK25 _ _ ?_
    rcases iteE hf with ⟨hc26, hf⟩ | ⟨hc26, hf⟩
    ·refine W.cond_true (Y02 rfl hc26) ?_
     refine W.seqK fun K27 hK27 => ?_
     refine W.region ?_
     refine WL.assign (v := .int .i64 1) rfl ?_
     refine WL.nil ?_
     refine hK27 _ _ ?_
     refine W.ret ?_
     have hr := Option.some.inj hf; subst hr
     exact ⟨_, Y0e rfl rfl, rfl, rfl⟩
    ·refine W.cond_false (Y02 rfl hc26) ?_
     refine W.skip ?_
     refine hK24 _ _ ?_
     refine W.seqK fun K28 hK28 => ?_
     refine W.region ?_
     refine WL.assign (v := .int .i64 0) rfl ?_
     refine WL.nil ?_
     refine hK28 _ _ ?_
     refine W.ret ?_
     have hr := Option.some.inj hf; subst hr
     exact ⟨_, Y0e rfl rfl, rfl, rfl⟩
theorem Y1d.callq {w0 : World} {x1 : Int}  {r : Bool} (hf : Y1d x1 = some r)  :
  Calls Tryz.prog 92 #[.int .i64 x1] w0 fun e w' => ∃ v, e = .returned v ∧ v = .bool r ∧ w' = w0 := by
 unfold Y1d at hf
 refine Y0t (fn := Tryz.f92) (N := 6) Tryz.func92 rfl Tryz.ntmps92 rfl ?_
 refine W.seqK fun K2 hK2 => ?_
 refine W.region ?_
 refine WL.assign (v := .bool false) rfl ?_
 refine WL.nil ?_
 refine hK2 _ _ ?_
 refine W.seqK fun K3 hK3 => ?_
 refine W.region ?_
 refine WL.move (v := .int .i64 x1) rfl ?_
 refine WL.move (v := .int .i64 x1) rfl ?_
 refine WL.bin (v := .bool (x1 != x1)) rfl rfl (Y48 _ _ _) ?_
 refine WL.assign (v := .bool (x1 != x1)) rfl ?_
 refine WL.nil ?_
 refine hK3 _ _ ?_
 refine W.ret ?_
 have hr := Option.some.inj hf; subst hr
 exact ⟨_, Y0e rfl rfl, rfl, rfl⟩
theorem Y1e.callq {w0 : World} {x1 : Int} {x2 : Int}  {r : Int} (hf : Y1e x1 x2 = some r)  :
  Calls Tryz.prog 65 #[.int .i64 x1, .int .i64 x2] w0 fun e w' => ∃ v, e = .returned v ∧ v = .int .i64 r ∧ w' = w0 := by
 unfold Y1e at hf
 refine Y0t (fn := Tryz.f65) (N := 20) Tryz.func65 rfl Tryz.ntmps65 rfl ?_
 refine W.seqK fun K3 hK3 => ?_
 refine W.region ?_
 refine WL.assign (v := .int .i64 0) rfl ?_
 refine WL.nil ?_
 refine hK3 _ _ ?_
 refine W.seqK fun K4 hK4 => ?_
 refine W.region ?_
 refine WL.move (v := .int .i64 x1) rfl ?_
 obtain ⟨x5, hxx5, hf⟩ := Y0s hf
 refine WL.callQ (vs := [.int .i64 x1]) FN92 ⟨rfl, trivial⟩ (Y1d.callq (x1 := x1) hxx5) ?_
 refine WL.assign (v := .bool x5) rfl ?_
 refine WL.nil ?_
 refine hK4 _ _ ?_
 refine W.seqK fun K6 hK6 => ?_
 refine W.region ?_
 refine WL.move (v := .int .i64 x2) rfl ?_
 obtain ⟨x7, hxx7, hf⟩ := Y0s hf
 refine WL.callQ (vs := [.int .i64 x2]) FN92 ⟨rfl, trivial⟩ (Y1d.callq (x1 := x2) hxx7) ?_
 refine WL.assign (v := .bool x7) rfl ?_
 refine WL.nil ?_
 refine hK6 _ _ ?_
 refine W.seqK fun K8 hK8 => ?_
 refine W.seqK fun K9 hK9 => ?_
 refine W.region ?_
 refine WL.move (v := .bool x5) rfl ?_
 refine WL.nil ?_
 refine hK9 _ _ ?_
 rcases iteE hf with ⟨hc10, hf⟩ | ⟨hc10, hf⟩
 ·refine W.cond_true (Y02 rfl hc10) ?_
  refine W.seqK fun K11 hK11 => ?_
  refine W.seqK fun K12 hK12 => ?_
  refine W.region ?_
  refine WL.move (v := .bool x7) rfl ?_
  refine WL.nil ?_
  refine hK12 _ _ ?_
  rcases iteE hf with ⟨hc13, hf⟩ | ⟨hc13, hf⟩
  ·refine W.cond_true (Y02 rfl hc13) ?_
   refine W.seqK fun K14 hK14 => ?_
   refine W.region ?_
   refine WL.assign (v := .int .i64 0) rfl ?_
   refine WL.nil ?_
   refine hK14 _ _ ?_
   refine W.ret ?_
   have hr := Option.some.inj hf; subst hr
   exact ⟨_, Y0e rfl rfl, rfl, rfl⟩
  ·refine W.cond_false (Y02 rfl hc13) ?_
   refine W.skip ?_
   refine hK11 _ _ ?_
   refine W.seqK fun K15 hK15 => ?_
   refine W.region ?_
   refine WL.assign (v := .int .i64 (-1)) rfl ?_
   refine WL.nil ?_
   refine hK15 _ _ ?_
   refine W.ret ?_
   have hr := Option.some.inj hf; subst hr
   exact ⟨_, Y0e rfl rfl, rfl, rfl⟩
 ·refine W.cond_false (Y02 rfl hc10) ?_
  refine W.skip ?_
  refine hK8 _ _ ?_
  refine W.seqK fun K16 hK16 => ?_
  refine W.seqK fun K17 hK17 => ?_
  refine W.region ?_
  refine WL.move (v := .bool x7) rfl ?_
  refine WL.nil ?_
  refine hK17 _ _ ?_
  rcases iteE hf with ⟨hc18, hf⟩ | ⟨hc18, hf⟩
  ·refine W.cond_true (Y02 rfl hc18) ?_
   refine W.seqK fun K19 hK19 => ?_
   refine W.region ?_
   refine WL.assign (v := .int .i64 1) rfl ?_
   refine WL.nil ?_
   refine hK19 _ _ ?_
   refine W.ret ?_
   have hr := Option.some.inj hf; subst hr
   exact ⟨_, Y0e rfl rfl, rfl, rfl⟩
  ·refine W.cond_false (Y02 rfl hc18) ?_
   refine W.skip ?_
   refine hK16 _ _ ?_
   refine W.seqK fun K20 hK20 => ?_
   refine W.seqK fun K21 hK21 => ?_
   refine W.region ?_
   refine WL.move (v := .int .i64 x1) rfl ?_
   refine WL.move (v := .int .i64 x2) rfl ?_
   refine WL.bin (v := .bool (decide (x1 < x2))) rfl rfl (Y1n _ _ _) ?_
   refine WL.nil ?_
   refine hK21 _ _ ?_
   rcases iteE hf with ⟨hc22, hf⟩ | ⟨hc22, hf⟩
   ·refine W.cond_true (Y02 rfl hc22) ?_
    refine W.seqK fun K23 hK23 => ?_
    refine W.region ?_
    refine WL.assign (v := .int .i64 (-1)) rfl ?_
    refine WL.nil ?_
    refine hK23 _ _ ?_
    refine W.ret ?_
    have hr := Option.some.inj hf; subst hr
    exact ⟨_, Y0e rfl rfl, rfl, rfl⟩
   ·refine W.cond_false (Y02 rfl hc22) ?_
    refine W.skip ?_
    refine hK20 _ _ ?_
    refine W.seqK fun K24 hK24 => ?_
    refine W.seqK fun K25 hK25 => ?_
    refine W.region ?_
    refine WL.move (v := .int .i64 x1) rfl ?_
    refine WL.move (v := .int .i64 x2) rfl ?_
    refine WL.bin (v := .bool (decide (x2 < x1))) rfl rfl (Y5X _ _ _) ?_
    refine WL.nil ?_
    refine hK25 _ _ ?_
    rcases iteE hf with ⟨hc26, hf⟩ | ⟨hc26, hf⟩
    ·refine W.cond_true (Y02 rfl hc26) ?_
     refine W.seqK fun K27 hK27 => ?_
     refine W.region ?_
     refine WL.assign (v := .int .i64 1) rfl ?_
     refine WL.nil ?_
     refine hK27 _ _ ?_
     refine W.ret ?_
     have hr := Option.some.inj hf; subst hr
     exact ⟨_, Y0e rfl rfl, rfl, rfl⟩
    ·refine W.cond_false (Y02 rfl hc26) ?_
     refine W.skip ?_
     refine hK24 _ _ ?_
     refine W.seqK fun K28 hK28 => ?_
     refine W.region ?_
     refine WL.assign (v := .int .i64 0) rfl ?_
     refine WL.nil ?_
     refine hK28 _ _ ?_
     refine W.ret ?_
     have hr := Option.some.inj hf; subst hr
     exact ⟨_, Y0e rfl rfl, rfl, rfl⟩
theorem Y16.callq {w0 : World} {x1 : List UInt8}  {r : Bool} (hf : Y16 x1 = some r)  :
  Calls Tryz.prog 93 #[bstr x1] w0 fun e w' => ∃ v, e = .returned v ∧ v = .bool r ∧ w' = w0 := by
 unfold Y16 at hf
 refine Y0t (fn := Tryz.f93) (N := 6) Tryz.func93 rfl Tryz.ntmps93 rfl ?_
 refine W.seqK fun K2 hK2 => ?_
 refine W.region ?_
 refine WL.assign (v := .bool false) rfl ?_
 refine WL.nil ?_
 refine hK2 _ _ ?_
 refine W.seqK fun K3 hK3 => ?_
 refine W.region ?_
 refine WL.move (v := bstr x1) rfl ?_
 refine WL.move (v := bstr x1) rfl ?_
 refine WL.binS (v := .bool (x1 != x1)) rfl rfl (Y6t _ _) ?_
 refine WL.assign (v := .bool (x1 != x1)) rfl ?_
 refine WL.nil ?_
 refine hK3 _ _ ?_
 refine W.ret ?_
 have hr := Option.some.inj hf; subst hr
 exact ⟨_, Y0e rfl rfl, rfl, rfl⟩
theorem Y17.callq {w0 : World} {x1 : List UInt8} {x2 : List UInt8}  {r : Int} (hf : Y17 x1 x2 = some r)  :
  Calls Tryz.prog 66 #[bstr x1, bstr x2] w0 fun e w' => ∃ v, e = .returned v ∧ v = .int .i64 r ∧ w' = w0 := by
 unfold Y17 at hf
 refine Y0t (fn := Tryz.f66) (N := 20) Tryz.func66 rfl Tryz.ntmps66 rfl ?_
 refine W.seqK fun K3 hK3 => ?_
 refine W.region ?_
 refine WL.assign (v := .int .i64 0) rfl ?_
 refine WL.nil ?_
 refine hK3 _ _ ?_
 refine W.seqK fun K4 hK4 => ?_
 refine W.region ?_
 refine WL.move (v := bstr x1) rfl ?_
 obtain ⟨x5, hxx5, hf⟩ := Y0s hf
 refine WL.callQ (vs := [bstr x1]) FN93 ⟨rfl, trivial⟩ (Y16.callq (x1 := x1) hxx5) ?_
 refine WL.assign (v := .bool x5) rfl ?_
 refine WL.nil ?_
 refine hK4 _ _ ?_
 refine W.seqK fun K6 hK6 => ?_
 refine W.region ?_
 refine WL.move (v := bstr x2) rfl ?_
 obtain ⟨x7, hxx7, hf⟩ := Y0s hf
 refine WL.callQ (vs := [bstr x2]) FN93 ⟨rfl, trivial⟩ (Y16.callq (x1 := x2) hxx7) ?_
 refine WL.assign (v := .bool x7) rfl ?_
 refine WL.nil ?_
 refine hK6 _ _ ?_
 refine W.seqK fun K8 hK8 => ?_
 refine W.seqK fun K9 hK9 => ?_
 refine W.region ?_
 refine WL.move (v := .bool x5) rfl ?_
 refine WL.nil ?_
 refine hK9 _ _ ?_
 rcases iteE hf with ⟨hc10, hf⟩ | ⟨hc10, hf⟩
 ·refine W.cond_true (Y02 rfl hc10) ?_
  refine W.seqK fun K11 hK11 => ?_
  refine W.seqK fun K12 hK12 => ?_
  refine W.region ?_
  refine WL.move (v := .bool x7) rfl ?_
  refine WL.nil ?_
  refine hK12 _ _ ?_
  rcases iteE hf with ⟨hc13, hf⟩ | ⟨hc13, hf⟩
  ·refine W.cond_true (Y02 rfl hc13) ?_
   refine W.seqK fun K14 hK14 => ?_
   refine W.region ?_
   refine WL.assign (v := .int .i64 0) rfl ?_
   refine WL.nil ?_
   refine hK14 _ _ ?_
   refine W.ret ?_
   have hr := Option.some.inj hf; subst hr
   exact ⟨_, Y0e rfl rfl, rfl, rfl⟩
  ·refine W.cond_false (Y02 rfl hc13) ?_
   refine W.skip ?_
   refine hK11 _ _ ?_
   refine W.seqK fun K15 hK15 => ?_
   refine W.region ?_
   refine WL.assign (v := .int .i64 (-1)) rfl ?_
   refine WL.nil ?_
   refine hK15 _ _ ?_
   refine W.ret ?_
   have hr := Option.some.inj hf; subst hr
   exact ⟨_, Y0e rfl rfl, rfl, rfl⟩
 ·refine W.cond_false (Y02 rfl hc10) ?_
  refine W.skip ?_
  refine hK8 _ _ ?_
  refine W.seqK fun K16 hK16 => ?_
  refine W.seqK fun K17 hK17 => ?_
  refine W.region ?_
  refine WL.move (v := .bool x7) rfl ?_
  refine WL.nil ?_
  refine hK17 _ _ ?_
  rcases iteE hf with ⟨hc18, hf⟩ | ⟨hc18, hf⟩
  ·refine W.cond_true (Y02 rfl hc18) ?_
   refine W.seqK fun K19 hK19 => ?_
   refine W.region ?_
   refine WL.assign (v := .int .i64 1) rfl ?_
   refine WL.nil ?_
   refine hK19 _ _ ?_
   refine W.ret ?_
   have hr := Option.some.inj hf; subst hr
   exact ⟨_, Y0e rfl rfl, rfl, rfl⟩
  ·refine W.cond_false (Y02 rfl hc18) ?_
   refine W.skip ?_
   refine hK16 _ _ ?_
   refine W.seqK fun K20 hK20 => ?_
   refine W.seqK fun K21 hK21 => ?_
   refine W.region ?_
   refine WL.move (v := bstr x1) rfl ?_
   refine WL.move (v := bstr x2) rfl ?_
   refine WL.binS (v := .bool (Op.bytesLess x1 x2)) rfl rfl (Y8z _ _) ?_
   refine WL.nil ?_
   refine hK21 _ _ ?_
   rcases iteE hf with ⟨hc22, hf⟩ | ⟨hc22, hf⟩
   ·refine W.cond_true (Y02 rfl hc22) ?_
    refine W.seqK fun K23 hK23 => ?_
    refine W.region ?_
    refine WL.assign (v := .int .i64 (-1)) rfl ?_
    refine WL.nil ?_
    refine hK23 _ _ ?_
    refine W.ret ?_
    have hr := Option.some.inj hf; subst hr
    exact ⟨_, Y0e rfl rfl, rfl, rfl⟩
   ·refine W.cond_false (Y02 rfl hc22) ?_
    refine W.skip ?_
    refine hK20 _ _ ?_
    refine W.seqK fun K24 hK24 => ?_
    refine W.seqK fun K25 hK25 => ?_
    refine W.region ?_
    refine WL.move (v := bstr x1) rfl ?_
    refine WL.move (v := bstr x2) rfl ?_
    refine WL.binS (v := .bool (!(Op.bytesLess x1 x2 || x1 == x2))) rfl rfl (sb_gtr _ _) ?_
    refine WL.nil ?_
    refine hK25 _ _ ?_
    rcases iteE hf with ⟨hc26, hf⟩ | ⟨hc26, hf⟩
    ·refine W.cond_true (Y02 rfl hc26) ?_
     refine W.seqK fun K27 hK27 => ?_
     refine W.region ?_
     refine WL.assign (v := .int .i64 1) rfl ?_
     refine WL.nil ?_
     refine hK27 _ _ ?_
     refine W.ret ?_
     have hr := Option.some.inj hf; subst hr
     exact ⟨_, Y0e rfl rfl, rfl, rfl⟩
    ·refine W.cond_false (Y02 rfl hc26) ?_
     refine W.skip ?_
     refine hK24 _ _ ?_
     refine W.seqK fun K28 hK28 => ?_
     refine W.region ?_
     refine WL.assign (v := .int .i64 0) rfl ?_
     refine WL.nil ?_
     refine hK28 _ _ ?_
     refine W.ret ?_
     have hr := Option.some.inj hf; subst hr
     exact ⟨_, Y0e rfl rfl, rfl, rfl⟩
theorem Y0S.callq {ok : Nat → Prop} {w0 : World} {x1 : List Int} {a2 : Option Addr} {c3 : Nat} {r : Int} (hf : Y0S x1 = some r) (i0 : (vl (Y0b (tInt .i64)) x1 (.slice a2 x1.length c3)).holds ok w0) :
  Calls Tryz.prog 63 #[.slice a2 x1.length c3] w0 fun e w' => ∃ v, e = .returned v ∧ v = .int .i64 r ∧ w' = w0 := by
 unfold Y0S at hf
 refine Y0t (fn := Tryz.f63) (N := 18) Tryz.func63 rfl Tryz.ntmps63 rfl ?_
 have hs : St ok (bz w0) w0 [vl (Y0b (tInt .i64)) x1 (.slice a2 x1.length c3)] [] := St.init (All.cons i0 All.nil)
 clear i0
 refine W.seqK fun K4 hK4 => ?_
 refine W.region ?_
 refine WL.assign (v := .int .i64 0) rfl ?_
 refine WL.nil ?_
 refine hK4 _ _ ?_
 refine W.seqK fun K5 hK5 => ?_
 refine W.region ?_
 refine WL.assign (v := .int .i64 0) rfl ?_
 refine WL.nil ?_
 refine hK5 _ _ ?_
 refine W.seqK fun K6 hK6 => ?_
 have Jk8 : ∀  (ρ : Env) (w : World), ρ 3 = .int .i64 0 → St ok (bz w0) w [] [] → w = w0 → Y0S.j1 = some r → K6 ρ w := by
  intro  ρ w h7_3 hs hw hf
  refine hK6 _ _ ?_
  unfold Y0S.j1 at hf
  refine W.seqK fun K9 hK9 => ?_
  refine W.region ?_
  refine WL.move (v := .int .i64 0) h7_3 ?_
  refine WL.assign (v := .int .i64 0) rfl ?_
  refine WL.nil ?_
  refine hK9 _ _ ?_
  refine W.ret ?_
  have hr := Option.some.inj hf; subst hr
  exact ⟨_, Y0e rfl rfl, rfl, hw⟩
 refine W.seqK fun K10 hK10 => ?_
 refine W.region ?_
 refine WL.move (v := .slice a2 x1.length c3) rfl ?_
 refine WL.len (v := .slice a2 x1.length c3) rfl (Y10 UN22) ?_
 refine WL.move (v := .int .i64 0) rfl ?_
 refine WL.nil ?_
 refine hK10 _ _ ?_
 refine W.block ?_
 obtain ⟨bs13, hbs13, hfs13⟩ := Y0s hf
 refine W.loop hbs13 (fun s ρ w => match s with | x12 => ρ 3 = .int .i64 0 ∧ ρ 6 = .slice a2 x1.length c3 ∧ ρ 7 = .int .i64 (x1.length : Int) ∧ ρ 8 = .int .i64 x12 ∧ St ok (bz w0) w [vl (Y0b (tInt .i64)) x1 (.slice a2 x1.length c3)] [] ∧ w = w0) ⟨rfl, rfl, rfl, rfl, (hs.mask []).pick [0], rfl⟩ ?_
 intro x12 ρ w os13 hI hf hbbs13
 obtain ⟨h11_3, h11_6, h11_7, h11_8, hs, hw⟩ := hI
 unfold Y0S.l1 at hf
 refine W.seqK fun K14 hK14 => ?_
 refine W.region ?_
 refine WL.bin (v := .bool (decide (x12 < (x1.length : Int)))) h11_8 h11_7 (Y1n _ _ _) ?_
 refine WL.nil ?_
 refine hK14 _ _ ?_
 refine W.seqK fun K15 hK15 => ?_
 rcases iteE hf with ⟨hc16, hf⟩ | ⟨hc16, hf⟩
 ·refine W.cond_true (Y02 rfl hc16) ?_
  refine W.skip ?_
  refine hK15 _ _ ?_
  refine W.seqK fun K17 hK17 => ?_
  refine W.block ?_
  refine W.seqK fun K18 hK18 => ?_
  refine W.region ?_
  obtain ⟨x19, hxx19, hf⟩ := Y0s hf
  refine WL.indexAddr hs 0 rfl UN22 TI3 h11_6 h11_8 hxx19 (fun ad20 hs => ?_)
  refine WL.loadP hs 0 rfl TI3 (.inr rfl) rfl (fun v21 hs => ?_)
  obtain rfl := hs.int 0 rfl
  refine WL.assign (v := .int .i64 x19) rfl ?_
  refine WL.nil ?_
  refine hK18 _ _ ?_
  refine W.seqK fun K22 hK22 => ?_
  refine W.region ?_
  refine WL.move (v := .int .i64 x19) rfl ?_
  refine WL.move (v := .int .i64 0) h11_3 ?_
  refine WL.bin (v := .bool (x19 != 0)) rfl rfl (Y48 _ _ _) ?_
  refine WL.nil ?_
  refine hK22 _ _ ?_
  rcases iteE hf with ⟨hc23, hf⟩ | ⟨hc23, hf⟩
  ·refine W.cond_true (Y02 rfl hc23) ?_
   refine W.seqK fun K24 hK24 => ?_
   refine W.region ?_
   refine WL.move (v := .int .i64 x19) rfl ?_
   refine WL.assign (v := .int .i64 x19) rfl ?_
   refine WL.nil ?_
   refine hK24 _ _ ?_
   refine W.ret ?_
   have hr := Option.some.inj hf; subst hr
   have hr := hbbs13 _ rfl; subst hr
   have hf := hfs13
   have hr := Option.some.inj hf; subst hr
   exact ⟨_, Y0e rfl rfl, rfl, hw⟩
  ·refine W.cond_false (Y02 rfl hc23) ?_
   refine W.skip ?_
   refine hK17 _ _ ?_
   refine W.region ?_
   obtain ⟨x25, ex25, hf⟩ := letE hf
   refine WL.bin (v := .int .i64 x25) h11_8 rfl (Y1V ex25 (Y1t _ _ _)) ?_
   refine WL.move (v := .int .i64 x25) rfl ?_
   refine WL.nil ?_
   exact ⟨_, (Option.some.inj hf).symm, h11_3, h11_6, h11_7, rfl, (hs.mask []).pick [2], hw⟩
 ·refine W.cond_false (Y02 rfl hc16) ?_
  refine W.exit ?_
  have hr := Option.some.inj hf; subst hr
  have hr := hbbs13 _ rfl; subst hr
  have hf := hfs13
  exact Jk8  _ _ h11_3 ((hs.mask []).pick []) hw hf/-! index.Compare: new memory, and draws. -/
theorem Y4S (a b : Int) : Y1e a b = some (cmpI a b) := by
 unfold Y1e Y1d cmpI
 simp only [Option.bind_some, bne_self_eq_false, Bool.false_eq_true, if_false]
 by_cases h1 : a < b
 ·simp [h1]
 ·by_cases h2 : b < a <;> simp [h1, h2]
theorem Y5D (a b : List UInt8) : Y17 a b = some (cmpS a b) := by
 unfold Y17 Y16 cmpS
 simp only [Option.bind_some, bne_self_eq_false, Bool.false_eq_true, if_false]
 cases h1 : Op.bytesLess a b with
 | true => simp
 | false =>
  cases h2 : Op.bytesLess b a with
  | true =>
   have : (a == b) = false := by
    rw [beq_eq_false_iff_ne]
    rintro rfl
    rw [h1] at h2
    cases h2
   simp [this]
  | false =>
   have : a = b := Y4T h1 h2
   simp [this, Y2a]
theorem keyR {ok : Nat → Prop} {w : World} {x : Y04} {cs : List Value} (h : Y09.R ok w x cs) : cs = [.int .i64 x.f_Type, .int .i64 x.N, bstr x.S] := by
 obtain ⟨c1, c2, rfl, h1, c3, c4, rfl, h2, h3⟩ := h
 rw [show c1 = _ from h1, show c3 = _ from h2, show c4 = _ from h3]
 rfl
theorem Y3I (x y : Y04) (Wd : World) : Calls Tryz.prog 38 #[.agg ([.int .i64 x.f_Type, .int .i64 x.N, bstr x.S] : List Value).toArray, .agg ([.int .i64 y.f_Type, .int .i64 y.N, bstr y.S] : List Value).toArray] Wd fun e w' => e = .returned (.int .i64 (Y1W x y)) ∧ Gr Wd w' := by
 refine (Y0t (args := [.agg ([.int .i64 x.f_Type, .int .i64 x.N, bstr x.S] : List Value).toArray, .agg ([.int .i64 y.f_Type, .int .i64 y.N, bstr y.S] : List Value).toArray]) (R := fun v w' => v = .int .i64 (Y1W x y) ∧ Gr Wd w') (fn := Tryz.f38) (N := 22) Tryz.func38 rfl Tryz.ntmps38 rfl ?_).mono (by rintro e w' ⟨v, rfl, rfl, h⟩; exact ⟨rfl, h⟩)
 refine W.seqK fun K1 hK1 => ?_
 refine W.region ?_
 refine WL.boxE (vs := [.int .i64 x.f_Type, .int .i64 x.N, bstr x.S]) rfl rfl ?_
 refine WL.boxE (vs := [.int .i64 y.f_Type, .int .i64 y.N, bstr y.S]) rfl rfl ?_
 refine WL.assign (v := .int .i64 0) rfl ?_
 refine WL.nil ?_
 refine hK1 _ _ ?_
 refine W.seqK fun K2 hK2 => ?_
 obtain ⟨g2, hg2⟩ : ∃ g, Wd.heap.size = g := ⟨_, rfl⟩
 have e3 : (Wd.alloc (.cells ([.int .i64 x.f_Type, .int .i64 x.N, bstr x.S] : List Value).toArray 47)).heap.size = g2 + 1 := by rw [Y2D, hg2]
 have hb2 : ((Wd.alloc (.cells ([.int .i64 x.f_Type, .int .i64 x.N, bstr x.S] : List Value).toArray 47)).alloc (.cells ([.int .i64 y.f_Type, .int .i64 y.N, bstr y.S] : List Value).toArray 47)).heap[g2]? = some (.cells ([.int .i64 x.f_Type, .int .i64 x.N, bstr x.S] : List Value).toArray 47 (0, 0)) := by
  rw [Below.heap_alloc _ _ _ (by rw [e3]; omega), ← hg2]
  exact Y2N Wd _
 have hb3 : ((Wd.alloc (.cells ([.int .i64 x.f_Type, .int .i64 x.N, bstr x.S] : List Value).toArray 47)).alloc (.cells ([.int .i64 y.f_Type, .int .i64 y.N, bstr y.S] : List Value).toArray 47)).heap[g2 + 1]? = some (.cells ([.int .i64 y.f_Type, .int .i64 y.N, bstr y.S] : List Value).toArray 47 (0, 0)) := by
  rw [← e3]
  exact Y2N _ _
 have hG : Gr Wd ((Wd.alloc (.cells ([.int .i64 x.f_Type, .int .i64 x.N, bstr x.S] : List Value).toArray 47)).alloc (.cells ([.int .i64 y.f_Type, .int .i64 y.N, bstr y.S] : List Value).toArray 47)) := ((Gr.refl Wd).alloc _).alloc _
 rw [e3]
 rw [hg2]
 generalize (Wd.alloc (.cells ([.int .i64 x.f_Type, .int .i64 x.N, bstr x.S] : List Value).toArray 47)).alloc (.cells ([.int .i64 y.f_Type, .int .i64 y.N, bstr y.S] : List Value).toArray 47) = W1 at hb2 hb3 hG
 have hl2 := Y0K hb2
 have hl3 := Y0K hb3
 refine W.anyI (I := fun w => Gr W1 w) (fun w h => h.drew) (by kernel_rfl) 15 3 [true, true, true, true, true, true, true, true, true, true, true, true, true, true, true, false, false, false] rfl rfl
  (fun i v => v = ([.pointer (some ⟨g2, 0, none⟩), .int .i64 x.f_Type, .pointer (some ⟨g2 + 1, 0, none⟩), .int .i64 y.f_Type, .int .i64 (cmpI x.f_Type y.f_Type), .pointer (some ⟨g2, 1, none⟩), .int .i64 x.N, .pointer (some ⟨g2 + 1, 1, none⟩), .int .i64 y.N, .int .i64 (cmpI x.N y.N),
   .pointer (some ⟨g2, 2, none⟩), bstr x.S, .pointer (some ⟨g2 + 1, 2, none⟩), bstr y.S, .int .i64 (cmpS x.S y.S)] : List Value).getD i undef) (Gr.refl W1) (by kernel_rfl) (by kernel_rfl)
  ⟨⟨⟨⟨⟨⟨⟨⟨⟨⟨⟨⟨⟨⟨⟨trivial, ?_⟩, ?_⟩, ?_⟩, ?_⟩, ?_⟩, ?_⟩, ?_⟩, ?_⟩, ?_⟩, ?_⟩, ?_⟩, ?_⟩, ?_⟩, ?_⟩, ?_⟩ ?_
 ·intro ρ w hI hu hp
  refine WL.fieldAddr (m := 0) ((hu 2 rfl).trans rfl) Y71 rfl ?_
  exact WL.nil ⟨rfl, _, rfl, rfl, hI⟩
 ·intro ρ w hI hu hp
  refine WL.loadE (v := .int .i64 x.f_Type) ((hI.block hl2).trans hb2) TI3 (hp 0 rfl) rfl ?_
  exact WL.nil ⟨rfl, _, rfl, rfl, hI⟩
 ·intro ρ w hI hu hp
  refine WL.fieldAddr (m := 0) ((hu 3 rfl).trans rfl) Y71 rfl ?_
  exact WL.nil ⟨rfl, _, rfl, rfl, hI⟩
 ·intro ρ w hI hu hp
  refine WL.loadE (v := .int .i64 y.f_Type) ((hI.block hl3).trans hb3) TI3 (hp 2 rfl) rfl ?_
  exact WL.nil ⟨rfl, _, rfl, rfl, hI⟩
 ·intro ρ w hI hu hp
  refine WL.callQ (vs := [.int .i64 x.f_Type, .int .i64 y.f_Type]) FN64 ⟨hp 1 rfl, hp 3 rfl, trivial⟩ (Y0W.callq (Y4K _ _)) ?_
  exact WL.nil ⟨rfl, _, rfl, rfl, hI⟩
 ·intro ρ w hI hu hp
  refine WL.fieldAddr (m := 1) ((hu 2 rfl).trans rfl) Y70 rfl ?_
  exact WL.nil ⟨rfl, _, rfl, rfl, hI⟩
 ·intro ρ w hI hu hp
  refine WL.loadE (v := .int .i64 x.N) ((hI.block hl2).trans hb2) TI2 (hp 5 rfl) rfl ?_
  exact WL.nil ⟨rfl, _, rfl, rfl, hI⟩
 ·intro ρ w hI hu hp
  refine WL.fieldAddr (m := 1) ((hu 3 rfl).trans rfl) Y70 rfl ?_
  exact WL.nil ⟨rfl, _, rfl, rfl, hI⟩
 ·intro ρ w hI hu hp
  refine WL.loadE (v := .int .i64 y.N) ((hI.block hl3).trans hb3) TI2 (hp 7 rfl) rfl ?_
  exact WL.nil ⟨rfl, _, rfl, rfl, hI⟩
 ·intro ρ w hI hu hp
  refine WL.callQ (vs := [.int .i64 x.N, .int .i64 y.N]) FN65 ⟨hp 6 rfl, hp 8 rfl, trivial⟩ (Y1e.callq (Y4S _ _)) ?_
  exact WL.nil ⟨rfl, _, rfl, rfl, hI⟩
 ·intro ρ w hI hu hp
  refine WL.fieldAddr (m := 2) ((hu 2 rfl).trans rfl) Y6Z rfl ?_
  exact WL.nil ⟨rfl, _, rfl, rfl, hI⟩
 ·intro ρ w hI hu hp
  refine WL.loadE (v := bstr x.S) ((hI.block hl2).trans hb2) TI9 (hp 10 rfl) rfl ?_
  exact WL.nil ⟨rfl, _, rfl, rfl, hI⟩
 ·intro ρ w hI hu hp
  refine WL.fieldAddr (m := 2) ((hu 3 rfl).trans rfl) Y6Z rfl ?_
  exact WL.nil ⟨rfl, _, rfl, rfl, hI⟩
 ·intro ρ w hI hu hp
  refine WL.loadE (v := bstr y.S) ((hI.block hl3).trans hb3) TI9 (hp 12 rfl) rfl ?_
  exact WL.nil ⟨rfl, _, rfl, rfl, hI⟩
 ·intro ρ w hI hu hp
  refine WL.callQ (vs := [bstr x.S, bstr y.S]) FN66 ⟨hp 11 rfl, hp 13 rfl, trivial⟩ (Y17.callq (Y5D _ _)) ?_
  exact WL.nil ⟨rfl, _, rfl, rfl, hI⟩
 ·intro ρ w hI hu hp
  have e9 : ρ 9 = .int .i64 (cmpI x.f_Type y.f_Type) := hp.at_ 4 (by decide)
  have e14 : ρ 14 = .int .i64 (cmpI x.N y.N) := hp.at_ 9 (by decide)
  have e19 : ρ 19 = .int .i64 (cmpS x.S y.S) := hp.at_ 14 (by decide)
  refine WA.step [15] (by kernel_rfl) (by simp) ⟨?_, trivial⟩
  refine WL.buildSliceE (n := 3) (vs := [(0, .int .i64 (cmpI x.f_Type y.f_Type)), (1, .int .i64 (cmpI x.N y.N)), (2, .int .i64 (cmpS x.S y.S))]) (cs := [.int .i64 (cmpI x.f_Type y.f_Type), .int .i64 (cmpI x.N y.N), .int .i64 (cmpS x.S y.S)]) ⟨⟨rfl, e9⟩, ⟨rfl, e14⟩, ⟨rfl, e19⟩, trivial⟩ (bls PS22 (by decide) rfl) ?_
  refine WL.nil ⟨rfl, _, rfl, ?_⟩
  refine WA.step [16] (by kernel_rfl) (by simp) ⟨?_, trivial⟩
  have h1 := ((St.init (ok0 := fun _ => True) (w := w) All.nil).alloc 3 [.int .i64 (cmpI x.f_Type y.f_Type), .int .i64 (cmpI x.N y.N), .int .i64 (cmpS x.S y.S)]).ownLit (A := tInt .i64) (xs := [cmpI x.f_Type y.f_Type, cmpI x.N y.N, cmpS x.S y.S]) 0 rfl (fun ok hA => Y0U.app (Y0U.one (T := tInt .i64) rfl) (Y0U.app (Y0U.one (T := tInt .i64) rfl) (Y0U.one (T := tInt .i64) rfl))) (Nat.le_of_ble_eq_true rfl)
  obtain ⟨ok, hit⟩ := (h1.freezeOwn 0 rfl).get 0 rfl
  refine WL.callQ (vs := [.slice (some ⟨w.heap.size, 0, none⟩) 3 3]) FN63 ⟨rfl, trivial⟩ (Y0S.callq (x1 := [cmpI x.f_Type y.f_Type, cmpI x.N y.N, cmpS x.S y.S]) (or_eq _ _ _) hit) ?_
  refine WL.nil ⟨rfl, _, rfl, ?_⟩
  refine WA.step [17] (by kernel_rfl) (by simp) ⟨?_, trivial⟩
  refine WL.assign (v := .int .i64 (Y1W x y)) rfl ?_
  refine WL.nil ⟨rfl, _, rfl, ?_⟩
  refine WA.done (by kernel_rfl) ?_
  refine hK2 _ _ ?_
  refine W.ret ?_
  exact ⟨_, Y0e rfl rfl, rfl, hG.trans (Gr.alloc hI _)⟩
theorem Y56 (x y : Int) : (cmpI x y ≠ 0) ↔ x ≠ y := by
 unfold cmpI
 split
 ·constructor
  ·intro _; omega
  ·intro _; decide
 ·split
  ·constructor
   ·intro _; omega
   ·intro _; decide
  ·constructor
   ·intro h; exact absurd rfl h
   ·intro h; omega
theorem Y97 (x y : Int) : cmpI x y < 0 ↔ x < y := by
 have := cmpI_neg x y
 rw [decide_eq_decide] at this
 exact this
theorem cmpS_lt (x y : List UInt8) : cmpS x y < 0 ↔ Op.bytesLess x y = true := by
 unfold cmpS
 cases h : Op.bytesLess x y with
 | true => simp
 | false =>
  rw [if_neg (by simp)]
  split <;> simp
def Y1L (a b : Y04) : Prop := a.f_Type < b.f_Type ∨ a.f_Type = b.f_Type ∧ (a.N < b.N ∨ a.N = b.N ∧ Op.bytesLess a.S b.S = true)
theorem Y2f (a b : Y04) : Y1W a b < 0 ↔ Y1L a b := by
 unfold Y1W Y1L
 by_cases h1 : cmpI a.f_Type b.f_Type ≠ 0
 ·rw [if_pos h1, Y97]
  rw [Y56] at h1
  constructor
  ·exact .inl
  ·rintro (h | ⟨h, _⟩)
   ·exact h
   ·exact absurd h h1
 ·rw [if_neg h1]
  have e1 : a.f_Type = b.f_Type := by
   rw [Y56] at h1
   exact Classical.byContradiction h1
  by_cases h2 : cmpI a.N b.N ≠ 0
  ·rw [if_pos h2, Y97]
   rw [Y56] at h2
   constructor
   ·exact fun h => .inr ⟨e1, .inl h⟩
   ·rintro (h | ⟨_, h | ⟨h, _⟩⟩)
    ·omega
    ·exact h
    ·exact absurd h h2
  ·rw [if_neg h2, cmpS_lt]
   have e2 : a.N = b.N := by
    rw [Y56] at h2
    exact Classical.byContradiction h2
   constructor
   ·exact fun h => .inr ⟨e1, .inr ⟨e2, h⟩⟩
   ·rintro (h | ⟨_, h | ⟨_, h⟩⟩)
    ·omega
    ·omega
    ·exact h
theorem Y2q (a : Y04) : ¬ Y1L a a := by
 unfold Y1L
 rw [Y2a]
 intro h
 rcases h with h | ⟨_, h | ⟨_, h⟩⟩
 ·omega
 ·omega
 ·cases h
theorem Y3a {a b c : Y04} (h : Y1L a b) (k : Y1L b c) : Y1L a c := by
 unfold Y1L at *
 rcases h with h | ⟨h1, h | ⟨h2, h⟩⟩ <;> rcases k with k | ⟨k1, k | ⟨k2, k⟩⟩
 ·exact .inl (by omega)
 ·exact .inl (by omega)
 ·exact .inl (by omega)
 ·exact .inl (by omega)
 ·exact .inr ⟨by omega, .inl (by omega)⟩
 ·exact .inr ⟨by omega, .inl (by omega)⟩
 ·exact .inl (by omega)
 ·exact .inr ⟨by omega, .inl (by omega)⟩
 ·exact .inr ⟨by omega, .inr ⟨by omega, Y3E h k⟩⟩
theorem Y5n {a b : Y04} (h : ¬ Y1L a b) (k : ¬ Y1L b a) : a = b := by
 unfold Y1L at h k
 have e1 : a.f_Type = b.f_Type := by
  have h1 : ¬ a.f_Type < b.f_Type := fun x => h (.inl x)
  have k1 : ¬ b.f_Type < a.f_Type := fun x => k (.inl x)
  omega
 have e2 : a.N = b.N := by
  have h1 : ¬ a.N < b.N := fun x => h (.inr ⟨e1, .inl x⟩)
  have k1 : ¬ b.N < a.N := fun x => k (.inr ⟨e1.symm, .inl x⟩)
  omega
 have e3 : a.S = b.S := Y4T (by
  cases q : Op.bytesLess a.S b.S with
  | false => rfl
  | true => exact absurd (.inr ⟨e1, .inr ⟨e2, q⟩⟩) h) (by
  cases q : Op.bytesLess b.S a.S with
  | false => rfl
  | true => exact absurd (.inr ⟨e1.symm, .inr ⟨e2.symm, q⟩⟩) k)
 obtain ⟨t, n, s⟩ := a
 obtain ⟨t', n', s'⟩ := b
 simp only at e1 e2 e3
 rw [e1, e2, e3]
theorem Y63 {α : Type} (f : α → Y04) : Go.Sort.SWO fun x y : α => decide (Y1W (f x) (f y) < 0) where
 irrefl x := by
  rw [decide_eq_false_iff_not, Y2f]
  exact Y2q _
 trans x y z h1 h2 := by
  rw [decide_eq_true_iff, Y2f] at *
  exact Y3a h1 h2
 ntrans x y z h1 h2 := by
  rw [decide_eq_false_iff_not, Y2f] at *
  intro h3
  by_cases k1 : Y1L (f y) (f x)
  ·exact h2 (Y3a k1 h3)
  ·have := Y5n h1 k1
   rw [this] at h3
   exact h2 h3
theorem Y1N.calls {ok : Nat → Prop} {w0 : World} {F : Base} {x1 : List Y04} {a0 : Option Addr} {n0 c0 : Nat} {r : List Y04} (hf : Y1N x1 = some r) (hs : St ok F w0 [] [own Y09 47 (.slice a0 n0 c0) x1]) :
  Calls Tryz.prog 37 #[.slice a0 n0 c0, .func (.func 38) #[] #[]] w0 fun e w' => ∃ v, e = .returned v ∧ ∃ y : Unit, v = .tuple #[] ∧ St ok F w' [] [own Y09 47 (.slice a0 n0 c0) r] :=
 Y5d (A := Y09) Y8O (by decide) Tryz.isAgg47 Tryz.sizeOf47 Y1W (Y63 fun x => x) 38 (fun _ _ => by kernel_rfl)
  (fun ok W x y cs ds hx hy => by
   rw [keyR hx, keyR hy]
   exact Y3I x y W) hs hf
theorem entryR {ok : Nat → Prop} {w : World} {x : Y0a} {cs : List Value} (h : Y0i.R ok w x cs) : ∃ v, v.oneCell' = true ∧ cs = [.int .i64 x.Key.f_Type, .int .i64 x.Key.N, bstr x.Key.S, v] := by
 obtain ⟨c1, c2, rfl, h1, a, c, rfl, _⟩ := h
 rw [keyR h1]
 exact ⟨_, rfl, rfl⟩
theorem Y4G (x y : Y04) (u v : Value) (hu : u.oneCell' = true) (hv : v.oneCell' = true) (Wd : World) : Calls Tryz.prog 59 #[.agg ([.int .i64 x.f_Type, .int .i64 x.N, bstr x.S, u] : List Value).toArray, .agg ([.int .i64 y.f_Type, .int .i64 y.N, bstr y.S, v] : List Value).toArray] Wd fun e w' => e = .returned (.int .i64 (Y1W x y)) ∧ Gr Wd w' := by
 refine (Y0t (args := [.agg ([.int .i64 x.f_Type, .int .i64 x.N, bstr x.S, u] : List Value).toArray, .agg ([.int .i64 y.f_Type, .int .i64 y.N, bstr y.S, v] : List Value).toArray]) (R := fun v w' => v = .int .i64 (Y1W x y) ∧ Gr Wd w') (fn := Tryz.f59) (N := 10) Tryz.func59 rfl Tryz.ntmps59 rfl ?_).mono (by rintro e w' ⟨v, rfl, rfl, h⟩; exact ⟨rfl, h⟩)
 refine W.seqK fun K1 hK1 => ?_
 refine W.region ?_
 refine WL.boxE (vs := [.int .i64 x.f_Type, .int .i64 x.N, bstr x.S, u]) rfl rfl ?_
 refine WL.boxE (vs := [.int .i64 y.f_Type, .int .i64 y.N, bstr y.S, v]) rfl rfl ?_
 refine WL.assign (v := .int .i64 0) rfl ?_
 refine WL.nil ?_
 refine hK1 _ _ ?_
 refine W.seqK fun K2 hK2 => ?_
 obtain ⟨g2, hg2⟩ : ∃ g, Wd.heap.size = g := ⟨_, rfl⟩
 have e3 : (Wd.alloc (.cells ([.int .i64 x.f_Type, .int .i64 x.N, bstr x.S, u] : List Value).toArray 65)).heap.size = g2 + 1 := by rw [Y2D, hg2]
 have hb2 : ((Wd.alloc (.cells ([.int .i64 x.f_Type, .int .i64 x.N, bstr x.S, u] : List Value).toArray 65)).alloc (.cells ([.int .i64 y.f_Type, .int .i64 y.N, bstr y.S, v] : List Value).toArray 65)).heap[g2]? = some (.cells ([.int .i64 x.f_Type, .int .i64 x.N, bstr x.S, u] : List Value).toArray 65 (0, 0)) := by
  rw [Below.heap_alloc _ _ _ (by rw [e3]; omega), ← hg2]
  exact Y2N Wd _
 have hb3 : ((Wd.alloc (.cells ([.int .i64 x.f_Type, .int .i64 x.N, bstr x.S, u] : List Value).toArray 65)).alloc (.cells ([.int .i64 y.f_Type, .int .i64 y.N, bstr y.S, v] : List Value).toArray 65)).heap[g2 + 1]? = some (.cells ([.int .i64 y.f_Type, .int .i64 y.N, bstr y.S, v] : List Value).toArray 65 (0, 0)) := by
  rw [← e3]
  exact Y2N _ _
 have hG : Gr Wd ((Wd.alloc (.cells ([.int .i64 x.f_Type, .int .i64 x.N, bstr x.S, u] : List Value).toArray 65)).alloc (.cells ([.int .i64 y.f_Type, .int .i64 y.N, bstr y.S, v] : List Value).toArray 65)) := ((Gr.refl Wd).alloc _).alloc _
 rw [e3]
 rw [hg2]
 generalize (Wd.alloc (.cells ([.int .i64 x.f_Type, .int .i64 x.N, bstr x.S, u] : List Value).toArray 65)).alloc (.cells ([.int .i64 y.f_Type, .int .i64 y.N, bstr y.S, v] : List Value).toArray 65) = W1 at hb2 hb3 hG
 refine W.region ?_
 refine WL.fieldAddr (m := 0) rfl Y4W rfl ?_
 refine WL.loadNE (vs := [.int .i64 x.f_Type, .int .i64 x.N, bstr x.S]) hb2 TI47 rfl rfl rfl ?_
 refine WL.fieldAddr (m := 0) rfl Y4W rfl ?_
 refine WL.loadNE (vs := [.int .i64 y.f_Type, .int .i64 y.N, bstr y.S]) hb3 TI47 rfl rfl rfl ?_
 refine WL.callE (R := fun v w' => v = .int .i64 (Y1W x y) ∧ Gr W1 w') (vs := [.agg ([.int .i64 x.f_Type, .int .i64 x.N, bstr x.S] : List Value).toArray, .agg ([.int .i64 y.f_Type, .int .i64 y.N, bstr y.S] : List Value).toArray]) FN38 ⟨rfl, rfl, trivial⟩ ((Y3I x y W1).mono (by rintro e w' ⟨rfl, h⟩; exact ⟨_, rfl, rfl, h⟩)) ?_
 rintro _ w ⟨rfl, hw⟩
 refine WL.assign (v := .int .i64 (Y1W x y)) rfl ?_
 refine WL.nil ?_
 refine hK2 _ _ ?_
 refine W.ret ?_
 exact ⟨_, Y0e rfl rfl, rfl, hG.trans hw⟩
theorem Y1h.calls {ok : Nat → Prop} {w0 : World} {F : Base} {x1 : List Y0a} {a0 : Option Addr} {n0 c0 : Nat} {r : List Y0a} (hf : Y1h x1 = some r) (hs : St ok F w0 [] [own Y0i 65 (.slice a0 n0 c0) x1]) :
  Calls Tryz.prog 58 #[.slice a0 n0 c0, .func (.func 59) #[] #[]] w0 fun e w' => ∃ v, e = .returned v ∧ ∃ y : Unit, v = .tuple #[] ∧ St ok F w' [] [own Y0i 65 (.slice a0 n0 c0) r] :=
 Y5d (A := Y0i) Y8P (by decide) Tryz.isAgg65 Tryz.sizeOf65 (fun x y => Y1W x.Key y.Key) (Y63 Y0a.Key) 59 (fun _ _ => by kernel_rfl)
  (fun ok W x y cs ds hx hy => by
   obtain ⟨u, hu, rfl⟩ := entryR hx
   obtain ⟨v, hv, rfl⟩ := entryR hy
   exact Y4G x.Key y.Key u v hu hv W) hs hf
attribute [local go_sem] Oper.semAt_some
set_option maxRecDepth 100000 in
set_option maxHeartbeats 4000000 in
theorem Y8b (F : Fence) (n : Nat) (hf1 : F.fn 94) (hro : F.round = none) (hn : 1 ≤ n) (l Bx b off cap n0 : Nat) (xs : List (List UInt8)) (hlen : xs.length ≤ 4611686018427387904) (hcap : xs.length ≤ cap) (hb0 : b < n0) (J Jx : List (List UInt8) → World → Prop)
  (hY : ∀ pre x W, J pre W → pre.length < xs.length → YieldAt F (n - 1) Tryz.prog l #[bstr x] W fun e W' =>
   (e = .returned (.bool true) ∧ J (pre ++ [x]) W' ∧ Below n0 W W') ∨ (e = .returned (.bool false) ∧ Jx (pre ++ [x]) W'))
  (W : World) (hBx : W.cell? ⟨Bx, 0, none⟩ = some (.slice (some ⟨b, off, none⟩) xs.length cap)) (hrow : ∀ j x, xs[j]? = some x → W.cell? ⟨b, off + j, none⟩ = some (bstr x)) (h0 : J [] W) :
  CallsIn F n Tryz.prog 94 #[.func (.yield l) #[] #[], .pointer (some ⟨Bx, 0, none⟩)] W fun e W' => (∃ v, e = .returned v) ∧ (J xs W' ∨ ∃ pre, Jx pre W') := by
 refine callsIn_of_wp Tryz.func94 rfl hf1 ?_ hro
 simp only [Tryz.ntmps94, List.size_toArray, List.length_cons, List.length_nil, Nat.reduceAdd, Nat.reduceSub, Array.replicate_succ, Array.replicate_zero, List.push_toArray, List.append_toArray, List.nil_append, List.cons_append]
 gi_wp2
 gi_loopw [7] (fun i wr => ∃ k, i = .int .i64 ((k : Nat) : Int) ∧ k ≤ xs.length ∧ J (xs.take k) wr ∧ Below n0 W wr)
  (fun i _ => xs.length - (intOf i).toNat)
 case atStart => exact ⟨0, rfl, Nat.zero_le _, h0, Below.refl _ _⟩
 case round =>
  obtain ⟨k, rfl, hk, hJs, hbl⟩ := hrel
  by_cases hlt : k < xs.length
  ·have hx : xs[k]? = some xs[k] := List.getElem?_eq_getElem hlt
   have hc := (hbl.cell (p := ⟨b, off + k, none⟩) hb0).trans (hrow k _ hx)
   obtain ⟨fn, tmps, assign, body, hy, hR⟩ := hY _ xs[k] wr hJs (by rw [List.length_take]; omega)
   have ht : xs.take k ++ [xs[k]] = xs.take (k + 1) := by rw [List.take_add_one, hx]; rfl
   rw [ht] at hR
   gi_wp2
   refine hR.mono ?_
   rintro e W3 (⟨rfl, hJ3, hk3⟩ | ⟨rfl, hJx3⟩)
   ·gi_wp2
    go_roundw
    case rel => exact ⟨k + 1, by simp, hlt, hJ3, hbl.trans hk3⟩
    case measure => simp [intOf]; omega
   ·gi_wp2
    refine bodyPost_ret (results_none rfl _ _ _) rfl ?_
    exact ⟨⟨_, rfl⟩, .inr ⟨_, hJx3⟩⟩
  ·gi_wp2
   go_end0
   have : xs.take k = xs := List.take_of_length_le (by omega)
   rw [this] at hJs
   exact ⟨⟨_, rfl⟩, .inl hJs⟩
set_option maxRecDepth 100000 in
set_option maxHeartbeats 1000000 in
theorem Y8c (F : Fence) (n : Nat) (hf1 : F.fn 94) (hro : F.round = none) (l Bx : Nat) (a : Option Addr) (cap : Nat) (J : World → Prop) (W : World) (hBx : W.cell? ⟨Bx, 0, none⟩ = some (.slice a 0 cap)) (h0 : J W) :
  CallsIn F n Tryz.prog 94 #[.func (.yield l) #[] #[], .pointer (some ⟨Bx, 0, none⟩)] W fun e W' => (∃ v, e = .returned v) ∧ J W' := by
 refine callsIn_of_wp Tryz.func94 rfl hf1 ?_ hro
 simp only [Tryz.ntmps94, List.size_toArray, List.length_cons, List.length_nil, Nat.reduceAdd, Nat.reduceSub, Array.replicate_succ, Array.replicate_zero, List.push_toArray, List.append_toArray, List.nil_append, List.cons_append]
 gi_wp2
 gi_loopw [7] (fun i wr => i = .int .i64 0 ∧ wr = W) (fun _ _ => 0)
 case atStart => exact ⟨rfl, rfl⟩
 case round =>
  obtain ⟨rfl, rfl⟩ := hrel
  gi_wp2
  go_end0
  exact ⟨⟨_, rfl⟩, h0⟩
structure AsI (w : World) (pre : List (List UInt8)) (W : World) : Prop where
 box : ∃ v, W.heap[w.heap.size]? = some (.cells #[v] 56 (0, 0)) ∧ W.ownsRow w.heap.size 9 1 v pre.length (pre.map bstr)
 below : Below w.heap.size w W
theorem Y7E {W : World} {base : Nat} {v : Value} {k : Nat} {xs : List Value} (h : W.ownsRow base 9 1 v k xs) {j : Nat} {c : Array Value} (hj : W.heap[j]? = some (.cells c 56 (0, 0))) : v.ownBlock = none ∨ v.ownBlock ≠ some j := by
 rcases h.2 with ⟨rfl, _⟩ | ⟨g, cap, cur, rfl, _, hgb, _⟩
 ·exact .inl rfl
 ·refine .inr fun e => ?_
  have : g = j := by simpa [Value.ownBlock] using e
  subst this
  rw [hgb] at hj
  cases hj
theorem Y8H {W : World} {base : Nat} {v : Value} {k : Nat} {xs : List Value} (h : W.ownsRow base 9 1 v k xs) {j : Nat} {o : Obj} (hj : W.heap[j]? = some o) (ho : o.isCells = false) : v.ownBlock = none ∨ v.ownBlock ≠ some j := by
 rcases h.2 with ⟨rfl, _⟩ | ⟨g, cap, cur, rfl, _, hgb, _⟩
 ·exact .inl rfl
 ·refine .inr fun e => ?_
  have : g = j := by simpa [Value.ownBlock] using e
  subst this
  rw [hgb] at hj
  cases hj
  cases ho
theorem AsI.own (w : World) (B : Nat) (hB : w.heap.size ≤ B) : OwnFrom B (AsI w) := by
 intro s W W' row h hg hr
 obtain ⟨v, hv, hrow⟩ := h.box
 refine ⟨⟨v, (hg.block _ (Y0K hv) ?_).trans hv, hrow.kept hg ?_⟩, h.below.grown hg h.below.size fun k e => Nat.le_trans hB (hr k e).1⟩
 ·intro e
  obtain ⟨_, o, ho, hc⟩ := hr _ e.symm
  rw [hv] at ho
  cases ho
  cases hc
 ·cases row with
  | none => cases hvb : v.ownBlock <;> simp
  | some r =>
   obtain ⟨_, o, ho, hc⟩ := hr r rfl
   exact Y8H hrow ho hc
set_option maxRecDepth 100000 in
set_option maxHeartbeats 4000000 in
theorem Y6U (xs : List (List UInt8)) (a : Option Addr) (cap Bx : Nat) (w : World) (hlen : xs.length * 16 ≤ 140737488355328) (hcap : xs.length ≤ cap) (hBl : Bx < w.heap.size)
  (hBx : w.cell? ⟨Bx, 0, none⟩ = some (.slice a xs.length cap)) (hrow : xs = [] ∨ ∃ b off, a = some ⟨b, off, none⟩ ∧ b < w.heap.size ∧ ∀ j x, xs[j]? = some x → w.cell? ⟨b, off + j, none⟩ = some (bstr x)) :
  CallsIn Fence.wide 8 Tryz.prog 98 #[.slice none 0 0, .func (.func 94) #[] #[.pointer (some ⟨Bx, 0, none⟩)]] w fun e W' =>
   ∃ v, e = .returned v ∧ W'.ownsRow w.heap.size 9 1 v xs.length (xs.map bstr) ∧ Below w.heap.size w W' := by
 refine callsIn_of_wp_marks Tryz.func98 rfl trivial ?_ rfl
 simp only [Tryz.ntmps98, List.size_toArray, List.length_cons, List.length_nil, Nat.reduceAdd, Nat.reduceSub, Array.replicate_succ, Array.replicate_zero, List.push_toArray, List.append_toArray, List.nil_append, List.cons_append]
 gi_wp2
 obtain ⟨w4, hw4⟩ : ∃ w4, w.alloc (.cells #[.slice none 0 0] 56) = w4 := ⟨_, rfl⟩
 have hB0 : Below w.heap.size w w4 := by rw [← hw4]; exact (Below.refl _ w).alloc (Nat.le_refl _) _
 have hz4 : w4.heap.size = w.heap.size + 1 := by rw [← hw4]; simp
 have hv4 : w4.heap[w.heap.size]? = some (.cells #[.slice none 0 0] 56 (0, 0)) := by rw [← hw4]; exact World.alloc_heap_new w _
 rw [hw4]
 have hstops : SeqStopsK Fence.wide 7 Tryz.prog 94 #[.pointer (some ⟨Bx, 0, none⟩)] (fun x : List UInt8 => #[Value.string ⟨x.toArray⟩]) (Below w.heap.size) (fun ys => ys = xs) (fun _ => True) xs.length w4 := by
  intro l J Jx W hW hJ hJx hY h0
  have hcell : W.cell? ⟨Bx, 0, none⟩ = some (.slice a xs.length cap) := (hW.cell (p := ⟨Bx, 0, none⟩) (show Bx < w4.heap.size by omega)).trans ((hB0.cell (p := ⟨Bx, 0, none⟩) hBl).trans hBx)
  rcases hrow with hx0 | ⟨b, off, rfl, hb, hrow⟩
  ·subst hx0
   refine (Y8c Fence.wide 7 trivial rfl l Bx a cap (J []) W hcell h0).mono ?_
   rintro e W' ⟨he, hj⟩
   exact ⟨he, .inl ⟨[], rfl, hj⟩⟩
  ·refine (Y8b Fence.wide 7 trivial rfl (by omega) l Bx b off cap w.heap.size xs (by omega) hcap hb J Jx (fun pre x W hj hl => hY pre x W hj hl) W hcell (fun j x hj => (hW.cell (p := ⟨b, off + j, none⟩) (show b < w4.heap.size by omega)).trans ((hB0.cell (p := ⟨b, off + j, none⟩) hb).trans (hrow j x hj))) h0).mono ?_
   rintro e W' ⟨he, hj | ⟨pre, hj⟩⟩
   ·exact ⟨he, .inl ⟨xs, rfl, hj⟩⟩
   ·exact ⟨he, .inr ⟨pre, trivial, hj⟩⟩
 obtain ⟨i0, hi, hz0, hz1, hz2, _, _⟩ := EI.parts EI9
 refine wpIn_rangeFunc_ownF rfl (by omega) (gf := 94) (lb := #[.pointer (some ⟨Bx, 0, none⟩)]) rfl trivial (enters_of Tryz.func94 (by kernel_rfl) rfl)
  hstops (fun h k => h.trans k) (fun W l o o' hl ho h1 h2 => belowK_b (w := w) (Nat.le_refl _) W l o o' (by omega) ho h1 h2) (Below.refl _ _) (fun _ => rfl)
  (AsI w) (fun _ _ _ => False) (AsI.own w _ (by omega)) (fun _ _ _ _ _ h _ _ => h) ⟨⟨_, hv4, ⟨rfl, .inl ⟨rfl, rfl⟩⟩⟩, hB0⟩
  (fun x => { tmps := #[.slice none 0 0, .func (.func 94) #[] #[.pointer (some ⟨Bx, 0, none⟩)], .pointer (some ⟨w.heap.size, 0, none⟩), undef, .slice none 0 0, .string ⟨x.toArray⟩, .func (.func 94) #[] #[.pointer (some ⟨Bx, 0, none⟩)], .string ⟨x.toArray⟩, undef, undef, undef, undef, undef], defers := [] }) ?assign ?body ?done ?stop
 case assign =>
  intro l x W K hK
  gi_wp2
  exact hK
 case body =>
  rintro l pre x W ⟨⟨v, hv, hrow2⟩, hB⟩ hlt
  have hc2 : W.cell? ⟨w.heap.size, 0, none⟩ = some v := by simp [World.cell?, hv]
  have hf2 : W.frozen? ⟨w.heap.size, 0, none⟩ = false := by simp [World.frozen?, hv]
  gi_wp2_with (gi_at_builtin; refine wpListIn_append_own _ rfl _ _ 56 rfl w.heap.size 9 i0 (.string ⟨#[]⟩) 1 16 UN56 hi hz0 hz1 hz2 rfl (by decide) _ _ _ rfl (hrow2.alloc _) ⟨W.heap.size, 0, none⟩ 1 1 [.string ⟨x.toArray⟩] rfl rfl (cell_one_new _ _ _) (by simp [Value.oneCell']) (by unfold maxLen; omega) (by omega) (by have := hB.size; simp; omega) ?_; intro v' w3 hown' hg3 hnil3
               have hv3 : w3.heap[w.heap.size]? = some (.cells #[v] 56 (0, 0)) := (hg3.block _ (by have := Y0K hv; simp; omega) (by show some _ ≠ v.ownBlock; rcases Y7E hrow2 hv with h | h; (· rw [h]; simp); exact fun e => h e.symm)).trans ((Below.heap_alloc _ _ _ (Y0K hv)).trans hv)
               have hc3 : w3.cell? ⟨w.heap.size, 0, none⟩ = some v := by simp [World.cell?, hv3]
               have hf3 : w3.frozen? ⟨w.heap.size, 0, none⟩ = false := by simp [World.frozen?, hv3]
               obtain ⟨g', cap', cur', rfl, hbase', hgb', hr1, hr2, hr3, hr4⟩ : ∃ g' cap' cur', v' = .slice (some ⟨g', 0, none⟩) (pre.length + 1) cap' ∧ w.heap.size ≤ g' ∧ w3.heap[g']? = some (.cells cur' 9 (0, 0)) ∧ pre.length + 1 ≤ cap' ∧ cap' ≤ maxLen ∧ cur'.size = cap' * 1 ∧ cur'.toList.take ((pre.length + 1) * 1) = pre.map bstr ++ [.string ⟨x.toArray⟩] := by
                rcases hown'.2 with ⟨_, h0⟩ | h'
                ·exact absurd h0 (by omega)
                ·exact h'
               go_frame)
  have hg4 : (W.alloc (.cells #[.string ⟨x.toArray⟩] 9)).grownBy w3 v.ownBlock := hg3
  have hoff := Off.setCell w3 w.heap.size 0 (.slice (some ⟨g', 0, none⟩) (pre.length + 1) cap')
  have hg5 : w3.grownBy (w3.setCell ⟨w.heap.size, 0, none⟩ (.slice (some ⟨g', 0, none⟩) (pre.length + 1) cap')) (some w.heap.size) := ⟨rfl, rfl, rfl, hoff.size, fun k hk hne => hoff.block k hk (by
   simp only [List.mem_singleton]
   rintro rfl
   exact hne rfl)⟩
  have hlow : ∀ k, v.ownBlock = some k → w.heap.size ≤ k := fun k e => (hrow2.lt k e).1
  have hkb : ∀ (W0 : World), Below w.heap.size W0 W → Below w.heap.size W0 (w3.setCell ⟨w.heap.size, 0, none⟩ (.slice (some ⟨g', 0, none⟩) (pre.length + 1) cap')) := fun W0 h =>
   (((h.alloc hB.size _).grown hg4 (by have := hB.size; simp; omega) hlow).setCell (p := ⟨w.heap.size, 0, none⟩) (Nat.le_refl _) _)
  refine ⟨(KeepsOthers.alloc _ _).trans ((KeepsOthers.of_grownBy hg4 fun j o hj ho => ?_).trans (KeepsOthers.setCell _ _ _)), hkb W (Below.refl _ W), ⟨⟨_, Y6f (cs := [v]) (j := 0) hv3 _, ?_⟩, hkb w hB⟩⟩
  ·rcases hrow2.2 with ⟨rfl, _⟩ | ⟨g, cp, cu, rfl, _, hgb, _⟩
   ·cases hj
   ·have e : g = j := by simpa [Value.ownBlock] using hj
    subst e
    rw [Below.heap_alloc _ _ _ (Y0K hgb), hgb] at ho
    cases ho
    rfl
  ·have e1 : (pre ++ [x]).length = pre.length + 1 := by simp
   have e2 : (pre ++ [x]).map bstr = pre.map bstr ++ [.string ⟨x.toArray⟩] := by simp [bstr]
   rw [e1, e2]
   exact hown'.kept hg5 (Y7E hown' hv3)
 case done =>
  rintro D ys W hD rfl ⟨⟨v, hv, hrow2⟩, hB⟩ hK
  have hc2 : W.cell? ⟨w.heap.size, 0, none⟩ = some v := by simp [World.cell?, hv]
  gi_wp2
  refine ⟨by simp, .inl ⟨_, _, rfl, run_takeDeferred hK, ?_⟩⟩
  have hne := Y8H hrow2 hK rfl
  exact ⟨_, results_tmp rfl _ _ _, v, rfl, hrow2.kept (grownBy_putObj' W D (.deferred none)) hne, hB.trans (belowK_b (w := w) (Nat.le_refl _) W D _ _ (by omega) hK rfl rfl)⟩
 case stop =>
  rintro D k pre W hD _ h _
  exact h.elim
theorem Y6N (xs : List (List UInt8)) (a : Option Addr) (cap Bx : Nat) (w : World) (hlen : xs.length * 16 ≤ 140737488355328) (hcap : xs.length ≤ cap) (hBl : Bx < w.heap.size)
  (hBx : w.cell? ⟨Bx, 0, none⟩ = some (.slice a xs.length cap)) (hrow : xs = [] ∨ ∃ b off, a = some ⟨b, off, none⟩ ∧ b < w.heap.size ∧ ∀ j x, xs[j]? = some x → w.cell? ⟨b, off + j, none⟩ = some (bstr x)) :
  Calls Tryz.prog 75 #[.func (.func 94) #[] #[.pointer (some ⟨Bx, 0, none⟩)]] w fun e w' => ∃ v, e = .returned v ∧ w'.ownsRow w.heap.size 9 1 v xs.length (xs.map bstr) ∧ Below w.heap.size w w' := by
 refine Y0t (args := [.func (.func 94) #[] #[.pointer (some ⟨Bx, 0, none⟩)]]) (fn := Tryz.f75) (N := 5) Tryz.func75 rfl Tryz.ntmps75 rfl ?_
 refine W.seqK fun K1 hK1 => ?_
 refine W.region ?_
 refine WL.assign (v := .slice none 0 0) rfl ?_
 refine WL.nil ?_
 refine hK1 _ _ ?_
 refine W.seqK fun K2 hK2 => ?_
 refine W.region ?_
 refine WL.move (v := .func (.func 94) #[] #[.pointer (some ⟨Bx, 0, none⟩)]) rfl ?_
 refine WL.callE (vs := [.slice none 0 0, .func (.func 94) #[] #[.pointer (some ⟨Bx, 0, none⟩)]]) FN98 ⟨rfl, rfl, trivial⟩ (callsIn_wide.1 (Y6U xs a cap Bx w hlen hcap hBl hBx hrow)) ?_
 rintro v w' hR
 refine WL.assign (v := v) rfl ?_
 refine WL.nil ?_
 refine hK2 _ _ ?_
 refine W.ret ?_
 exact ⟨_, Y0e rfl rfl, hR⟩
theorem Y77 (xs : List (List UInt8)) (a : Option Addr) (cap Bx : Nat) (w : World) (hlen : xs.length * 16 ≤ 140737488355328) (hcap : xs.length ≤ cap) (hBl : Bx < w.heap.size)
  (hBx : w.cell? ⟨Bx, 0, none⟩ = some (.slice a xs.length cap)) (hrow : xs = [] ∨ ∃ b off, a = some ⟨b, off, none⟩ ∧ b < w.heap.size ∧ ∀ j x, xs[j]? = some x → w.cell? ⟨b, off + j, none⟩ = some (bstr x)) :
  Calls Tryz.prog 52 #[.func (.func 94) #[] #[.pointer (some ⟨Bx, 0, none⟩)]] w fun e w' => ∃ v, e = .returned v ∧ w'.ownsRow w.heap.size 9 1 v xs.length ((xs.mergeSort fun a b => decide (a ≤ b)).map bstr) ∧ Below w.heap.size w w' := by
 refine Y0t (args := [.func (.func 94) #[] #[.pointer (some ⟨Bx, 0, none⟩)]]) (fn := Tryz.f52) (N := 9) Tryz.func52 rfl Tryz.ntmps52 rfl ?_
 refine W.seqK fun K1 hK1 => ?_
 refine W.region ?_
 refine WL.assign (v := .slice none 0 0) rfl ?_
 refine WL.nil ?_
 refine hK1 _ _ ?_
 refine W.seqK fun K2 hK2 => ?_
 refine W.region ?_
 refine WL.move (v := .func (.func 94) #[] #[.pointer (some ⟨Bx, 0, none⟩)]) rfl ?_
 refine WL.callE (vs := [.func (.func 94) #[] #[.pointer (some ⟨Bx, 0, none⟩)]]) FN75 ⟨rfl, trivial⟩ (Y6N xs a cap Bx w hlen hcap hBl hBx hrow) ?_
 rintro v w1 ⟨hown, hB⟩
 refine WL.assign (v := v) rfl ?_
 refine WL.nil ?_
 refine hK2 _ _ ?_
 refine W.seqK fun K3 hK3 => ?_
 refine W.region ?_
 refine WL.move (v := v) rfl ?_
 have hsort : Calls Tryz.prog 76 #[v] w1 fun e w' => ∃ u, e = .returned u ∧ w'.ownsRow w.heap.size 9 1 v xs.length ((xs.mergeSort fun a b => decide (a ≤ b)).map bstr) ∧ Below w.heap.size w w' := by
  rcases hown.2 with ⟨rfl, hz⟩ | ⟨gb, cp, cur, rfl, hbase, hgb, r1, r2, r3, r4⟩
  ·have hx0 : xs = [] := List.length_eq_zero_iff.1 hz
   subst hx0
   refine (Go.Proofs.AnyM.slices_Sort_string_none Y54 none 0 w1).mono ?_
   rintro e w' ⟨rfl, rfl⟩
   exact ⟨_, rfl, by simpa using hown, hB⟩
  ·have hH : Go.Sort.Holds encStr w1 gb 0 xs.toArray := Go.holds_of_block hgb (by have h9 := r4; rw [Nat.mul_one] at h9; exact h9)
   refine (Go.Proofs.AnyM.slices_Sort_string Y54 gb 0 cp xs w1 hH (Y0K hgb) (by omega)).mono ?_
   rintro e w' ⟨rfl, k, os, rfl⟩
   have h9 := Go.ownsRow_sorted (n := k) (os := os) (ss := xs) (ts := xs.mergeSort fun a b => decide (a ≤ b)) (by simp) hbase hgb r1 r2 r3
   exact ⟨_, rfl, h9, hB.grown (Go.grownBy_sorted _) hB.size (fun j hj => by cases hj; exact hbase)⟩
 refine WL.callE (vs := [v]) FN76 ⟨rfl, trivial⟩ hsort ?_
 rintro u w2 hR
 refine WL.nil ?_
 refine hK3 _ _ ?_
 refine W.seqK fun K4 hK4 => ?_
 refine W.region ?_
 refine WL.move (v := v) rfl ?_
 refine WL.assign (v := v) rfl ?_
 refine WL.nil ?_
 refine hK4 _ _ ?_
 refine W.ret ?_
 exact ⟨_, Y0e rfl rfl, hR⟩
theorem Y8y (v : Value) (hv : v.cells = [v].toArray) (w : World) : Calls Tryz.prog 69 #[v] w fun e w' => ∃ u, e = .returned u ∧ u = .func (.func 94) #[] #[.pointer (some ⟨w.heap.size, 0, none⟩)] ∧ w' = w.alloc (.cells [v].toArray 56) := by
 refine Y0t (args := [v]) (fn := Tryz.f69) (N := 4) Tryz.func69 rfl Tryz.ntmps69 rfl ?_
 refine W.seqK fun K1 hK1 => ?_
 refine W.region ?_
 refine WL.boxE (vs := [v]) rfl hv ?_
 refine WL.assign (v := _) rfl ?_
 refine WL.nil ?_
 refine hK1 _ _ ?_
 refine W.seqK fun K2 hK2 => ?_
 refine W.region ?_
 refine WL.makeFunc (vs := [.pointer (some ⟨w.heap.size, 0, none⟩)]) ⟨rfl, trivial⟩ ?_
 refine WL.assign (v := .func (.func 94) #[] #[.pointer (some ⟨w.heap.size, 0, none⟩)]) rfl ?_
 refine WL.nil ?_
 refine hK2 _ _ ?_
 refine W.ret ?_
 exact ⟨_, Y0e rfl rfl, rfl, rfl⟩
theorem Y1G.calls {ok : Nat → Prop} {w0 : World} {x1 : List (List UInt8)} {a2 : Option Addr} {c3 : Nat} {r : List (List UInt8)} (hf : Y1G x1 = some r) (i0 : (vl (Y0b tStr) x1 (.slice a2 x1.length c3)).holds ok w0) :
  Calls Tryz.prog 44 #[.slice a2 x1.length c3] w0 fun e w' => ∃ v, e = .returned v ∧ ∃ y : (Option Addr × Nat × Nat), v = .slice y.1 y.2.1 y.2.2 ∧ St ok (bz w0) w' [] [own tStr 9 (.slice y.1 y.2.1 y.2.2) r] := by
 unfold Y1G at hf
 obtain ⟨hlen, hf⟩ := Y2O hf
 refine Y0t (args := [.slice a2 x1.length c3]) (fn := Tryz.f44) (N := 7) Tryz.func44 rfl Tryz.ntmps44 rfl ?_
 have hs : St ok (bz w0) w0 [vl (Y0b tStr) x1 (.slice a2 x1.length c3)] [] := St.init (All.cons i0 All.nil)
 obtain ⟨a', c', he, hcap, hr⟩ := Y2h.1 (show (Y0b tStr).V ok w0 x1 (.slice a2 x1.length c3) from i0)
 cases he
 have hrow : ∀ w', Below w0.heap.size w0 w' → (x1 = [] ∨ ∃ b off, a2 = some ⟨b, off, none⟩ ∧ b < w'.heap.size ∧ ∀ j x, x1[j]? = some x → w'.cell? ⟨b, off + j, none⟩ = some (bstr x)) := by
  intro w' hb
  rcases hr with h | ⟨g, off, e, _, hlt, hc⟩
  ·exact .inl h
  ·refine .inr ⟨g, off, e, Nat.lt_of_lt_of_le hlt hb.size, fun j x hj => ?_⟩
   obtain ⟨cs, hcs, hcell⟩ := hc j x hj
   have hcs : cs = [bstr x] := hcs
   subst hcs
   have := hcell 0 (bstr x) rfl
   have e1 : off + j * tStr.sz + 0 = off + j := by show off + j * 1 + 0 = _; omega
   rw [e1] at this
   exact (hb.cell (p := ⟨g, off + j, none⟩) hlt).trans this
 refine W.seqK fun K1 hK1 => ?_
 refine W.region ?_
 refine WL.assign (v := .slice none 0 0) rfl ?_
 refine WL.nil ?_
 refine hK1 _ _ ?_
 refine W.seqK fun K2 hK2 => ?_
 refine W.region ?_
 refine WL.move (v := .slice a2 x1.length c3) rfl ?_
 refine WL.callE (vs := [.slice a2 x1.length c3]) FN69 ⟨rfl, trivial⟩ (Y8y _ rfl w0) ?_
 rintro u w1 ⟨rfl, rfl⟩
 have hb1 : Below w0.heap.size w0 (w0.alloc (.cells [Value.slice a2 x1.length c3].toArray 56)) := Y1A w0 _
 have hs1 := hs.below hb1
 have hz1 := Y2D w0 (.cells [Value.slice a2 x1.length c3].toArray 56)
 have hc1 : (w0.alloc (.cells [Value.slice a2 x1.length c3].toArray 56)).cell? ⟨w0.heap.size, 0, none⟩ = some (.slice a2 x1.length c3) := Y2s (Y2N w0 _) 0
 refine WL.callE (vs := [.func (.func 94) #[] #[.pointer (some ⟨w0.heap.size, 0, none⟩)]]) FN52 ⟨rfl, trivial⟩ (Y77 x1 a2 c3 w0.heap.size _ hlen hcap (by rw [hz1]; omega) hc1 (hrow _ hb1)) ?_
 rintro v w2 ⟨hown, hB⟩
 have hl : (x1.mergeSort fun a b => decide (a ≤ b)).length = x1.length := by simp
 have hs2 := hs1.ownNew (xs := x1.mergeSort fun a b => decide (a ≤ b)) hB (by rw [hl]; exact hown)
 obtain ⟨a4, n4, c4, rfl⟩ := hs2.ownv3 0 rfl
 have hs2 := hs2.pick []
 refine WL.callO (vs := [.slice a4 n4 c4]) [own tStr 9 (.slice a4 n4 c4) (x1.mergeSort fun a b => decide (a ≤ b))] (Λb := []) hs2 FN68 ⟨rfl, trivial⟩ (fun ok F hs => Y0j.calls hf hs) ?_
 rintro ⟨a5, n5, c5⟩ w3 hs3
 refine WL.assign (v := .slice a5 n5 c5) rfl ?_
 refine WL.nil ?_
 refine hK2 _ _ ?_
 refine W.ret ?_
 exact ⟨_, Y0e rfl rfl, (a5, n5, c5), rfl, hs3⟩
theorem Y8m {a b : Y04} (h : Y1C a = Y1C b) : a = b := by
 obtain ⟨t, n, s⟩ := a
 obtain ⟨t', n', s'⟩ := b
 injection h with h
 have h := congrArg Array.toList h
 simp only [List.cons.injEq, and_true] at h
 obtain ⟨h1, h2, h3⟩ := h
 injection h1 with _ h1
 injection h2 with _ h2
 rw [h1, h2, Y6k h3]
theorem key_beq (a b : Y04) : (a.f_Type == b.f_Type && (a.N == b.N && (a.S == b.S && true))) = (a == b) := by
 obtain ⟨t, n, s⟩ := a
 obtain ⟨t', n', s'⟩ := b
 rw [Bool.eq_iff_iff]
 simp
theorem ks_key : KS Tryz.prog 47 Y1C where
 und := ⟨_, Tryz.underlying47, fun a b => rfl⟩
 eql := fun a b w => by
  rw [← key_beq]
  exact EqR.agg Tryz.underlying47 (by kernel_rfl) (EqL.cons (by decide) (u := .int .i64 a.f_Type) (v := .int .i64 b.f_Type) (fun _ => by kernel_rfl) (fun _ => by kernel_rfl) (EqR.int a.f_Type b.f_Type Tryz.underlying3)
   (EqL.cons (by decide) (u := .int .i64 a.N) (v := .int .i64 b.N) (fun _ => by kernel_rfl) (fun _ => by kernel_rfl) (EqR.int a.N b.N Tryz.underlying2)
    (EqL.cons (by decide) (u := bstr a.S) (v := bstr b.S) (fun _ => by kernel_rfl) (fun _ => by kernel_rfl) (EqR.str a.S b.S Tryz.underlying9) EqL.nil))) w
 bits := fun a => by simp [Instr.sameBits, bstr, beqB]
 chk := fun e a w => by kernel_rfl
abbrev grpK (t : Option (Y04 × Value × List Y0u)) (g : Nat) (x : List (Y04 × List Y0u)) : LObj := grpo Y1C Y0v 105 Y8m t g x
theorem Y1x.calls {ok : Nat → Prop} {w0 : World} {x1 : List Y0u} {a2 : Option Addr} {c3 : Nat} {r : List (Y04 × List Y0u)} (hf : Y1x x1 = some r) (i0 : (vl (Y0b Y0v) x1 (.slice a2 x1.length c3)).holds ok w0) :
  Calls Tryz.prog 56 #[.slice a2 x1.length c3, .func (.func 57) #[] #[]] w0 fun e w' => ∃ v, e = .returned v ∧ ∃ y : Nat, v = .map (some y) ∧ St ok (bz w0) w' [] [mapo Y1C (Y0b Y0v) y r] := by
 unfold Y1x at hf
 refine Y0t (args := [.slice a2 x1.length c3, .func (.func 57) #[] #[]]) (fn := Tryz.f56) (N := 29) Tryz.func56 rfl Tryz.ntmps56 rfl ?_
 have hs : St ok (bz w0) w0 [vl (Y0b Y0v) x1 (.slice a2 x1.length c3)] [] := St.init (All.cons i0 All.nil)
 clear i0
 refine W.seqK fun K1 hK1 => ?_
 refine W.region ?_
 refine WL.assign (v := .map none) rfl ?_
 refine WL.nil ?_
 refine hK1 _ _ ?_
 refine W.seqK fun K2 hK2 => ?_
 refine W.region ?_
 refine WL.makeMap Y1C Y2i hs (fun g w hs => ?_)
 have hs : St ok (bz w0) w [vl (Y0b Y0v) x1 (.slice a2 x1.length c3)] [grpK none g []] := hs.grpNew
 refine WL.assign (v := .map (some g)) rfl ?_
 refine WL.nil ?_
 refine hK2 _ _ ?_
 refine W.seqK fun K3 hK3 => ?_
 have Jend : ∀ (gs : List (Y04 × List Y0u)) (ρ : Env) (w : World), ρ 5 = .map (some g) → St ok (bz w0) w [vl (Y0b Y0v) x1 (.slice a2 x1.length c3)] [grpK none g gs] → gs = r → K3 ρ w := by
  intro gs ρ w h5 hs hgs
  subst hgs
  refine hK3 _ _ ?_
  refine W.seqK fun K4 hK4 => ?_
  refine W.region ?_
  refine WL.move (v := .map (some g)) h5 ?_
  refine WL.assign (v := .map (some g)) rfl ?_
  refine WL.nil ?_
  refine hK4 _ _ ?_
  refine W.ret ?_
  exact ⟨_, Y0e rfl rfl, g, rfl, (St.grpDone hs).pick []⟩
 refine W.seqK fun K5 hK5 => ?_
 refine W.region ?_
 refine WL.move (v := .slice a2 x1.length c3) rfl ?_
 refine WL.len (v := .slice a2 x1.length c3) rfl (Y10 UN81) ?_
 refine WL.move (v := .int .i64 0) rfl ?_
 refine WL.nil ?_
 refine hK5 _ _ ?_
 refine W.block ?_
 refine W.loop hf (fun s ρ w => match s with | (i, gs) => ρ 1 = .func (.func 57) #[] #[] ∧ ρ 5 = .map (some g) ∧ ρ 9 = .slice a2 x1.length c3 ∧ ρ 10 = .int .i64 (x1.length : Int) ∧ ρ 11 = .int .i64 i ∧ St ok (bz w0) w [vl (Y0b Y0v) x1 (.slice a2 x1.length c3)] [grpK none g gs]) ⟨rfl, rfl, rfl, rfl, rfl, hs⟩ ?_
 intro s ρ w o hI hf hbb
 obtain ⟨i, gs⟩ := s
 obtain ⟨h1, h5, h9, h10, h11, hs⟩ := hI
 unfold Y1x.l1 at hf
 refine W.seqK fun K6 hK6 => ?_
 refine W.region ?_
 refine WL.bin (v := .bool (decide (i < (x1.length : Int)))) h11 h10 (Y1n _ _ _) ?_
 refine WL.nil ?_
 refine hK6 _ _ ?_
 refine W.seqK fun K7 hK7 => ?_
 rcases iteE hf with ⟨hc, hf⟩ | ⟨hc, hf⟩
 ·refine W.cond_true (Y02 rfl hc) ?_
  refine W.skip ?_
  refine hK7 _ _ ?_
  obtain ⟨p, hp0, hf⟩ := Y0s hf
  obtain ⟨k, hk, hf⟩ := Y0s hf
  obtain ⟨l, hl, hf⟩ := Y0s hf
  obtain ⟨hb, hle⟩ := appE hl
  refine W.seqK fun K8 hK8 => ?_
  refine W.block ?_
  refine W.seqK fun K9 hK9 => ?_
  refine W.region ?_
  refine WL.indexAddr hs 0 rfl UN81 Y6l h9 h11 hp0 (fun ad hs => ?_)
  refine WL.loadP hs 0 rfl Y6l (.inl rfl) rfl (fun v hs => ?_)
  obtain ⟨cs, hlc, rfl⟩ := hs.aggv (n := 4) 0 rfl rfl rfl
  refine WL.alloc hs ZV105 (fun g7 w hs => ?_)
  refine WL.storeAll (vs := cs) hs 0 rfl Y6l rfl rfl rfl hlc (hs.ones 0 rfl rfl) rfl (fun w hs => ?_)
  refine WL.nil ?_
  refine hK9 _ _ ?_
  have hs := (hs.front 1 rfl).pick [0, 2]
  have hs : St ok (bz w0) w [vl Y0v p (.agg cs.toArray), vl (Y0b Y0v) x1 (.slice a2 x1.length c3)] [grpK none g gs, blk g7 105 cs] := hs
  have hones := hs.ones 0 rfl rfl
  refine W.anyT (by kernel_rfl) 12 1 [true, true, true, true, true, true, true, true, true, true, true, true, false] rfl rfl
   (poAt [pv (.map (some g)), pv (.func (.func 57) #[] #[]), pv (.agg cs.toArray), pv (Y1C k), pv (.map (some g)), pv (.func (.func 57) #[] #[]), pv (.agg cs.toArray), pv (Y1C k),
    ⟨fun _ _ => True, fun _ => [], fun v => [grpK (some (k, v, (gs.lookup k).getD [])) g gs], [grpK none g gs], []⟩, pv (.agg cs.toArray), pq (fun y : Option Addr => .slice y 1 1) (fun v => [vl (Y0b Y0v) [p] v]) (fun v => []),
    ⟨fun _ _ => True, fun _ => [], fun v => [grpK (some (k, v, l)) g gs], [], []⟩])
   (tkAt [[], [], [], [], [], [], [], [], [], [], [], [8]]) (Λ := [blk g7 105 cs]) hs (by kernel_rfl) (by kernel_rfl) (by kernel_rfl) (by kernel_rfl)
   ⟨⟨⟨⟨⟨⟨⟨⟨⟨⟨⟨⟨trivial, ?_⟩, ?_⟩, ?_⟩, ?_⟩, ?_⟩, ?_⟩, ?_⟩, ?_⟩, ?_⟩, ?_⟩, ?_⟩, ?_⟩ ?_
  ·intro ρ' w Γx Λx hs hu hp
   refine WL.move (v := .map (some g)) ((hu 5 rfl).trans h5) ?_
   exact WL.nil ⟨rfl, _, rfl, rfl, hs.cutG 0 0⟩
  ·intro ρ' w Γx Λx hs hu hp
   refine WL.move (v := .func (.func 57) #[] #[]) ((hu 1 rfl).trans h1) ?_
   exact WL.nil ⟨rfl, _, rfl, rfl, hs.cutG 0 0⟩
  ·intro ρ' w Γx Λx hs hu hp
   refine WL.loadAll hs (Λx.length + 0) (Y0q rfl) Y6l ((hu 7 rfl).trans rfl) hlc ?_
   exact WL.nil ⟨rfl, _, rfl, rfl, hs.cutG 0 0⟩
  ·intro ρ' w Γx Λx hs hu hp
   obtain ⟨okc, hA, hput⟩ := hs.call
   have e1 : ρ' 16 = .func (.func 57) #[] #[] := (hp 1 rfl).1
   have e2 : ρ' 17 = .agg cs.toArray := (hp 2 rfl).1
   refine WL.callT (fo := .tmp 16) (vs := [.agg cs.toArray]) e1 FN57 ⟨e2, trivial⟩ (Y1U.calls hk (hA.get (Γx.length + 0) (Y0q rfl))) ?_
   rintro v w' ⟨y, rfl, hs'⟩
   have hs := hput _ _ _ hs'
   obtain rfl := Y20 hs 0 rfl
   exact WL.nil ⟨rfl, _, rfl, rfl, hs.cutG 0 1⟩
  ·intro ρ' w Γx Λx hs hu hp
   refine WL.move (v := .map (some g)) ((hu 5 rfl).trans h5) ?_
   exact WL.nil ⟨rfl, _, rfl, rfl, hs.cutG 0 0⟩
  ·intro ρ' w Γx Λx hs hu hp
   refine WL.move (v := .func (.func 57) #[] #[]) ((hu 1 rfl).trans h1) ?_
   exact WL.nil ⟨rfl, _, rfl, rfl, hs.cutG 0 0⟩
  ·intro ρ' w Γx Λx hs hu hp
   refine WL.loadAll hs (Λx.length + 0) (Y0q rfl) Y6l ((hu 7 rfl).trans rfl) hlc ?_
   exact WL.nil ⟨rfl, _, rfl, rfl, hs.cutG 0 0⟩
  ·intro ρ' w Γx Λx hs hu hp
   obtain ⟨okc, hA, hput⟩ := hs.call
   have e1 : ρ' 20 = .func (.func 57) #[] #[] := (hp 5 rfl).1
   have e2 : ρ' 21 = .agg cs.toArray := (hp 6 rfl).1
   refine WL.callT (fo := .tmp 20) (vs := [.agg cs.toArray]) e1 FN57 ⟨e2, trivial⟩ (Y1U.calls hk (hA.get (Γx.length + 0) (Y0q rfl))) ?_
   rintro v w' ⟨y, rfl, hs'⟩
   have hs := hput _ _ _ hs'
   obtain rfl := Y20 hs 0 rfl
   exact WL.nil ⟨rfl, _, rfl, rfl, hs.cutG 0 1⟩
  ·intro ρ' w Γx Λx hs hu hp
   have e1 : ρ' 19 = .map (some g) := (hp 4 rfl).1
   have e2 : ρ' 22 = Y1C k := (hp 7 rfl).1
   have hs : St ok (bz w0) w (Γx ++ [vl Y0v p (.agg cs.toArray), vl (Y0b Y0v) x1 (.slice a2 x1.length c3)]) (Λx ++ ([grpK none g gs] ++ [blk g7 105 cs])) := hs
   refine WL.grpLook (k := k) hs.backR ks_key UN117 e1 e2 ZR81 (fun v hs => ?_)
   exact WL.nil ⟨rfl, _, rfl, trivial, hs.cutG 0 0⟩
  ·intro ρ' w Γx Λx hs hu hp
   refine WL.loadAll hs (Λx.length + 0) (Y0q rfl) Y6l ((hu 7 rfl).trans rfl) hlc ?_
   exact WL.nil ⟨rfl, _, rfl, rfl, hs.cutG 0 0⟩
  ·intro ρ' w Γx Λx hs hu hp
   have e1 : ρ' 24 = .agg cs.toArray := (hp 9 rfl).1
   refine WL.buildSliceB (A := Y0v) (ys := [p]) (n := 1) (vs := [(0, .agg cs.toArray)]) (cs := cs) hs ⟨⟨rfl, e1⟩, trivial⟩ (bls PS81 (by decide) (by simp [Y93, Y4J, Value.cells, hlc])) (fun ok hA => Y0U.one (Y3F (hA.get (Γx.length + 0) (Y0q rfl)) rfl)) rfl (by decide) (fun a w' hBl hs => ?_)
   exact WL.nil ⟨rfl, _, rfl, ⟨a, rfl⟩, hs.cutG 1 0⟩
  ·intro ρ' w Γx Λx hs hu hp
   have hs : St ok (bz w0) w (Γx ++ [vl Y0v p (.agg cs.toArray), vl (Y0b Y0v) x1 (.slice a2 x1.length c3)]) (Λx ++ ([grpK (some (k, ρ' 23, (gs.lookup k).getD [])) g gs] ++ [blk g7 105 cs])) := hs
   obtain ⟨⟨a, ha⟩, hm⟩ := hp 10 rfl
   have ha : ρ' 25 = .slice a 1 1 := ha
   have hm : vl (Y0b Y0v) [p] (ρ' 25) ∈ Γx := hm _ (List.mem_cons_self ..)
   rw [ha] at hm
   have hs := hs.memo1 (List.mem_append.2 (.inl hm))
   refine WL.grpApp (zs := [p]) (us := l) hs.backR 0 rfl UN81 EI105 rfl ha hb (by simp only [List.length_cons, List.length_nil] at *; omega) hle (fun v' w' hs => ?_)
   exact WL.nil ⟨rfl, _, rfl, trivial, hs.cutG 0 1⟩
  ·intro ρ' w hs hu hp
   have hs : St ok (bz w0) w [vl (Y0b Y0v) [p] (ρ' 25), vl Y0v p (.agg cs.toArray), vl (Y0b Y0v) x1 (.slice a2 x1.length c3)] [grpK (some (k, ρ' 26, l)) g gs, blk g7 105 cs] := hs
   have e15 : ρ' 15 = .map (some g) := hp.at_ 0 (by decide)
   have e18 : ρ' 18 = Y1C k := hp.at_ 3 (by decide)
   refine WA.step [12] (by kernel_rfl) (by simp) ⟨?_, trivial⟩
   refine WL.grpPut (k := k) (ys := l) hs ks_key UN117 e15 e18 rfl (fun w' hs => ?_)
   refine WL.nil ⟨rfl, _, rfl, ?_⟩
   refine WA.done (by kernel_rfl) ?_
   refine hK8 _ _ ?_
   refine W.region ?_
   obtain ⟨j, ej, hf⟩ := letE hf
   refine WL.bin (v := .int .i64 j) ((hu 11 rfl).trans h11) rfl (Y1V ej (Y1t _ _ _)) ?_
   refine WL.move (v := .int .i64 j) rfl ?_
   refine WL.nil ?_
   exact ⟨_, (Option.some.inj hf).symm, (hu 1 rfl).trans h1, (hu 5 rfl).trans h5, (hu 9 rfl).trans h9, (hu 10 rfl).trans h10, rfl, (hs.mask [true]).pick [2]⟩
 ·refine W.cond_false (Y02 rfl hc) ?_
  refine W.exit ?_
  have hr := Option.some.inj hf
  subst hr
  exact Jend gs _ _ h5 hs (hbb _ rfl)
end
end Go.Proofs.YtpfgdjfiimknlaaGreat
