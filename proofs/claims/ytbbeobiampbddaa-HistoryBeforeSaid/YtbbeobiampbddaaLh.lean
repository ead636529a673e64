/- A region whose order Go leaves open: what holds of each operation wherever it stands. -/
import Derived.Test.YtbbeobiampbddaaLg
import Derived.RegionTactic
set_option linter.unusedVariables false
set_option linter.unusedSimpArgs false
set_option linter.unnecessarySimpa false
namespace Go.Proofs.YtbbeobiampbddaaL
open Go Go.RowKit

def dstOf (l : List Oper) (i : Nat) : Option Tmp := (l[i]?).bind (·.dst)
def hasDst (d : Nat) : Option Tmp → Bool
  | some t => Nat.beq t d
  | none => false
def notDst : List Oper → Nat → Bool
  | [], _ => true
  | o :: l, s => !hasDst s o.dst && notDst l s
def depsOf (l : List Oper) (i : Nat) : List Nat := ((l[i]?).map fun o => (o.after.toList.filter fun e => Region.binds .any e).map (·.on)).getD []
/-- Does i wait on j, directly or through others? -/
def reach (l : List Oper) : Nat → Nat → Nat → Bool
  | 0, _, _ => false
  | f + 1, i, j => (depsOf l i).any fun d => Nat.beq d j || reach l f d j
/-- Every operation waits on elder ones alone; from the m-th on each waits on all ahead of the m-th. -/
def anyOkT (l : List Oper) (m : Nat) : Bool :=
  Nat.ble m l.length && (List.range l.length).all fun i => ((depsOf l i).all fun d => Nat.blt d i) && (Nat.blt i m || (List.range m).all fun j => reach l l.length i j)
def maskTo (n m : Nat) : List Bool := (List.range n).map fun i => Nat.blt i m
/-- No two operations hand their values to one slot. -/
def distinctDst : List Oper → Bool
  | [] => true
  | o :: l => (match o.dst with | some d => notDst l d | none => true) && distinctDst l

theorem reach_listed {l : List Oper} {listed : Array Bool} (hc : ∀ k, listed.getD k false = true → ∀ d ∈ depsOf l k, listed.getD d false = true) :
    ∀ (f i j : Nat), (∀ d ∈ depsOf l i, listed.getD d false = true) → reach l f i j = true → listed.getD j false = true
  | 0, _, _, _, h => by simp [reach] at h
  | f + 1, i, j, hd, h => by
    simp only [reach, List.any_eq_true, Bool.or_eq_true] at h
    obtain ⟨d, hm, h | h⟩ := h
    · rw [← Nat.eq_of_beq_eq_true h]; exact hd d hm
    · exact reach_listed hc f d j (hc d (hd d hm)) h

theorem notDst_of {l : List Oper} {s : Nat} (h : notDst l s = true) : ∀ {i : Nat}, dstOf l i ≠ some s := by
  induction l with
  | nil => intro i; simp [dstOf]
  | cons o l ih =>
    intro i
    simp only [notDst, Bool.and_eq_true, Bool.not_eq_true'] at h
    cases i with
    | zero =>
      intro e
      simp only [dstOf, List.getElem?_cons_zero, Option.bind_some] at e
      rw [e] at h
      simp [hasDst] at h
    | succ i => exact ih h.2 (i := i)
theorem distinct_of {l : List Oper} (h : distinctDst l = true) : ∀ {i j : Nat} {d : Tmp}, dstOf l i = some d → dstOf l j = some d → i = j := by
  induction l with
  | nil => intro i j d hi; simp [dstOf] at hi
  | cons o l ih =>
    intro i j d hi hj
    simp only [distinctDst, Bool.and_eq_true] at h
    cases i with
    | zero =>
      cases j with
      | zero => rfl
      | succ j =>
        simp only [dstOf, List.getElem?_cons_zero, Option.bind_some] at hi
        rw [hi] at h
        exact absurd hj (notDst_of (l := l) h.1 (i := j))
    | succ i =>
      cases j with
      | zero =>
        simp only [dstOf, List.getElem?_cons_zero, Option.bind_some] at hj
        rw [hj] at h
        exact absurd hi (notDst_of (l := l) h.1 (i := i))
      | succ j => rw [ih h.2 (i := i) (j := j) hi hj]

/-- What one operation hands out. -/
def oneQ (ρ : Env) (d : Option Tmp) (R : Value → World → Prop) : QE := fun e ρ' w' => e = .normal ∧ ∃ v, ρ' = putE ρ d v ∧ R v w'

section
variable {P : Program} {N : Nat} {Q : QE} {ρ0 : Env} {w1 : World} {w0 : Base} {l : List Oper} {ok0 : Nat → Prop} {Γ : List It} {Λ : List LObj}

/-- What the operations ahead know of a slot. -/
def slotOf (ρ : Env) : Option Tmp → Value
  | some d => ρ d
  | none => undef

theorem oneQ_out (ρ : Env) (d : Option Tmp) (R : Value → World → Prop) : ¬ LetsOut (lift N (oneQ ρ d R)) := by
  rintro ⟨a, w, ρ', _, h, _⟩
  cases h
/-- The walk of one operation, as a step of a region in whatever order. -/
theorem wpOp_of_WL {ops : Array Oper} {i : Nat} {o : Oper} {ρ : Env} {w : World} {R : Value → World → Prop} {K : Act → World → Prop} {Q' : Exit → Act → World → Prop} {a : Act}
    (hi : ops[i]? = some o) (ha : Agree N a ρ) (h : WL P N ops (oneQ ρ o.dst R) [o] ρ w) (k : ∀ a' v w', Agree N a' (putE ρ o.dst v) → R v w' → K a' w') : wpOp P ops Q' i K a w := by
  unfold wpOp
  rw [hi]
  have h1 := h a ha
  simp only [wpList] at h1
  dsimp only
  split
  · rename_i hw
    rw [if_pos hw] at h1
    rcases h1 with h1 | h1
    · refine .inl ?_
      unfold Oper.wp at *
      generalize (execOp a.eval o).run P w = r at *
      have hk : ∀ a' w', lift N (oneQ ρ o.dst R) .normal a' w' → K a' w' := by
        rintro a' w' ⟨ρ', hρ', _, v, rfl, hR⟩
        exact k a' v w' hρ' hR
      cases r with
      | ok n w' =>
        cases n <;> simp only [Oper.upon] at h1 ⊢ <;>
          first
            | exact hk _ _ h1
            | exact Calls.mono h1 (fun e w'' he => by
                cases e with
                | returned v => exact hk _ _ he
                | panicked c => obtain ⟨_, _, h, _⟩ := he; cases h
                | outgrown => exact (oneQ_out _ _ _ he).elim)
            | exact Rows.mono h1 (fun _ _ he => hk _ _ he)
      | halt x w' =>
        cases x <;> simp only [Oper.upon] at h1 ⊢
        · obtain ⟨_, _, h, _⟩ := h1; cases h
    · exact (oneQ_out _ _ _ h1.2).elim
  · rename_i hw
    rw [if_neg hw] at h1
    obtain ⟨ρ', hρ', _, v, rfl, hR⟩ := h1
    exact k _ v w hρ' hR

/-- How many operations are left. -/
def leftOf (listed : Array Bool) : Nat → Nat
  | 0 => 0
  | n + 1 => leftOf listed n + (bif listed.getD n true then 0 else 1)
theorem leftOf_set {listed : Array Bool} {i : Nat} (h : listed.getD i true = false) : ∀ n, leftOf (listed.setIfInBounds i true) n + (if i < n then 1 else 0) = leftOf listed n
  | 0 => by simp [leftOf]
  | n + 1 => by
    have ih := leftOf_set h n
    simp only [leftOf]
    by_cases hi : i = n
    · subst hi
      have hlt : i < listed.size := by
        rcases Nat.lt_or_ge i listed.size with h' | h'
        · exact h'
        · simp [Array.getElem?_eq_none h'] at h
      have e : (listed.setIfInBounds i true).getD i true = true := by simp [hlt]
      rw [e, h]
      simp only [Nat.lt_irrefl, if_false, Nat.add_zero, cond_true, cond_false] at ih ⊢
      rw [if_pos (by omega)]
      omega
    · rw [getD_set_ne true hi]
      by_cases h2 : i < n
      · rw [if_pos h2] at ih; rw [if_pos (by omega)]; omega
      · rw [if_neg h2] at ih; rw [if_neg (by omega)]; omega
theorem leftOf_zero {listed : Array Bool} : ∀ {n : Nat}, leftOf listed n = 0 → ∀ i, i < n → listed.getD i true = true
  | 0, _, i, hi => by omega
  | n + 1, h, i, hi => by
    simp only [leftOf] at h
    rcases Nat.lt_or_ge i n with h1 | h1
    · exact leftOf_zero (n := n) (by omega) i h1
    · have : i = n := by omega
      subst this
      cases hb : listed.getD i true with
      | true => rfl
      | false => rw [hb] at h; simp at h

def valOf : Option Tmp → Value → Value
  | some _, v => v
  | none, _ => undef
theorem slot_val (ρ : Env) (d : Option Tmp) (v : Value) : slotOf (putE ρ d v) d = valOf d v := by
  cases d with
  | none => rfl
  | some t => exact upd_same _ _ _
/-- What an operation leaves: of its value; what can be read; what is the call's own; and what of the call's own it alone asks for. -/
structure PO where
  P : List Value → Value → Prop
  G : Value → List It
  L : Value → List LObj
  Pre : List LObj := []
  needs : List Nat := []
/-- What an operation of the region has handed out, and those that its value is told by. -/
def PO.at_ (p : PO) (l : List Oper) (ρ : Env) (v : Value) : Prop := p.P (p.needs.map fun k => slotOf ρ (dstOf l k)) v
def needOk (l : List Oper) (m : Nat) (po : Nat → PO) : Bool := (List.range m).all fun i => (po i).needs.all fun k => reach l l.length i k
def obl (P : Program) (N : Nat) (l : List Oper) (ok0 : Nat → Prop) (w0 : Base) (Γ : List It) (Λ : List LObj) (ρ0 : Env) (po : Nat → PO) (m i : Nat) : Prop :=
  match l[i]? with
  | none => True
  | some o => ∀ ρ w Γx Λx, St ok0 w0 w (Γx ++ Γ) (Λx ++ ((po i).Pre ++ Λ)) → (∀ s, notDst (l.take m) s = true → ρ s = ρ0 s) →
      (∀ j, reach l l.length i j = true → (po j).at_ l ρ (slotOf ρ (dstOf l j)) ∧ ∀ it ∈ (po j).G (slotOf ρ (dstOf l j)), it ∈ Γx) →
      WL P N l.toArray (oneQ ρ o.dst fun v w' => (po i).at_ l ρ (valOf o.dst v) ∧ St ok0 w0 w' ((po i).G (valOf o.dst v) ++ (Γx ++ Γ)) ((po i).L (valOf o.dst v) ++ (Λx ++ Λ))) [o] ρ w
def upTo (f : Nat → Prop) : Nat → Prop
  | 0 => True
  | m + 1 => upTo f m ∧ f m
theorem upTo.at_ {f : Nat → Prop} : ∀ {m : Nat}, upTo f m → ∀ i, i < m → f i
  | 0, _, i, h => by omega
  | m + 1, h, i, hi => by
    rcases Nat.lt_or_ge i m with h1 | h1
    · exact upTo.at_ h.1 i h1
    · have : i = m := by omega
      subst this; exact h.2
theorem upTo.mk {f : Nat → Prop} : ∀ (m : Nat), (∀ i, i < m → f i) → upTo f m
  | 0, _ => trivial
  | m + 1, h => ⟨upTo.mk m fun i hi => h i (by omega), h m (by omega)⟩
/-- Lists one behind the other, the last first. -/
def catTo {α : Type _} (f : Nat → List α) : Nat → List α
  | 0 => []
  | m + 1 => f m ++ catTo f m
theorem mem_catTo {α : Type _} {f : Nat → List α} {x : α} : ∀ {m : Nat}, x ∈ catTo f m → ∃ i, i < m ∧ x ∈ f i
  | 0, h => by cases h
  | m + 1, h => by
    rcases List.mem_append.1 h with h | h
    · exact ⟨m, by omega, h⟩
    · obtain ⟨i, hi, hx⟩ := mem_catTo h
      exact ⟨i, by omega, hx⟩
theorem catTo_congr {α : Type _} {f g : Nat → List α} : ∀ {m : Nat}, (∀ i, i < m → f i = g i) → catTo f m = catTo g m
  | 0, _ => rfl
  | m + 1, h => by rw [catTo, catTo, h m (by omega), catTo_congr fun i hi => h i (by omega)]
theorem catTo_take {α : Type _} (f : Nat → List α) : ∀ {m i : Nat}, i < m → (catTo f m).Perm (f i ++ catTo (fun j => if j = i then [] else f j) m)
  | 0, i, h => by omega
  | m + 1, i, h => by
    rw [catTo, catTo]
    by_cases hi : i = m
    · subst hi
      rw [if_pos rfl, List.nil_append, catTo_congr (f := fun j => if j = i then [] else f j) (g := f) fun j hj => if_neg (by omega)]
    · rw [if_neg (fun e => hi e.symm)]
      have ih := catTo_take f (m := m) (i := i) (by omega)
      refine (ih.append_left (f m)).trans ?_
      rw [← List.append_assoc, ← List.append_assoc]
      exact (List.perm_append_comm).append_right _
theorem slot_put {ρ : Env} {d d' : Option Tmp} {v : Value} (h : ∀ t, d = some t → d' ≠ some t) : slotOf (putE ρ d v) d' = slotOf ρ d' := by
  cases d' with
  | none => rfl
  | some t =>
    cases d with
    | none => rfl
    | some t' => exact upd_ne _ _ fun e => h t' rfl (by rw [e])
def WA (P : Program) (N : Nat) (l : List Oper) (Q : QE) (fuel : Nat) (b : List Bool) (ρ : Env) (w : World) : Prop :=
  ∀ a, Agree N a ρ → wpAny P .any l.toArray (lift N Q) fuel b.toArray a w
def WAs (P : Program) (N : Nat) (l : List Oper) (Q : QE) (fuel : Nat) (b : List Bool) (ρ : Env) (w : World) : List Nat → Prop
  | [] => True
  | i :: is => (match l[i]? with
    | none => True
    | some o => WL P N l.toArray (oneQ ρ o.dst fun v w' => WA P N l Q fuel (b.set i true) (putE ρ o.dst v) w') [o] ρ w) ∧ WAs P N l Q fuel b ρ w is
end
section
variable {P : Program} {N : Nat} {Q : QE} {ρ ρ0 : Env} {w w1 : World} {w0 : Base} {l : List Oper} {ok0 : Nat → Prop} {Γ : List It} {Λ : List LObj}
theorem WA.done {b : List Bool} (h : Region.ready .any l.toArray b.toArray = []) (q : Q .normal ρ w) : WA P N l Q 0 b ρ w :=
  fun a ha => ⟨h, ρ, ha, q⟩
theorem WAs.at_ {fuel : Nat} {b : List Bool} : ∀ {is : List Nat}, WAs P N l Q fuel b ρ w is → ∀ i ∈ is, ∀ o, l[i]? = some o →
    WL P N l.toArray (oneQ ρ o.dst fun v w' => WA P N l Q fuel (b.set i true) (putE ρ o.dst v) w') [o] ρ w
  | [], _, i, hi, _, _ => by cases hi
  | j :: is, h, i, hi, o, ho => by
    rcases List.mem_cons.1 hi with rfl | hi
    · have := h.1
      rw [ho] at this
      exact this
    · exact WAs.at_ h.2 i hi o ho
theorem WA.step {fuel : Nat} {b : List Bool} (is : List Nat) (h : Region.ready .any l.toArray b.toArray = is) (hn : is ≠ []) (hs : WAs P N l Q fuel b ρ w is) : WA P N l Q (fuel + 1) b ρ w := by
  intro a ha
  refine ⟨fun e => absurd (h.symm.trans e) hn, fun i hi => ?_⟩
  have hi' : i ∈ is := h ▸ hi
  obtain ⟨_, o, ho, _⟩ := mem_ready.1 hi
  refine wpOp_of_WL ho ha (hs.at_ i hi' o (by simpa using ho)) fun a' v w' ha' hR => ?_
  have e : (b.set i true).toArray = b.toArray.setIfInBounds i true := by simp
  rw [← e]
  exact hR a' ha'

theorem anyOkT_le {m : Nat} (h : anyOkT l m = true) : m ≤ l.length := by
  simp only [anyOkT, Bool.and_eq_true] at h
  simpa using h.1
theorem anyOkT_lt {m : Nat} (h : anyOkT l m = true) {i d : Nat} (hi : i < l.length) (hd : d ∈ depsOf l i) : d < i := by
  simp only [anyOkT, Bool.and_eq_true, List.all_eq_true, List.mem_range] at h
  have := (h.2 i hi).1 d hd
  simp [Nat.blt] at this
  omega
theorem anyOkT_all {m : Nat} (h : anyOkT l m = true) {i j : Nat} (hi : i < l.length) (hm : m ≤ i) (hj : j < m) : reach l l.length i j = true := by
  simp only [anyOkT, Bool.and_eq_true, List.all_eq_true, List.mem_range, Bool.or_eq_true] at h
  rcases (h.2 i hi).2 with h | h
  · simp [Nat.blt] at h; omega
  · exact h j hj
theorem leftOf_mask (n m : Nat) (hm : m ≤ n) {listed : Array Bool} (hs : listed.size = n) (hl : ∀ i, i < n → (listed.getD i false = true ↔ i < m)) : leftOf listed n = n - m := by
  have : ∀ k, k ≤ n → leftOf listed k = k - m := by
    intro k
    induction k with
    | zero => intro _; simp [leftOf]
    | succ k ih =>
      intro hk
      rw [leftOf, ih (by omega)]
      have h1 := hl k (by omega)
      have h2 : listed.getD k true = listed.getD k false := by
        have : k < listed.size := by omega
        simp [this]
      rw [h2]
      by_cases h3 : k < m
      · rw [h1.2 h3]; simp; omega
      · have : listed.getD k false = false := by
          cases hb : listed.getD k false with
          | false => rfl
          | true => exact absurd (h1.1 hb) h3
        rw [this]; simp; omega
  exact this n (Nat.le_refl _)
theorem listed_mask (n m : Nat) {listed : Array Bool} (hs : listed.size = n) (hl : ∀ i, i < n → (listed.getD i false = true ↔ i < m)) : listed = (maskTo n m).toArray := by
  apply Array.ext
  · simp [maskTo, hs]
  · intro i h1 h2
    have h3 := hl i (by omega)
    simp only [Array.getD, h1, dif_pos] at h3
    simp only [maskTo, List.getElem_toArray, List.getElem_map, List.getElem_range]
    by_cases h4 : i < m
    · have := h3.2 h4
      rw [show Nat.blt i m = true by simp [Nat.blt]; omega]
      exact this
    · rw [show Nat.blt i m = false from Bool.eq_false_iff.2 fun e => h4 (by simp [Nat.blt] at e; omega)]
      cases hb : listed[i] with
      | false => rfl
      | true => exact absurd (h3.1 hb) h4

theorem W.any {id : Nat} (hm : P.follows .mixedOrders = true) (m F : Nat) (B : List Bool) (hF : l.length - m = F) (hB : maskTo l.length m = B) (po : Nat → PO) (hs : St ok0 w0 w1 Γ (catTo (fun i => (po i).Pre) m ++ Λ)) (hok : anyOkT l m = true) (hdd : distinctDst l = true) (hnd : needOk l m po = true)
    (hops : upTo (obl P N l ok0 w0 Γ Λ ρ0 po m) m)
    (hfin : ∀ ρ w, St ok0 w0 w (catTo (fun i => (po i).G (slotOf ρ (dstOf l i))) m ++ Γ) (catTo (fun i => (po i).L (slotOf ρ (dstOf l i))) m ++ Λ) → (∀ s, notDst (l.take m) s = true → ρ s = ρ0 s) →
      upTo (fun i => (po i).at_ l ρ (slotOf ρ (dstOf l i))) m → WA P N l Q F B ρ w) :
    W P N (.region id l.toArray true) Q ρ0 w1 := by
  intro a0 ha0
  refine wp_region_any hm ?_
  let con : Array Bool → Env → Nat → List LObj := fun listed ρ i => if listed.getD i false = true then (po i).L (slotOf ρ (dstOf l i)) else (po i).Pre
  let InvA : Array Bool → Act → World → Prop := fun listed a w => ∃ (ρ : Env) (Γx : List It), Agree N a ρ ∧ St ok0 w0 w (Γx ++ Γ) (catTo (con listed ρ) m ++ Λ) ∧ (∀ s, notDst (l.take m) s = true → ρ s = ρ0 s) ∧
    (∀ i, listed.getD i false = true → i < m ∧ (po i).at_ l ρ (slotOf ρ (dstOf l i)) ∧ ∀ it ∈ (po i).G (slotOf ρ (dstOf l i)), it ∈ Γx)
  have hsz : l.toArray.size = l.length := by simp
  have finish : ∀ listed a w, InvA listed a w → (∀ i, i < m → listed.getD i false = true) → wpAny P .any l.toArray (lift N Q) F B.toArray a w := by
    rintro listed a w ⟨ρ, Γx, hρ, hst, hu, hp⟩ hall
    refine hfin ρ w (St.sub (Γ := Γx ++ Γ) ?_ fun it hit => ?_) hu (upTo.mk m fun i hi => (hp i (hall i hi)).2.1) a hρ
    · rw [catTo_congr (f := con listed ρ) (g := fun i => (po i).L (slotOf ρ (dstOf l i))) fun i hi => if_pos (hall i hi)] at hst
      exact hst
    · rcases List.mem_append.1 hit with hit | hit
      · obtain ⟨i, hi, hx⟩ := mem_catTo hit
        exact List.mem_append.2 (.inl ((hp i (hall i hi)).2.2 it hx))
      · exact List.mem_append.2 (.inr hit)
  have hdeps : ∀ {listed : Array Bool} {i : Nat}, i ∈ Region.ready .any l.toArray listed → i < l.length ∧ listed.getD i true = false ∧ ∀ d ∈ depsOf l i, listed.getD d false = true := by
    intro listed i hi
    rw [mem_ready] at hi
    obtain ⟨h0, o, ho, hall⟩ := hi
    have ho' : l[i]? = some o := by simpa using ho
    refine ⟨(List.getElem?_eq_some_iff.1 ho').1, h0, fun d hd => ?_⟩
    simp only [depsOf, ho', Option.map_some, Option.getD_some, List.mem_map, List.mem_filter] at hd
    obtain ⟨e, ⟨he, hb⟩, rfl⟩ := hd
    exact hall e (by simpa using he) hb
  have hready : ∀ {listed : Array Bool}, Region.ready .any l.toArray listed = [] → listed.size = l.length → ∀ i, i < l.length → listed.getD i false = true := by
    intro listed hr hls i
    induction i using Nat.strongRecOn with
    | _ i ih =>
      intro hi
      cases hb : listed.getD i false with
      | true => rfl
      | false =>
        exfalso
        have hin : i ∈ Region.ready .any l.toArray listed := by
          rw [mem_ready]
          refine ⟨?_, l[i], by simp [hi], fun e he hbd => ?_⟩
          · have : i < listed.size := by omega
            simp [this] at hb ⊢
            exact hb
          · have hd : e.on ∈ depsOf l i := by
              simp only [depsOf, List.getElem?_eq_getElem hi, Option.map_some, Option.getD_some, List.mem_map, List.mem_filter]
              exact ⟨e, ⟨by simpa using he, hbd⟩, rfl⟩
            have hlt := anyOkT_lt hok hi hd
            exact ih e.on hlt (by omega)
        rw [hr] at hin
        cases hin
  have hset : ∀ {listed : Array Bool} {i j : Nat}, listed.size = l.length → i < l.length → ((listed.setIfInBounds i true).getD j false = true ↔ (j = i ∨ listed.getD j false = true)) := by
    intro listed i j hls hi
    by_cases hij : i = j
    · subst hij
      have : i < listed.size := by omega
      simp [this]
    · rw [getD_set_ne false hij]
      constructor
      · exact .inr
      · rintro (h | h)
        · exact absurd h.symm hij
        · exact h
  have main : ∀ fuel listed a w, listed.size = l.length → leftOf listed l.length = fuel →
      (∀ k, listed.getD k false = true → ∀ d ∈ depsOf l k, listed.getD d false = true) → InvA listed a w → wpAny P .any l.toArray (lift N Q) fuel listed a w := by
    intro fuel
    induction fuel with
    | zero =>
      intro listed a w hls hlf hcl hI
      have hall : ∀ i, i < l.length → listed.getD i false = true := by
        intro i hi
        have h1 := leftOf_zero hlf i hi
        have : i < listed.size := by omega
        simp [this] at h1 ⊢
        exact h1
      refine ⟨?_, ?_⟩
      · cases hr : Region.ready .any l.toArray listed with
        | nil => rfl
        | cons i rs =>
          exfalso
          obtain ⟨h1, h2, _⟩ := hdeps (listed := listed) (i := i) (by rw [hr]; simp)
          rw [leftOf_zero hlf i h1] at h2
          cases h2
      · have hmn : m = l.length := by
          obtain ⟨ρ, Γx, hρ, hst, hu, hp⟩ := hI
          rcases Nat.lt_or_ge m l.length with h | h
          · have := (hp m (hall m h)).1; omega
          · have := anyOkT_le hok; omega
        have h0 := finish listed a w hI fun i hi => hall i (by omega)
        have hF0 : F = 0 := by omega
        subst hF0
        exact h0.2
    | succ fuel ih =>
      intro listed a w hls hlf hcl hI
      have hne : Region.ready .any l.toArray listed ≠ [] := by
        intro hr
        have hall := hready hr hls
        have : ∀ n, n ≤ l.length → leftOf listed n = 0 := by
          intro n
          induction n with
          | zero => exact fun _ => rfl
          | succ n ihn =>
            intro hn
            have h1 := hall n (by omega)
            have : n < listed.size := by omega
            have h2 : listed.getD n true = true := by simp [this] at h1 ⊢; exact h1
            rw [leftOf, ihn (by omega), h2]; rfl
        rw [this l.length (Nat.le_refl _)] at hlf
        cases hlf
      refine ⟨fun hr => absurd hr hne, fun i hi => ?_⟩
      obtain ⟨hin, hi0, hid⟩ := hdeps hi
      have hri : ∀ j, reach l l.length i j = true → listed.getD j false = true := fun j hj => reach_listed hcl _ i j hid hj
      have ho : l[i]? = some l[i] := List.getElem?_eq_getElem hin
      have ho2 : l.toArray[i]? = some l[i] := by simpa using ho
      have hls' : (listed.setIfInBounds i true).size = l.length := by simpa using hls
      have hlf' : leftOf (listed.setIfInBounds i true) l.length = fuel := by
        have := leftOf_set hi0 l.length
        rw [if_pos hin] at this
        omega
      have hcl' : ∀ k, (listed.setIfInBounds i true).getD k false = true → ∀ d ∈ depsOf l k, (listed.setIfInBounds i true).getD d false = true := by
        intro k hk d hd
        rcases (hset hls hin).1 hk with rfl | hk
        · exact getD_set_true (hid d hd)
        · exact getD_set_true (hcl k hk d hd)
      have hif : listed.getD i false = false := by
        have : i < listed.size := by omega
        simp [this] at hi0 ⊢
        exact hi0
      rcases Nat.lt_or_ge i m with him | him
      · obtain ⟨ρ, Γx, hρ, hst, hu, hp⟩ := hI
        have hob := hops.at_ i him
        unfold obl at hob
        rw [ho] at hob
        have hci : con listed ρ i = (po i).Pre := if_neg (by rw [hif]; simp)
        have hst1 : St ok0 w0 w (Γx ++ Γ) (catTo (fun j => if j = i then [] else con listed ρ j) m ++ ((po i).Pre ++ Λ)) := by
          refine hst.perm ?_
          have := (catTo_take (con listed ρ) him).append_right Λ
          rw [hci] at this
          refine this.trans ((List.perm_append_comm.append_right Λ).trans ?_)
          rw [List.append_assoc]
        refine wpOp_of_WL ho2 hρ (hob ρ w Γx _ hst1 hu fun j hj => (hp j (hri j hj)).2) fun a' v w' ha' hR => ih _ a' w' hls' hlf' hcl' ?_
        have hdi : dstOf l i = l[i].dst := by simp [dstOf, ho]
        have hsame : ∀ j, j ≠ i → slotOf (putE ρ l[i].dst v) (dstOf l j) = slotOf ρ (dstOf l j) := fun j hj => slot_put fun t ht e => hj (distinct_of hdd e (hdi.trans ht))
        have hcs : ∀ j, j ≠ i → con (listed.setIfInBounds i true) (putE ρ l[i].dst v) j = con listed ρ j := by
          intro j hj
          show (if _ then _ else _) = (if _ then _ else _)
          rw [getD_set_ne false (fun e => hj e.symm), hsame j hj]
        have hci2 : con (listed.setIfInBounds i true) (putE ρ l[i].dst v) i = (po i).L (valOf l[i].dst v) := by
          show (if _ then _ else _) = _
          rw [if_pos ((hset hls hin).2 (.inl rfl)), hdi, slot_val]
        have hat : ∀ j, j < m → (∀ k, reach l l.length j k = true → listed.getD k false = true) → ∀ v', (po j).at_ l ρ v' → (po j).at_ l (putE ρ l[i].dst v) v' := by
          intro j hjm hk v' h
          have e : ((po j).needs.map fun k => slotOf (putE ρ l[i].dst v) (dstOf l k)) = (po j).needs.map fun k => slotOf ρ (dstOf l k) := by
            refine List.map_congr_left fun k hkn => hsame k ?_
            rintro rfl
            simp only [needOk, List.all_eq_true, List.mem_range] at hnd
            have := hk _ (hnd j hjm _ hkn)
            rw [hif] at this
            cases this
          unfold PO.at_
          rw [e]
          exact h
        have hcj := hri
        refine ⟨_, (po i).G (valOf l[i].dst v) ++ Γx, ha', ?_, fun s hsn => ?_, fun j hj => ?_⟩
        · rw [List.append_assoc]
          refine hR.2.perm ?_
          have h9 := (catTo_take (con (listed.setIfInBounds i true) (putE ρ l[i].dst v)) him).append_right Λ
          rw [hci2, catTo_congr (f := fun j => if j = i then [] else con (listed.setIfInBounds i true) (putE ρ l[i].dst v) j) (g := fun j => if j = i then [] else con listed ρ j) (fun j _ => by
            by_cases e : j = i
            · simp [e]
            · rw [if_neg e, if_neg e, hcs j e]), List.append_assoc] at h9
          exact h9.symm
        · cases hd : l[i].dst with
          | none => exact hu s hsn
          | some t =>
            have : s ≠ t := by
              rintro rfl
              exact notDst_of hsn (i := i) (by simp [dstOf, List.getElem?_take, him, ho, hd])
            show upd ρ t v s = ρ0 s
            rw [upd_ne _ _ this]
            exact hu s hsn
        · by_cases hji : j = i
          · subst hji
            refine ⟨him, ?_⟩
            rw [hdi, slot_val]
            exact ⟨hat j him hcj _ hR.1, fun it hit => List.mem_append.2 (.inl hit)⟩
          · have hj' := ((hset hls hin).1 hj).resolve_left hji
            rw [hsame j hji]
            exact ⟨(hp j hj').1, hat j (hp j hj').1 (fun k hk => reach_listed hcl _ j k (hcl j hj') hk) _ (hp j hj').2.1, fun it hit => List.mem_append.2 (.inr ((hp j hj').2.2 it hit))⟩
      · have hall : ∀ j, j < m → listed.getD j false = true := fun j hj => hri j (anyOkT_all hok hin him hj)
        have h0 := finish listed a w hI hall
        obtain ⟨ρ, Γx, hρ, hst, hu, hp⟩ := hI
        have hl2 : ∀ j, j < l.length → (listed.getD j false = true ↔ j < m) := fun j hj => ⟨fun h => (hp j h).1, fun h => hall j h⟩
        have e1 := listed_mask l.length m hls hl2
        have e2 := leftOf_mask l.length m (anyOkT_le hok) hls hl2
        have e3 : F = fuel + 1 := by omega
        rw [← hB, ← e1, e3] at h0
        exact h0.2 i hi
  have hfull : leftOf (Array.replicate l.length false) l.length = l.length := by
    have : ∀ n, n ≤ l.length → leftOf (Array.replicate l.length false) n = n := by
      intro n
      induction n with
      | zero => exact fun _ => rfl
      | succ n ih =>
        intro hn
        have h2 : (Array.replicate l.length false).getD n true = false := by
          have : n < l.length := by omega
          simp [this]
        rw [leftOf, ih (by omega), h2]; rfl
    exact this _ (Nat.le_refl _)
  have hnone : ∀ i, (Array.replicate l.length false).getD i false ≠ true := by
    intro i hi
    rcases Nat.lt_or_ge i l.length with h | h <;> simp [h] at hi
  suffices hgo : InvA (Array.replicate l.length false) a0 { w1 with drawn := w1.drawn + 1 } by
    have := main l.length (Array.replicate l.length false) a0 { w1 with drawn := w1.drawn + 1 } (by simp) hfull (fun k hk => absurd hk (hnone k)) hgo
    simpa using this
  refine ⟨ρ0, [], ha0, ?_, fun _ _ => rfl, fun i hi => absurd hi (hnone i)⟩
  rw [catTo_congr (f := con (Array.replicate l.length false) ρ0) (g := fun i => (po i).Pre) fun i _ => if_neg (hnone i)]
  exact hs.drew
end
end Go.Proofs.YtbbeobiampbddaaL
