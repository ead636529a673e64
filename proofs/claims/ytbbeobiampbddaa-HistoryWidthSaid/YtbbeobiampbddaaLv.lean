/- A region whose order is open, where an operation may take what other ones have left. -/
import Derived.Test.YtbbeobiampbddaaLi
set_option linter.unusedVariables false
set_option linter.unusedSimpArgs false
set_option linter.unnecessarySimpa false
namespace Go.Proofs.YtbbeobiampbddaaL
open Go Go.RowKit

def takenIn (tk : Nat → List Nat) (m : Nat) (listed : Array Bool) (i : Nat) : Bool := (List.range m).any fun k => listed.getD k false && (tk k).contains i
def anyTakes (tk : Nat → List Nat) (m i : Nat) : Bool := (List.range m).any fun k => (tk k).contains i
def nodupB : List Nat → Bool
  | [] => true
  | x :: l => !l.contains x && nodupB l
def takeOk (l : List Oper) (m : Nat) (tk : Nat → List Nat) : Bool :=
  (List.range m).all fun i => nodupB (tk i) && ((tk i).all fun j => reach l l.length i j && Nat.blt j i) && (List.range m).all fun k => Nat.beq k i || (tk i).all fun j => !(tk k).contains j
def tkAt (l : List (List Nat)) (i : Nat) : List Nat := l.getD i []
theorem nodupB_iff : ∀ {l : List Nat}, nodupB l = true → l.Nodup
  | [], _ => by simp
  | x :: l, h => by
    simp only [nodupB, Bool.and_eq_true, Bool.not_eq_true'] at h
    refine List.nodup_cons.2 ⟨fun hm => ?_, nodupB_iff h.2⟩
    have : l.contains x = true := by simpa using hm
    rw [this] at h; cases h.1
theorem takenIn_iff {tk : Nat → List Nat} {m : Nat} {listed : Array Bool} {i : Nat} : takenIn tk m listed i = true ↔ ∃ k, k < m ∧ listed.getD k false = true ∧ i ∈ tk k := by
  unfold takenIn
  simp only [List.any_eq_true, List.mem_range, Bool.and_eq_true, List.contains_iff_mem]
theorem taken_all {tk : Nat → List Nat} {m : Nat} {listed : Array Bool} {i : Nat} (h : ∀ k, k < m → listed.getD k false = true) : takenIn tk m listed i = anyTakes tk m i := by
  rw [Bool.eq_iff_iff, takenIn_iff]
  unfold anyTakes
  simp only [List.any_eq_true, List.mem_range, List.contains_iff_mem]
  exact ⟨fun ⟨k, h1, _, h2⟩ => ⟨k, h1, h2⟩, fun ⟨k, h1, h2⟩ => ⟨k, h1, h k h1, h2⟩⟩
section
variable {l : List Oper} {m : Nat} {tk : Nat → List Nat}
theorem takeOk_at (h : takeOk l m tk = true) {i : Nat} (hi : i < m) (j : Nat) (hj : j ∈ tk i) : reach l l.length i j = true ∧ j < i ∧ j < m := by
  simp only [takeOk, List.all_eq_true, List.mem_range, Bool.and_eq_true] at h
  have h1 := (h i hi).1.2 j hj
  have h2 : j < i := by have := h1.2; simp [Nat.blt] at this; omega
  exact ⟨h1.1, h2, by omega⟩
theorem takeOk_nodup (h : takeOk l m tk = true) {i : Nat} (hi : i < m) : (tk i).Nodup := by
  simp only [takeOk, List.all_eq_true, List.mem_range, Bool.and_eq_true] at h
  exact nodupB_iff (h i hi).1.1
theorem takeOk_one (h : takeOk l m tk = true) {k i j : Nat} (hk : k < m) (hi : i < m) (hkt : j ∈ tk k) (hit : j ∈ tk i) : k = i := by
  simp only [takeOk, List.all_eq_true, List.mem_range, Bool.and_eq_true, Bool.or_eq_true] at h
  rcases (h i hi).2 k hk with h1 | h1
  · exact Nat.eq_of_beq_eq_true h1
  · have := h1 j hit
    have h2 : (tk k).contains j = true := by simpa using hkt
    rw [h2] at this; cases this
end
theorem flatMapC {α β : Type _} {f g : α → List β} : ∀ {l : List α}, (∀ x ∈ l, f x = g x) → l.flatMap f = l.flatMap g
  | [], _ => rfl
  | x :: l, h => by rw [List.flatMap_cons, List.flatMap_cons, h x (by simp), flatMapC fun y hy => h y (by simp [hy])]
theorem catTo_takes {α : Type _} {m : Nat} : ∀ (f : Nat → List α) (js : List Nat), js.Nodup → (∀ j ∈ js, j < m) → (catTo f m).Perm (js.flatMap f ++ catTo (fun j => if j ∈ js then [] else f j) m)
  | f, [], _, _ => by
    rw [catTo_congr (f := fun j => if j ∈ ([] : List Nat) then [] else f j) (g := f) fun j _ => if_neg (by simp)]
    exact .refl _
  | f, i :: js, hn, hm => by
    have hn' := List.nodup_cons.1 hn
    have h1 := catTo_take f (m := m) (i := i) (hm i (by simp))
    have h2 := catTo_takes (fun j => if j = i then [] else f j) js hn'.2 fun j hj => hm j (by simp [hj])
    have e1 : js.flatMap (fun j => if j = i then [] else f j) = js.flatMap f := flatMapC fun j hj => if_neg fun (e : j = i) => hn'.1 (e ▸ hj)
    have e2 : catTo (fun j => if j ∈ js then [] else if j = i then [] else f j) m = catTo (fun j => if j ∈ i :: js then [] else f j) m := catTo_congr fun j _ => by
      by_cases a : j ∈ js
      · rw [if_pos a, if_pos (by simp [a])]
      · by_cases b : j = i
        · rw [if_neg a, if_pos b, if_pos (by simp [b])]
        · rw [if_neg a, if_neg b, if_neg (by simp [a, b])]
    rw [e1, e2] at h2
    rw [List.flatMap_cons, List.append_assoc]
    exact h1.trans (h2.append_left (f i))
def oblT (P : Program) (N : Nat) (l : List Oper) (ok0 : Nat → Prop) (w0 : Base) (Γ : List It) (Λ : List LObj) (ρ0 : Env) (po : Nat → PO) (tk : Nat → List Nat) (m i : Nat) : Prop :=
  match l[i]? with
  | none => True
  | some o => ∀ ρ w Γx Λx, St ok0 w0 w (Γx ++ Γ) (Λx ++ (((po i).Pre ++ (tk i).flatMap fun j => (po j).L (slotOf ρ (dstOf l j))) ++ Λ)) → (∀ s, notDst (l.take m) s = true → ρ s = ρ0 s) →
      (∀ j, reach l l.length i j = true → (po j).at_ l ρ (slotOf ρ (dstOf l j)) ∧ ∀ it ∈ (po j).G (slotOf ρ (dstOf l j)), it ∈ Γx) →
      WL P N l.toArray (oneQ ρ o.dst fun v w' => (po i).at_ l ρ (valOf o.dst v) ∧ St ok0 w0 w' ((po i).G (valOf o.dst v) ++ (Γx ++ Γ)) ((po i).L (valOf o.dst v) ++ (Λx ++ Λ))) [o] ρ w
section
variable {P : Program} {N : Nat} {Q : QE} {ρ ρ0 : Env} {w w1 : World} {w0 : Base} {l : List Oper} {ok0 : Nat → Prop} {Γ : List It} {Λ : List LObj}
theorem W.anyT {id : Nat} (hm : P.follows .mixedOrders = true) (m F : Nat) (B : List Bool) (hF : l.length - m = F) (hB : maskTo l.length m = B) (po : Nat → PO) (tk : Nat → List Nat) (hs : St ok0 w0 w1 Γ (catTo (fun i => (po i).Pre) m ++ Λ)) (hok : anyOkT l m = true) (hdd : distinctDst l = true) (hnd : needOk l m po = true) (htk : takeOk l m tk = true)
    (hops : upTo (oblT P N l ok0 w0 Γ Λ ρ0 po tk m) m)
    (hfin : ∀ ρ w, St ok0 w0 w (catTo (fun i => (po i).G (slotOf ρ (dstOf l i))) m ++ Γ) (catTo (fun i => if anyTakes tk m i = true then [] else (po i).L (slotOf ρ (dstOf l i))) m ++ Λ) → (∀ s, notDst (l.take m) s = true → ρ s = ρ0 s) →
      upTo (fun i => (po i).at_ l ρ (slotOf ρ (dstOf l i))) m → WA P N l Q F B ρ w) :
    W P N (.region id l.toArray true) Q ρ0 w1 := by
  intro a0 ha0
  refine wp_region_any hm ?_
  let con : Array Bool → Env → Nat → List LObj := fun listed ρ i => if takenIn tk m listed i = true then [] else if listed.getD i false = true then (po i).L (slotOf ρ (dstOf l i)) else (po i).Pre
  let InvA : Array Bool → Act → World → Prop := fun listed a w => ∃ (ρ : Env) (Γx : List It), Agree N a ρ ∧ St ok0 w0 w (Γx ++ Γ) (catTo (con listed ρ) m ++ Λ) ∧ (∀ s, notDst (l.take m) s = true → ρ s = ρ0 s) ∧
    (∀ i, listed.getD i false = true → i < m ∧ (po i).at_ l ρ (slotOf ρ (dstOf l i)) ∧ ∀ it ∈ (po i).G (slotOf ρ (dstOf l i)), it ∈ Γx)
  have hsz : l.toArray.size = l.length := by simp
  have finish : ∀ listed a w, InvA listed a w → (∀ i, i < m → listed.getD i false = true) → wpAny P .any l.toArray (lift N Q) F B.toArray a w := by
    rintro listed a w ⟨ρ, Γx, hρ, hst, hu, hp⟩ hall
    refine hfin ρ w (St.sub (Γ := Γx ++ Γ) ?_ fun it hit => ?_) hu (upTo.mk m fun i hi => (hp i (hall i hi)).2.1) a hρ
    · rw [catTo_congr (f := con listed ρ) (g := fun i => if anyTakes tk m i = true then [] else (po i).L (slotOf ρ (dstOf l i))) fun i hi => by
        show (if _ then _ else if _ then _ else _) = _
        rw [taken_all (fun j hj => hall j hj), if_pos (hall i hi)]] at hst
      exact hst
    · rcases List.mem_append.1 hit with hit | hit
      · obtain ⟨i, hi, hx⟩ := mem_catTo hit
        exact List.mem_append.2 (.inl ((hp i (hall i hi)).2.2 it hx))
      · exact List.mem_append.2 (.inr hit)
  have hdeps : ∀ {listed : Array Bool} {i : Nat}, i ∈ Region.ready .any l.toArray listed → i < l.length ∧ listed.getD i true = false ∧ ∀ d ∈ depsOf l i, listed.getD d false = true := by
    intro listed i hi
    rw [mem_ready] at hi
    obtain ⟨h0, o, ho, hall⟩ := hi
    have ho' : l[i]? = some o := by simpa using ho
    refine ⟨(List.getElem?_eq_some_iff.1 ho').1, h0, fun d hd => ?_⟩
    simp only [depsOf, ho', Option.map_some, Option.getD_some, List.mem_map, List.mem_filter] at hd
    obtain ⟨e, ⟨he, hb⟩, rfl⟩ := hd
    exact hall e (by simpa using he) hb
  have hready : ∀ {listed : Array Bool}, Region.ready .any l.toArray listed = [] → listed.size = l.length → ∀ i, i < l.length → listed.getD i false = true := by
    intro listed hr hls i
    induction i using Nat.strongRecOn with
    | _ i ih =>
      intro hi
      cases hb : listed.getD i false with
      | true => rfl
      | false =>
        exfalso
        have hin : i ∈ Region.ready .any l.toArray listed := by
          rw [mem_ready]
          refine ⟨?_, l[i], by simp [hi], fun e he hbd => ?_⟩
          · have : i < listed.size := by omega
            simp [this] at hb ⊢
            exact hb
          · have hd : e.on ∈ depsOf l i := by
              simp only [depsOf, List.getElem?_eq_getElem hi, Option.map_some, Option.getD_some, List.mem_map, List.mem_filter]
              exact ⟨e, ⟨by simpa using he, hbd⟩, rfl⟩
            have hlt := anyOkT_lt hok hi hd
            exact ih e.on hlt (by omega)
        rw [hr] at hin
        cases hin
  have hset : ∀ {listed : Array Bool} {i j : Nat}, listed.size = l.length → i < l.length → ((listed.setIfInBounds i true).getD j false = true ↔ (j = i ∨ listed.getD j false = true)) := by
    intro listed i j hls hi
    by_cases hij : i = j
    · subst hij
      have : i < listed.size := by omega
      simp [this]
    · rw [getD_set_ne false hij]
      constructor
      · exact .inr
      · rintro (h | h)
        · exact absurd h.symm hij
        · exact h
  have main : ∀ fuel listed a w, listed.size = l.length → leftOf listed l.length = fuel →
      (∀ k, listed.getD k false = true → ∀ d ∈ depsOf l k, listed.getD d false = true) → InvA listed a w → wpAny P .any l.toArray (lift N Q) fuel listed a w := by
    intro fuel
    induction fuel with
    | zero =>
      intro listed a w hls hlf hcl hI
      have hall : ∀ i, i < l.length → listed.getD i false = true := by
        intro i hi
        have h1 := leftOf_zero hlf i hi
        have : i < listed.size := by omega
        simp [this] at h1 ⊢
        exact h1
      refine ⟨?_, ?_⟩
      · cases hr : Region.ready .any l.toArray listed with
        | nil => rfl
        | cons i rs =>
          exfalso
          obtain ⟨h1, h2, _⟩ := hdeps (listed := listed) (i := i) (by rw [hr]; simp)
          rw [leftOf_zero hlf i h1] at h2
          cases h2
      · have hmn : m = l.length := by
          obtain ⟨ρ, Γx, hρ, hst, hu, hp⟩ := hI
          rcases Nat.lt_or_ge m l.length with h | h
          · have := (hp m (hall m h)).1; omega
          · have := anyOkT_le hok; omega
        have h0 := finish listed a w hI fun i hi => hall i (by omega)
        have hF0 : F = 0 := by omega
        subst hF0
        exact h0.2
    | succ fuel ih =>
      intro listed a w hls hlf hcl hI
      have hne : Region.ready .any l.toArray listed ≠ [] := by
        intro hr
        have hall := hready hr hls
        have : ∀ n, n ≤ l.length → leftOf listed n = 0 := by
          intro n
          induction n with
          | zero => exact fun _ => rfl
          | succ n ihn =>
            intro hn
            have h1 := hall n (by omega)
            have : n < listed.size := by omega
            have h2 : listed.getD n true = true := by simp [this] at h1 ⊢; exact h1
            rw [leftOf, ihn (by omega), h2]; rfl
        rw [this l.length (Nat.le_refl _)] at hlf
        cases hlf
      refine ⟨fun hr => absurd hr hne, fun i hi => ?_⟩
      obtain ⟨hin, hi0, hid⟩ := hdeps hi
      have hri : ∀ j, reach l l.length i j = true → listed.getD j false = true := fun j hj => reach_listed hcl _ i j hid hj
      have ho : l[i]? = some l[i] := List.getElem?_eq_getElem hin
      have ho2 : l.toArray[i]? = some l[i] := by simpa using ho
      have hls' : (listed.setIfInBounds i true).size = l.length := by simpa using hls
      have hlf' : leftOf (listed.setIfInBounds i true) l.length = fuel := by
        have := leftOf_set hi0 l.length
        rw [if_pos hin] at this
        omega
      have hcl' : ∀ k, (listed.setIfInBounds i true).getD k false = true → ∀ d ∈ depsOf l k, (listed.setIfInBounds i true).getD d false = true := by
        intro k hk d hd
        rcases (hset hls hin).1 hk with rfl | hk
        · exact getD_set_true (hid d hd)
        · exact getD_set_true (hcl k hk d hd)
      have hif : listed.getD i false = false := by
        have : i < listed.size := by omega
        simp [this] at hi0 ⊢
        exact hi0
      rcases Nat.lt_or_ge i m with him | him
      · obtain ⟨ρ, Γx, hρ, hst, hu, hp⟩ := hI
        have hob := hops.at_ i him
        unfold oblT at hob
        rw [ho] at hob
        have hnt : takenIn tk m listed i = false := by
          cases hb : takenIn tk m listed i with
          | false => rfl
          | true =>
            obtain ⟨k, hk, hkl, hkt⟩ := takenIn_iff.1 hb
            have := reach_listed hcl _ k i (hcl k hkl) ((takeOk_at htk hk i hkt).1)
            rw [hif] at this; cases this
        have hci : con listed ρ i = (po i).Pre := by
          show (if _ then _ else if _ then _ else _) = _
          rw [hnt, hif, if_neg (by simp), if_neg (by simp)]
        have hcj1 : ∀ j ∈ tk i, con listed ρ j = (po j).L (slotOf ρ (dstOf l j)) := by
          intro j hj
          have h1 := takeOk_at htk him j hj
          have h2 : takenIn tk m listed j = false := by
            cases hb : takenIn tk m listed j with
            | false => rfl
            | true =>
              obtain ⟨k, hk, hkl, hkt⟩ := takenIn_iff.1 hb
              have : k = i := takeOk_one htk hk him hkt hj
              subst this
              rw [hif] at hkl; cases hkl
          show (if _ then _ else if _ then _ else _) = _
          rw [h2, hri j h1.1, if_neg (by simp), if_pos rfl]
        have hjs : (i :: tk i).Nodup := List.nodup_cons.2 ⟨fun h => by have := (takeOk_at htk him i h).2.1; omega, takeOk_nodup htk him⟩
        have hjlt : ∀ j ∈ i :: tk i, j < m := by
          intro j hj
          rcases List.mem_cons.1 hj with rfl | hj
          · exact him
          · have := (takeOk_at htk him j hj).2.1; omega
        have hfl : (i :: tk i).flatMap (con listed ρ) = (po i).Pre ++ (tk i).flatMap fun j => (po j).L (slotOf ρ (dstOf l j)) := by
          rw [List.flatMap_cons, hci, flatMapC hcj1]
        have hst1 : St ok0 w0 w (Γx ++ Γ) (catTo (fun j => if j ∈ i :: tk i then [] else con listed ρ j) m ++ (((po i).Pre ++ (tk i).flatMap fun j => (po j).L (slotOf ρ (dstOf l j))) ++ Λ)) := by
          refine hst.perm ?_
          have := (catTo_takes (con listed ρ) (i :: tk i) hjs hjlt).append_right Λ
          rw [hfl] at this
          refine this.trans ((List.perm_append_comm.append_right Λ).trans ?_)
          rw [List.append_assoc]
        refine wpOp_of_WL ho2 hρ (hob ρ w Γx _ hst1 hu fun j hj => (hp j (hri j hj)).2) fun a' v w' ha' hR => ih _ a' w' hls' hlf' hcl' ?_
        have hdi : dstOf l i = l[i].dst := by simp [dstOf, ho]
        have hsame : ∀ j, j ≠ i → slotOf (putE ρ l[i].dst v) (dstOf l j) = slotOf ρ (dstOf l j) := fun j hj => slot_put fun t ht e => hj (distinct_of hdd e (hdi.trans ht))
        have hcs : ∀ j, j ∉ i :: tk i → con (listed.setIfInBounds i true) (putE ρ l[i].dst v) j = con listed ρ j := by
          intro j hj
          have hji : j ≠ i := fun e => hj (by simp [e])
          have hjt : j ∉ tk i := fun e => hj (by simp [e])
          have ht : takenIn tk m (listed.setIfInBounds i true) j = takenIn tk m listed j := by
            rw [Bool.eq_iff_iff, takenIn_iff, takenIn_iff]
            constructor
            · rintro ⟨k, hk, hkl, hkt⟩
              rcases (hset hls hin).1 hkl with rfl | hkl
              · exact absurd hkt hjt
              · exact ⟨k, hk, hkl, hkt⟩
            · rintro ⟨k, hk, hkl, hkt⟩
              exact ⟨k, hk, (hset hls hin).2 (.inr hkl), hkt⟩
          show (if _ then _ else if _ then _ else _) = (if _ then _ else if _ then _ else _)
          rw [ht, getD_set_ne false (fun e => hji e.symm), hsame j hji]
        have hct : ∀ j ∈ tk i, con (listed.setIfInBounds i true) (putE ρ l[i].dst v) j = [] := by
          intro j hj
          have ht : takenIn tk m (listed.setIfInBounds i true) j = true := takenIn_iff.2 ⟨i, him, (hset hls hin).2 (.inl rfl), hj⟩
          show (if _ then _ else if _ then _ else _) = _
          rw [ht, if_pos rfl]
        have hnt2 : takenIn tk m (listed.setIfInBounds i true) i = false := by
          cases hb : takenIn tk m (listed.setIfInBounds i true) i with
          | false => rfl
          | true =>
            obtain ⟨k, hk, hkl, hkt⟩ := takenIn_iff.1 hb
            have h1 := takeOk_at htk hk i hkt
            rcases (hset hls hin).1 hkl with rfl | hkl
            · have := h1.2.1; omega
            · have := reach_listed hcl _ k i (hcl k hkl) h1.1
              rw [hif] at this; cases this
        have hci2 : con (listed.setIfInBounds i true) (putE ρ l[i].dst v) i = (po i).L (valOf l[i].dst v) := by
          show (if _ then _ else if _ then _ else _) = _
          rw [hnt2, if_neg (by simp), if_pos ((hset hls hin).2 (.inl rfl)), hdi, slot_val]
        have hat : ∀ j, j < m → (∀ k, reach l l.length j k = true → listed.getD k false = true) → ∀ v', (po j).at_ l ρ v' → (po j).at_ l (putE ρ l[i].dst v) v' := by
          intro j hjm hk v' h
          have e : ((po j).needs.map fun k => slotOf (putE ρ l[i].dst v) (dstOf l k)) = (po j).needs.map fun k => slotOf ρ (dstOf l k) := by
            refine List.map_congr_left fun k hkn => hsame k ?_
            rintro rfl
            simp only [needOk, List.all_eq_true, List.mem_range] at hnd
            have := hk _ (hnd j hjm _ hkn)
            rw [hif] at this
            cases this
          unfold PO.at_
          rw [e]
          exact h
        have hcj := hri
        refine ⟨_, (po i).G (valOf l[i].dst v) ++ Γx, ha', ?_, fun s hsn => ?_, fun j hj => ?_⟩
        · rw [List.append_assoc]
          refine hR.2.perm ?_
          have h9 := (catTo_take (con (listed.setIfInBounds i true) (putE ρ l[i].dst v)) him).append_right Λ
          rw [hci2, catTo_congr (f := fun j => if j = i then [] else con (listed.setIfInBounds i true) (putE ρ l[i].dst v) j) (g := fun j => if j ∈ i :: tk i then [] else con listed ρ j) (fun j _ => by
            by_cases e : j = i
            · simp [e]
            · by_cases e2 : j ∈ tk i
              · rw [if_neg e, if_pos (by simp [e2]), hct j e2]
              · rw [if_neg e, if_neg (by simp [e, e2]), hcs j (by simp [e, e2])]), List.append_assoc] at h9
          exact h9.symm
        · cases hd : l[i].dst with
          | none => exact hu s hsn
          | some t =>
            have : s ≠ t := by
              rintro rfl
              exact notDst_of hsn (i := i) (by simp [dstOf, List.getElem?_take, him, ho, hd])
            show upd ρ t v s = ρ0 s
            rw [upd_ne _ _ this]
            exact hu s hsn
        · by_cases hji : j = i
          · subst hji
            refine ⟨him, ?_⟩
            rw [hdi, slot_val]
            exact ⟨hat j him hcj _ hR.1, fun it hit => List.mem_append.2 (.inl hit)⟩
          · have hj' := ((hset hls hin).1 hj).resolve_left hji
            rw [hsame j hji]
            exact ⟨(hp j hj').1, hat j (hp j hj').1 (fun k hk => reach_listed hcl _ j k (hcl j hj') hk) _ (hp j hj').2.1, fun it hit => List.mem_append.2 (.inr ((hp j hj').2.2 it hit))⟩
      · have hall : ∀ j, j < m → listed.getD j false = true := fun j hj => hri j (anyOkT_all hok hin him hj)
        have h0 := finish listed a w hI hall
        obtain ⟨ρ, Γx, hρ, hst, hu, hp⟩ := hI
        have hl2 : ∀ j, j < l.length → (listed.getD j false = true ↔ j < m) := fun j hj => ⟨fun h => (hp j h).1, fun h => hall j h⟩
        have e1 := listed_mask l.length m hls hl2
        have e2 := leftOf_mask l.length m (anyOkT_le hok) hls hl2
        have e3 : F = fuel + 1 := by omega
        rw [← hB, ← e1, e3] at h0
        exact h0.2 i hi
  have hfull : leftOf (Array.replicate l.length false) l.length = l.length := by
    have : ∀ n, n ≤ l.length → leftOf (Array.replicate l.length false) n = n := by
      intro n
      induction n with
      | zero => exact fun _ => rfl
      | succ n ih =>
        intro hn
        have h2 : (Array.replicate l.length false).getD n true = false := by
          have : n < l.length := by omega
          simp [this]
        rw [leftOf, ih (by omega), h2]; rfl
    exact this _ (Nat.le_refl _)
  have hnone : ∀ i, (Array.replicate l.length false).getD i false ≠ true := by
    intro i hi
    rcases Nat.lt_or_ge i l.length with h | h <;> simp [h] at hi
  suffices hgo : InvA (Array.replicate l.length false) a0 { w1 with drawn := w1.drawn + 1 } by
    have := main l.length (Array.replicate l.length false) a0 { w1 with drawn := w1.drawn + 1 } (by simp) hfull (fun k hk => absurd hk (hnone k)) hgo
    simpa using this
  refine ⟨ρ0, [], ha0, ?_, fun _ _ => rfl, fun i hi => absurd hi (hnone i)⟩
  rw [catTo_congr (f := con (Array.replicate l.length false) ρ0) (g := fun i => (po i).Pre) fun i _ => by
    have h1 : takenIn tk m (Array.replicate l.length false) i = false := by
      cases hb : takenIn tk m (Array.replicate l.length false) i with
      | false => rfl
      | true => obtain ⟨k, hk, hkl, hkt⟩ := takenIn_iff.1 hb; exact absurd hkl (hnone k)
    show (if _ then _ else if _ then _ else _) = _
    rw [h1, if_neg (by simp), if_neg (hnone i)]]
  exact hs.drew
/-- The object behind what is not known, read from now on. -/
theorem St.backE {Λx : List LObj} {a : LObj} (hs : St ok0 w0 w Γ ((Λx ++ ([a] ++ Λ)).eraseIdx (Λx.length + 0))) : St ok0 w0 w Γ (Λx ++ Λ) := by
  rw [Nat.add_zero, List.eraseIdx_append_of_length_le (Nat.le_refl _), Nat.sub_self] at hs
  exact hs
end
end Go.Proofs.YtbbeobiampbddaaL
