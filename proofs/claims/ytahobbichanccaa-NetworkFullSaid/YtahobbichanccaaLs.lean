/- A region whose order is open, of whose results some are taken out late: what is left comes in one order but for these. -/
import Derived.Test.YtahobbichanccaaLh
set_option linter.unusedVariables false
set_option linter.unusedSimpArgs false
set_option linter.unnecessarySimpa false
namespace Go.Proofs.YtahobbichanccaaL
open Go Go.RowKit

def lateB : List Nat → Nat → Bool
  | [], _ => false
  | k :: ks, i => Nat.beq k i || lateB ks i
/-- Every operation waits on elder ones alone; from the m-th on each waits on all ahead of it but the late ones. -/
def anyOkL (l : List Oper) (m : Nat) (late : List Nat) : Bool :=
  Nat.ble m l.length && (List.range l.length).all fun i => ((depsOf l i).all fun d => Nat.blt d i) && (Nat.blt i m || (List.range i).all fun j => lateB late j || reach l l.length i j)
/-- What a late operation takes out, and of which slot. -/
def exOf (l : List Oper) (i : Nat) : Option (Nat × Nat × Nat) := match l[i]? with
  | some ⟨some d, .extract (.tmp t) k, _, _, _, none⟩ => some (d, t, k)
  | _ => none
def lateOk (l : List Oper) (N m : Nat) (late : List Nat) : Bool := late.all fun i => Nat.blt i m && match exOf l i with
  | some (d, t, _) => fits N (some d) && ((List.range m).any fun j => hasDst t (dstOf l j) && !lateB late j && reach l l.length i j) && (List.range m).all fun j => !lateB late j || !reach l l.length i j
  | none => false
def lateGL (po : Nat → PO) : List Nat → Prop
  | [] => True
  | i :: is => ((∀ v, (po i).G v = [] ∧ (po i).L v = []) ∧ (po i).Pre = [] ∧ (po i).needs = []) ∧ lateGL po is
def notLate (l : List Oper) : List Nat → Nat → Bool
  | [], _ => true
  | i :: is, s => !hasDst s (dstOf l i) && notLate l is s
def Lt (l : List Oper) (late : List Nat) (ρ ρ' : Env) : Prop := ∀ s, notLate l late s = true → ρ' s = ρ s
def factL (po : Nat → PO) (l : List Oper) (late : List Nat) (ρ : Env) (i : Nat) : Prop := match lateB late i with
  | true => True
  | false => (po i).at_ l ρ (slotOf ρ (dstOf l i))
/-- The operations that are left, in their order; the late ones anywhere between. -/
def TC (P : Program) (N : Nat) (l : List Oper) (Q : QE) (late : List Nat) (po : Nat → PO) : List Nat → Env → World → Prop
  | [], ρ, w => ∀ ρ', Lt l late ρ ρ' → (∀ i, lateB late i = true → (po i).at_ l ρ' (slotOf ρ' (dstOf l i))) → Q .normal ρ' w
  | k :: ks, ρ, w => ∀ ρ', Lt l late ρ ρ' → (∀ i, lateB late i = true → reach l l.length k i = true → (po i).at_ l ρ' (slotOf ρ' (dstOf l i))) → match l[k]? with
    | none => True
    | some o => WL P N l.toArray (oneQ ρ' o.dst fun v w' => TC P N l Q late po ks (putE ρ' o.dst v) w') [o] ρ' w

section
variable {P : Program} {N : Nat} {Q : QE} {ρ ρ0 : Env} {w w1 : World} {w0 : Base} {l : List Oper} {ok0 : Nat → Prop} {Γ : List It} {Λ : List LObj} {late : List Nat} {po : Nat → PO}

theorem lateB_mem : ∀ {late : List Nat} {i : Nat}, lateB late i = true ↔ i ∈ late
  | [], i => by simp [lateB]
  | k :: ks, i => by
    simp only [lateB, Bool.or_eq_true, List.mem_cons, lateB_mem (late := ks)]
    constructor
    · rintro (h | h)
      · exact .inl (Nat.eq_of_beq_eq_true h).symm
      · exact .inr h
    · rintro (h | h)
      · exact .inl (by subst h; exact Nat.beq_refl _)
      · exact .inr h
theorem lateGL_at : ∀ {late : List Nat}, lateGL po late → ∀ i, lateB late i = true → (∀ v, (po i).G v = [] ∧ (po i).L v = []) ∧ (po i).Pre = [] ∧ (po i).needs = []
  | [], _, i, h => by simp [lateB] at h
  | k :: ks, hg, i, h => by
    rcases List.mem_cons.1 (lateB_mem.1 h) with rfl | h
    · exact hg.1
    · exact lateGL_at hg.2 i (lateB_mem.2 h)
theorem notLate_of : ∀ {late : List Nat} {s : Nat}, (∀ i, lateB late i = true → dstOf l i ≠ some s) → notLate l late s = true
  | [], _, _ => rfl
  | k :: ks, s, h => by
    simp only [notLate, Bool.and_eq_true, Bool.not_eq_true']
    refine ⟨?_, notLate_of fun i hi => h i (lateB_mem.2 (List.mem_cons_of_mem _ (lateB_mem.1 hi)))⟩
    have := h k (lateB_mem.2 List.mem_cons_self)
    cases hd : dstOf l k with
    | none => rfl
    | some t =>
      rw [hd] at this
      simp only [hasDst]
      cases hb : Nat.beq t s with
      | false => rfl
      | true => exact absurd (congrArg some (Nat.eq_of_beq_eq_true hb)) this
theorem notLate_ne : ∀ {late : List Nat} {s : Nat}, notLate l late s = true → ∀ i, lateB late i = true → dstOf l i ≠ some s
  | [], _, _, i, h => by simp [lateB] at h
  | k :: ks, s, hn, i, h => by
    simp only [notLate, Bool.and_eq_true, Bool.not_eq_true'] at hn
    rcases List.mem_cons.1 (lateB_mem.1 h) with rfl | h
    · intro e
      rw [e] at hn
      simp [hasDst] at hn
    · exact notLate_ne hn.2 i (lateB_mem.2 h)
theorem Lt.refl (ρ : Env) : Lt l late ρ ρ := fun _ _ => rfl
theorem Lt.put {ρ ρ' : Env} (h : Lt l late ρ ρ') {i : Nat} (hi : lateB late i = true) (v : Value) : Lt l late ρ (putE ρ' (dstOf l i) v) := by
  intro s hs
  have := notLate_ne hs i hi
  cases hd : dstOf l i with
  | none => exact h s hs
  | some t =>
    rw [hd] at this
    show upd ρ' t v s = ρ s
    rw [upd_ne _ _ fun e => this (by rw [e])]
    exact h s hs
/-- What is taken out of a value. -/
def exv : Value → Nat → Option Value
  | .tuple vs, k => vs[k]?
  | _, _ => none
theorem ex_run {v : Value} {k : Nat} {x : Value} (h : exv v k = some x) : (do pure (Next.value (← Instr.extract v k)) : Sem Next).run P w = .ok (.value x) w := by
  cases v with
  | tuple vs =>
    simp only [exv] at h
    exact exec_v (by simp [Instr.extract, h, Sem.run])
  | _ => cases h
theorem ex_not {v : Value} {k : Nat} (h : exv v k = none) : ∃ s, (do pure (Next.value (← Instr.extract v k)) : Sem Next).run P w = .halt (.stuck s) w := by
  cases v with
  | tuple vs =>
    simp only [exv] at h
    refine ⟨"Extract: no such component", ?_⟩
    simp [Instr.extract, h, Sem.run, stuck, bind, Sem.bind]
  | _ => exact ⟨_, rfl⟩
theorem ex_inv {d t k : Nat} {ty : TypeId} {pos : String} {aft : Array Edge} {ops : Array Oper} {R : Value → World → Prop} {a : Act} (ha : Agree N a ρ) (hd : fits N (some d) = true)
    (h : WL P N ops (oneQ ρ (some d) R) [⟨some d, .extract (.tmp t) k, ty, pos, aft, none⟩] ρ w) : ∃ x, exv (ρ t) k = some x ∧ ∃ w', R x w' := by
  have h1 := h a ha
  simp only [wpList] at h1
  have hw : Region.wanted ⟨some d, .extract (.tmp t) k, ty, pos, aft, none⟩ (yielded ops a.tmps) = true := rfl
  rw [hw, if_pos rfl] at h1
  rcases h1 with h1 | h1
  · unfold Oper.wp at h1
    have e : execOp a.eval ⟨some d, .extract (.tmp t) k, ty, pos, aft, none⟩ = (do pure (Next.value (← Instr.extract (ρ t) k)) : Sem Next) := by
      show (do pure (Next.value (← Instr.extract (a.eval (.tmp t)) k)) : Sem Next) = _
      rw [ha.eval]
      rfl
    rw [e] at h1
    cases hx : exv (ρ t) k with
    | some x =>
      rw [ex_run hx] at h1
      obtain ⟨ρ', hρ', _, v, rfl, hR⟩ : lift N (oneQ ρ (some d) R) .normal (a.put (some d) x) w := h1
      have h2 := hρ'.get d
      have h3 := (ha.putE hd x).get d
      have e4 : putE ρ (some d) v d = v := upd_same _ _ _
      have e5 : putE ρ (some d) x d = x := upd_same _ _ _
      rw [e4] at h2
      rw [e5] at h3
      have : v = x := h2.symm.trans h3
      subst this
      exact ⟨v, rfl, _, hR⟩
    | none =>
      obtain ⟨s, hs⟩ := ex_not (P := P) (w := w) hx
      rw [hs] at h1
      exact h1.elim
  · exact (oneQ_out _ _ _ h1.2).elim
theorem ex_WL {d t k : Nat} {ty : TypeId} {pos : String} {aft : Array Edge} {ops : Array Oper} {R : Value → World → Prop} {x : Value} (hd : fits N (some d) = true) (hx : exv (ρ t) k = some x) (hR : R x w) :
    WL P N ops (oneQ ρ (some d) R) [⟨some d, .extract (.tmp t) k, ty, pos, aft, none⟩] ρ w := by
  refine WL.value rfl hd (v := x) (w' := w) ?_ (WL.nil ⟨rfl, x, rfl, hR⟩)
  show (do pure (Next.value (← Instr.extract (ρ t) k)) : Sem Next).run P w = _
  exact ex_run hx
theorem rd_deps {listed : Array Bool} {i : Nat} (hi : i ∈ Region.ready .any l.toArray listed) : i < l.length ∧ listed.getD i true = false ∧ ∀ d ∈ depsOf l i, listed.getD d false = true := by
  rw [mem_ready] at hi
  obtain ⟨h0, o, ho, hall⟩ := hi
  have ho' : l[i]? = some o := by simpa using ho
  refine ⟨(List.getElem?_eq_some_iff.1 ho').1, h0, fun d hd => ?_⟩
  simp only [depsOf, ho', Option.map_some, Option.getD_some, List.mem_map, List.mem_filter] at hd
  obtain ⟨e, ⟨he, hb⟩, rfl⟩ := hd
  exact hall e (by simpa using he) hb
theorem reach_lt (hlt : ∀ i d, i < l.length → d ∈ depsOf l i → d < i) : ∀ {f i j : Nat}, i < l.length → reach l f i j = true → j < i
  | 0, _, _, _, h => by simp [reach] at h
  | f + 1, i, j, hi, h => by
    simp only [reach, List.any_eq_true, Bool.or_eq_true] at h
    obtain ⟨d, hm, h | h⟩ := h
    · rw [← Nat.eq_of_beq_eq_true h]; exact hlt i d hi hm
    · have h1 := hlt i d hi hm
      have := reach_lt hlt (f := f) (i := d) (by omega) h
      omega
theorem rd_all {listed : Array Bool} (hlt : ∀ i d, i < l.length → d ∈ depsOf l i → d < i) (hr : Region.ready .any l.toArray listed = []) (hls : listed.size = l.length) : ∀ i, i < l.length → listed.getD i false = true := by
  intro i
  induction i using Nat.strongRecOn with
  | _ i ih =>
    intro hi
    cases hb : listed.getD i false with
    | true => rfl
    | false =>
      exfalso
      have hin : i ∈ Region.ready .any l.toArray listed := by
        rw [mem_ready]
        refine ⟨?_, l[i], by simp [hi], fun e he hbd => ?_⟩
        · have : i < listed.size := by omega
          simp [this] at hb ⊢
          exact hb
        · have hd : e.on ∈ depsOf l i := by
            simp only [depsOf, List.getElem?_eq_getElem hi, Option.map_some, Option.getD_some, List.mem_map, List.mem_filter]
            exact ⟨e, ⟨by simpa using he, hbd⟩, rfl⟩
          have := hlt i e.on hi hd
          exact ih e.on this (by omega)
      rw [hr] at hin
      cases hin
theorem set_iff {listed : Array Bool} {i j n : Nat} (hls : listed.size = n) (hi : i < n) : ((listed.setIfInBounds i true).getD j false = true ↔ (j = i ∨ listed.getD j false = true)) := by
  by_cases hij : i = j
  · subst hij
    have : i < listed.size := by omega
    simp [this]
  · rw [getD_set_ne false hij]
    constructor
    · exact .inr
    · rintro (h | h)
      · exact absurd h.symm hij
      · exact h
theorem left_all {listed : Array Bool} {n : Nat} (hls : listed.size = n) (hall : ∀ i, i < n → listed.getD i false = true) : leftOf listed n = 0 := by
  have : ∀ k, k ≤ n → leftOf listed k = 0 := by
    intro k
    induction k with
    | zero => exact fun _ => rfl
    | succ k ihn =>
      intro hn
      have h1 := hall k (by omega)
      have : k < listed.size := by omega
      have h2 : listed.getD k true = true := by simp [this] at h1 ⊢; exact h1
      rw [leftOf, ihn (by omega), h2]; rfl
  exact this n (Nat.le_refl _)
theorem anyOkL_le {m : Nat} (h : anyOkL l m late = true) : m ≤ l.length := by
  simp only [anyOkL, Bool.and_eq_true] at h
  simpa using h.1
theorem anyOkL_lt {m : Nat} (h : anyOkL l m late = true) {i d : Nat} (hi : i < l.length) (hd : d ∈ depsOf l i) : d < i := by
  simp only [anyOkL, Bool.and_eq_true, List.all_eq_true, List.mem_range] at h
  have := (h.2 i hi).1 d hd
  simp [Nat.blt] at this
  omega
theorem anyOkL_all {m : Nat} (h : anyOkL l m late = true) {i j : Nat} (hi : i < l.length) (hm : m ≤ i) (hj : j < i) (hl : lateB late j = false) : reach l l.length i j = true := by
  simp only [anyOkL, Bool.and_eq_true, List.all_eq_true, List.mem_range, Bool.or_eq_true] at h
  rcases (h.2 i hi).2 with h | h
  · simp [Nat.blt] at h; omega
  · rcases h j hj with h | h
    · rw [hl] at h; cases h
    · exact h
theorem hasDst_of {t : Nat} {d : Option Tmp} (h : hasDst t d = true) : d = some t := by
  cases d with
  | none => cases h
  | some s => rw [Nat.eq_of_beq_eq_true h]
theorem exOf_some {i d t k : Nat} (h : exOf l i = some (d, t, k)) : ∃ ty pos aft, l[i]? = some ⟨some d, .extract (.tmp t) k, ty, pos, aft, none⟩ := by
  unfold exOf at h
  split at h
  · rename_i d' t' k' ty pos aft e
    simp only [Option.some.injEq, Prod.mk.injEq] at h
    obtain ⟨rfl, rfl, rfl⟩ := h
    exact ⟨ty, pos, aft, e⟩
  · cases h
theorem lateOk_at {m : Nat} (h : lateOk l N m late = true) {i : Nat} (hi : lateB late i = true) :
    i < m ∧ ∃ d t k ty pos aft, l[i]? = some ⟨some d, .extract (.tmp t) k, ty, pos, aft, none⟩ ∧ fits N (some d) = true ∧ (∃ j, j < m ∧ dstOf l j = some t ∧ lateB late j = false ∧ reach l l.length i j = true) ∧ ∀ j, j < m → reach l l.length i j = true → lateB late j = false := by
  simp only [lateOk, List.all_eq_true, Bool.and_eq_true] at h
  obtain ⟨h1, h3⟩ := h i (lateB_mem.1 hi)
  refine ⟨by simp [Nat.blt] at h1; omega, ?_⟩
  cases he : exOf l i with
  | none => rw [he] at h3; cases h3
  | some p =>
    obtain ⟨d, t, k⟩ := p
    rw [he] at h3
    simp only [Bool.and_eq_true, List.any_eq_true, List.all_eq_true, List.mem_range, Bool.not_eq_true', Bool.or_eq_true] at h3
    obtain ⟨⟨hf, j, hj, ⟨h4, h5⟩, h6⟩, h7⟩ := h3
    obtain ⟨ty, pos, aft, e⟩ := exOf_some he
    refine ⟨d, t, k, ty, pos, aft, e, hf, ⟨j, hj, hasDst_of h4, h5, h6⟩, fun j hj hr => (h7 j hj).resolve_right fun h => ?_⟩
    rw [hr] at h
    cases h
theorem dst_at {i : Nat} {o : Oper} (h : l[i]? = some o) : dstOf l i = o.dst := by simp [dstOf, h]
/-- What a late operation has handed out, or will. -/
def lateFact (l : List Oper) (po : Nat → PO) (ρ : Env) (listed : Array Bool) (i : Nat) : Prop :=
  (listed.getD i false = true → (po i).P [] (slotOf ρ (dstOf l i))) ∧ ∀ d t k ty pos aft, l[i]? = some ⟨some d, .extract (.tmp t) k, ty, pos, aft, none⟩ → ∃ x, exv (ρ t) k = some x ∧ (po i).P [] x
theorem late_at (hgl : lateGL po late) {i : Nat} (hi : lateB late i = true) (ρ : Env) (v : Value) : (po i).at_ l ρ v ↔ (po i).P [] v := by
  unfold PO.at_
  rw [(lateGL_at hgl i hi).2.2]
  rfl
theorem TC.run {m : Nat} (hok : anyOkL l m late = true) (hlo : lateOk l N m late = true) (hdd : distinctDst l = true) (hgl : lateGL po late) :
    ∀ (fuel : Nat) (listed : Array Bool) (a : Act) (w : World) (ρ ρr : Env) (t : Nat), listed.size = l.length → leftOf listed l.length = fuel → (∀ k, listed.getD k false = true → ∀ d ∈ depsOf l k, listed.getD d false = true) →
      Agree N a ρ → m ≤ t → t ≤ l.length → (∀ j, m ≤ j → j < l.length → (listed.getD j false = true ↔ j < t)) → (∀ j, j < m → lateB late j = false → listed.getD j false = true) →
      (∀ j, lateB late j = true → lateFact l po ρ listed j) → Lt l late ρr ρ → TC P N l Q late po (List.range' t (l.length - t)) ρr w → wpAny P .any l.toArray (lift N Q) fuel listed a w := by
  have hm := anyOkL_le hok
  intro fuel
  induction fuel with
  | zero =>
    intro listed a w ρ ρr t hls hlf hcl hρ hmt htn hta hpre hlate hL hT
    have hall : ∀ i, i < l.length → listed.getD i false = true := by
      intro i hi
      have h1 := leftOf_zero hlf i hi
      have : i < listed.size := by omega
      simp [this] at h1 ⊢
      exact h1
    refine ⟨?_, ?_⟩
    · cases hr : Region.ready .any l.toArray listed with
      | nil => rfl
      | cons i rs =>
        exfalso
        obtain ⟨h1, h2, _⟩ := rd_deps (l := l) (listed := listed) (i := i) (by rw [hr]; simp)
        rw [leftOf_zero hlf i h1] at h2
        cases h2
    · have htl : t = l.length := by
        rcases Nat.lt_or_ge t l.length with h | h
        · have := (hta t hmt h).1 (hall t h)
          omega
        · omega
      subst htl
      rw [Nat.sub_self] at hT
      refine ⟨ρ, hρ, hT ρ hL fun i hi => ?_⟩
      rw [late_at hgl hi]
      have := (lateOk_at hlo hi).1
      exact (hlate i hi).1 (hall i (by omega))
  | succ fuel ih =>
    intro listed a w ρ ρr t hls hlf hcl hρ hmt htn hta hpre hlate hL hT
    have hne : Region.ready .any l.toArray listed ≠ [] := by
      intro hr
      have := left_all hls (rd_all (fun i d hi hd => anyOkL_lt hok hi hd) hr hls)
      omega
    refine ⟨fun hr => absurd hr hne, fun i hi => ?_⟩
    obtain ⟨hin, hi0, hid⟩ := rd_deps hi
    have hri : ∀ j, reach l l.length i j = true → listed.getD j false = true := fun j hj => reach_listed hcl _ i j hid hj
    have hls' : (listed.setIfInBounds i true).size = l.length := by simpa using hls
    have hlf' : leftOf (listed.setIfInBounds i true) l.length = fuel := by
      have := leftOf_set hi0 l.length
      rw [if_pos hin] at this
      omega
    have hcl' : ∀ k, (listed.setIfInBounds i true).getD k false = true → ∀ d ∈ depsOf l k, (listed.setIfInBounds i true).getD d false = true := by
      intro k hk d hd
      rcases (set_iff hls hin).1 hk with rfl | hk
      · exact getD_set_true (hid d hd)
      · exact getD_set_true (hcl k hk d hd)
    have hif : listed.getD i false = false := by
      have : i < listed.size := by omega
      simp [this] at hi0 ⊢
      exact hi0
    have ho : l[i]? = some l[i] := List.getElem?_eq_getElem hin
    have ho2 : l.toArray[i]? = some l[i] := by simpa using ho
    have hdi : dstOf l i = l[i].dst := dst_at ho
    -- what the late ones know stands whatever an operation hands out
    have hkeep : ∀ v j, lateB late j = true → j ≠ i → lateFact l po (putE ρ l[i].dst v) (listed.setIfInBounds i true) j := by
      intro v j hj hji
      obtain ⟨hjm, d, t', k, ty, pos, aft, e, hf, ⟨j', hj', hd', hl', hr'⟩, hnl⟩ := lateOk_at hlo hj
      refine ⟨fun h => ?_, fun d2 t2 k2 ty2 pos2 aft2 e2 => ?_⟩
      · have h := ((set_iff hls hin).1 h).resolve_left hji
        rw [slot_put fun s hs e => hji (distinct_of hdd e (hdi.trans hs))]
        exact (hlate j hj).1 h
      · rw [e] at e2
        simp only [Option.some.injEq, Oper.mk.injEq, Op.extract.injEq, Operand.tmp.injEq] at e2
        obtain ⟨rfl, ⟨rfl, rfl⟩, rfl, rfl, rfl, _⟩ := e2
        obtain ⟨x, hx, hp⟩ := (hlate j hj).2 _ _ _ _ _ _ e
        refine ⟨x, ?_, hp⟩
        have hne' : putE ρ l[i].dst v t' = ρ t' := by
          cases hdt : l[i].dst with
          | none => rfl
          | some s =>
            refine upd_ne _ _ fun e => ?_
            subst e
            have : i = j' := distinct_of hdd (hdi.trans hdt) hd'
            subst this
            have := hpre i hj' hl'
            rw [hif] at this
            cases this
        rw [hne']
        exact hx
    rcases Nat.lt_or_ge i m with him | him
    · -- a late one
      have hli : lateB late i = true := by
        cases hb : lateB late i with
        | true => rfl
        | false => have := hpre i him hb; rw [hif] at this; cases this
      obtain ⟨_, d, t', k, ty, pos, aft, e, hf, _⟩ := lateOk_at hlo hli
      obtain ⟨x, hx, hp⟩ := (hlate i hli).2 _ _ _ _ _ _ e
      have eo : l[i] = ⟨some d, .extract (.tmp t') k, ty, pos, aft, none⟩ := by rw [ho] at e; exact Option.some.inj e
      refine wpOp_of_WL (R := fun v w' => w' = w ∧ v = x) ho2 hρ (by rw [eo]; exact ex_WL hf hx ⟨rfl, rfl⟩) fun a' v w' ha' hR => ?_
      obtain ⟨rfl, rfl⟩ := hR
      refine ih _ a' w' (putE ρ l[i].dst v) ρr t hls' hlf' hcl' ha' hmt htn (fun j h1 h2 => ?_) (fun j h1 h2 => getD_set_true (hpre j h1 h2)) (fun j hj => ?_) (by rw [← hdi]; exact hL.put hli v) hT
      · rw [set_iff hls hin, hta j h1 h2]
        constructor
        · rintro (h | h)
          · omega
          · exact h
        · exact .inr
      · by_cases hji : j = i
        · subst hji
          refine ⟨fun _ => ?_, fun d2 t2 k2 ty2 pos2 aft2 e2 => ?_⟩
          · rw [hdi, slot_val, eo]
            exact hp
          · rw [e] at e2
            simp only [Option.some.injEq, Oper.mk.injEq, Op.extract.injEq, Operand.tmp.injEq] at e2
            obtain ⟨rfl, ⟨rfl, rfl⟩, rfl, rfl, rfl, _⟩ := e2
            refine ⟨v, ?_, hp⟩
            have hne' : putE ρ l[j].dst v t' = ρ t' := by
              obtain ⟨_, d3, t3, k3, ty3, pos3, aft3, e3, _, ⟨j', hj', hd', hl', _⟩, _⟩ := lateOk_at hlo hli
              rw [e] at e3
              simp only [Option.some.injEq, Oper.mk.injEq, Op.extract.injEq, Operand.tmp.injEq] at e3
              obtain ⟨rfl, ⟨rfl, rfl⟩, rfl, rfl, rfl, _⟩ := e3
              cases hdt : l[j].dst with
              | none => rfl
              | some s =>
                refine upd_ne _ _ fun e => ?_
                subst e
                have : j = j' := distinct_of hdd (hdi.trans hdt) hd'
                subst this
                rw [hl'] at hli
                cases hli
            rw [hne']
            exact hx
        · exact hkeep v j hj hji
    · -- the next of the others
      have hit : i = t := by
        have hge : t ≤ i := by
          rcases Nat.lt_or_ge i t with h | h
          · have := (hta i him hin).2 h
            rw [hif] at this
            cases this
          · exact h
        rcases Nat.lt_or_ge t i with h | h
        · have hlt : lateB late t = false := by
            cases hb : lateB late t with
            | false => rfl
            | true => have := (lateOk_at hlo hb).1; omega
          have := (hta t hmt (by omega)).1 (hri t (anyOkL_all hok hin him h hlt))
          omega
        · omega
      subst hit
      have hks : List.range' i (l.length - i) = i :: List.range' (i + 1) (l.length - (i + 1)) := by
        rw [show l.length - i = (l.length - (i + 1)) + 1 by omega, List.range'_succ]
      rw [hks] at hT
      have hT := hT ρ hL fun j hj hr => by
        rw [late_at hgl hj]
        exact (hlate j hj).1 (hri j hr)
      rw [ho] at hT
      refine wpOp_of_WL ho2 hρ hT fun a' v w' ha' hR => ?_
      refine ih _ a' w' (putE ρ l[i].dst v) (putE ρ l[i].dst v) (i + 1) hls' hlf' hcl' ha' (by omega) (by omega) (fun j h1 h2 => ?_) (fun j h1 h2 => getD_set_true (hpre j h1 h2)) (fun j hj => hkeep v j hj fun e => ?_) (Lt.refl _) hR
      · rw [set_iff hls hin, hta j h1 h2]
        omega
      · subst e
        have := (lateOk_at hlo hj).1
        omega
theorem W.anyL {id : Nat} (hm : P.follows .mixedOrders = true) (m : Nat) (late ks : List Nat) (hks : List.range' m (l.length - m) = ks) (po : Nat → PO) (hs : St ok0 w0 w1 Γ (catTo (fun i => (po i).Pre) m ++ Λ)) (hok : anyOkL l m late = true) (hlo : lateOk l N m late = true) (hdd : distinctDst l = true) (hnd : needOk l m po = true) (hgl : lateGL po late)
    (hops : upTo (obl P N l ok0 w0 Γ Λ ρ0 po m) m)
    (hfin : ∀ ρ w, St ok0 w0 w (catTo (fun i => (po i).G (slotOf ρ (dstOf l i))) m ++ Γ) (catTo (fun i => (po i).L (slotOf ρ (dstOf l i))) m ++ Λ) → (∀ s, notDst (l.take m) s = true → ρ s = ρ0 s) →
      upTo (factL po l late ρ) m → TC P N l Q late po ks ρ w) :
    W P N (.region id l.toArray true) Q ρ0 w1 := by
  subst hks
  intro a0 ha0
  refine wp_region_any hm ?_
  let con : Array Bool → Env → Nat → List LObj := fun listed ρ i => if listed.getD i false = true then (po i).L (slotOf ρ (dstOf l i)) else (po i).Pre
  let InvA : Array Bool → Act → World → Prop := fun listed a w => ∃ (ρ : Env) (Γx : List It), Agree N a ρ ∧ St ok0 w0 w (Γx ++ Γ) (catTo (con listed ρ) m ++ Λ) ∧ (∀ s, notDst (l.take m) s = true → ρ s = ρ0 s) ∧
    (∀ i, listed.getD i false = true → i < m ∧ (po i).at_ l ρ (slotOf ρ (dstOf l i)) ∧ ∀ it ∈ (po i).G (slotOf ρ (dstOf l i)), it ∈ Γx)
  have hmle := anyOkL_le hok
  -- all but the late ones are done
  have finish : ∀ fuel listed a w, listed.size = l.length → leftOf listed l.length = fuel → (∀ k, listed.getD k false = true → ∀ d ∈ depsOf l k, listed.getD d false = true) → InvA listed a w → (∀ i, i < m → lateB late i = false → listed.getD i false = true) → wpAny P .any l.toArray (lift N Q) fuel listed a w := by
    rintro fuel listed a w hls hlf hcl ⟨ρ, Γx, hρ, hst, hu, hp⟩ hall
    have hT := hfin ρ w (St.sub (Γ := Γx ++ Γ) ?_ fun it hit => ?_) hu (upTo.mk m fun i hi => ?_)
    · refine TC.run hok hlo hdd hgl fuel listed a w ρ ρ m hls hlf hcl hρ (Nat.le_refl _) hmle (fun j h1 h2 => ⟨fun h => absurd (hp j h).1 (by omega), fun h => by omega⟩) hall (fun j hj => ?_) (Lt.refl _) hT
      obtain ⟨hjm, d, t, k, ty, pos, aft, e, hf, ⟨j', hj', hd', hl', hr'⟩, hnl⟩ := lateOk_at hlo hj
      have hg := lateGL_at hgl j hj
      refine ⟨fun h => ?_, fun d2 t2 k2 ty2 pos2 aft2 e2 => ?_⟩
      · have := (hp j h).2.1
        rwa [late_at hgl hj] at this
      · rw [e] at e2
        simp only [Option.some.injEq, Oper.mk.injEq, Op.extract.injEq, Operand.tmp.injEq] at e2
        obtain ⟨rfl, ⟨rfl, rfl⟩, rfl, rfl, rfl, _⟩ := e2
        have hob := hops.at_ j hjm
        unfold obl at hob
        rw [e] at hob
        have hst1 : St ok0 w0 w (Γx ++ Γ) (catTo (con listed ρ) m ++ ((po j).Pre ++ Λ)) := by
          rw [hg.2.1, List.nil_append]
          exact hst
        have hfa : ∀ k, reach l l.length j k = true → (po k).at_ l ρ (slotOf ρ (dstOf l k)) ∧ ∀ it ∈ (po k).G (slotOf ρ (dstOf l k)), it ∈ Γx := fun k hk => by
          have hlt := reach_lt (fun i d h1 h2 => anyOkL_lt hok h1 h2) (show j < l.length by omega) hk
          exact (hp k (hall k (by omega) (hnl k (by omega) hk))).2
        obtain ⟨x, hx, _, hP, _⟩ := ex_inv hρ hf (hob ρ w Γx _ hst1 hu hfa)
        exact ⟨x, hx, (late_at hgl hj ρ x).1 hP⟩
    · rw [catTo_congr (f := con listed ρ) (g := fun i => (po i).L (slotOf ρ (dstOf l i))) fun i hi => ?_] at hst
      · exact hst
      · cases hb : lateB late i with
        | false => exact if_pos (hall i hi hb)
        | true =>
          have hg := lateGL_at hgl i hb
          show (if _ then _ else _) = _
          rw [(hg.1 _).2, hg.2.1]
          simp
    · rcases List.mem_append.1 hit with hit | hit
      · obtain ⟨i, hi, hx⟩ := mem_catTo hit
        cases hb : lateB late i with
        | false => exact List.mem_append.2 (.inl ((hp i (hall i hi hb)).2.2 it hx))
        | true =>
          have hg := lateGL_at hgl i hb
          rw [(hg.1 _).1] at hx
          cases hx
      · exact List.mem_append.2 (.inr hit)
    · unfold factL
      cases hb : lateB late i with
      | false => exact (hp i (hall i hi hb)).2.1
      | true => trivial
  have main : ∀ fuel listed a w, listed.size = l.length → leftOf listed l.length = fuel →
      (∀ k, listed.getD k false = true → ∀ d ∈ depsOf l k, listed.getD d false = true) → InvA listed a w → wpAny P .any l.toArray (lift N Q) fuel listed a w := by
    intro fuel
    induction fuel with
    | zero =>
      intro listed a w hls hlf hcl hI
      have hall : ∀ i, i < l.length → listed.getD i false = true := by
        intro i hi
        have h1 := leftOf_zero hlf i hi
        have : i < listed.size := by omega
        simp [this] at h1 ⊢
        exact h1
      exact finish 0 listed a w hls hlf hcl hI fun i hi _ => hall i (by omega)
    | succ fuel ih =>
      intro listed a w hls hlf hcl hI
      by_cases hdone : ∀ i, i < m → lateB late i = false → listed.getD i false = true
      · exact finish _ listed a w hls hlf hcl hI hdone
      have hne : Region.ready .any l.toArray listed ≠ [] := by
        intro hr
        have := left_all hls (rd_all (fun i d hi hd => anyOkL_lt hok hi hd) hr hls)
        omega
      refine ⟨fun hr => absurd hr hne, fun i hi => ?_⟩
      obtain ⟨hin, hi0, hid⟩ := rd_deps hi
      have hri : ∀ j, reach l l.length i j = true → listed.getD j false = true := fun j hj => reach_listed hcl _ i j hid hj
      have ho : l[i]? = some l[i] := List.getElem?_eq_getElem hin
      have ho2 : l.toArray[i]? = some l[i] := by simpa using ho
      have hls' : (listed.setIfInBounds i true).size = l.length := by simpa using hls
      have hlf' : leftOf (listed.setIfInBounds i true) l.length = fuel := by
        have := leftOf_set hi0 l.length
        rw [if_pos hin] at this
        omega
      have hcl' : ∀ k, (listed.setIfInBounds i true).getD k false = true → ∀ d ∈ depsOf l k, (listed.setIfInBounds i true).getD d false = true := by
        intro k hk d hd
        rcases (set_iff hls hin).1 hk with rfl | hk
        · exact getD_set_true (hid d hd)
        · exact getD_set_true (hcl k hk d hd)
      have hif : listed.getD i false = false := by
        have : i < listed.size := by omega
        simp [this] at hi0 ⊢
        exact hi0
      have him : i < m := by
        rcases Nat.lt_or_ge i m with h | h
        · exact h
        · exact absurd (fun j hj hl => hri j (anyOkL_all hok hin h (by omega) hl)) hdone
      obtain ⟨ρ, Γx, hρ, hst, hu, hp⟩ := hI
      have hob := hops.at_ i him
      unfold obl at hob
      rw [ho] at hob
      have hci : con listed ρ i = (po i).Pre := if_neg (by rw [hif]; simp)
      have hst1 : St ok0 w0 w (Γx ++ Γ) (catTo (fun j => if j = i then [] else con listed ρ j) m ++ ((po i).Pre ++ Λ)) := by
        refine hst.perm ?_
        have := (catTo_take (con listed ρ) him).append_right Λ
        rw [hci] at this
        refine this.trans ((List.perm_append_comm.append_right Λ).trans ?_)
        rw [List.append_assoc]
      refine wpOp_of_WL ho2 hρ (hob ρ w Γx _ hst1 hu fun j hj => (hp j (hri j hj)).2) fun a' v w' ha' hR => ih _ a' w' hls' hlf' hcl' ?_
      have hdi : dstOf l i = l[i].dst := by simp [dstOf, ho]
      have hsame : ∀ j, j ≠ i → slotOf (putE ρ l[i].dst v) (dstOf l j) = slotOf ρ (dstOf l j) := fun j hj => slot_put fun t ht e => hj (distinct_of hdd e (hdi.trans ht))
      have hcs : ∀ j, j ≠ i → con (listed.setIfInBounds i true) (putE ρ l[i].dst v) j = con listed ρ j := by
        intro j hj
        show (if _ then _ else _) = (if _ then _ else _)
        rw [getD_set_ne false (fun e => hj e.symm), hsame j hj]
      have hci2 : con (listed.setIfInBounds i true) (putE ρ l[i].dst v) i = (po i).L (valOf l[i].dst v) := by
        show (if _ then _ else _) = _
        rw [if_pos ((set_iff hls hin).2 (.inl rfl)), hdi, slot_val]
      have hat : ∀ j, j < m → (∀ k, reach l l.length j k = true → listed.getD k false = true) → ∀ v', (po j).at_ l ρ v' → (po j).at_ l (putE ρ l[i].dst v) v' := by
        intro j hjm hk v' h
        have e : ((po j).needs.map fun k => slotOf (putE ρ l[i].dst v) (dstOf l k)) = (po j).needs.map fun k => slotOf ρ (dstOf l k) := by
          refine List.map_congr_left fun k hkn => hsame k ?_
          rintro rfl
          simp only [needOk, List.all_eq_true, List.mem_range] at hnd
          have := hk _ (hnd j hjm _ hkn)
          rw [hif] at this
          cases this
        unfold PO.at_
        rw [e]
        exact h
      have hcj := hri
      refine ⟨_, (po i).G (valOf l[i].dst v) ++ Γx, ha', ?_, fun s hsn => ?_, fun j hj => ?_⟩
      · rw [List.append_assoc]
        refine hR.2.perm ?_
        have h9 := (catTo_take (con (listed.setIfInBounds i true) (putE ρ l[i].dst v)) him).append_right Λ
        rw [hci2, catTo_congr (f := fun j => if j = i then [] else con (listed.setIfInBounds i true) (putE ρ l[i].dst v) j) (g := fun j => if j = i then [] else con listed ρ j) (fun j _ => by
          by_cases e : j = i
          · simp [e]
          · rw [if_neg e, if_neg e, hcs j e]), List.append_assoc] at h9
        exact h9.symm
      · cases hd : l[i].dst with
        | none => exact hu s hsn
        | some t =>
          have : s ≠ t := by
            rintro rfl
            exact notDst_of hsn (i := i) (by simp [dstOf, List.getElem?_take, him, ho, hd])
          show upd ρ t v s = ρ0 s
          rw [upd_ne _ _ this]
          exact hu s hsn
      · by_cases hji : j = i
        · subst hji
          refine ⟨him, ?_⟩
          rw [hdi, slot_val]
          exact ⟨hat j him hcj _ hR.1, fun it hit => List.mem_append.2 (.inl hit)⟩
        · have hj' := ((set_iff hls hin).1 hj).resolve_left hji
          rw [hsame j hji]
          exact ⟨(hp j hj').1, hat j (hp j hj').1 (fun k hk => reach_listed hcl _ j k (hcl j hj') hk) _ (hp j hj').2.1, fun it hit => List.mem_append.2 (.inr ((hp j hj').2.2 it hit))⟩
  have hfull : leftOf (Array.replicate l.length false) l.length = l.length := by
    have : ∀ n, n ≤ l.length → leftOf (Array.replicate l.length false) n = n := by
      intro n
      induction n with
      | zero => exact fun _ => rfl
      | succ n ih =>
        intro hn
        have h2 : (Array.replicate l.length false).getD n true = false := by
          have : n < l.length := by omega
          simp [this]
        rw [leftOf, ih (by omega), h2]; rfl
    exact this _ (Nat.le_refl _)
  have hnone : ∀ i, (Array.replicate l.length false).getD i false ≠ true := by
    intro i hi
    rcases Nat.lt_or_ge i l.length with h | h <;> simp [h] at hi
  suffices hgo : InvA (Array.replicate l.length false) a0 { w1 with drawn := w1.drawn + 1 } by
    have := main l.length (Array.replicate l.length false) a0 { w1 with drawn := w1.drawn + 1 } (by simp) hfull (fun k hk => absurd hk (hnone k)) hgo
    simpa using this
  refine ⟨ρ0, [], ha0, ?_, fun _ _ => rfl, fun i hi => absurd hi (hnone i)⟩
  rw [catTo_congr (f := con (Array.replicate l.length false) ρ0) (g := fun i => (po i).Pre) fun i _ => if_neg (hnone i)]
  exact hs.drew
theorem TC.step {k : Nat} {ks : List Nat} {o : Oper} (ho : l[k]? = some o)
    (h : ∀ ρ', Lt l late ρ ρ' → (∀ i, lateB late i = true → reach l l.length k i = true → (po i).at_ l ρ' (slotOf ρ' (dstOf l i))) → WL P N l.toArray (oneQ ρ' o.dst fun v w' => TC P N l Q late po ks (putE ρ' o.dst v) w') [o] ρ' w) :
    TC P N l Q late po (k :: ks) ρ w := by
  intro ρ' h1 h2
  rw [ho]
  exact h ρ' h1 h2
theorem TC.done (h : ∀ ρ', Lt l late ρ ρ' → (∀ i, lateB late i = true → (po i).at_ l ρ' (slotOf ρ' (dstOf l i))) → Q .normal ρ' w) : TC P N l Q late po [] ρ w := h
end
end Go.Proofs.YtahobbichanccaaL
