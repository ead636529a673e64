/- The walk over slots: the kit's 'Code.wp' and 'wpList' over an array of slots, said anew over a function from slots to values. -/
import Derived.WalkKit
import Derived.KernelRfl
import Derived.Laws.AppendOwn
set_option linter.unusedVariables false
set_option linter.unusedSimpArgs false
namespace Go.Proofs.YtbbeobiampbddaaL
open Go Go.RowKit

abbrev Env := Nat → Value
def upd (ρ : Env) (d : Nat) (v : Value) : Env := fun i => bif Nat.beq i d then v else ρ i
def Env.ev (ρ : Env) : Operand → Value
  | .tmp t => ρ t
  | .const v => v
  | .global g => .pointer (some ⟨g, 0, none⟩)
  | .func f => .func (.func f) #[] #[]

theorem upd_same (ρ : Env) (d : Nat) (v : Value) : upd ρ d v d = v := by simp [upd]
theorem upd_ne (ρ : Env) {d i : Nat} (v : Value) (h : i ≠ d) : upd ρ d v i = ρ i := by
  have : Nat.beq i d = false := by cases hb : Nat.beq i d with
    | false => rfl
    | true => exact absurd (Nat.eq_of_beq_eq_true hb) h
  simp [upd, this]

structure Agree (N : Nat) (a : Act) (ρ : Env) : Prop where
  size : a.tmps.size = N
  get : ∀ i, a.tmps.getD i undef = ρ i
  defers : a.defers = []

theorem Agree.eval {N : Nat} {a : Act} {ρ : Env} (h : Agree N a ρ) : a.eval = ρ.ev := by
  funext x
  cases x <;> simp [Act.eval, Env.ev, ← h.get]

theorem Agree.put {N : Nat} {a : Act} {ρ : Env} (h : Agree N a ρ) {d : Nat} (hd : d < N) (v : Value) : Agree N (a.put (some d) v) (upd ρ d v) := by
  refine ⟨by simp [Act.put, h.size], fun i => ?_, h.defers⟩
  by_cases hi : i = d
  · subst hi
    rw [upd_same]
    have := h.size
    simp [Act.put, Array.getD, this, hd]
  · rw [upd_ne _ _ hi, ← h.get i]
    simp only [Act.put, Array.getD_eq_getD_getElem?]
    rw [Array.getElem?_setIfInBounds_ne (by omega)]

theorem Agree.put_none {N : Nat} {a : Act} {ρ : Env} (h : Agree N a ρ) (v : Value) : Agree N (a.put none v) ρ := h

def putE (ρ : Env) : Option Tmp → Value → Env
  | some d, v => upd ρ d v
  | none, _ => ρ

def fits (N : Nat) : Option Tmp → Bool
  | some d => Nat.blt d N
  | none => true

theorem Agree.putE {N : Nat} {a : Act} {ρ : Env} (h : Agree N a ρ) {d : Option Tmp} (hd : fits N d = true) (v : Value) : Agree N (a.put d v) (putE ρ d v) := by
  cases d with
  | none => exact h
  | some d => exact h.put (by simp [fits, Nat.blt] at hd; omega) v

/-- What an operation of a region handed out, as its guard asks it. -/
def yld (ops : Array Oper) (ρ : Env) (j : Nat) : Option Bool :=
  match (ops[j]?).bind (·.dst) with
  | some d => (match ρ d with | .bool b => some b | _ => none)
  | none => none

theorem Agree.yielded {N : Nat} {a : Act} {ρ : Env} (h : Agree N a ρ) (ops : Array Oper) : yielded ops a.tmps = yld ops ρ := by
  funext j
  unfold Go.yielded yld
  cases hd : (ops[j]?).bind (·.dst) with
  | none => simp
  | some d =>
    simp only [Option.bind_some]
    rw [← h.get d, Array.getD_eq_getD_getElem?]
    cases a.tmps[d]? with
    | none => simp [undef]
    | some v => cases v <;> simp

abbrev QE := Exit → Env → World → Prop
def lift (N : Nat) (Q : QE) : Exit → Act → World → Prop := fun e a w => ∃ ρ, Agree N a ρ ∧ Q e ρ w

def W (P : Program) (N : Nat) (c : Code) (Q : QE) (ρ : Env) (w : World) : Prop := ∀ a, Agree N a ρ → c.wp P (lift N Q) a w
def WL (P : Program) (N : Nat) (ops : Array Oper) (Q : QE) (l : List Oper) (ρ : Env) (w : World) : Prop :=
  ∀ a, Agree N a ρ → wpList P ops (lift N Q) l a w
def thenQ (K : Env → World → Prop) (Q : QE) : QE := fun
  | .normal, ρ, w => K ρ w
  | e, ρ, w => Q e ρ w
def blockQ (id : Nat) (Q : QE) : QE := fun
  | .exit id', ρ, w => bif Nat.beq id' id then Q .normal ρ w else Q (.exit id') ρ w
  | e, ρ, w => Q e ρ w

section
variable {P : Program} {N : Nat} {Q : QE} {ρ : Env} {w : World} {x y c : Code} {ops : Array Oper} {l rest : List Oper} {o : Oper}

theorem W.mono {Q' : QE} (h : W P N c Q ρ w) (hq : ∀ e ρ w, Q e ρ w → Q' e ρ w) : W P N c Q' ρ w :=
  fun a ha => wp_mono (h a ha) fun e a w ⟨ρ, hρ, q⟩ => ⟨ρ, hρ, hq _ _ _ q⟩

theorem W.seq (h : W P N x (thenQ (W P N y Q) Q) ρ w) : W P N (.seq x y) Q ρ w := by
  intro a ha
  refine wp_seq (wp_mono (h a ha) ?_)
  rintro e a w ⟨ρ, hρ, q⟩
  cases e with
  | normal => exact q a hρ
  | _ => exact ⟨ρ, hρ, q⟩

theorem W.seqK (h : ∀ K : Env → World → Prop, (∀ ρ w, W P N y Q ρ w → K ρ w) → W P N x (thenQ K Q) ρ w) : W P N (.seq x y) Q ρ w :=
  W.seq (h _ fun _ _ h => h)

theorem W.skip (h : Q .normal ρ w) : W P N .skip Q ρ w := fun a ha => wp_skip ⟨ρ, ha, h⟩
theorem W.label {l : Nat} (h : Q .normal ρ w) : W P N (.label l) Q ρ w := fun a ha => wp_label ⟨ρ, ha, h⟩
theorem W.ret (h : Q .ret ρ w) : W P N .ret Q ρ w := fun a ha => wp_ret ⟨ρ, ha, h⟩
theorem W.exit {id : Nat} (h : Q (.exit id) ρ w) : W P N (.exit id) Q ρ w := fun a ha => wp_exit ⟨ρ, ha, h⟩
theorem W.block {id : Nat} (h : W P N c (blockQ id Q) ρ w) : W P N (.block id c) Q ρ w := by
  intro a ha
  refine wp_block (wp_mono (h a ha) ?_)
  rintro e a w ⟨ρ, hρ, q⟩
  cases e with
  | exit id' =>
    simp only [blockQ] at q
    simp only [Exit.inBlock]
    split <;> rename_i hid
    · subst hid
      rw [show Nat.beq id' id' = true by simp] at q
      exact ⟨ρ, hρ, q⟩
    · rw [show Nat.beq id' id = false by cases hb : Nat.beq id' id with
        | false => rfl
        | true => exact absurd (Nat.eq_of_beq_eq_true hb) hid] at q
      exact ⟨ρ, hρ, q⟩
  | _ => exact ⟨ρ, hρ, q⟩

theorem W.cond {k : Operand} {t : Bool} (hc : ρ.ev k = .bool t) (ht : t = true → W P N x Q ρ w) (hf : t = false → W P N y Q ρ w) : W P N (.cond k x y) Q ρ w := by
  intro a ha
  refine wp_cond (t := t) (by rw [ha.eval]; exact hc) ?_
  cases t with
  | true => exact ht rfl a ha
  | false => exact hf rfl a ha
theorem W.cond_true {k : Operand} (hc : ρ.ev k = .bool true) (h : W P N x Q ρ w) : W P N (.cond k x y) Q ρ w := W.cond hc (fun _ => h) (fun h => by cases h)
theorem W.cond_false {k : Operand} (hc : ρ.ev k = .bool false) (h : W P N y Q ρ w) : W P N (.cond k x y) Q ρ w := W.cond hc (fun h => by cases h) (fun _ => h)

/-! Loops: a loop as a function from a state to what it ends with. -/
def loopN {σ β : Type} (step : σ → Option (σ ⊕ β)) : Nat → σ → Option β
  | 0, _ => none
  | n + 1, s => match step s with
    | none => none
    | some (.inl s') => loopN step n s'
    | some (.inr b) => some b
theorem loopN_more {σ β : Type} (step : σ → Option (σ ⊕ β)) : ∀ (n m : Nat) (s : σ) (b : β), n ≤ m → loopN step n s = some b → loopN step m s = some b
  | 0, _, _, _, _, h => by simp [loopN] at h
  | n + 1, 0, _, _, hm, _ => by omega
  | n + 1, m + 1, s, b, hm, h => by
    simp only [loopN] at h ⊢
    split at h
    · cases h
    · rename_i s' _
      exact loopN_more step n m s' b (by omega) h
    · exact h
open Classical in
noncomputable def loopO {σ β : Type} (step : σ → Option (σ ⊕ β)) (s : σ) : Option β :=
  if h : ∃ b n, loopN step n s = some b then some h.choose else none
theorem loopO_iff {σ β : Type} {step : σ → Option (σ ⊕ β)} {s : σ} {b : β} : loopO step s = some b ↔ ∃ n, loopN step n s = some b := by
  unfold loopO
  constructor
  · intro h
    split at h
    · rename_i hx
      cases h
      exact hx.choose_spec
    · cases h
  · rintro ⟨n, hn⟩
    have hx : ∃ b n, loopN step n s = some b := ⟨b, n, hn⟩
    rw [dif_pos hx]
    obtain ⟨m, hm⟩ := hx.choose_spec
    rcases Nat.le_total n m with h | h
    · have := loopN_more step n m s b h hn
      rw [hm] at this
      exact this
    · have := loopN_more step m n s _ h hm
      rw [hn] at this
      exact this.symm
theorem loopO_unfold {σ β : Type} (step : σ → Option (σ ⊕ β)) (s : σ) :
    loopO step s = match step s with | none => none | some (.inl s') => loopO step s' | some (.inr b) => some b := by
  cases hs : step s with
  | none =>
    cases hl : loopO step s with
    | none => rfl
    | some b =>
      obtain ⟨n, hn⟩ := loopO_iff.1 hl
      cases n <;> simp [loopN, hs] at hn
  | some o =>
    cases o with
    | inr b => exact loopO_iff.2 ⟨1, by simp [loopN, hs]⟩
    | inl s' =>
      cases hl : loopO step s' with
      | some b =>
        show loopO step s = loopO step s'
        rw [hl]
        obtain ⟨n, hn⟩ := loopO_iff.1 hl
        have e : loopN step (n + 1) s = some b := by unfold loopN; rw [hs]; exact hn
        exact loopO_iff.2 ⟨n + 1, e⟩
      | none =>
        cases hl2 : loopO step s with
        | none => exact hl.symm
        | some b =>
          obtain ⟨n, hn⟩ := loopO_iff.1 hl2
          cases n with
          | zero => simp [loopN] at hn
          | succ n =>
            simp only [loopN, hs] at hn
            have := loopO_iff.2 ⟨n, hn⟩
            rw [hl] at this
            cases this
theorem loopO_next {σ β : Type} {step : σ → Option (σ ⊕ β)} {s s' : σ} (h : step s = some (.inl s')) : loopO step s = loopO step s' := by
  rw [loopO_unfold, h]
theorem loopO_done {σ β : Type} {step : σ → Option (σ ⊕ β)} {s : σ} {b : β} (h : step s = some (.inr b)) : loopO step s = some b := by
  rw [loopO_unfold, h]

theorem W.loop {σ β : Type} {step : σ → Option (σ ⊕ β)} {s0 : σ} {b : β} (hb : loopO step s0 = some b) (I : σ → Env → World → Prop) (h0 : I s0 ρ w)
    (body : ∀ s ρ w o, I s ρ w → step s = some o → (∀ b', o = .inr b' → b' = b) →
      W P N c (thenQ (fun ρ' w' => ∃ s', o = .inl s' ∧ I s' ρ' w') Q) ρ w) : W P N (.loop c) Q ρ w := by
  obtain ⟨n, hn⟩ := loopO_iff.1 hb
  intro a ha
  refine wp_loop_rounds n ?_
  clear hb
  induction n generalizing s0 ρ w a with
  | zero => simp [loopN] at hn
  | succ n ih =>
    rw [rounds_succ]
    simp only [loopN] at hn
    cases hs : step s0 with
    | none => simp [hs] at hn
    | some o =>
      have hbb : ∀ b', o = .inr b' → b' = b := by
        rintro b' rfl
        simpa [hs] using hn
      refine wp_mono (body s0 ρ w o h0 hs hbb a ha) ?_
      rintro e a' w' ⟨ρ', hρ', q⟩
      cases e with
      | normal =>
        obtain ⟨s', rfl, hI⟩ := q
        simp only [hs] at hn
        exact ih hI hn a' hρ'
      | _ => exact ⟨ρ', hρ', q⟩
end

/-! Regions in the order of the text. -/
section
variable {P : Program} {N : Nat} {Q : QE} {ρ : Env} {w : World} {ops : Array Oper} {l rest : List Oper} {o : Oper}

theorem W.region {id : Nat} {l : List Oper} (h : WL P N l.toArray Q l ρ w) : W P N (.region id l.toArray false) Q ρ w :=
  fun a ha => wp_region_lit (h a ha)
theorem WL.nil (h : Q .normal ρ w) : WL P N ops Q [] ρ w := fun a ha => wpList_nil ⟨ρ, ha, h⟩

def wantedE (ops : Array Oper) (ρ : Env) (o : Oper) : Bool := Region.wanted o (yld ops ρ)

/-- An operation that hands out a value. -/
theorem WL.value {d : Option Tmp} {op : Op} {ty : TypeId} {pos : String} {aft : Array Edge} {g : Option (Nat × Bool)}
    (hg : wantedE ops ρ ⟨d, op, ty, pos, aft, g⟩ = true) (hd : fits N d = true) {v : Value} {w' : World}
    (hx : (execOp ρ.ev ⟨d, op, ty, pos, aft, g⟩).run P w = .ok (.value v) w') (k : WL P N ops Q rest (putE ρ d v) w') :
    WL P N ops Q (⟨d, op, ty, pos, aft, g⟩ :: rest) ρ w := by
  intro a ha
  refine wpList_step fun K hK => ?_
  rw [show Region.wanted ⟨d, op, ty, pos, aft, g⟩ (yielded ops a.tmps) = true by rw [ha.yielded]; exact hg, if_pos rfl]
  unfold Oper.wp
  rw [ha.eval, hx]
  exact hK _ _ (k _ (ha.putE hd v))
/-- An operation that hands out nothing. -/
theorem WL.unit {d : Option Tmp} {op : Op} {ty : TypeId} {pos : String} {aft : Array Edge} {g : Option (Nat × Bool)}
    (hg : wantedE ops ρ ⟨d, op, ty, pos, aft, g⟩ = true) (hd : fits N d = true) {w' : World}
    (hx : (execOp ρ.ev ⟨d, op, ty, pos, aft, g⟩).run P w = .ok .skip w') (k : WL P N ops Q rest (putE ρ d undef) w') :
    WL P N ops Q (⟨d, op, ty, pos, aft, g⟩ :: rest) ρ w := by
  intro a ha
  refine wpList_step fun K hK => ?_
  rw [show Region.wanted ⟨d, op, ty, pos, aft, g⟩ (yielded ops a.tmps) = true by rw [ha.yielded]; exact hg, if_pos rfl]
  unfold Oper.wp
  rw [ha.eval, hx]
  exact hK _ _ (k _ (ha.putE hd undef))
/-- A call of a Go function. -/
theorem WL.enter {d : Option Tmp} {op : Op} {ty : TypeId} {pos : String} {aft : Array Edge} {g : Option (Nat × Bool)} {f : FuncId} {args : Array Value} {R : Value → World → Prop}
    (hg : wantedE ops ρ ⟨d, op, ty, pos, aft, g⟩ = true) (hd : fits N d = true) {w' : World}
    (hx : (execOp ρ.ev ⟨d, op, ty, pos, aft, g⟩).run P w = .ok (.enter f args) w')
    (hc : Calls P f args w' fun e w'' => ∃ v, e = .returned v ∧ R v w'')
    (k : ∀ v w'', R v w'' → WL P N ops Q rest (putE ρ d v) w'') :
    WL P N ops Q (⟨d, op, ty, pos, aft, g⟩ :: rest) ρ w := by
  intro a ha
  refine wpList_step fun K hK => ?_
  rw [show Region.wanted ⟨d, op, ty, pos, aft, g⟩ (yielded ops a.tmps) = true by rw [ha.yielded]; exact hg, if_pos rfl]
  unfold Oper.wp
  rw [ha.eval, hx, Oper.upon_enter]
  refine hc.mono ?_
  rintro e w'' ⟨v, rfl, hR⟩
  exact hK _ _ (k v w'' hR _ (ha.putE hd v))
/-- An operation whose guard is not met. -/
theorem WL.pass {d : Option Tmp} {op : Op} {ty : TypeId} {pos : String} {aft : Array Edge} {g : Option (Nat × Bool)}
    (hg : wantedE ops ρ ⟨d, op, ty, pos, aft, g⟩ = false) (hd : fits N d = true) (k : WL P N ops Q rest (putE ρ d undef) w) :
    WL P N ops Q (⟨d, op, ty, pos, aft, g⟩ :: rest) ρ w := by
  intro a ha
  refine wpList_step fun K hK => ?_
  rw [show Region.wanted ⟨d, op, ty, pos, aft, g⟩ (yielded ops a.tmps) = false by rw [ha.yielded]; exact hg, if_neg (by simp)]
  exact hK _ _ (k _ (ha.putE hd undef))
end

/-! A call, by its body. -/
def resOk (P : Program) (fn : Func) (N : Nat) (ρ : Env) (w : World) (v : Value) : Prop := ∀ a, Agree N a ρ → (results fn a.tmps).run P w = .ok v w
def bodyQ (P : Program) (fn : Func) (N : Nat) (R : Value → World → Prop) : QE := fun
  | .normal, ρ, w | .ret, ρ, w => ∃ v, resOk P fn N ρ w v ∧ R v w
  | _, _, _ => False
def argE (args : List Value) : Env := fun i => args.getD i undef
theorem calls_of_W {P : Program} {f : FuncId} {fn : Func} {c : Code} {args : List Value} {w : World} {R : Value → World → Prop}
    (hf : P.funcs[f]? = some fn) (hb : fn.body = some c) {N : Nat} (hN : fn.ntmps = N) (hl : Nat.ble args.length N = true)
    (h : W P N c (bodyQ P fn N R) (argE args) w) : Calls P f args.toArray w fun e w' => ∃ v, e = .returned v ∧ R v w' := by
  refine calls_of_wp hf hb ?_
  have hl' : args.length ≤ N := by simpa using hl
  have hA : Agree N { tmps := args.toArray ++ Array.replicate (fn.ntmps - args.toArray.size) undef, defers := [] } (argE args) := by
    refine ⟨by simp [hN]; omega, fun i => ?_, rfl⟩
    simp only [argE, Array.getD_eq_getD_getElem?, Array.getElem?_append, List.size_toArray, Array.getElem?_replicate, List.getElem?_toArray, List.getD_eq_getElem?_getD]
    split
    · rfl
    · rename_i hi
      rw [List.getElem?_eq_none (by omega)]
      split <;> rfl
  refine wp_mono (h _ hA) ?_
  rintro e a w ⟨ρ, hρ, q⟩
  cases e with
  | normal => obtain ⟨v, hv, hR⟩ := q; exact ⟨hρ.defers, v, hv a hρ, v, rfl, hR⟩
  | ret => obtain ⟨v, hv, hR⟩ := q; exact ⟨hρ.defers, v, hv a hρ, v, rfl, hR⟩
  | exit => exact q.elim
  | goto => exact q.elim
  | panic => exact q.elim
  | outgrown => exact q.elim
theorem run_bind {α β : Type} {P : Program} {w w' : World} {s : Sem α} {f : α → Sem β} {x : α} (h : s.run P w = .ok x w') : (s >>= f).run P w = (f x).run P w' := by
  have e := Sem.run_bind' P s f w
  rw [h] at e
  exact e
theorem run_pure {α : Type} (P : Program) (w : World) (x : α) : (pure x : Sem α).run P w = .ok x w := rfl

/-- What a result's variable holds. -/
def resVal (P : Program) (ρ : Env) (w : World) (v : Value) : ResultVar → Prop
  | .tmp t => ρ t = v
  | .cell a t => ∃ ad, ρ a = .pointer (some ad) ∧ (loadVar t ad).run P w = .ok v w
def resVar (tmps : Array Value) : ResultVar → Sem Value
  | .tmp t => pure (tmps.getD t undef)
  | .cell a t => do loadVar t (← asAddr (tmps.getD a undef))
theorem resVar_run {P : Program} {N : Nat} {a : Act} {ρ : Env} {w : World} {v : Value} {r : ResultVar} (ha : Agree N a ρ) (h : resVal P ρ w v r) : (resVar a.tmps r).run P w = .ok v w := by
  cases r with
  | tmp t => rw [resVar, ha.get t, show ρ t = v from h]; rfl
  | cell p t =>
    obtain ⟨ad, h1, h2⟩ := h
    rw [resVar, ha.get p, h1]
    exact (run_bind (by rfl)).trans h2
theorem resOk_one {P : Program} {fn : Func} {N : Nat} {ρ : Env} {w : World} {v : Value} {r : ResultVar} (h : fn.results = #[r]) (hv : resVal P ρ w v r) : resOk P fn N ρ w v := by
  intro a ha
  have h1 := resVar_run ha hv
  unfold results
  rw [h, List.mapM_toArray]
  have e : (List.mapM (resVar a.tmps) [r]).run P w = .ok [v] w := by
    rw [List.mapM_cons]
    exact (run_bind h1).trans rfl
  exact (run_bind ((run_bind e).trans rfl)).trans rfl
theorem resOk_two {P : Program} {fn : Func} {N : Nat} {ρ : Env} {w : World} {v v2 : Value} {r r2 : ResultVar} (h : fn.results = #[r, r2]) (hv : resVal P ρ w v r) (hv2 : resVal P ρ w v2 r2) : resOk P fn N ρ w (.tuple #[v, v2]) := by
  intro a ha
  have h1 := resVar_run ha hv
  have h2 := resVar_run ha hv2
  unfold results
  rw [h, List.mapM_toArray]
  have e : (List.mapM (resVar a.tmps) [r, r2]).run P w = .ok [v, v2] w := by
    rw [List.mapM_cons, List.mapM_cons]
    exact (run_bind h1).trans ((run_bind ((run_bind h2).trans rfl)).trans rfl)
  exact (run_bind ((run_bind e).trans rfl)).trans rfl
theorem resOk_three {P : Program} {fn : Func} {N : Nat} {ρ : Env} {w : World} {v v2 v3 : Value} {r r2 r3 : ResultVar} (h : fn.results = #[r, r2, r3]) (hv : resVal P ρ w v r) (hv2 : resVal P ρ w v2 r2) (hv3 : resVal P ρ w v3 r3) : resOk P fn N ρ w (.tuple #[v, v2, v3]) := by
  intro a ha
  have h1 := resVar_run ha hv
  have h2 := resVar_run ha hv2
  have h3 := resVar_run ha hv3
  unfold results
  rw [h, List.mapM_toArray]
  have e : (List.mapM (resVar a.tmps) [r, r2, r3]).run P w = .ok [v, v2, v3] w := by
    rw [List.mapM_cons, List.mapM_cons, List.mapM_cons]
    exact (run_bind h1).trans ((run_bind ((run_bind h2).trans ((run_bind ((run_bind h3).trans rfl)).trans rfl))).trans rfl)
  exact (run_bind ((run_bind e).trans rfl)).trans rfl
theorem resOk_none {P : Program} {fn : Func} {N : Nat} {ρ : Env} {w : World} (h : fn.results = #[]) : resOk P fn N ρ w (.tuple #[]) := by
  intro a ha
  unfold results
  rw [h, List.mapM_toArray]
  exact (run_bind ((run_bind (by rfl)).trans rfl)).trans rfl
end Go.Proofs.YtbbeobiampbddaaL
