/- What the row leans on, as few texts. -/
import Derived.WalkKit
import Derived.KernelRfl
import Derived.Laws.AppendOwn
import Derived.Below
import Derived.Maps.AppendAt
import Derived.Laws.OwnMore
import Derived.Deep.Upon
import Derived.RegionTactic
import Derived.Laws.StructEq
import Derived.Laws.Slices
import Derived.Maps.RangeRun
import Derived.ProofKit
import Derived.OpenShut
import Derived.ChangeOld
import Derived.ChangeArms
import Derived.Sort.Statements
import Derived.Laws.BytesArg
set_option linter.unusedVariables false
set_option linter.unusedSimpArgs false
namespace Go.Proofs.YthcohhpmpdijoaaDoorL
open Go Go.RowKit

abbrev Env := Nat → Value
def upd (ρ : Env) (d : Nat) (v : Value) : Env := fun i => bif Nat.beq i d then v else ρ i
def Env.ev (ρ : Env) : Operand → Value
  | .tmp t => ρ t
  | .const v => v
  | .global g => .pointer (some ⟨g, 0, none⟩)
  | .func f => .func (.func f) #[] #[]

theorem upd_same (ρ : Env) (d : Nat) (v : Value) : upd ρ d v d = v := by simp [upd]
theorem upd_ne (ρ : Env) {d i : Nat} (v : Value) (h : i ≠ d) : upd ρ d v i = ρ i := by
  have : Nat.beq i d = false := by cases hb : Nat.beq i d with
    | false => rfl
    | true => exact absurd (Nat.eq_of_beq_eq_true hb) h
  simp [upd, this]

structure Agree (N : Nat) (a : Act) (ρ : Env) : Prop where
  size : a.tmps.size = N
  get : ∀ i, a.tmps.getD i undef = ρ i
  defers : a.defers = []

theorem Agree.eval {N : Nat} {a : Act} {ρ : Env} (h : Agree N a ρ) : a.eval = ρ.ev := by
  funext x
  cases x <;> simp [Act.eval, Env.ev, ← h.get]

theorem Agree.put {N : Nat} {a : Act} {ρ : Env} (h : Agree N a ρ) {d : Nat} (hd : d < N) (v : Value) : Agree N (a.put (some d) v) (upd ρ d v) := by
  refine ⟨by simp [Act.put, h.size], fun i => ?_, h.defers⟩
  by_cases hi : i = d
  · subst hi
    rw [upd_same]
    have := h.size
    simp [Act.put, Array.getD, this, hd]
  · rw [upd_ne _ _ hi, ← h.get i]
    simp only [Act.put, Array.getD_eq_getD_getElem?]
    rw [Array.getElem?_setIfInBounds_ne (by omega)]

def putE (ρ : Env) : Option Tmp → Value → Env
  | some d, v => upd ρ d v
  | none, _ => ρ

def fits (N : Nat) : Option Tmp → Bool
  | some d => Nat.blt d N
  | none => true

theorem Agree.putE {N : Nat} {a : Act} {ρ : Env} (h : Agree N a ρ) {d : Option Tmp} (hd : fits N d = true) (v : Value) : Agree N (a.put d v) (putE ρ d v) := by
  cases d with
  | none => exact h
  | some d => exact h.put (by simp [fits, Nat.blt] at hd; omega) v

def yld (ops : Array Oper) (ρ : Env) (j : Nat) : Option Bool :=
  match (ops[j]?).bind (·.dst) with
  | some d => (match ρ d with | .bool b => some b | _ => none)
  | none => none

theorem Agree.yielded {N : Nat} {a : Act} {ρ : Env} (h : Agree N a ρ) (ops : Array Oper) : yielded ops a.tmps = yld ops ρ := by
  funext j
  unfold Go.yielded yld
  cases hd : (ops[j]?).bind (·.dst) with
  | none => simp
  | some d =>
    simp only [Option.bind_some]
    rw [← h.get d, Array.getD_eq_getD_getElem?]
    cases a.tmps[d]? with
    | none => simp [undef]
    | some v => cases v <;> simp

abbrev QE := Exit → Env → World → Prop
def lift (N : Nat) (Q : QE) : Exit → Act → World → Prop := fun e a w => ∃ ρ, Agree N a ρ ∧ Q e ρ w

def W (P : Program) (N : Nat) (c : Code) (Q : QE) (ρ : Env) (w : World) : Prop := ∀ a, Agree N a ρ → c.wp P (lift N Q) a w
def WL (P : Program) (N : Nat) (ops : Array Oper) (Q : QE) (l : List Oper) (ρ : Env) (w : World) : Prop :=
  ∀ a, Agree N a ρ → wpList P ops (lift N Q) l a w
def thenQ (K : Env → World → Prop) (Q : QE) : QE := fun
  | .normal, ρ, w => K ρ w
  | e, ρ, w => Q e ρ w
def blockQ (id : Nat) (Q : QE) : QE := fun
  | .exit id', ρ, w => bif Nat.beq id' id then Q .normal ρ w else Q (.exit id') ρ w
  | e, ρ, w => Q e ρ w

section
variable {P : Program} {N : Nat} {Q : QE} {ρ : Env} {w : World} {x y c : Code} {ops : Array Oper} {l rest : List Oper} {o : Oper}

theorem W.mono {Q' : QE} (h : W P N c Q ρ w) (hq : ∀ e ρ w, Q e ρ w → Q' e ρ w) : W P N c Q' ρ w :=
  fun a ha => wp_mono (h a ha) fun e a w ⟨ρ, hρ, q⟩ => ⟨ρ, hρ, hq _ _ _ q⟩

theorem W.seq (h : W P N x (thenQ (W P N y Q) Q) ρ w) : W P N (.seq x y) Q ρ w := by
  intro a ha
  refine wp_seq (wp_mono (h a ha) ?_)
  rintro e a w ⟨ρ, hρ, q⟩
  cases e with
  | normal => exact q a hρ
  | _ => exact ⟨ρ, hρ, q⟩

theorem W.seqK (h : ∀ K : Env → World → Prop, (∀ ρ w, W P N y Q ρ w → K ρ w) → W P N x (thenQ K Q) ρ w) : W P N (.seq x y) Q ρ w :=
  W.seq (h _ fun _ _ h => h)

theorem W.skip (h : Q .normal ρ w) : W P N .skip Q ρ w := fun a ha => wp_skip ⟨ρ, ha, h⟩
theorem W.ret (h : Q .ret ρ w) : W P N .ret Q ρ w := fun a ha => wp_ret ⟨ρ, ha, h⟩
theorem W.exit {id : Nat} (h : Q (.exit id) ρ w) : W P N (.exit id) Q ρ w := fun a ha => wp_exit ⟨ρ, ha, h⟩
theorem W.block {id : Nat} (h : W P N c (blockQ id Q) ρ w) : W P N (.block id c) Q ρ w := by
  intro a ha
  refine wp_block (wp_mono (h a ha) ?_)
  rintro e a w ⟨ρ, hρ, q⟩
  cases e with
  | exit id' =>
    simp only [blockQ] at q
    simp only [Exit.inBlock]
    split <;> rename_i hid
    · subst hid
      rw [show Nat.beq id' id' = true by simp] at q
      exact ⟨ρ, hρ, q⟩
    · rw [show Nat.beq id' id = false by cases hb : Nat.beq id' id with
        | false => rfl
        | true => exact absurd (Nat.eq_of_beq_eq_true hb) hid] at q
      exact ⟨ρ, hρ, q⟩
  | _ => exact ⟨ρ, hρ, q⟩

theorem W.cond {k : Operand} {t : Bool} (hc : ρ.ev k = .bool t) (ht : t = true → W P N x Q ρ w) (hf : t = false → W P N y Q ρ w) : W P N (.cond k x y) Q ρ w := by
  intro a ha
  refine wp_cond (t := t) (by rw [ha.eval]; exact hc) ?_
  cases t with
  | true => exact ht rfl a ha
  | false => exact hf rfl a ha
theorem W.cond_true {k : Operand} (hc : ρ.ev k = .bool true) (h : W P N x Q ρ w) : W P N (.cond k x y) Q ρ w := W.cond hc (fun _ => h) (fun h => by cases h)
theorem W.cond_false {k : Operand} (hc : ρ.ev k = .bool false) (h : W P N y Q ρ w) : W P N (.cond k x y) Q ρ w := W.cond hc (fun h => by cases h) (fun _ => h)

def loopN {σ β : Type} (step : σ → Option (σ ⊕ β)) : Nat → σ → Option β
  | 0, _ => none
  | n + 1, s => match step s with
    | none => none
    | some (.inl s') => loopN step n s'
    | some (.inr b) => some b
theorem loopN_more {σ β : Type} (step : σ → Option (σ ⊕ β)) : ∀ (n m : Nat) (s : σ) (b : β), n ≤ m → loopN step n s = some b → loopN step m s = some b
  | 0, _, _, _, _, h => by simp [loopN] at h
  | n + 1, 0, _, _, hm, _ => by omega
  | n + 1, m + 1, s, b, hm, h => by
    simp only [loopN] at h ⊢
    split at h
    · cases h
    · rename_i s' _
      exact loopN_more step n m s' b (by omega) h
    · exact h
open Classical in
noncomputable def loopO {σ β : Type} (step : σ → Option (σ ⊕ β)) (s : σ) : Option β :=
  if h : ∃ b n, loopN step n s = some b then some h.choose else none
theorem loopO_iff {σ β : Type} {step : σ → Option (σ ⊕ β)} {s : σ} {b : β} : loopO step s = some b ↔ ∃ n, loopN step n s = some b := by
  unfold loopO
  constructor
  · intro h
    split at h
    · rename_i hx
      cases h
      exact hx.choose_spec
    · cases h
  · rintro ⟨n, hn⟩
    have hx : ∃ b n, loopN step n s = some b := ⟨b, n, hn⟩
    rw [dif_pos hx]
    obtain ⟨m, hm⟩ := hx.choose_spec
    rcases Nat.le_total n m with h | h
    · have := loopN_more step n m s b h hn
      rw [hm] at this
      exact this
    · have := loopN_more step m n s _ h hm
      rw [hn] at this
      exact this.symm
theorem loopO_unfold {σ β : Type} (step : σ → Option (σ ⊕ β)) (s : σ) :
    loopO step s = match step s with | none => none | some (.inl s') => loopO step s' | some (.inr b) => some b := by
  cases hs : step s with
  | none =>
    cases hl : loopO step s with
    | none => rfl
    | some b =>
      obtain ⟨n, hn⟩ := loopO_iff.1 hl
      cases n <;> simp [loopN, hs] at hn
  | some o =>
    cases o with
    | inr b => exact loopO_iff.2 ⟨1, by simp [loopN, hs]⟩
    | inl s' =>
      cases hl : loopO step s' with
      | some b =>
        show loopO step s = loopO step s'
        rw [hl]
        obtain ⟨n, hn⟩ := loopO_iff.1 hl
        have e : loopN step (n + 1) s = some b := by unfold loopN; rw [hs]; exact hn
        exact loopO_iff.2 ⟨n + 1, e⟩
      | none =>
        cases hl2 : loopO step s with
        | none => exact hl.symm
        | some b =>
          obtain ⟨n, hn⟩ := loopO_iff.1 hl2
          cases n with
          | zero => simp [loopN] at hn
          | succ n =>
            simp only [loopN, hs] at hn
            have := loopO_iff.2 ⟨n, hn⟩
            rw [hl] at this
            cases this
theorem loopO_next {σ β : Type} {step : σ → Option (σ ⊕ β)} {s s' : σ} (h : step s = some (.inl s')) : loopO step s = loopO step s' := by
  rw [loopO_unfold, h]
theorem loopO_done {σ β : Type} {step : σ → Option (σ ⊕ β)} {s : σ} {b : β} (h : step s = some (.inr b)) : loopO step s = some b := by
  rw [loopO_unfold, h]

theorem W.loop {σ β : Type} {step : σ → Option (σ ⊕ β)} {s0 : σ} {b : β} (hb : loopO step s0 = some b) (I : σ → Env → World → Prop) (h0 : I s0 ρ w)
    (body : ∀ s ρ w o, I s ρ w → step s = some o → (∀ b', o = .inr b' → b' = b) →
      W P N c (thenQ (fun ρ' w' => ∃ s', o = .inl s' ∧ I s' ρ' w') Q) ρ w) : W P N (.loop c) Q ρ w := by
  obtain ⟨n, hn⟩ := loopO_iff.1 hb
  intro a ha
  refine wp_loop_rounds n ?_
  clear hb
  induction n generalizing s0 ρ w a with
  | zero => simp [loopN] at hn
  | succ n ih =>
    rw [rounds_succ]
    simp only [loopN] at hn
    cases hs : step s0 with
    | none => simp [hs] at hn
    | some o =>
      have hbb : ∀ b', o = .inr b' → b' = b := by
        rintro b' rfl
        simpa [hs] using hn
      refine wp_mono (body s0 ρ w o h0 hs hbb a ha) ?_
      rintro e a' w' ⟨ρ', hρ', q⟩
      cases e with
      | normal =>
        obtain ⟨s', rfl, hI⟩ := q
        simp only [hs] at hn
        exact ih hI hn a' hρ'
      | _ => exact ⟨ρ', hρ', q⟩
end

section
variable {P : Program} {N : Nat} {Q : QE} {ρ : Env} {w : World} {ops : Array Oper} {l rest : List Oper} {o : Oper}

theorem W.region {id : Nat} {l : List Oper} (h : WL P N l.toArray Q l ρ w) : W P N (.region id l.toArray false) Q ρ w :=
  fun a ha => wp_region_lit (h a ha)
theorem WL.nil (h : Q .normal ρ w) : WL P N ops Q [] ρ w := fun a ha => wpList_nil ⟨ρ, ha, h⟩

def wantedE (ops : Array Oper) (ρ : Env) (o : Oper) : Bool := Region.wanted o (yld ops ρ)

theorem WL.value {d : Option Tmp} {op : Op} {ty : TypeId} {pos : String} {aft : Array Edge} {g : Option (Nat × Bool)}
    (hg : wantedE ops ρ ⟨d, op, ty, pos, aft, g⟩ = true) (hd : fits N d = true) {v : Value} {w' : World}
    (hx : (execOp ρ.ev ⟨d, op, ty, pos, aft, g⟩).run P w = .ok (.value v) w') (k : WL P N ops Q rest (putE ρ d v) w') :
    WL P N ops Q (⟨d, op, ty, pos, aft, g⟩ :: rest) ρ w := by
  intro a ha
  refine wpList_step fun K hK => ?_
  rw [show Region.wanted ⟨d, op, ty, pos, aft, g⟩ (yielded ops a.tmps) = true by rw [ha.yielded]; exact hg, if_pos rfl]
  unfold Oper.wp
  rw [ha.eval, hx]
  exact hK _ _ (k _ (ha.putE hd v))
theorem WL.unit {d : Option Tmp} {op : Op} {ty : TypeId} {pos : String} {aft : Array Edge} {g : Option (Nat × Bool)}
    (hg : wantedE ops ρ ⟨d, op, ty, pos, aft, g⟩ = true) (hd : fits N d = true) {w' : World}
    (hx : (execOp ρ.ev ⟨d, op, ty, pos, aft, g⟩).run P w = .ok .skip w') (k : WL P N ops Q rest (putE ρ d undef) w') :
    WL P N ops Q (⟨d, op, ty, pos, aft, g⟩ :: rest) ρ w := by
  intro a ha
  refine wpList_step fun K hK => ?_
  rw [show Region.wanted ⟨d, op, ty, pos, aft, g⟩ (yielded ops a.tmps) = true by rw [ha.yielded]; exact hg, if_pos rfl]
  unfold Oper.wp
  rw [ha.eval, hx]
  exact hK _ _ (k _ (ha.putE hd undef))
theorem WL.enter {d : Option Tmp} {op : Op} {ty : TypeId} {pos : String} {aft : Array Edge} {g : Option (Nat × Bool)} {f : FuncId} {args : Array Value} {R : Value → World → Prop}
    (hg : wantedE ops ρ ⟨d, op, ty, pos, aft, g⟩ = true) (hd : fits N d = true) {w' : World}
    (hx : (execOp ρ.ev ⟨d, op, ty, pos, aft, g⟩).run P w = .ok (.enter f args) w')
    (hc : Calls P f args w' fun e w'' => ∃ v, e = .returned v ∧ R v w'')
    (k : ∀ v w'', R v w'' → WL P N ops Q rest (putE ρ d v) w'') :
    WL P N ops Q (⟨d, op, ty, pos, aft, g⟩ :: rest) ρ w := by
  intro a ha
  refine wpList_step fun K hK => ?_
  rw [show Region.wanted ⟨d, op, ty, pos, aft, g⟩ (yielded ops a.tmps) = true by rw [ha.yielded]; exact hg, if_pos rfl]
  unfold Oper.wp
  rw [ha.eval, hx, Oper.upon_enter]
  refine hc.mono ?_
  rintro e w'' ⟨v, rfl, hR⟩
  exact hK _ _ (k v w'' hR _ (ha.putE hd v))
theorem WL.pass {d : Option Tmp} {op : Op} {ty : TypeId} {pos : String} {aft : Array Edge} {g : Option (Nat × Bool)}
    (hg : wantedE ops ρ ⟨d, op, ty, pos, aft, g⟩ = false) (hd : fits N d = true) (k : WL P N ops Q rest (putE ρ d undef) w) :
    WL P N ops Q (⟨d, op, ty, pos, aft, g⟩ :: rest) ρ w := by
  intro a ha
  refine wpList_step fun K hK => ?_
  rw [show Region.wanted ⟨d, op, ty, pos, aft, g⟩ (yielded ops a.tmps) = false by rw [ha.yielded]; exact hg, if_neg (by simp)]
  exact hK _ _ (k _ (ha.putE hd undef))
end

def resOk (P : Program) (fn : Func) (N : Nat) (ρ : Env) (w : World) (v : Value) : Prop := ∀ a, Agree N a ρ → (results fn a.tmps).run P w = .ok v w
def bodyQ (P : Program) (fn : Func) (N : Nat) (R : Value → World → Prop) : QE := fun
  | .normal, ρ, w | .ret, ρ, w => ∃ v, resOk P fn N ρ w v ∧ R v w
  | _, _, _ => False
def argE (args : List Value) : Env := fun i => args.getD i undef
theorem calls_of_W {P : Program} {f : FuncId} {fn : Func} {c : Code} {args : List Value} {w : World} {R : Value → World → Prop}
    (hf : P.funcs[f]? = some fn) (hb : fn.body = some c) {N : Nat} (hN : fn.ntmps = N) (hl : Nat.ble args.length N = true)
    (h : W P N c (bodyQ P fn N R) (argE args) w) : Calls P f args.toArray w fun e w' => ∃ v, e = .returned v ∧ R v w' := by
  refine calls_of_wp hf hb ?_
  have hl' : args.length ≤ N := by simpa using hl
  have hA : Agree N { tmps := args.toArray ++ Array.replicate (fn.ntmps - args.toArray.size) undef, defers := [] } (argE args) := by
    refine ⟨by simp [hN]; omega, fun i => ?_, rfl⟩
    simp only [argE, Array.getD_eq_getD_getElem?, Array.getElem?_append, List.size_toArray, Array.getElem?_replicate, List.getElem?_toArray, List.getD_eq_getElem?_getD]
    split
    · rfl
    · rename_i hi
      rw [List.getElem?_eq_none (by omega)]
      split <;> rfl
  refine wp_mono (h _ hA) ?_
  rintro e a w ⟨ρ, hρ, q⟩
  cases e with
  | normal => obtain ⟨v, hv, hR⟩ := q; exact ⟨hρ.defers, v, hv a hρ, v, rfl, hR⟩
  | ret => obtain ⟨v, hv, hR⟩ := q; exact ⟨hρ.defers, v, hv a hρ, v, rfl, hR⟩
  | exit => exact q.elim
  | goto => exact q.elim
  | panic => exact q.elim
  | outgrown => exact q.elim
theorem run_bind {α β : Type} {P : Program} {w w' : World} {s : Sem α} {f : α → Sem β} {x : α} (h : s.run P w = .ok x w') : (s >>= f).run P w = (f x).run P w' := by
  have e := Sem.run_bind' P s f w
  rw [h] at e
  exact e
def resVal (P : Program) (ρ : Env) (w : World) (v : Value) : ResultVar → Prop
  | .tmp t => ρ t = v
  | .cell a t => ∃ ad, ρ a = .pointer (some ad) ∧ (loadVar t ad).run P w = .ok v w
def resVar (tmps : Array Value) : ResultVar → Sem Value
  | .tmp t => pure (tmps.getD t undef)
  | .cell a t => do loadVar t (← asAddr (tmps.getD a undef))
theorem resVar_run {P : Program} {N : Nat} {a : Act} {ρ : Env} {w : World} {v : Value} {r : ResultVar} (ha : Agree N a ρ) (h : resVal P ρ w v r) : (resVar a.tmps r).run P w = .ok v w := by
  cases r with
  | tmp t => rw [resVar, ha.get t, show ρ t = v from h]; rfl
  | cell p t =>
    obtain ⟨ad, h1, h2⟩ := h
    rw [resVar, ha.get p, h1]
    exact (run_bind (by rfl)).trans h2
theorem resOk_one {P : Program} {fn : Func} {N : Nat} {ρ : Env} {w : World} {v : Value} {r : ResultVar} (h : fn.results = #[r]) (hv : resVal P ρ w v r) : resOk P fn N ρ w v := by
  intro a ha
  have h1 := resVar_run ha hv
  unfold results
  rw [h, List.mapM_toArray]
  have e : (List.mapM (resVar a.tmps) [r]).run P w = .ok [v] w := by
    rw [List.mapM_cons]
    exact (run_bind h1).trans rfl
  exact (run_bind ((run_bind e).trans rfl)).trans rfl
theorem resOk_two {P : Program} {fn : Func} {N : Nat} {ρ : Env} {w : World} {v v2 : Value} {r r2 : ResultVar} (h : fn.results = #[r, r2]) (hv : resVal P ρ w v r) (hv2 : resVal P ρ w v2 r2) : resOk P fn N ρ w (.tuple #[v, v2]) := by
  intro a ha
  have h1 := resVar_run ha hv
  have h2 := resVar_run ha hv2
  unfold results
  rw [h, List.mapM_toArray]
  have e : (List.mapM (resVar a.tmps) [r, r2]).run P w = .ok [v, v2] w := by
    rw [List.mapM_cons, List.mapM_cons]
    exact (run_bind h1).trans ((run_bind ((run_bind h2).trans rfl)).trans rfl)
  exact (run_bind ((run_bind e).trans rfl)).trans rfl
theorem resOk_three {P : Program} {fn : Func} {N : Nat} {ρ : Env} {w : World} {v v2 v3 : Value} {r r2 r3 : ResultVar} (h : fn.results = #[r, r2, r3]) (hv : resVal P ρ w v r) (hv2 : resVal P ρ w v2 r2) (hv3 : resVal P ρ w v3 r3) : resOk P fn N ρ w (.tuple #[v, v2, v3]) := by
  intro a ha
  have h1 := resVar_run ha hv
  have h2 := resVar_run ha hv2
  have h3 := resVar_run ha hv3
  unfold results
  rw [h, List.mapM_toArray]
  have e : (List.mapM (resVar a.tmps) [r, r2, r3]).run P w = .ok [v, v2, v3] w := by
    rw [List.mapM_cons, List.mapM_cons, List.mapM_cons]
    exact (run_bind h1).trans ((run_bind ((run_bind h2).trans ((run_bind ((run_bind h3).trans rfl)).trans rfl))).trans rfl)
  exact (run_bind ((run_bind e).trans rfl)).trans rfl
end Go.Proofs.YthcohhpmpdijoaaDoorL
set_option linter.unusedVariables false
set_option linter.unusedSimpArgs false
namespace Go.Proofs.YthcohhpmpdijoaaDoorL
open Go Go.RowKit

structure Ty (α : Type) where
  sz : Nat
  agg : Bool
  R : (Nat → Prop) → World → α → List Value → Prop
  len : ∀ {ok : Nat → Prop} {w : World} {x : α} {cs : List Value}, R ok w x cs → cs.length = sz
  one : ∀ {ok : Nat → Prop} {w : World} {x : α} {cs : List Value}, R ok w x cs → ∀ u ∈ cs, u.oneCell' = true
  move : ∀ {ok ok' : Nat → Prop} {w w' : World} {x : α} {cs : List Value}, R ok w x cs →
    (∀ b, ok b → b < w.heap.size → w'.heap[b]? = w.heap[b]? ∧ ok' b) → R ok' w' x cs

def Ty.V {α : Type} (T : Ty α) (ok : Nat → Prop) (w : World) (x : α) (v : Value) : Prop :=
  ∃ cs, T.R ok w x cs ∧ v = bif T.agg then .agg cs.toArray else cs.getD 0 undef
theorem Ty.V.move {α : Type} {T : Ty α} {ok ok' : Nat → Prop} {w w' : World} {x : α} {v : Value} (h : T.V ok w x v)
    (hm : ∀ b, ok b → b < w.heap.size → w'.heap[b]? = w.heap[b]? ∧ ok' b) : T.V ok' w' x v := by
  obtain ⟨cs, h, e⟩ := h
  exact ⟨cs, T.move h hm, e⟩

def tInt (k : IntKind) : Ty Int where
  sz := 1
  agg := false
  R := fun _ _ x cs => cs = [.int k x]
  len := by rintro _ _ _ _ rfl; rfl
  one := by rintro _ _ _ _ rfl u hu; simp at hu; subst hu; rfl
  move := fun h _ => h
def tBool : Ty Bool where
  sz := 1
  agg := false
  R := fun _ _ x cs => cs = [.bool x]
  len := by rintro _ _ _ _ rfl; rfl
  one := by rintro _ _ _ _ rfl u hu; simp at hu; subst hu; rfl
  move := fun h _ => h
def bstr (l : List UInt8) : Value := .string ⟨l.toArray⟩
def tStr : Ty (List UInt8) where
  sz := 1
  agg := false
  R := fun _ _ x cs => cs = [bstr x]
  len := by rintro _ _ _ _ rfl; rfl
  one := by rintro _ _ _ _ rfl u hu; simp at hu; subst hu; rfl
  move := fun h _ => h

theorem tInt_V {k : IntKind} {ok : Nat → Prop} {w : World} {x : Int} {v : Value} : (tInt k).V ok w x v ↔ v = .int k x :=
  ⟨by rintro ⟨_, rfl, h⟩; exact h, fun h => ⟨_, rfl, h⟩⟩
theorem tBool_V {ok : Nat → Prop} {w : World} {x : Bool} {v : Value} : tBool.V ok w x v ↔ v = .bool x :=
  ⟨by rintro ⟨_, rfl, h⟩; exact h, fun h => ⟨_, rfl, h⟩⟩
theorem tStr_V {ok : Nat → Prop} {w : World} {x : List UInt8} {v : Value} : tStr.V ok w x v ↔ v = bstr x :=
  ⟨by rintro ⟨_, rfl, h⟩; exact h, fun h => ⟨_, rfl, h⟩⟩

def Row {α : Type} (T : Ty α) (ok : Nat → Prop) (w : World) (a : Option Addr) (xs : List α) : Prop :=
  xs = [] ∨ ∃ g off, a = some ⟨g, off, none⟩ ∧ ok g ∧ g < w.heap.size ∧
    ∀ j x, xs[j]? = some x → ∃ cs, T.R ok w x cs ∧ ∀ i u, cs[i]? = some u → w.cell? ⟨g, off + j * T.sz + i, none⟩ = some u
theorem cell_same {w w' : World} {g i : Nat} (h : w'.heap[g]? = w.heap[g]?) : w'.cell? ⟨g, i, none⟩ = w.cell? ⟨g, i, none⟩ := by
  simp only [World.cell?, h]
theorem lt_of_some {w : World} {g : Nat} {o : Obj} (h : w.heap[g]? = some o) : g < w.heap.size := (Array.getElem?_eq_some_iff.1 h).1
theorem Row.move {α : Type} {T : Ty α} {ok ok' : Nat → Prop} {w w' : World} {a : Option Addr} {xs : List α} (h : Row T ok w a xs)
    (hm : ∀ b, ok b → b < w.heap.size → w'.heap[b]? = w.heap[b]? ∧ ok' b) : Row T ok' w' a xs := by
  rcases h with h | ⟨g, off, rfl, hg, hlt, hc⟩
  · exact .inl h
  · obtain ⟨hs, hg'⟩ := hm g hg hlt
    refine .inr ⟨g, off, rfl, hg', ?_, fun j x hx => ?_⟩
    · have : w.heap[g]? = some w.heap[g] := Array.getElem?_eq_getElem hlt
      exact lt_of_some (hs.trans this)
    · obtain ⟨cs, hR, hcs⟩ := hc j x hx
      exact ⟨cs, T.move hR hm, fun i u hu => (cell_same hs).trans (hcs i u hu)⟩

def tSlice {α : Type} (T : Ty α) : Ty (List α) where
  sz := 1
  agg := false
  R := fun ok w xs cs => ∃ a c, cs = [.slice a xs.length c] ∧ xs.length ≤ c ∧ Row T ok w a xs
  len := by rintro _ _ _ _ ⟨a, c, rfl, _⟩; rfl
  one := by rintro _ _ _ _ ⟨a, c, rfl, _⟩ u hu; simp at hu; subst hu; rfl
  move := by
    rintro ok ok' w w' xs cs ⟨a, c, rfl, hc, hr⟩ hm
    exact ⟨a, c, rfl, hc, hr.move hm⟩
theorem tSlice_V {α : Type} {T : Ty α} {ok : Nat → Prop} {w : World} {xs : List α} {v : Value} :
    (tSlice T).V ok w xs v ↔ ∃ a c, v = .slice a xs.length c ∧ xs.length ≤ c ∧ Row T ok w a xs :=
  ⟨by rintro ⟨_, ⟨a, c, rfl, hc, hr⟩, h⟩; exact ⟨a, c, h, hc, hr⟩, by rintro ⟨a, c, rfl, hc, hr⟩; exact ⟨_, ⟨a, c, rfl, hc, hr⟩, rfl⟩⟩

def tPair {α β : Type} (A : Ty α) (B : Ty β) : Ty (α × β) where
  sz := A.sz + B.sz
  agg := true
  R := fun ok w x cs => ∃ c1 c2, cs = c1 ++ c2 ∧ A.R ok w x.1 c1 ∧ B.R ok w x.2 c2
  len := by rintro _ _ _ _ ⟨c1, c2, rfl, h1, h2⟩; rw [List.length_append, A.len h1, B.len h2]
  one := by
    rintro _ _ _ _ ⟨c1, c2, rfl, h1, h2⟩ u hu
    rcases List.mem_append.1 hu with h | h
    · exact A.one h1 u h
    · exact B.one h2 u h
  move := by
    rintro _ _ _ _ _ _ ⟨c1, c2, rfl, h1, h2⟩ hm
    exact ⟨c1, c2, rfl, A.move h1 hm, B.move h2 hm⟩
def tIso {α β : Type} (B : Ty β) (f : α → β) : Ty α where
  sz := B.sz
  agg := true
  R := fun ok w x cs => B.R ok w (f x) cs
  len := fun h => B.len h
  one := fun h => B.one h
  move := fun h hm => B.move h hm

structure Fld {α β : Type} (T : Ty α) (F : Ty β) (off : Nat) (get : α → β) (set : α → β → α) : Prop where
  le : off + F.sz ≤ T.sz
  get_ : ∀ {ok : Nat → Prop} {w : World} {x : α} {cs : List Value}, T.R ok w x cs → F.R ok w (get x) ((cs.drop off).take F.sz)
  set_ : ∀ {ok : Nat → Prop} {w : World} {x : α} {cs : List Value} {y : β} {ds : List Value}, T.R ok w x cs → F.R ok w y ds →
    T.R ok w (set x y) (cs.take off ++ ds ++ cs.drop (off + F.sz))

structure It where
  {α : Type}
  T : Ty α
  x : α
  at_ : Value ⊕ Addr
def It.holds (it : It) (ok : Nat → Prop) (w : World) : Prop :=
  match it.at_ with
  | .inl v => it.T.V ok w it.x v
  | .inr ad => ad.spot = none ∧ ok ad.block ∧ ad.block < w.heap.size ∧ ∃ cs, it.T.R ok w it.x cs ∧ ∀ i u, cs[i]? = some u → w.cell? ⟨ad.block, ad.off + i, none⟩ = some u
abbrev vl {α : Type} (T : Ty α) (x : α) (v : Value) : It := ⟨T, x, .inl v⟩
abbrev pl {α : Type} (T : Ty α) (x : α) (ad : Addr) : It := ⟨T, x, .inr ad⟩
theorem It.holds.move {it : It} {ok ok' : Nat → Prop} {w w' : World} (h : it.holds ok w)
    (hm : ∀ b, ok b → b < w.heap.size → w'.heap[b]? = w.heap[b]? ∧ ok' b) : it.holds ok' w' := by
  obtain ⟨T, x, a⟩ := it
  cases a with
  | inl v => exact Ty.V.move h hm
  | inr ad =>
    obtain ⟨h0, hg, hlt, cs, hR, hc⟩ := h
    obtain ⟨hs, hg'⟩ := hm _ hg hlt
    refine ⟨h0, hg', lt_of_some (hs.trans (Array.getElem?_eq_getElem hlt)), cs, T.move hR hm, fun i u hu => (cell_same hs).trans (hc i u hu)⟩

def All (ok : Nat → Prop) (w : World) (Γ : List It) : Prop := ∀ it ∈ Γ, it.holds ok w
theorem All.get {ok : Nat → Prop} {w : World} {Γ : List It} (h : All ok w Γ) (i : Nat) {it : It} (hi : Γ[i]? = some it) : it.holds ok w :=
  h it (List.mem_of_getElem? hi)
theorem All.move {Γ : List It} {ok ok' : Nat → Prop} {w w' : World} (h : All ok w Γ)
    (hm : ∀ b, ok b → b < w.heap.size → w'.heap[b]? = w.heap[b]? ∧ ok' b) : All ok' w' Γ := fun it hi => (h it hi).move hm

structure LObj where
  H : (Nat → Prop) → List Nat → World → Prop
  fn : ∀ {ok ok' : Nat → Prop} {bs bs' : List Nat} {w : World}, H ok bs w → H ok' bs' w → bs = bs'
  lt : ∀ {ok : Nat → Prop} {bs : List Nat} {w : World}, H ok bs w → ∀ b ∈ bs, b < w.heap.size
  move : ∀ {ok ok' : Nat → Prop} {bs : List Nat} {w w' : World}, H ok bs w → (∀ b ∈ bs, w'.heap[b]? = w.heap[b]?) →
    (∀ b, ok b → b < w.heap.size → w'.heap[b]? = w.heap[b]? ∧ ok' b) → H ok' bs w'
def blk (g : Nat) (T : TypeId) (cs : List Value) : LObj where
  H := fun _ bs w => bs = [g] ∧ w.heap[g]? = some (.cells cs.toArray T (0, 0))
  fn := by rintro _ _ _ _ _ ⟨rfl, _⟩ ⟨rfl, _⟩; rfl
  lt := by rintro _ _ _ ⟨rfl, h⟩ b hb; simp at hb; subst hb; exact lt_of_some h
  move := by rintro _ _ _ _ _ ⟨rfl, h⟩ hk _; exact ⟨rfl, (hk g (by simp)).trans h⟩

def Cells {α : Type} (T : Ty α) (ok : Nat → Prop) (w : World) (xs : List α) (cs : List Value) : Prop :=
  cs.length = xs.length * T.sz ∧ ∀ j x, xs[j]? = some x → T.R ok w x ((cs.drop (j * T.sz)).take T.sz)
theorem Cells.move {α : Type} {T : Ty α} {ok ok' : Nat → Prop} {w w' : World} {xs : List α} {cs : List Value} (h : Cells T ok w xs cs)
    (hm : ∀ b, ok b → b < w.heap.size → w'.heap[b]? = w.heap[b]? ∧ ok' b) : Cells T ok' w' xs cs :=
  ⟨h.1, fun j x hx => T.move (h.2 j x hx) hm⟩
def slCap : Value → Nat
  | .slice _ _ c => c
  | _ => 0
def own {α : Type} (T : Ty α) (E : TypeId) (v : Value) (xs : List α) : LObj where
  H := fun ok bs w => (slCap v = 0 ∧ bs = [] ∧ xs = [] ∧ ∃ a, v = .slice a 0 0) ∨ (0 < slCap v ∧ ∃ cs, bs = v.ownBlock.toList ∧ w.ownsRow 0 E T.sz v xs.length cs ∧ Cells T ok w xs cs)
  fn := by
    rintro _ _ _ _ _ (⟨h0, rfl, _⟩ | ⟨h0, _, rfl, _⟩) (⟨h0', rfl, _⟩ | ⟨h0', _, rfl, _⟩)
    · rfl
    · omega
    · omega
    · rfl
  lt := by
    rintro _ _ w (⟨_, rfl, _⟩ | ⟨_, cs, rfl, h, _⟩) b hb
    · cases hb
    · exact (h.lt b (by simpa using hb)).2
  move := by
    rintro _ _ _ w w' (h | ⟨h0, cs, rfl, h, hc⟩) hk hm
    · exact .inl h
    · refine .inr ⟨h0, cs, rfl, ⟨h.1, ?_⟩, hc.move hm⟩
      rcases h.2 with hn | ⟨g, cap, cur, rfl, hb, hg, hrest⟩
      · exact .inl hn
      · exact .inr ⟨g, cap, cur, rfl, hb, (hk g (by simp [Value.ownBlock])).trans hg, hrest⟩

def Own (ok : Nat → Prop) (w : World) : List LObj → List (List Nat) → Prop
  | [], [] => True
  | o :: Λ, bs :: bss => o.H ok bs w ∧ Own ok w Λ bss
  | _, _ => False
structure Off (bs : List Nat) (w w' : World) : Prop where
  os : w'.os = w.os
  tape : w'.tape = w.tape
  output : w'.output = w.output
  size : w.heap.size ≤ w'.heap.size
  block : ∀ k, k < w.heap.size → k ∉ bs → w'.heap[k]? = w.heap[k]?
structure Base where
  w : World
  bs : List Nat
abbrev bz (w : World) : Base := ⟨w, []⟩
def reg (ok0 : Nat → Prop) (w0 : Base) (L : List Nat) : Nat → Prop := fun b => (ok0 b ∨ b ∈ w0.bs ∨ w0.w.heap.size ≤ b) ∧ b ∉ L

def St (ok0 : Nat → Prop) (w0 : Base) (w : World) (Γ : List It) (Λ : List LObj) : Prop :=
  Off w0.bs w0.w w ∧ ∃ bss : List (List Nat), bss.flatten.Nodup ∧ (∀ b ∈ bss.flatten, (b ∈ w0.bs ∨ w0.w.heap.size ≤ b) ∧ b < w.heap.size) ∧
    Own (reg ok0 w0 bss.flatten) w Λ bss ∧ All (reg ok0 w0 bss.flatten) w Γ

theorem Own.move {ok ok' : Nat → Prop} {w w' : World} (hm : ∀ b, ok b → b < w.heap.size → w'.heap[b]? = w.heap[b]? ∧ ok' b) : ∀ {Λ : List LObj} {bss : List (List Nat)},
    Own ok w Λ bss → (∀ b ∈ bss.flatten, w'.heap[b]? = w.heap[b]?) → Own ok' w' Λ bss
  | [], [], _, _ => trivial
  | o :: Λ, bs :: bss, ⟨h, hr⟩, hk => ⟨o.move h (fun b hb => hk b (by simp [hb])) hm, Own.move hm hr fun b hb => hk b (by
      rw [List.flatten_cons]; exact List.mem_append.2 (.inr hb))⟩
  | [], _ :: _, h, _ => h.elim
  | _ :: _, [], h, _ => h.elim
theorem Own.lt {ok : Nat → Prop} {w : World} : ∀ {Λ : List LObj} {bss : List (List Nat)}, Own ok w Λ bss → ∀ b ∈ bss.flatten, b < w.heap.size
  | [], [], _, _, hb => by simp at hb
  | o :: Λ, bs :: bss, ⟨h, hr⟩, b, hb => by
    rw [List.flatten_cons] at hb
    rcases List.mem_append.1 hb with hb | hb
    · exact o.lt h b hb
    · exact Own.lt hr b hb
  | [], _ :: _, h, _, _ => h.elim
  | _ :: _, [], h, _, _ => h.elim
theorem Own.split {ok : Nat → Prop} {w : World} : ∀ {Λ : List LObj} {bss : List (List Nat)} (i : Nat) {o : LObj}, Own ok w Λ bss → Λ[i]? = some o →
    ∃ l1 bs l2, bss = l1 ++ bs :: l2 ∧ l1.length = i ∧ o.H ok bs w ∧ ∀ (o' : LObj) (bs' : List Nat) (ok' : Nat → Prop) (w' : World), o'.H ok' bs' w' →
      (∀ b, ok b → b < w.heap.size → w'.heap[b]? = w.heap[b]? ∧ ok' b) → (∀ b ∈ l1.flatten ++ l2.flatten, w'.heap[b]? = w.heap[b]?) → Own ok' w' (Λ.set i o') (l1 ++ bs' :: l2)
  | [], _, i, _, _, hi => by simp at hi
  | _ :: _, [], _, _, h, _ => h.elim
  | o :: Λ, bs :: bss, 0, o1, ⟨h, hr⟩, hi => by
    simp at hi
    subst hi
    exact ⟨[], bs, bss, rfl, rfl, h, fun o' bs' ok' w' h' hm hk => ⟨h', Own.move hm hr fun b hb => hk b (by simpa using hb)⟩⟩
  | o :: Λ, bs :: bss, i + 1, o1, ⟨h, hr⟩, hi => by
    obtain ⟨l1, bs1, l2, rfl, hl, ho, hput⟩ := Own.split i hr (by simpa using hi)
    refine ⟨bs :: l1, bs1, l2, rfl, by simp [hl], ho, fun o' bs' ok' w' h' hm hk => ⟨o.move h (fun b hb => hk b (by simp [hb])) hm, hput o' bs' ok' w' h' hm fun b hb => hk b ?_⟩⟩
    rcases List.mem_append.1 hb with hb | hb
    · simp only [List.flatten_cons, List.append_assoc, List.mem_append]; exact .inr (.inl hb)
    · simp only [List.flatten_cons, List.append_assoc, List.mem_append]; exact .inr (.inr hb)
end Go.Proofs.YthcohhpmpdijoaaDoorL
set_option linter.unusedVariables false
set_option linter.unusedSimpArgs false
namespace Go.Proofs.YthcohhpmpdijoaaDoorL
open Go Go.RowKit

theorem Off.of_below {w w' : World} (h : Below w.heap.size w w') (bs : List Nat) : Off bs w w' := ⟨h.os, h.tape, h.output, h.size, fun k hk _ => h.block k hk⟩
theorem Off.setCell (w : World) (g j : Nat) (v : Value) : Off [g] w (w.setCell ⟨g, j, none⟩ v) := by
  refine ⟨rfl, rfl, rfl, by simp [World.setCell], fun k hk hn => ?_⟩
  have : g ≠ k := fun e => hn (by simp [e])
  simp only [World.setCell]
  rw [Array.getElem?_modify]
  simp [this]
theorem Off.trans {bs : List Nat} {a b c : World} (h : Off bs a b) (k : Off bs b c) : Off bs a c :=
  ⟨k.os.trans h.os, k.tape.trans h.tape, k.output.trans h.output, Nat.le_trans h.size k.size, fun i hi hn => (k.block i (Nat.lt_of_lt_of_le hi h.size) hn).trans (h.block i hi hn)⟩

theorem Off.nil_below {w w' : World} (h : Off [] w w') : Below w.heap.size w w' := ⟨h.os, h.tape, h.output, h.size, fun k hk => h.block k hk (by simp)⟩
theorem Off.refl_ (bs : List Nat) (w : World) : Off bs w w := ⟨rfl, rfl, rfl, Nat.le_refl _, fun _ _ _ => rfl⟩
theorem Off.on {bs bs' : List Nat} {a b c : World} (h : Off bs a b) (k : Off bs' b c) (hb : ∀ x ∈ bs', x ∈ bs ∨ a.heap.size ≤ x) : Off bs a c :=
  ⟨k.os.trans h.os, k.tape.trans h.tape, k.output.trans h.output, Nat.le_trans h.size k.size, fun i hi hn => (k.block i (Nat.lt_of_lt_of_le hi h.size) fun hm => by
    rcases hb i hm with h1 | h1
    · exact hn h1
    · omega).trans (h.block i hi hn)⟩

section
variable {ok0 : Nat → Prop} {w0 : Base} {w w' : World} {Γ Γ' : List It} {Λ Λ' : List LObj}

theorem St.init (h : All ok0 w Γ) : St ok0 (bz w) w Γ [] :=
  ⟨Off.refl_ _ _, [], by simp, by simp, trivial, h.move fun b hb _ => ⟨rfl, .inl hb, by simp⟩⟩

theorem St.size (hs : St ok0 w0 w Γ Λ) : w0.w.heap.size ≤ w.heap.size := hs.1.size

theorem St.below (hs : St ok0 w0 w Γ Λ) (hb : Below w.heap.size w w') : St ok0 w0 w' Γ Λ := by
  obtain ⟨hB, bss, hn, hlt, hO, hA⟩ := hs
  refine ⟨hB.on (Off.of_below hb []) (by simp), bss, hn, fun b h => ⟨(hlt b h).1, Nat.lt_of_lt_of_le (hlt b h).2 hb.size⟩, ?_, ?_⟩
  · exact hO.move (fun b h hl => ⟨hb.block b hl, h⟩) (fun b h => hb.block b (hlt b h).2)
  · exact hA.move (fun b h hl => ⟨hb.block b hl, h⟩)

theorem St.drew (hs : St ok0 w0 w Γ Λ) : St ok0 w0 w.drew Γ Λ := hs.below ⟨rfl, rfl, rfl, Nat.le_refl _, fun _ _ => rfl⟩

theorem St.new {o : LObj} {bs : List Nat} (hs : St ok0 w0 w Γ Λ) (hb : Below w.heap.size w w') (hn : bs.Nodup) (hbs : ∀ b ∈ bs, w.heap.size ≤ b ∧ b < w'.heap.size)
    (h : ∀ ok, (∀ ok1, All ok1 w Γ → (∀ b, ok1 b → b < w.heap.size → ok b) → o.H ok bs w')) : St ok0 w0 w' Γ (o :: Λ) := by
  obtain ⟨hB, bss, hN, hlt, hO, hA⟩ := hs
  have hm : ∀ b, reg ok0 w0 bss.flatten b → b < w.heap.size → w'.heap[b]? = w.heap[b]? ∧ reg ok0 w0 (bs :: bss).flatten b := by
    intro b hr hl
    refine ⟨hb.block b hl, hr.1, fun hm => ?_⟩
    rw [List.flatten_cons] at hm
    rcases List.mem_append.1 hm with hm | hm
    · have := (hbs b hm).1; omega
    · exact hr.2 hm
  refine ⟨hB.on (Off.of_below hb []) (by simp), bs :: bss, ?_, ?_, ⟨h _ _ hA fun b hr hl => (hm b hr hl).2, hO.move hm fun b h => hb.block b (hlt b h).2⟩, hA.move hm⟩
  · rw [List.flatten_cons, List.nodup_append]
    refine ⟨hn, hN, fun a ha b hb' e => ?_⟩
    subst e
    have h1 := (hbs a ha).1
    have h2 := (hlt a hb').2
    omega
  · intro b hm
    rw [List.flatten_cons] at hm
    rcases List.mem_append.1 hm with hm | hm
    · exact ⟨.inr (Nat.le_trans hB.size (hbs b hm).1), (hbs b hm).2⟩
    · exact ⟨(hlt b hm).1, Nat.lt_of_lt_of_le (hlt b hm).2 hb.size⟩

theorem below_alloc (w : World) (o : Obj) : Below w.heap.size w (w.alloc o) := (Below.refl _ _).alloc (Nat.le_refl _) o
theorem heap_new (w : World) (o : Obj) : (w.alloc o).heap[w.heap.size]? = some o := heap_alloc_new w o
theorem size_alloc (w : World) (o : Obj) : (w.alloc o).heap.size = w.heap.size + 1 := by show (w.heap.push o).size = _; simp

theorem St.alloc (hs : St ok0 w0 w Γ Λ) (T : TypeId) (cs : List Value) : St ok0 w0 (w.alloc (.cells cs.toArray T)) Γ (blk w.heap.size T cs :: Λ) :=
  hs.new (below_alloc w _) (bs := [w.heap.size]) (by simp) (by simp [size_alloc]) fun _ _ _ _ => ⟨rfl, heap_new w _⟩

theorem St.split (hs : St ok0 w0 w Γ Λ) (i : Nat) {o : LObj} (hi : Λ[i]? = some o) :
    ∃ ok bs, o.H ok bs w ∧ All ok w Γ ∧ bs.Nodup ∧ (∀ b ∈ bs, ¬ ok b ∧ (b ∈ w0.bs ∨ w0.w.heap.size ≤ b) ∧ b < w.heap.size) ∧
      ∀ (o' : LObj) (bs' : List Nat) (w' : World), Off bs w w' → bs'.Nodup → (∀ b ∈ bs', (b ∈ bs ∨ w.heap.size ≤ b) ∧ b < w'.heap.size) →
        (∀ ok', (∀ b, ok b → b < w.heap.size → w'.heap[b]? = w.heap[b]? ∧ ok' b) → o'.H ok' bs' w') → St ok0 w0 w' Γ (Λ.set i o') := by
  obtain ⟨hB, bss, hN, hlt, hO, hA⟩ := hs
  obtain ⟨l1, bs, l2, rfl, hl, ho, hput⟩ := Own.split i hO hi
  have e : ∀ x : List Nat, (l1 ++ x :: l2).flatten = l1.flatten ++ (x ++ l2.flatten) := fun x => by simp
  have hmem : ∀ b ∈ bs, b ∈ (l1 ++ bs :: l2).flatten := fun b hb => by rw [e]; simp [hb]
  rw [e, List.nodup_append, List.nodup_append] at hN
  obtain ⟨hN1, ⟨hNb, hN2, hNb2⟩, hN1b⟩ := hN
  refine ⟨_, bs, ho, hA, hNb, fun b hb => ⟨fun hr => hr.2 (hmem b hb), hlt b (hmem b hb)⟩, ?_⟩
  intro o' bs' w' hoff hnd hbs' ho'
  have hother : ∀ b ∈ l1.flatten ++ l2.flatten, b ∉ bs ∧ b < w.heap.size := by
    intro b hb
    have hb' : b ∈ (l1 ++ bs :: l2).flatten := by
      rw [e]; rcases List.mem_append.1 hb with hb | hb <;> simp [hb]
    refine ⟨fun hbb => ?_, (hlt b hb').2⟩
    rcases List.mem_append.1 hb with hb | hb
    · exact hN1b b hb b (List.mem_append.2 (.inl hbb)) rfl
    · exact hNb2 b hbb b hb rfl
  have hm : ∀ b, reg ok0 w0 (l1 ++ bs :: l2).flatten b → b < w.heap.size → w'.heap[b]? = w.heap[b]? ∧ reg ok0 w0 (l1 ++ bs' :: l2).flatten b := by
    intro b hr hlb
    refine ⟨hoff.block b hlb fun hbb => hr.2 (hmem b hbb), hr.1, fun hmm => hr.2 ?_⟩
    rw [e] at hmm ⊢
    rcases List.mem_append.1 hmm with h | h
    · simp [h]
    · rcases List.mem_append.1 h with h | h
      · rcases (hbs' b h).1 with h | h
        · simp [h]
        · omega
      · simp [h]
  refine ⟨hB.on hoff fun k hk => (hlt k (hmem k hk)).1, l1 ++ bs' :: l2, ?_, ?_, ?_, hA.move hm⟩
  · rw [e, List.nodup_append, List.nodup_append]
    have hdis : ∀ b ∈ bs', b ∉ l1.flatten ∧ b ∉ l2.flatten := by
      intro b hb
      rcases (hbs' b hb).1 with h | h
      · exact ⟨fun hx => (hother b (List.mem_append.2 (.inl hx))).1 h, fun hx => (hother b (List.mem_append.2 (.inr hx))).1 h⟩
      · exact ⟨fun hx => by have := (hother b (List.mem_append.2 (.inl hx))).2; omega, fun hx => by have := (hother b (List.mem_append.2 (.inr hx))).2; omega⟩
    refine ⟨hN1, ⟨hnd, hN2, fun a ha b hb hab => by subst hab; exact (hdis a ha).2 hb⟩, fun a ha b hb hab => ?_⟩
    subst hab
    rcases List.mem_append.1 hb with hb | hb
    · exact (hdis a hb).1 ha
    · exact hN1b a ha a (List.mem_append.2 (.inr hb)) rfl
  · intro b hb
    rw [e] at hb
    have ho2 : ∀ b ∈ l1.flatten ++ l2.flatten, (b ∈ w0.bs ∨ w0.w.heap.size ≤ b) ∧ b < w'.heap.size := by
      intro b hb
      have hb' : b ∈ (l1 ++ bs :: l2).flatten := by
        rw [e]; rcases List.mem_append.1 hb with hb | hb <;> simp [hb]
      exact ⟨(hlt b hb').1, Nat.lt_of_lt_of_le (hlt b hb').2 hoff.size⟩
    rcases List.mem_append.1 hb with hb | hb
    · exact ho2 b (by simp [hb])
    · rcases List.mem_append.1 hb with hb | hb
      · refine ⟨?_, (hbs' b hb).2⟩
        rcases (hbs' b hb).1 with h | h
        · exact (hlt b (hmem b h)).1
        · exact .inr (Nat.le_trans hB.size h)
      · exact ho2 b (by simp [hb])
  · exact hput o' bs' _ w' (ho' _ hm) hm fun b hb => hoff.block b (hother b hb).2 (hother b hb).1

theorem Own.app {ok : Nat → Prop} : ∀ {Λ Λ' : List LObj} {b1 b2 : List (List Nat)}, Own ok w Λ b1 → Own ok w Λ' b2 → Own ok w (Λ ++ Λ') (b1 ++ b2)
  | [], _, [], _, _, h => h
  | _ :: _, _, _ :: _, _, ⟨h, hr⟩, h' => ⟨h, Own.app hr h'⟩
  | [], _, _ :: _, _, h, _ => h.elim
  | _ :: _, _, [], _, h, _ => h.elim
theorem Own.parts {ok : Nat → Prop} : ∀ {Λ Λ' : List LObj} {b : List (List Nat)}, Own ok w (Λ ++ Λ') b → ∃ b1 b2, b = b1 ++ b2 ∧ Own ok w Λ b1 ∧ Own ok w Λ' b2
  | [], _, b, h => ⟨[], b, rfl, trivial, h⟩
  | o :: Λ, Λ', [], h => h.elim
  | o :: Λ, Λ', bs :: b, ⟨h, hr⟩ => by
    obtain ⟨b1, b2, rfl, h1, h2⟩ := Own.parts hr
    exact ⟨bs :: b1, b2, rfl, ⟨h, h1⟩, h2⟩
theorem St.callO {Λr : List LObj} (hs : St ok0 w0 w Γ (Λ ++ Λr)) : ∃ ok bs, St ok ⟨w, bs⟩ w Γ Λ ∧ ∀ (w' : World) (Γ' : List It) (Λ' : List LObj), St ok ⟨w, bs⟩ w' Γ' Λ' → St ok0 w0 w' (Γ' ++ Γ) (Λ' ++ Λr) := by
  obtain ⟨hB, bss, hN, hlt, hO, hA⟩ := hs
  obtain ⟨b1, b2, rfl, hO1, hO2⟩ := Own.parts hO
  rw [List.flatten_append] at hN hlt
  have hN' := hN
  rw [List.nodup_append] at hN'
  obtain ⟨hN1, hN2, hN12⟩ := hN'
  refine ⟨reg ok0 w0 (b1 ++ b2).flatten, b1.flatten, ⟨Off.refl_ _ _, b1, hN1, fun b hb => ⟨.inl hb, (hlt b (by simp [hb])).2⟩, ?_, ?_⟩, fun w' Γ' Λ' hs' => ?_⟩
  · exact hO1.move (fun b hr hl => ⟨rfl, .inl hr, fun hm => hr.2 (by rw [List.flatten_append]; simp [hm])⟩) fun _ _ => rfl
  · exact hA.move fun b hr hl => ⟨rfl, .inl hr, fun hm => hr.2 (by rw [List.flatten_append]; simp [hm])⟩
  obtain ⟨hB', bss', hN', hlt', hO', hA'⟩ := hs'
  have hlt2 : ∀ b ∈ bss'.flatten, (b ∈ b1.flatten ∨ w.heap.size ≤ b) ∧ b < w'.heap.size := hlt'
  have hkeep : ∀ b, b < w.heap.size → b ∉ b1.flatten → w'.heap[b]? = w.heap[b]? := hB'.block
  have hm : ∀ b, reg ok0 w0 (b1 ++ b2).flatten b → b < w.heap.size → w'.heap[b]? = w.heap[b]? ∧ reg ok0 w0 (bss' ++ b2).flatten b := by
    intro b hr hl
    rw [List.flatten_append] at hr
    refine ⟨hkeep b hl fun h => hr.2 (by simp [h]), hr.1, fun hmm => ?_⟩
    rw [List.flatten_append] at hmm
    rcases List.mem_append.1 hmm with h | h
    · rcases (hlt2 b h).1 with h1 | h1
      · exact hr.2 (by simp [h1])
      · omega
    · exact hr.2 (by simp [h])
  have hm' : ∀ b, reg (reg ok0 w0 (b1 ++ b2).flatten) ⟨w, b1.flatten⟩ bss'.flatten b → b < w'.heap.size → w'.heap[b]? = w'.heap[b]? ∧ reg ok0 w0 (bss' ++ b2).flatten b := by
    intro b hr hl
    refine ⟨rfl, ?_, fun hmm => ?_⟩
    · rcases hr.1 with h | h | h
      · exact h.1
      · exact .inr (hlt b (by simp [show b ∈ b1.flatten from h])).1
      · exact .inr (.inr (Nat.le_trans hB.size h))
    · rw [List.flatten_append] at hmm
      rcases List.mem_append.1 hmm with h | h
      · exact hr.2 h
      · rcases hr.1 with h1 | h1 | h1
        · exact h1.2 (by rw [List.flatten_append]; simp [h])
        · exact hN12 b h1 b h rfl
        · have := (hlt b (by simp [h])).2; exact absurd this (Nat.not_lt.2 h1)
  refine ⟨hB.on hB' fun b hb => (hlt b (by simp [show b ∈ b1.flatten from hb])).1, bss' ++ b2, ?_, ?_, Own.app (hO'.move hm' fun _ _ => rfl) (hO2.move hm fun b h => hkeep b (hlt b (by simp [h])).2 fun h1 => hN12 b h1 b h rfl), ?_⟩
  · rw [List.flatten_append, List.nodup_append]
    refine ⟨hN', hN2, fun a ha b hb e => ?_⟩
    subst e
    rcases (hlt2 a ha).1 with h1 | h1
    · exact hN12 a h1 a hb rfl
    · have h2 := (hlt a (by simp [hb])).2
      omega
  · intro b hb
    rw [List.flatten_append] at hb
    rcases List.mem_append.1 hb with h | h
    · refine ⟨?_, (hlt2 b h).2⟩
      rcases (hlt2 b h).1 with h1 | h1
      · exact (hlt b (by simp [h1])).1
      · exact .inr (Nat.le_trans hB.size h1)
    · exact ⟨(hlt b (by simp [h])).1, Nat.lt_of_lt_of_le (hlt b (by simp [h])).2 hB'.size⟩
  · intro it hi
    rcases List.mem_append.1 hi with h | h
    · exact (hA'.move hm') it h
    · exact (hA.move hm) it h
theorem St.call (hs : St ok0 w0 w Γ Λ) : ∃ ok, All ok w Γ ∧ ∀ (w' : World) (Γ' : List It) (Λ' : List LObj), St ok (bz w) w' Γ' Λ' → St ok0 w0 w' (Γ' ++ Γ) (Λ' ++ Λ) := by
  have hs2 : St ok0 w0 w Γ ([] ++ Λ) := hs
  obtain ⟨ok, bs, h1, h2⟩ := hs2.callO
  obtain ⟨_, bss, _, hlt, hO, hA⟩ := h1
  cases bss with
  | cons b bss => exact hO.elim
  | nil =>
    refine ⟨reg ok ⟨w, bs⟩ [], hA, fun w' Γ' Λ' hs' => h2 w' Γ' Λ' ?_⟩
    obtain ⟨hB', bss', hN', hlt', hO', hA'⟩ := hs'
    have hm : ∀ b, reg (reg ok ⟨w, bs⟩ []) (bz w) bss'.flatten b → b < w'.heap.size → w'.heap[b]? = w'.heap[b]? ∧ reg ok ⟨w, bs⟩ bss'.flatten b := fun b hr _ => ⟨rfl, by
      rcases hr.1 with h | h | h
      · exact h.1
      · cases h
      · exact .inr (.inr h), hr.2⟩
    refine ⟨⟨hB'.os, hB'.tape, hB'.output, hB'.size, fun k hk _ => hB'.block k hk (by simp)⟩, bss', hN', fun b hb => ⟨.inr ((hlt' b hb).1.resolve_left (by simp)), (hlt' b hb).2⟩, hO'.move hm fun _ _ => rfl, hA'.move hm⟩

theorem St.add (hs : St ok0 w0 w Γ Λ) {it : It} (h : ∀ ok, All ok w Γ → it.holds ok w) : St ok0 w0 w (it :: Γ) Λ := by
  obtain ⟨hB, bss, hN, hlt, hO, hA⟩ := hs
  exact ⟨hB, bss, hN, hlt, hO, fun i hi => by
    rcases List.mem_cons.1 hi with rfl | hi
    · exact h _ hA
    · exact hA i hi⟩
theorem St.sub (hs : St ok0 w0 w Γ Λ) (h : ∀ it ∈ Γ', it ∈ Γ) : St ok0 w0 w Γ' Λ := by
  obtain ⟨hB, bss, hN, hlt, hO, hA⟩ := hs
  exact ⟨hB, bss, hN, hlt, hO, fun i hi => hA i (h i hi)⟩
theorem St.get (hs : St ok0 w0 w Γ Λ) (i : Nat) {it : It} (hi : Γ[i]? = some it) : ∃ ok, it.holds ok w := by
  obtain ⟨hB, bss, hN, hlt, hO, hA⟩ := hs
  exact ⟨_, hA.get i hi⟩
theorem St.int (hs : St ok0 w0 w Γ Λ) (i : Nat) {k : IntKind} {x : Int} {v : Value} (hi : Γ[i]? = some (vl (tInt k) x v)) : v = .int k x := by
  obtain ⟨ok, h⟩ := hs.get i hi
  exact tInt_V.1 h
theorem St.bool (hs : St ok0 w0 w Γ Λ) (i : Nat) {x : Bool} {v : Value} (hi : Γ[i]? = some (vl tBool x v)) : v = .bool x := by
  obtain ⟨ok, h⟩ := hs.get i hi
  exact tBool_V.1 h
theorem St.str (hs : St ok0 w0 w Γ Λ) (i : Nat) {x : List UInt8} {v : Value} (hi : Γ[i]? = some (vl tStr x v)) : v = bstr x := by
  obtain ⟨ok, h⟩ := hs.get i hi
  exact tStr_V.1 h

theorem Own.fn {ok ok' : Nat → Prop} : ∀ {Λ : List LObj} {b1 b2 : List (List Nat)}, Own ok w Λ b1 → Own ok' w Λ b2 → b1 = b2
  | [], [], [], _, _ => rfl
  | o :: Λ, _ :: _, _ :: _, ⟨h, hr⟩, ⟨h', hr'⟩ => by rw [o.fn h h', Own.fn hr hr']
  | [], _ :: _, _, h, _ => h.elim
  | [], [], _ :: _, _, h => h.elim
  | _ :: _, [], _, h, _ => h.elim
  | _ :: _, _ :: _, [], _, h => h.elim
theorem St.and (hs : St ok0 w0 w Γ Λ) (hs' : St ok0 w0 w Γ' Λ) : St ok0 w0 w (Γ ++ Γ') Λ := by
  obtain ⟨hB, bss, hN, hlt, hO, hA⟩ := hs
  obtain ⟨_, bss', _, _, hO', hA'⟩ := hs'
  cases hO.fn hO'
  exact ⟨hB, bss, hN, hlt, hO, fun it hi => by
    rcases List.mem_append.1 hi with h | h
    · exact hA it h
    · exact hA' it h⟩

theorem Own.perm {ok : Nat → Prop} {Λ Λ' : List LObj} (hp : Λ.Perm Λ') : ∀ {bss : List (List Nat)}, Own ok w Λ bss → ∃ bss', bss.Perm bss' ∧ Own ok w Λ' bss' := by
  induction hp with
  | nil => exact fun {bss} h => ⟨bss, .refl _, h⟩
  | cons o _ ih =>
    intro bss h
    cases bss with
    | nil => exact h.elim
    | cons bs bss =>
      obtain ⟨bss', hp, h'⟩ := ih h.2
      exact ⟨bs :: bss', hp.cons _, h.1, h'⟩
  | swap o o' Λ =>
    intro bss h
    match bss, h with
    | b1 :: b2 :: bss, ⟨h1, h2, h3⟩ => exact ⟨b2 :: b1 :: bss, .swap _ _ _, h2, h1, h3⟩
  | trans _ _ ih1 ih2 =>
    intro bss h
    obtain ⟨b1, hp1, h1⟩ := ih1 h
    obtain ⟨b2, hp2, h2⟩ := ih2 h1
    exact ⟨b2, hp1.trans hp2, h2⟩
theorem St.perm (hs : St ok0 w0 w Γ Λ) (hp : Λ.Perm Λ') : St ok0 w0 w Γ Λ' := by
  obtain ⟨hB, bss, hN, hlt, hO, hA⟩ := hs
  obtain ⟨b2, hbp, hO2⟩ := hO.perm hp
  have hfl : bss.flatten.Perm b2.flatten := hbp.flatten
  have hm : ∀ b, reg ok0 w0 bss.flatten b → b < w.heap.size → w.heap[b]? = w.heap[b]? ∧ reg ok0 w0 b2.flatten b := fun b hr _ => ⟨rfl, hr.1, fun h => hr.2 (hfl.mem_iff.2 h)⟩
  exact ⟨hB, b2, hfl.nodup hN, fun b hb => hlt b (hfl.mem_iff.2 hb), hO2.move hm fun _ _ => rfl, hA.move hm⟩

def pickL {α : Type _} (is : List Nat) (Γ : List α) : List α := is.filterMap (Γ[·]?)
def maskL {α : Type _} : List Bool → List α → List α
  | true :: m, a :: l => a :: maskL m l
  | false :: m, _ :: l => maskL m l
  | _, _ => []
theorem St.pick (hs : St ok0 w0 w Γ Λ) (is : List Nat) : St ok0 w0 w (pickL is Γ) Λ := hs.sub fun it hi => by
  obtain ⟨i, _, h⟩ := List.mem_filterMap.1 hi
  exact List.mem_of_getElem? h
theorem Own.mask {ok : Nat → Prop} : ∀ (m : List Bool) {Λ : List LObj} {bss : List (List Nat)}, Own ok w Λ bss → ∃ b2, Own ok w (maskL m Λ) b2 ∧ b2.flatten.Sublist bss.flatten
  | [], Λ, bss, h => ⟨[], by cases Λ <;> exact trivial, by simp⟩
  | _ :: _, [], bss, h => ⟨[], by cases bss <;> simp_all [maskL, Own], by simp⟩
  | true :: m, o :: Λ, bs :: bss, ⟨h, hr⟩ => by
    obtain ⟨b2, h2, hs⟩ := Own.mask m hr
    exact ⟨bs :: b2, ⟨h, h2⟩, by rw [List.flatten_cons, List.flatten_cons]; exact (List.Sublist.refl bs).append hs⟩
  | false :: m, o :: Λ, bs :: bss, ⟨h, hr⟩ => by
    obtain ⟨b2, h2, hs⟩ := Own.mask m hr
    exact ⟨b2, h2, by rw [List.flatten_cons]; exact hs.trans (List.sublist_append_right _ _)⟩
  | _ :: _, _ :: _, [], h => h.elim
theorem St.mask (hs : St ok0 w0 w Γ Λ) (m : List Bool) : St ok0 w0 w Γ (maskL m Λ) := by
  obtain ⟨hB, bss, hN, hlt, hO, hA⟩ := hs
  obtain ⟨b2, h2, hsub⟩ := Own.mask m hO
  have hm : ∀ b, reg ok0 w0 bss.flatten b → b < w.heap.size → w.heap[b]? = w.heap[b]? ∧ reg ok0 w0 b2.flatten b := fun b hr _ => ⟨rfl, hr.1, fun h => hr.2 (hsub.subset h)⟩
  exact ⟨hB, b2, hN.sublist hsub, fun b hb => hlt b (hsub.subset hb), h2.move hm fun _ _ => rfl, hA.move hm⟩

theorem St.freeze (hs : St ok0 w0 w Γ Λ) (i : Nat) {o : LObj} {it : It} (hi : Λ[i]? = some o)
    (h : ∀ ok bs, o.H ok bs w → it.holds (fun b => ok b ∨ b ∈ bs) w) : St ok0 w0 w (it :: Γ) (Λ.eraseIdx i) := by
  obtain ⟨hB, bss, hN, hlt, hO, hA⟩ := hs
  obtain ⟨l1, bs, l2, rfl, hl, ho, hput⟩ := Own.split i hO hi
  have hOe : Own (reg ok0 w0 (l1 ++ bs :: l2).flatten) w (Λ.eraseIdx i) (l1 ++ l2) := by
    clear hput hA hlt hN ho
    generalize hr : reg ok0 w0 (l1 ++ bs :: l2).flatten = r at hO
    clear hr
    induction l1 generalizing Λ i with
    | nil =>
      cases Λ with
      | nil => simp at hi
      | cons o' Λ =>
        simp at hl
        subst hl
        exact hO.2
    | cons b l1 ih =>
      cases Λ with
      | nil => simp at hi
      | cons o' Λ =>
        cases i with
        | zero => simp at hl
        | succ i => exact ⟨hO.1, ih i (by simpa using hi) (by simpa using hl) hO.2⟩
  have e : (l1 ++ bs :: l2).flatten = l1.flatten ++ (bs ++ l2.flatten) := by simp
  have e2 : (l1 ++ l2).flatten = l1.flatten ++ l2.flatten := by simp
  have hsub : (l1 ++ l2).flatten.Sublist (l1 ++ bs :: l2).flatten := by
    rw [e, e2]; exact (List.Sublist.refl _).append (List.sublist_append_right _ _)
  have hm : ∀ b, reg ok0 w0 (l1 ++ bs :: l2).flatten b → b < w.heap.size → w.heap[b]? = w.heap[b]? ∧ reg ok0 w0 (l1 ++ l2).flatten b := fun b hr _ => ⟨rfl, hr.1, fun h => hr.2 (hsub.subset h)⟩
  have hbs : ∀ b ∈ bs, reg ok0 w0 (l1 ++ l2).flatten b := by
    intro b hb
    have hb' : b ∈ (l1 ++ bs :: l2).flatten := by rw [e]; simp [hb]
    refine ⟨.inr (hlt b hb').1, fun h => ?_⟩
    rw [e, List.nodup_append, List.nodup_append] at hN
    rw [e2] at h
    rcases List.mem_append.1 h with h | h
    · exact hN.2.2 b h b (by simp [hb]) rfl
    · exact hN.2.1.2.2 b hb b h rfl
  refine ⟨hB, l1 ++ l2, hN.sublist hsub, fun b hb => hlt b (hsub.subset hb), hOe.move hm fun _ _ => rfl, fun it' hi' => ?_⟩
  rcases List.mem_cons.1 hi' with rfl | hi'
  · exact (h _ bs ho).move fun b hb hl => ⟨rfl, hb.elim (fun hb => (hm b hb hl).2) (fun hb => hbs b hb)⟩
  · exact (hA.move hm) it' hi'
end
end Go.Proofs.YthcohhpmpdijoaaDoorL
set_option linter.unusedVariables false
set_option linter.unusedSimpArgs false
namespace Go.Proofs.YthcohhpmpdijoaaDoorL
open Go Go.RowKit

theorem exec_v {P : Program} {w w' : World} {s : Sem Value} {v : Value} (h : s.run P w = .ok v w') : (do pure (Next.value (← s)) : Sem Next).run P w = .ok (.value v) w' := (run_bind h).trans rfl
theorem exec_u {P : Program} {w w' : World} {s : Sem Unit} (h : s.run P w = .ok () w') : (do s; pure Next.skip : Sem Next).run P w = .ok .skip w' := (run_bind h).trans rfl

section
variable {P : Program} {N : Nat} {Q : QE} {ρ : Env} {w : World} {ops : Array Oper} {rest : List Oper}
variable {d : Option Tmp} {ty : TypeId} {pos : String} {aft : Array Edge} {g : Option (Nat × Bool)}

theorem WL.move {x : Operand} {v : Value} (h : ρ.ev x = v) (k : WL P N ops Q rest (putE ρ d v) w)
    (hg : wantedE ops ρ ⟨d, .move x, ty, pos, aft, g⟩ = true := by rfl) (hd : fits N d = true := by rfl) :
    WL P N ops Q (⟨d, .move x, ty, pos, aft, g⟩ :: rest) ρ w := WL.value hg hd (v := v) (w' := w) (by subst h; rfl) k
theorem WL.assign {x : Operand} {v : Value} (h : ρ.ev x = v) (k : WL P N ops Q rest (putE ρ d v) w)
    (hg : wantedE ops ρ ⟨d, .assign x, ty, pos, aft, g⟩ = true := by rfl) (hd : fits N d = true := by rfl) :
    WL P N ops Q (⟨d, .assign x, ty, pos, aft, g⟩ :: rest) ρ w := WL.value hg hd (v := v) (w' := w) (by subst h; rfl) k
theorem WL.pickT {c a b : Operand} {v : Value} (hc : ρ.ev c = .bool true) (h : ρ.ev a = v) (k : WL P N ops Q rest (putE ρ d v) w)
    (hg : wantedE ops ρ ⟨d, .pick c a b, ty, pos, aft, g⟩ = true := by rfl) (hd : fits N d = true := by rfl) :
    WL P N ops Q (⟨d, .pick c a b, ty, pos, aft, g⟩ :: rest) ρ w :=
  WL.value hg hd (v := v) (w' := w) (by subst h; show (do pure (Next.value (if ← asBool (ρ.ev c) then ρ.ev a else ρ.ev b)) : Sem Next).run P w = _; rw [hc]; rfl) k
theorem WL.pickF {c a b : Operand} {v : Value} (hc : ρ.ev c = .bool false) (h : ρ.ev b = v) (k : WL P N ops Q rest (putE ρ d v) w)
    (hg : wantedE ops ρ ⟨d, .pick c a b, ty, pos, aft, g⟩ = true := by rfl) (hd : fits N d = true := by rfl) :
    WL P N ops Q (⟨d, .pick c a b, ty, pos, aft, g⟩ :: rest) ρ w :=
  WL.value hg hd (v := v) (w' := w) (by subst h; show (do pure (Next.value (if ← asBool (ρ.ev c) then ρ.ev a else ρ.ev b)) : Sem Next).run P w = _; rw [hc]; rfl) k

theorem wanted_of {o : Oper} {j : Nat} {b : Bool} (ho : o.guard = some (j, b)) {t : Tmp} (ht : (ops[j]?).bind (·.dst) = some t) {c : Bool} (hc : ρ t = .bool c) :
    wantedE ops ρ o = (c == b) := by
  unfold wantedE Region.wanted
  rw [ho]
  simp only [yld, ht, hc]
  cases c <;> cases b <;> rfl

theorem wanted_undef {o : Oper} {j : Nat} {b : Bool} (ho : o.guard = some (j, b)) {t : Tmp} (ht : (ops[j]?).bind (·.dst) = some t) (hc : ρ t = undef) : wantedE ops ρ o = false := by
  unfold wantedE Region.wanted
  rw [ho]
  simp [yld, ht, hc, undef]

def IntBin (op : BinOp) (k : IntKind) (a b : Int) (v : Value) : Prop := ∀ (P : Program) (T : TypeId) (w : World), (binOp op T (.int k a) (.int k b)).run P w = .ok v w
theorem ib_add (k : IntKind) (a b : Int) : IntBin .add k a b (.int k (k.wrap (a + b))) := fun P T w => by simp [binOp, Op.intArith, Sem.run]
theorem ib_sub (k : IntKind) (a b : Int) : IntBin .sub k a b (.int k (k.wrap (a - b))) := fun P T w => by simp [binOp, Op.intArith, Sem.run]
theorem ib_mul (k : IntKind) (a b : Int) : IntBin .mul k a b (.int k (k.wrap (a * b))) := fun P T w => by simp [binOp, Op.intArith, Sem.run]
theorem ib_quo (k : IntKind) (a b : Int) (h : b ≠ 0) : IntBin .quo k a b (.int k (k.wrap (a.tdiv b))) := fun P T w => by simp [binOp, Op.intDiv, Sem.run, h]
theorem ib_rem (k : IntKind) (a b : Int) (h : b ≠ 0) : IntBin .rem k a b (.int k (a.tmod b)) := fun P T w => by simp [binOp, Op.intDiv, Sem.run, h]
theorem ib_eql (k : IntKind) (a b : Int) : IntBin .eql k a b (.bool (a == b)) := fun P T w => by simp [binOp, Op.intCmp, Sem.run]
theorem ib_neq (k : IntKind) (a b : Int) : IntBin .neq k a b (.bool (a != b)) := fun P T w => by simp [binOp, Op.intCmp, Sem.run]
theorem ib_lss (k : IntKind) (a b : Int) : IntBin .lss k a b (.bool (decide (a < b))) := fun P T w => by simp [binOp, Op.intCmp, Sem.run]
theorem ib_leq (k : IntKind) (a b : Int) : IntBin .leq k a b (.bool (decide (a ≤ b))) := fun P T w => by simp [binOp, Op.intCmp, Sem.run]
theorem ib_gtr (k : IntKind) (a b : Int) : IntBin .gtr k a b (.bool (decide (b < a))) := fun P T w => by simp [binOp, Op.intCmp, Sem.run]
theorem ib_geq (k : IntKind) (a b : Int) : IntBin .geq k a b (.bool (decide (b ≤ a))) := fun P T w => by simp [binOp, Op.intCmp, Sem.run]
def shrI (k : IntKind) (a b : Int) : Int := a.fdiv (2 ^ (min b.toNat k.bits))

theorem guard_int (op : BinOp) (T : TypeId) (x y : Operand) (k k' : IntKind) (a b : Int) (P : Program) (w : World) : (eqGuard op T x y (.int k a) (.int k' b)).run P w = .ok () w := by
  unfold eqGuard; cases op <;> rfl
theorem WL.bin {op : BinOp} {T T' : TypeId} {x y : Operand} {k : IntKind} {a b : Int} {v : Value} (hx : ρ.ev x = .int k a) (hy : ρ.ev y = .int k b) (hb : IntBin op k a b v)
    (K : WL P N ops Q rest (putE ρ d v) w)
    (hg : wantedE ops ρ ⟨d, .binOp op T x y T', ty, pos, aft, g⟩ = true := by rfl) (hd : fits N d = true := by rfl) :
    WL P N ops Q (⟨d, .binOp op T x y T', ty, pos, aft, g⟩ :: rest) ρ w :=
  WL.value hg hd (v := v) (w' := w) (by
    show (do pure (Next.value (← (do eqGuard op T x y (ρ.ev x) (ρ.ev y); binOp op T (ρ.ev x) (ρ.ev y)))) : Sem Next).run P w = _
    rw [hx, hy]
    exact exec_v ((run_bind (guard_int op T x y k k a b P w)).trans (hb P T w))) K
theorem WL.shr {T T' : TypeId} {x y : Operand} {k k' : IntKind} {a b : Int} (hx : ρ.ev x = .int k a) (hy : ρ.ev y = .int k' b) (hb : 0 ≤ b)
    (K : WL P N ops Q rest (putE ρ d (.int k (shrI k a b))) w)
    (hg : wantedE ops ρ ⟨d, .binOp .shr T x y T', ty, pos, aft, g⟩ = true := by rfl) (hd : fits N d = true := by rfl) :
    WL P N ops Q (⟨d, .binOp .shr T x y T', ty, pos, aft, g⟩ :: rest) ρ w :=
  WL.value hg hd (v := .int k (shrI k a b)) (w' := w) (by
    show (do pure (Next.value (← (do eqGuard .shr T x y (ρ.ev x) (ρ.ev y); binOp .shr T (ρ.ev x) (ρ.ev y)))) : Sem Next).run P w = _
    rw [hx, hy]
    refine exec_v ((run_bind (guard_int .shr T x y k k' a b P w)).trans ?_)
    have : ¬ b < 0 := by omega
    simp [binOp, Op.shift, Sem.run, this, shrI]) K

def StrBin (op : BinOp) (a b : List UInt8) (v : Value) : Prop := ∀ (P : Program) (T : TypeId) (w : World), (binOp op T (bstr a) (bstr b)).run P w = .ok v w
theorem bl (a : List UInt8) : (⟨a.toArray⟩ : ByteArray).toList = a := by rw [ByteArray.toList_eq]
theorem sb_eql (a b : List UInt8) : StrBin .eql a b (.bool (a == b)) := fun P T w => by simp [binOp, bstr, Op.stringOp, Sem.run, bl]
theorem sb_neq (a b : List UInt8) : StrBin .neq a b (.bool (a != b)) := fun P T w => by simp [binOp, bstr, Op.stringOp, Sem.run, bl, bne]
theorem sb_add (a b : List UInt8) (h : a.length + b.length ≤ 9223372036854775807) : StrBin .add a b (bstr (a ++ b)) := fun P T w => by
  have e : (⟨a.toArray⟩ : ByteArray) ++ ⟨b.toArray⟩ = ⟨(a ++ b).toArray⟩ := by
    apply ByteArray.ext
    simp
  have hs : ¬ (((⟨a.toArray⟩ : ByteArray).size + (⟨b.toArray⟩ : ByteArray).size : Nat) : Int) > IntKind.i64.max := by
    have : IntKind.i64.max = 9223372036854775807 := by decide
    rw [this]
    simp only [ByteArray.size, List.size_toArray]
    omega
  simp only [binOp, bstr, Op.stringOp]
  rw [if_neg hs, e]
  rfl
theorem guard_str (op : BinOp) (T : TypeId) (x y : Operand) (a b : List UInt8) (P : Program) (w : World) : (eqGuard op T x y (bstr a) (bstr b)).run P w = .ok () w := by
  unfold eqGuard; cases op <;> rfl
theorem WL.binS {op : BinOp} {T T' : TypeId} {x y : Operand} {a b : List UInt8} {v : Value} (hx : ρ.ev x = bstr a) (hy : ρ.ev y = bstr b) (hb : StrBin op a b v)
    (K : WL P N ops Q rest (putE ρ d v) w)
    (hg : wantedE ops ρ ⟨d, .binOp op T x y T', ty, pos, aft, g⟩ = true := by rfl) (hd : fits N d = true := by rfl) :
    WL P N ops Q (⟨d, .binOp op T x y T', ty, pos, aft, g⟩ :: rest) ρ w :=
  WL.value hg hd (v := v) (w' := w) (by
    show (do pure (Next.value (← (do eqGuard op T x y (ρ.ev x) (ρ.ev y); binOp op T (ρ.ev x) (ρ.ev y)))) : Sem Next).run P w = _
    rw [hx, hy]
    exact exec_v ((run_bind (guard_str op T x y a b P w)).trans (hb P T w))) K
theorem run_und {P : Program} {T : TypeId} {u : TypeDesc} (h : P.underlying T = some u) (w : World) : (Go.underlying T).run P w = .ok u w := by
  simp [Go.underlying, Sem.run, program, h]
theorem WL.eqB {T T' : TypeId} {x y : Operand} {a b : Bool} (hT : P.underlying T = some .bool) (hx : ρ.ev x = .bool a) (hy : ρ.ev y = .bool b)
    (K : WL P N ops Q rest (putE ρ d (.bool (a == b))) w)
    (hg : wantedE ops ρ ⟨d, .binOp .eql T x y T', ty, pos, aft, g⟩ = true := by rfl) (hd : fits N d = true := by rfl) :
    WL P N ops Q (⟨d, .binOp .eql T x y T', ty, pos, aft, g⟩ :: rest) ρ w :=
  WL.value hg hd (v := .bool (a == b)) (w' := w) (by
    show (do pure (Next.value (← (do eqGuard .eql T x y (ρ.ev x) (ρ.ev y); binOp .eql T (ρ.ev x) (ρ.ev y)))) : Sem Next).run P w = _
    rw [hx, hy]
    refine exec_v ((run_bind (show (eqGuard .eql T x y (.bool a) (.bool b)).run P w = .ok () w from rfl)).trans ?_)
    show (do pure (Value.bool (← Op.equal T (.bool a) (.bool b))) : Sem Value).run P w = _
    refine (run_bind (x := a == b) (w' := w) ?_).trans rfl
    exact (run_bind (run_und hT w)).trans rfl) K
theorem WL.not {T : TypeId} {x : Operand} {b : Bool} (hx : ρ.ev x = .bool b) (K : WL P N ops Q rest (putE ρ d (.bool (!b))) w)
    (hg : wantedE ops ρ ⟨d, .unOp .not T x, ty, pos, aft, g⟩ = true := by rfl) (hd : fits N d = true := by rfl) :
    WL P N ops Q (⟨d, .unOp .not T x, ty, pos, aft, g⟩ :: rest) ρ w :=
  WL.value hg hd (v := .bool (!b)) (w' := w) (by
    show (do pure (Next.value (← Op.unary .not (ρ.ev x))) : Sem Next).run P w = _
    rw [hx]
    exact exec_v rfl) K
theorem WL.convI {T U : TypeId} {x : Operand} {k k' : IntKind} {b : Int} {u : TypeDesc} (hT : P.underlying T = some u) (hU : P.underlying U = some (.int k')) (hx : ρ.ev x = .int k b)
    (K : WL P N ops Q rest (putE ρ d (.int k' (k'.wrap b))) w)
    (hg : wantedE ops ρ ⟨d, .convert T U x, ty, pos, aft, g⟩ = true := by rfl) (hd : fits N d = true := by rfl) :
    WL P N ops Q (⟨d, .convert T U x, ty, pos, aft, g⟩ :: rest) ρ w :=
  WL.value hg hd (v := .int k' (k'.wrap b)) (w' := w) (by
    show (do pure (Next.value (← convert T U (ρ.ev x))) : Sem Next).run P w = _
    rw [hx]
    refine exec_v ?_
    unfold convert
    refine (run_bind (run_und hT w)).trans ?_
    refine (run_bind (run_und hU w)).trans ?_
    rfl) K
theorem WL.extract {x : Operand} {vs : List Value} {i : Nat} {v : Value} (hx : ρ.ev x = .tuple vs.toArray) (hv : vs[i]? = some v) (K : WL P N ops Q rest (putE ρ d v) w)
    (hg : wantedE ops ρ ⟨d, .extract x i, ty, pos, aft, g⟩ = true := by rfl) (hd : fits N d = true := by rfl) :
    WL P N ops Q (⟨d, .extract x i, ty, pos, aft, g⟩ :: rest) ρ w :=
  WL.value hg hd (v := v) (w' := w) (by
    show (do pure (Next.value (← Instr.extract (ρ.ev x) i)) : Sem Next).run P w = _
    rw [hx]
    refine exec_v ?_
    simp [Instr.extract, hv, Sem.run]) K
end
end Go.Proofs.YthcohhpmpdijoaaDoorL
set_option linter.unusedVariables false
set_option linter.unusedSimpArgs false
namespace Go.Proofs.YthcohhpmpdijoaaDoorL
open Go Go.RowKit

structure TI (P : Program) (t : TypeId) (agg : Bool) (sz : Nat) : Prop where
  agg_ : ∀ w, (isAgg t).run P w = .ok agg w
  size_ : ∀ w, (sizeOf t).run P w = .ok sz w

theorem addr_add (g j n : Nat) : (⟨g, j, none⟩ : Addr).add n = ⟨g, j + n, none⟩ := by
  unfold Addr.add; split <;> simp_all
theorem blk_cell {w : World} {g : Nat} {T : TypeId} {cs : List Value} (h : w.heap[g]? = some (.cells cs.toArray T (0, 0))) (j : Nat) : w.cell? ⟨g, j, none⟩ = cs[j]? := by
  simp [World.cell?, h]

section
variable {P : Program} {w : World}
theorem run_load {a : Addr} {v : Value} (h : w.cell? a = some v) : (load a).run P w = .ok v w := by simp [load, Sem.run, h]
theorem run_loadCellsFrom (g j : Nat) : ∀ (n i : Nat) (acc : Array Value) (cs : List Value), cs.length = n → (∀ k u, cs[k]? = some u → w.cell? ⟨g, j + i + k, none⟩ = some u) →
    (loadCellsFrom ⟨g, j, none⟩ i n acc).run P w = .ok (acc ++ cs.toArray) w
  | 0, i, acc, cs, hl, _ => by
    have : cs = [] := List.length_eq_zero_iff.1 hl
    subst this
    simp [loadCellsFrom, Sem.run, pure]
  | n + 1, i, acc, [], hl, _ => by simp at hl
  | n + 1, i, acc, c :: cs, hl, h => by
    unfold loadCellsFrom
    have h0 : w.cell? ((⟨g, j, none⟩ : Addr).add i) = some c := by rw [addr_add]; simpa using h 0 c rfl
    refine (run_bind (run_load h0)).trans ?_
    rw [run_loadCellsFrom g j n (i + 1) (acc.push c) cs (by simpa using hl) fun k u hu => ?_]
    · simp
    · have := h (k + 1) u (by simpa using hu)
      rwa [show j + (i + 1) + k = j + i + (k + 1) by omega]
theorem run_loadVar1 {t : TypeId} {sz : Nat} (ht : TI P t false sz) {a : Addr} {v : Value} (h : w.cell? a = some v) : (loadVar t a).run P w = .ok v w := by
  unfold loadVar
  refine (run_bind (ht.agg_ w)).trans ?_
  exact run_load h
theorem run_loadVarN {t : TypeId} {sz : Nat} (ht : TI P t true sz) {g j : Nat} {cs : List Value} (hl : cs.length = sz) (h : ∀ k u, cs[k]? = some u → w.cell? ⟨g, j + k, none⟩ = some u) :
    (loadVar t ⟨g, j, none⟩).run P w = .ok (.agg cs.toArray) w := by
  unfold loadVar
  refine (run_bind (ht.agg_ w)).trans ?_
  rw [if_pos rfl]
  refine (run_bind (ht.size_ w)).trans ?_
  refine (run_bind (x := cs.toArray) (w' := w) ?_).trans rfl
  rw [loadCells, run_loadCellsFrom g j sz 0 #[] cs hl (by simpa using h)]
  simp

def setCells (w : World) (g j : Nat) : List Value → World
  | [] => w
  | v :: vs => setCells (w.setCell ⟨g, j, none⟩ v) g (j + 1) vs
def setAt (cs : List Value) (j : Nat) : List Value → List Value
  | [] => cs
  | v :: vs => setAt (cs.set j v) (j + 1) vs
theorem setAt_app : ∀ (vs A B C : List Value), B.length = vs.length → setAt (A ++ B ++ C) A.length vs = A ++ vs ++ C
  | [], A, B, C, h => by
    have : B = [] := List.length_eq_zero_iff.1 h
    simp [setAt, this]
  | v :: vs, A, [], C, h => by simp at h
  | v :: vs, A, b :: B, C, h => by
    have e : (A ++ b :: B ++ C).set A.length v = (A ++ [v]) ++ B ++ C := by simp
    have h2 := setAt_app vs (A ++ [v]) B C (by simpa using h)
    rw [setAt, e]
    simp only [List.length_append, List.length_cons, List.length_nil, Nat.zero_add] at h2
    rw [h2]
    simp
theorem setAt_eq (vs cs : List Value) (j : Nat) (h : j + vs.length ≤ cs.length) : setAt cs j vs = cs.take j ++ vs ++ cs.drop (j + vs.length) := by
  have e : cs = cs.take j ++ (cs.drop j).take vs.length ++ cs.drop (j + vs.length) := by
    rw [List.append_assoc, ← List.drop_drop, List.take_append_drop, List.take_append_drop]
  have h2 := setAt_app vs (cs.take j) ((cs.drop j).take vs.length) (cs.drop (j + vs.length)) (by rw [List.length_take, List.length_drop]; omega)
  rw [← e, List.length_take, Nat.min_eq_left (by omega)] at h2
  exact h2
theorem heap_set {g j : Nat} {T : TypeId} {cs : List Value} (h : w.heap[g]? = some (.cells cs.toArray T (0, 0))) (v : Value) :
    (w.setCell ⟨g, j, none⟩ v).heap[g]? = some (.cells (cs.set j v).toArray T (0, 0)) := by
  simp only [World.setCell]
  rw [Array.getElem?_modify]
  simp [h]
theorem heap_setCells {g : Nat} {T : TypeId} : ∀ (vs : List Value) {w : World} {j : Nat} {cs : List Value}, w.heap[g]? = some (.cells cs.toArray T (0, 0)) →
    (setCells w g j vs).heap[g]? = some (.cells (setAt cs j vs).toArray T (0, 0))
  | [], _, _, _, h => h
  | v :: vs, _, _, _, h => heap_setCells vs (heap_set h v)
theorem Off.refl (bs : List Nat) (w : World) : Off bs w w := ⟨rfl, rfl, rfl, Nat.le_refl _, fun _ _ _ => rfl⟩
theorem off_setCells (g : Nat) : ∀ (vs : List Value) (w : World) (j : Nat), Off [g] w (setCells w g j vs)
  | [], w, _ => Off.refl _ w
  | v :: vs, w, j => (Off.setCell w g j v).trans (off_setCells g vs _ _)
theorem setAt_length : ∀ (vs cs : List Value) (j : Nat), (setAt cs j vs).length = cs.length
  | [], _, _ => rfl
  | v :: vs, cs, j => by rw [setAt, setAt_length vs]; simp

theorem run_store {a : Addr} {v : Value} (h1 : v.oneCell' = true) {u : Value} (h : w.cell? a = some u) (hf : w.frozen? a = false) : (store a v).run P w = .ok () (w.setCell a v) := by
  cases v <;> simp_all [store, Sem.run, Value.oneCell']
theorem run_storeCells {g : Nat} {T : TypeId} (j0 : Nat) : ∀ (vs : List Value) (i : Nat) (w : World) (cs : List Value), (∀ v ∈ vs, v.oneCell' = true) → w.heap[g]? = some (.cells cs.toArray T (0, 0)) →
    j0 + i + vs.length ≤ cs.length → (storeCells ⟨g, j0, none⟩ vs i).run P w = .ok () (setCells w g (j0 + i) vs)
  | [], _, _, _, _, _, _ => rfl
  | v :: vs, i, w, cs, h1, hg, hl => by
    simp only [List.length_cons] at hl
    unfold storeCells
    have hc : w.cell? ((⟨g, j0, none⟩ : Addr).add i) = some (cs[j0 + i]'(by omega)) := by
      rw [addr_add, blk_cell hg]; exact List.getElem?_eq_getElem (by omega)
    have hf : w.frozen? ((⟨g, j0, none⟩ : Addr).add i) = false := by rw [addr_add]; simp [World.frozen?, hg]
    refine (run_bind (run_store (h1 v (by simp)) hc hf)).trans ?_
    rw [addr_add, run_storeCells j0 vs (i + 1) _ (cs.set (j0 + i) v) (fun u hu => h1 u (by simp [hu])) (heap_set hg v) (by simp; omega)]
    rw [setCells, show j0 + (i + 1) = j0 + i + 1 by omega]
theorem run_storeVar {t : TypeId} {agg : Bool} {sz : Nat} (ht : TI P t agg sz) {g j : Nat} {T : TypeId} {cs : List Value} (hg : w.heap[g]? = some (.cells cs.toArray T (0, 0))) {v : Value} {vs : List Value}
    (hv : v.cells = vs.toArray) (hl : vs.length = sz) (h1 : ∀ u ∈ vs, u.oneCell' = true) (hb : j + sz ≤ cs.length) : (storeVar t ⟨g, j, none⟩ v).run P w = .ok () (setCells w g j vs) := by
  unfold storeVar
  refine (run_bind (ht.size_ w)).trans ?_
  rw [hv]
  rw [if_neg (by simp [hl])]
  have := run_storeCells (P := P) (g := g) (T := T) j vs 0 w cs h1 hg (by omega)
  simpa using this
end
end Go.Proofs.YthcohhpmpdijoaaDoorL
set_option linter.unusedVariables false
set_option linter.unusedSimpArgs false
namespace Go.Proofs.YthcohhpmpdijoaaDoorL
open Go Go.RowKit

section
variable {P : Program} {N : Nat} {Q : QE} {ρ : Env} {w : World} {w0 : Base} {ops : Array Oper} {rest : List Oper}
variable {d : Option Tmp} {ty : TypeId} {pos : String} {aft : Array Edge} {gd : Option (Nat × Bool)}
variable {ok0 : Nat → Prop} {Γ : List It} {Λ : List LObj}

theorem St.blk_at (hs : St ok0 w0 w Γ Λ) (i : Nat) {g : Nat} {T : TypeId} {cs : List Value} (hi : Λ[i]? = some (blk g T cs)) : w.heap[g]? = some (.cells cs.toArray T (0, 0)) := by
  obtain ⟨ok, bs, h, _⟩ := hs.split i hi
  exact h.2

theorem WL.load_ {t : TypeId} {x : Operand} {ad : Addr} {v : Value} (hx : ρ.ev x = .pointer (some ad)) (hv : (loadVar t ad).run P w = .ok v w) (K : WL P N ops Q rest (putE ρ d v) w)
    (hg : wantedE ops ρ ⟨d, .load t x, ty, pos, aft, gd⟩ = true) (hd : fits N d = true) :
    WL P N ops Q (⟨d, .load t x, ty, pos, aft, gd⟩ :: rest) ρ w :=
  WL.value hg hd (v := v) (w' := w) (by
    show (do pure (Next.value (← Instr.loadAt t (ρ.ev x))) : Sem Next).run P w = _
    rw [hx]
    exact exec_v ((run_bind (by rfl)).trans hv)) K
theorem WL.load1 {t : TypeId} {x : Operand} {g j : Nat} {T : TypeId} {cs : List Value} {v : Value} {sz : Nat} (hs : St ok0 w0 w Γ Λ) (i : Nat) (hi : Λ[i]? = some (blk g T cs)) (ht : TI P t false sz)
    (hx : ρ.ev x = .pointer (some ⟨g, j, none⟩)) (hv : cs[j]? = some v) (K : WL P N ops Q rest (putE ρ d v) w)
    (hg : wantedE ops ρ ⟨d, .load t x, ty, pos, aft, gd⟩ = true := by rfl) (hd : fits N d = true := by rfl) :
    WL P N ops Q (⟨d, .load t x, ty, pos, aft, gd⟩ :: rest) ρ w :=
  WL.load_ hx (run_loadVar1 ht ((blk_cell (hs.blk_at i hi) j).trans hv)) K hg hd
theorem WL.loadN {t : TypeId} {x : Operand} {g j : Nat} {T : TypeId} {cs vs : List Value} {sz : Nat} (hs : St ok0 w0 w Γ Λ) (i : Nat) (hi : Λ[i]? = some (blk g T cs)) (ht : TI P t true sz)
    (hx : ρ.ev x = .pointer (some ⟨g, j, none⟩)) (hv : (cs.drop j).take sz = vs) (hl : vs.length = sz) (K : WL P N ops Q rest (putE ρ d (.agg vs.toArray)) w)
    (hg : wantedE ops ρ ⟨d, .load t x, ty, pos, aft, gd⟩ = true := by rfl) (hd : fits N d = true := by rfl) :
    WL P N ops Q (⟨d, .load t x, ty, pos, aft, gd⟩ :: rest) ρ w :=
  WL.load_ hx (run_loadVarN ht hl fun k u hu => by
    rw [blk_cell (hs.blk_at i hi)]
    subst hv
    rw [List.getElem?_take] at hu
    split at hu
    · rwa [List.getElem?_drop] at hu
    · cases hu) K hg hd

theorem V_one {α : Type} {F : Ty α} {ok : Nat → Prop} {y : α} {ds : List Value} (h : F.R ok w y ds) : F.V ok w y (bif F.agg then .agg ds.toArray else ds.getD 0 undef) := ⟨ds, h, rfl⟩

theorem WL.loadP {α : Type} {F : Ty α} {y : α} {t : TypeId} {x : Operand} {ad : Addr} (hs : St ok0 w0 w Γ Λ) (i : Nat) (hi : Γ[i]? = some (pl F y ad)) (ht : TI P t F.agg F.sz) (h1 : F.agg = true ∨ F.sz = 1)
    (hx : ρ.ev x = .pointer (some ad)) (K : ∀ v, St ok0 w0 w (vl F y v :: Γ) Λ → WL P N ops Q rest (putE ρ d v) w)
    (hg : wantedE ops ρ ⟨d, .load t x, ty, pos, aft, gd⟩ = true := by rfl) (hd : fits N d = true := by rfl) :
    WL P N ops Q (⟨d, .load t x, ty, pos, aft, gd⟩ :: rest) ρ w := by
  -- the value is the same whatever region the reading is done in
  obtain ⟨ok, hh⟩ := hs.get i hi
  have key : ∃ v, (loadVar t ad).run P w = .ok v w ∧ ∀ ok, (pl F y ad).holds ok w → F.V ok w y v := by
    obtain ⟨hsp, hok, hlt, cs, hR, hc⟩ := hh
    obtain ⟨g, j, sp⟩ := ad
    cases hsp
    rcases hag : F.agg with _ | _
    · have hsz := h1.resolve_left (by simp [hag])
      rw [hag] at ht
      have hl := F.len hR
      match cs, hl, hc with
      | [], hl, _ => simp [hsz] at hl
      | c :: cs', hl, hc =>
        refine ⟨c, run_loadVar1 ht (hc 0 c rfl), fun ok' h' => ?_⟩
        obtain ⟨_, _, _, cs2, hR2, hc2⟩ := h'
        have hl2 := F.len hR2
        match cs2, hl2, hc2, hR2 with
        | [], hl2, _, _ => simp [hsz] at hl2
        | c2 :: cs2', hl2, hc2, hR2 =>
          have e1 := hc 0 c rfl
          have e2 := hc2 0 c2 rfl
          simp only at e1 e2
          rw [e1] at e2
          cases e2
          exact ⟨_, hR2, by simp [hag]⟩
    · rw [hag] at ht
      refine ⟨_, run_loadVarN ht (F.len hR) hc, fun ok' h' => ?_⟩
      obtain ⟨_, _, _, cs2, hR2, hc2⟩ := h'
      have e : cs = cs2 := by
        apply List.ext_getElem?
        intro k
        rcases Nat.lt_or_ge k F.sz with hk | hk
        · have a1 := hc k _ (List.getElem?_eq_getElem (by rw [F.len hR]; exact hk))
          have a2 := hc2 k _ (List.getElem?_eq_getElem (by rw [F.len hR2]; exact hk))
          rw [List.getElem?_eq_getElem (by rw [F.len hR]; exact hk), List.getElem?_eq_getElem (by rw [F.len hR2]; exact hk), ← a1, ← a2]
        · rw [List.getElem?_eq_none (by rw [F.len hR]; exact hk), List.getElem?_eq_none (by rw [F.len hR2]; exact hk)]
      subst e
      exact ⟨_, hR2, by simp [hag]⟩
  obtain ⟨v, hv, hV⟩ := key
  exact WL.load_ hx hv (K v (hs.add fun ok hA => hV ok (hA.get i hi))) hg hd

theorem WL.loadF {α β : Type} {T : Ty α} {F : Ty β} {off : Nat} {get : α → β} {set : α → β → α} (hf : Fld T F off get set) {x : α} {t : TypeId} {a : Operand} {g : Nat} {Tb : TypeId} {cs : List Value}
    (hs : St ok0 w0 w Γ Λ) (i : Nat) (hi : Λ[i]? = some (blk g Tb cs)) (m : Nat) (hm : Γ[m]? = some (vl T x (.agg cs.toArray))) (hT : T.agg = true) (ht : TI P t F.agg F.sz) (h1 : F.agg = true ∨ F.sz = 1)
    (hx : ρ.ev a = .pointer (some ⟨g, off, none⟩)) {z : β} (hz : get x = z) (K : ∀ v, St ok0 w0 w (vl F z v :: Γ) Λ → WL P N ops Q rest (putE ρ d v) w)
    (hg : wantedE ops ρ ⟨d, .load t a, ty, pos, aft, gd⟩ = true := by rfl) (hd : fits N d = true := by rfl) :
    WL P N ops Q (⟨d, .load t a, ty, pos, aft, gd⟩ :: rest) ρ w := by
  subst hz
  have hb := hs.blk_at i hi
  have hcs : ∀ ok, (vl T x (.agg cs.toArray)).holds ok w → T.R ok w x cs := by
    rintro ok ⟨ds, hR, e⟩
    rw [hT] at e
    simp only [cond_true, Value.agg.injEq] at e
    have : cs = ds := by simpa using congrArg Array.toList e
    rwa [this]
  obtain ⟨ok, hh⟩ := hs.get m hm
  have hR := hf.get_ (hcs ok hh)
  have hl := F.len hR
  have hvadd : St ok0 w0 w (vl F (get x) (bif F.agg then .agg ((cs.drop off).take F.sz).toArray else ((cs.drop off).take F.sz).getD 0 undef) :: Γ) Λ :=
    hs.add fun ok hA => V_one (hf.get_ (hcs ok (hA.get m hm)))
  have hcell : ∀ k u, ((cs.drop off).take F.sz)[k]? = some u → w.cell? ⟨g, off + k, none⟩ = some u := by
    intro k u hu
    rw [blk_cell hb]
    rw [List.getElem?_take] at hu
    split at hu
    · rwa [List.getElem?_drop] at hu
    · cases hu
  generalize (cs.drop off).take F.sz = vs at hR hl hvadd hcell
  have hload : (loadVar t ⟨g, off, none⟩).run P w = .ok (bif F.agg then .agg vs.toArray else vs.getD 0 undef) w := by
    rcases hag : F.agg with _ | _
    · have hsz := h1.resolve_left (by simp [hag])
      rw [hag] at ht
      match vs, hl, hcell with
      | [], hl, _ => simp [hsz] at hl
      | c :: cs', hl, hc => exact run_loadVar1 ht (hc 0 c rfl)
    · rw [hag] at ht
      exact run_loadVarN ht hl hcell
  exact WL.load_ hx hload (K _ hvadd) hg hd

theorem St.store (hs : St ok0 w0 w Γ Λ) (i : Nat) {g : Nat} {T : TypeId} {cs : List Value} (hi : Λ[i]? = some (blk g T cs)) (j : Nat) (vs : List Value) :
    St ok0 w0 (setCells w g j vs) Γ (Λ.set i (blk g T (setAt cs j vs))) := by
  obtain ⟨ok, bs, h, hA, hn, hb, hput⟩ := hs.split i hi
  obtain ⟨rfl, hg⟩ := h
  exact hput _ [g] _ (off_setCells g vs w j) (by simp) (fun b hb' => by
    simp only [List.mem_singleton] at hb'
    subst hb'
    exact ⟨.inl (by simp), lt_of_some (heap_setCells vs hg)⟩) fun ok' _ => ⟨rfl, heap_setCells vs hg⟩
theorem WL.store {t : TypeId} {a x : Operand} {agg : Bool} {sz g j : Nat} {T : TypeId} {cs cs' vs : List Value} {v : Value} (hs : St ok0 w0 w Γ Λ) (i : Nat) (hi : Λ[i]? = some (blk g T cs)) (ht : TI P t agg sz)
    (ha : ρ.ev a = .pointer (some ⟨g, j, none⟩)) (hx : ρ.ev x = v) (hv : v.cells = vs.toArray) (hl : vs.length = sz) (h1 : ∀ u ∈ vs, u.oneCell' = true) (hb : j + sz ≤ cs.length) (hc : setAt cs j vs = cs')
    (K : ∀ w', St ok0 w0 w' Γ (Λ.set i (blk g T cs')) → WL P N ops Q rest (putE ρ d undef) w')
    (hg : wantedE ops ρ ⟨d, .store t a x, ty, pos, aft, gd⟩ = true := by rfl) (hd : fits N d = true := by rfl) :
    WL P N ops Q (⟨d, .store t a x, ty, pos, aft, gd⟩ :: rest) ρ w :=
  WL.unit hg hd (w' := setCells w g j vs) (by
    show (do Instr.storeAt t (ρ.ev a) (ρ.ev x); pure Next.skip : Sem Next).run P w = _
    rw [ha, hx]
    exact exec_u ((run_bind (by rfl)).trans (run_storeVar ht (hs.blk_at i hi) hv hl h1 hb))) (K _ (hc ▸ hs.store i hi j vs))

theorem WL.box {t : TypeId} {x : Operand} {v : Value} {vs : List Value} (hs : St ok0 w0 w Γ Λ) (hx : ρ.ev x = v) (hv : v.cells = vs.toArray)
    (K : ∀ g w', St ok0 w0 w' Γ (blk g t vs :: Λ) → WL P N ops Q rest (putE ρ d (.pointer (some ⟨g, 0, none⟩))) w')
    (hg : wantedE ops ρ ⟨d, .box t x, ty, pos, aft, gd⟩ = true := by rfl) (hd : fits N d = true := by rfl) :
    WL P N ops Q (⟨d, .box t x, ty, pos, aft, gd⟩ :: rest) ρ w :=
  WL.value hg hd (v := .pointer (some ⟨w.heap.size, 0, none⟩)) (w' := w.alloc (.cells vs.toArray t)) (by
    show (do pure (Next.value (← Instr.box t (ρ.ev x))) : Sem Next).run P w = _
    rw [hx]
    refine exec_v ?_
    unfold Instr.box newVar
    rw [hv]
    rfl) (K _ _ (hs.alloc t vs))
def ZV (P : Program) (t : TypeId) (vs : List Value) : Prop := ∃ z, (∀ w, (zeroValue t).run P w = .ok z w) ∧ z.cells = vs.toArray
theorem WL.alloc {t : TypeId} {vs : List Value} (hs : St ok0 w0 w Γ Λ) (hz : ZV P t vs)
    (K : ∀ g w', St ok0 w0 w' Γ (blk g t vs :: Λ) → WL P N ops Q rest (putE ρ d (.pointer (some ⟨g, 0, none⟩))) w')
    (hg : wantedE ops ρ ⟨d, .alloc t, ty, pos, aft, gd⟩ = true := by rfl) (hd : fits N d = true := by rfl) :
    WL P N ops Q (⟨d, .alloc t, ty, pos, aft, gd⟩ :: rest) ρ w := by
  obtain ⟨z, hz, hc⟩ := hz
  exact WL.value hg hd (v := .pointer (some ⟨w.heap.size, 0, none⟩)) (w' := w.alloc (.cells vs.toArray t)) (by
    show (do pure (Next.value (← Instr.alloc t true (.tuple #[]))) : Sem Next).run P w = _
    refine exec_v ?_
    unfold Instr.alloc
    refine (run_bind (hz w)).trans ?_
    show (do pure (Value.pointer (some (← newVar t z))) : Sem Value).run P w = _
    unfold newVar
    rw [hc]
    rfl) (K _ _ (hs.alloc t vs))

def FA (P : Program) (T : TypeId) (i off : Nat) : Prop := ∀ (ad : Addr) (w : World), (Instr.fieldAt T (.pointer (some ad)) i).run P w = .ok (.pointer (some (ad.add off))) w
theorem WL.fieldAddr {T : TypeId} {x : Operand} {i off g j m : Nat} (hx : ρ.ev x = .pointer (some ⟨g, j, none⟩)) (hf : FA P T i off) (hm : j + off = m)
    (K : WL P N ops Q rest (putE ρ d (.pointer (some ⟨g, m, none⟩))) w)
    (hg : wantedE ops ρ ⟨d, .fieldAddr T x i, ty, pos, aft, gd⟩ = true := by rfl) (hd : fits N d = true := by rfl) :
    WL P N ops Q (⟨d, .fieldAddr T x i, ty, pos, aft, gd⟩ :: rest) ρ w :=
  WL.value hg hd (v := .pointer (some ⟨g, m, none⟩)) (w' := w) (by
    show (do pure (Next.value (← Instr.fieldAt T (ρ.ev x) i)) : Sem Next).run P w = _
    rw [hx]
    refine exec_v ((hf _ w).trans ?_)
    rw [addr_add, hm]) K
theorem WL.fieldAddrP {α β : Type} {A : Ty α} {F : Ty β} {off : Nat} {get : α → β} {set : α → β → α} (hF : Fld A F off get set) {y : α} {T : TypeId} {x : Operand} {i : Nat} {ad : Addr} (hs : St ok0 w0 w Γ Λ) (m : Nat) (hm : Γ[m]? = some (pl A y ad))
    (hx : ρ.ev x = .pointer (some ad)) (hf : FA P T i off) {z : β} (hz : get y = z)
    (K : ∀ ad', St ok0 w0 w (pl F z ad' :: Γ) Λ → WL P N ops Q rest (putE ρ d (.pointer (some ad'))) w)
    (hg : wantedE ops ρ ⟨d, .fieldAddr T x i, ty, pos, aft, gd⟩ = true := by rfl) (hd : fits N d = true := by rfl) :
    WL P N ops Q (⟨d, .fieldAddr T x i, ty, pos, aft, gd⟩ :: rest) ρ w :=
  WL.value hg hd (v := .pointer (some (ad.add off))) (w' := w) (by
    show (do pure (Next.value (← Instr.fieldAt T (ρ.ev x) i)) : Sem Next).run P w = _
    rw [hx]
    exact exec_v (hf _ w)) (K _ (hs.add fun ok hA => by
      subst hz
      obtain ⟨hsp, hok, hlt, cs, hR, hc⟩ := hA.get m hm
      obtain ⟨g, j, sp⟩ := ad
      cases hsp
      simp only [addr_add]
      refine ⟨rfl, hok, hlt, _, hF.get_ hR, fun k u hu => ?_⟩
      rw [List.getElem?_take] at hu
      split at hu
      · rw [List.getElem?_drop] at hu
        have := hc _ u hu
        simp only at this ⊢
        rwa [Nat.add_assoc]
      · cases hu))

def idx {α : Type} (xs : List α) (i : Int) : Option α := if 0 ≤ i then xs[i.toNat]? else none
theorem idx_some {α : Type} {xs : List α} {i : Int} {x : α} (h : idx xs i = some x) : 0 ≤ i ∧ i.toNat < xs.length ∧ xs[i.toNat]? = some x := by
  unfold idx at h
  split at h
  · rename_i h0
    exact ⟨h0, (List.getElem?_eq_some_iff.1 h).1, h⟩
  · cases h
theorem elem_of {T E : TypeId} (h : P.underlying T = some (.slice E)) : P.elem T = E := by simp [Program.elem, h]
theorem run_indexAt {T E : TypeId} {sz : Nat} {agg : Bool} (hT : P.underlying T = some (.slice E)) (hE : TI P E agg sz) {g off n c : Nat} {k : IntKind} {i : Int} (h0 : 0 ≤ i) (h1 : i.toNat < n) :
    (Instr.indexAt T (.slice (some ⟨g, off, none⟩) n c) (.int k i)).run P w = .ok (.pointer (some ⟨g, off + i.toNat * sz, none⟩)) w := by
  rw [run_indexAt_slice (P := P) (w := w) T _ n c k i (by rw [elem_of hT]; exact hT), if_pos ⟨h0, by omega⟩, elem_of hT, hE.size_ w]
  simp [Result.andThen, addr_add]
theorem WL.indexAddr {α : Type} {A : Ty α} {xs : List α} {y : α} {T E : TypeId} {x z : Operand} {a : Option Addr} {c : Nat} {k : IntKind} {i : Int} {agg : Bool} (hs : St ok0 w0 w Γ Λ) (m : Nat) (hm : Γ[m]? = some (vl (tSlice A) xs (.slice a xs.length c)))
    (hT : P.underlying T = some (.slice E)) (hE : TI P E agg A.sz) (hx : ρ.ev x = .slice a xs.length c) (hz : ρ.ev z = .int k i) (hi : idx xs i = some y)
    (K : ∀ ad, St ok0 w0 w (pl A y ad :: Γ) Λ → WL P N ops Q rest (putE ρ d (.pointer (some ad))) w)
    (hg : wantedE ops ρ ⟨d, .indexAddr T x z, ty, pos, aft, gd⟩ = true := by rfl) (hd : fits N d = true := by rfl) :
    WL P N ops Q (⟨d, .indexAddr T x z, ty, pos, aft, gd⟩ :: rest) ρ w := by
  obtain ⟨h0, h1, h2⟩ := idx_some hi
  obtain ⟨ok, hh⟩ := hs.get m hm
  obtain ⟨a', c', e, hc, hr⟩ := tSlice_V.1 hh
  cases e
  rcases hr with hr | ⟨g, off, rfl, hok, hlt, hcell⟩
  · subst hr; simp at h1
  refine WL.value hg hd (v := .pointer (some ⟨g, off + i.toNat * A.sz, none⟩)) (w' := w) (by
    show (do pure (Next.value (← Instr.indexAt T (ρ.ev x) (ρ.ev z))) : Sem Next).run P w = _
    rw [hx, hz]
    exact exec_v (run_indexAt hT hE h0 h1)) (K _ (hs.add fun ok hA => ?_))
  obtain ⟨a', c', e, hc, hr⟩ := tSlice_V.1 (hA.get m hm)
  cases e
  rcases hr with hr | ⟨g', off', e, hok, hlt, hcell⟩
  · subst hr; simp at h1
  cases e
  obtain ⟨cs, hR, hcs⟩ := hcell _ _ h2
  exact ⟨rfl, hok, hlt, cs, hR, hcs⟩

theorem exec_builtin {b : Builtin} {args : Array Operand} {ats : Array TypeId} {r : Result Next} (h : ∀ consts, (builtin b ats ty consts (args.map ρ.ev)).run P w = r) :
    (execOp ρ.ev ⟨d, .call { callee := .builtin b, args := args, argTypes := ats }, ty, pos, aft, gd⟩).run P w = r := h _
theorem WL.len {T : TypeId} {x : Operand} {v : Value} {n : Int} (hx : ρ.ev x = v) (hl : (Builtin.len_ #[T] ty #[v]).run P w = .ok (.int .i64 n) w) (K : WL P N ops Q rest (putE ρ d (.int .i64 n)) w)
    (hg : wantedE ops ρ ⟨d, .call { callee := .builtin .len, args := #[x], argTypes := #[T] }, ty, pos, aft, gd⟩ = true := by rfl) (hd : fits N d = true := by rfl) :
    WL P N ops Q (⟨d, .call { callee := .builtin .len, args := #[x], argTypes := #[T] }, ty, pos, aft, gd⟩ :: rest) ρ w :=
  WL.value hg hd (v := .int .i64 n) (w' := w) (exec_builtin fun cs => by
    subst hx
    rw [List.map_toArray]
    exact exec_v hl) K
theorem len_slice {T E : TypeId} {a : Option Addr} {n c : Nat} (hT : P.underlying T = some (.slice E)) : (Builtin.len_ #[T] ty #[.slice a n c]).run P w = .ok (.int .i64 n) w := by
  rw [run_len_slice (P := P) (w := w) T ty a n c (by rw [elem_of hT]; exact hT)]; rfl
theorem len_string {T : TypeId} {s : List UInt8} (hT : P.underlying T = some .string) : (Builtin.len_ #[T] ty #[bstr s]).run P w = .ok (.int .i64 s.length) w := by
  rw [bstr, run_len_string (P := P) (w := w) T ty _ hT]
  simp [goInt, ByteArray.size]

def Evs (ρ : Env) : List Operand → List Value → Prop
  | [], [] => True
  | x :: l, v :: vs => ρ.ev x = v ∧ Evs ρ l vs
  | _, _ => False
theorem Evs.map {ρ : Env} : ∀ {l : List Operand} {vs : List Value}, Evs ρ l vs → l.map ρ.ev = vs
  | [], [], _ => rfl
  | x :: l, v :: vs, ⟨h, hr⟩ => by rw [List.map_cons, h, hr.map]
  | [], _ :: _, h => h.elim
  | _ :: _, [], h => h.elim
def FN (P : Program) (f : FuncId) : Prop := ∀ (args : Array Value) (w : World), (callFunc f args).run P w = .ok (.enter f args) w
theorem WL.call {f : FuncId} {args : List Operand} {ats : Array TypeId} {vs : List Value} {Y : Type} {val : Y → Value} {Γr : Y → List It} {Λr : Y → List LObj} (hs : St ok0 w0 w Γ Λ) (hf : FN P f) (ha : Evs ρ args vs)
    (hc : ∀ ok, All ok w Γ → Calls P f vs.toArray w fun e w' => ∃ v, e = .returned v ∧ ∃ y, v = val y ∧ St ok (bz w) w' (Γr y) (Λr y))
    (K : ∀ y w', St ok0 w0 w' (Γr y ++ Γ) (Λr y ++ Λ) → WL P N ops Q rest (putE ρ d (val y)) w')
    (hg : wantedE ops ρ ⟨d, .call { callee := .value (.func f), args := args.toArray, argTypes := ats }, ty, pos, aft, gd⟩ = true := by rfl) (hd : fits N d = true := by rfl) :
    WL P N ops Q (⟨d, .call { callee := .value (.func f), args := args.toArray, argTypes := ats }, ty, pos, aft, gd⟩ :: rest) ρ w := by
  obtain ⟨ok, hA, hput⟩ := hs.call
  refine WL.enter hg hd (w' := w) (f := f) (args := vs.toArray) ?_ (hc ok hA) ?_
  · show (invoke (.fn (.func f) #[]) (#[] ++ args.toArray.map ρ.ev)).run P w = _
    rw [List.map_toArray, ha.map]
    simpa [invoke] using hf vs.toArray w
  · rintro v w' ⟨y, rfl, hs'⟩
    exact K y w' (hput w' _ _ hs')

def EI (P : Program) (E : TypeId) (z : Value) (size bytes : Nat) : Prop := (P.info? E).map (fun i => (i.zero, i.size, i.bytes)) = some (some z, size, bytes) ∧ z.cells.size = size ∧ 0 < size
theorem EI.parts {P : Program} {E : TypeId} {z : Value} {size bytes : Nat} (h : EI P E z size bytes) : ∃ i, P.info? E = some i ∧ i.zero = some z ∧ i.size = size ∧ i.bytes = bytes ∧ z.cells.size = size ∧ 0 < size := by
  obtain ⟨h1, h2, h3⟩ := h
  obtain ⟨i, hi, e⟩ := Option.map_eq_some_iff.1 h1
  simp only [Prod.mk.injEq] at e
  exact ⟨i, hi, e.1, e.2.1, e.2.2, h2, h3⟩
def BLD (P : Program) (t : TypeId) (vs : List (Nat × Value)) (cs : List Value) : Prop := ∀ w, (Instr.build t vs.toArray).run P w = .ok (.agg cs.toArray) w
def EvsN (ρ : Env) : List (Nat × Operand) → List (Nat × Value) → Prop
  | [], [] => True
  | (i, x) :: l, (j, v) :: vs => (i = j ∧ ρ.ev x = v) ∧ EvsN ρ l vs
  | _, _ => False
theorem EvsN.map {ρ : Env} : ∀ {l : List (Nat × Operand)} {vs : List (Nat × Value)}, EvsN ρ l vs → l.map (fun (i, x) => (i, ρ.ev x)) = vs
  | [], [], _ => rfl
  | (i, x) :: l, (j, v) :: vs, ⟨⟨h0, h⟩, hr⟩ => by subst h0; subst h; rw [List.map_cons, hr.map]
  | [], _ :: _, h => h.elim
  | _ :: _, [], h => h.elim
theorem WL.build {t : TypeId} {parts : List (Nat × Operand)} {vs : List (Nat × Value)} {cs : List Value} (ha : EvsN ρ parts vs) (hb : BLD P t vs cs) (K : WL P N ops Q rest (putE ρ d (.agg cs.toArray)) w)
    (hg : wantedE ops ρ ⟨d, .build t parts.toArray, ty, pos, aft, gd⟩ = true := by rfl) (hd : fits N d = true := by rfl) :
    WL P N ops Q (⟨d, .build t parts.toArray, ty, pos, aft, gd⟩ :: rest) ρ w :=
  WL.value hg hd (v := .agg cs.toArray) (w' := w) (by
    show (do pure (Next.value (← Instr.build t (parts.toArray.map fun (i, x) => (i, ρ.ev x)))) : Sem Next).run P w = _
    rw [List.map_toArray, ha.map]
    exact exec_v (hb w)) K
def BLS (P : Program) (t : TypeId) (n : Nat) (vs : List (Nat × Value)) (E : TypeId) (cs : List Value) : Prop :=
  ∀ w, (Instr.buildSlice t n vs.toArray).run P w = .ok (.slice (some ⟨w.heap.size, 0, none⟩) n n) (w.alloc (.cells cs.toArray E))
theorem WL.buildSlice {t E : TypeId} {n : Nat} {parts : List (Nat × Operand)} {vs : List (Nat × Value)} {cs : List Value} (hs : St ok0 w0 w Γ Λ) (ha : EvsN ρ parts vs) (hb : BLS P t n vs E cs)
    (K : ∀ g w', St ok0 w0 w' Γ (blk g E cs :: Λ) → WL P N ops Q rest (putE ρ d (.slice (some ⟨g, 0, none⟩) n n)) w')
    (hg : wantedE ops ρ ⟨d, .buildSlice t n parts.toArray, ty, pos, aft, gd⟩ = true := by rfl) (hd : fits N d = true := by rfl) :
    WL P N ops Q (⟨d, .buildSlice t n parts.toArray, ty, pos, aft, gd⟩ :: rest) ρ w :=
  WL.value hg hd (v := .slice (some ⟨w.heap.size, 0, none⟩) n n) (w' := w.alloc (.cells cs.toArray E)) (by
    show (do pure (Next.value (← Instr.buildSlice t n (parts.toArray.map fun (i, x) => (i, ρ.ev x)))) : Sem Next).run P w = _
    rw [List.map_toArray, ha.map]
    exact exec_v (hb w)) (K _ _ (hs.alloc E cs))
end
end Go.Proofs.YthcohhpmpdijoaaDoorL
set_option linter.unusedVariables false
set_option linter.unusedSimpArgs false
namespace Go.Proofs.YthcohhpmpdijoaaDoorL
open Go Go.RowKit

theorem Cells.nil {α : Type} (T : Ty α) (ok : Nat → Prop) (w : World) : Cells T ok w [] [] := ⟨by simp, fun j x h => by simp at h⟩
theorem Cells.app {α : Type} {T : Ty α} {ok : Nat → Prop} {w : World} {xs ys : List α} {cs ds : List Value} (h : Cells T ok w xs cs) (k : Cells T ok w ys ds) : Cells T ok w (xs ++ ys) (cs ++ ds) := by
  refine ⟨by rw [List.length_append, List.length_append, h.1, k.1, Nat.add_mul], fun j x hj => ?_⟩
  rcases Nat.lt_or_ge j xs.length with hlt | hge
  · rw [List.getElem?_append_left hlt] at hj
    have := h.2 j x hj
    have hle : (j + 1) * T.sz ≤ cs.length := by rw [h.1]; exact Nat.mul_le_mul_right _ hlt
    rw [Nat.add_mul, Nat.one_mul] at hle
    rw [List.drop_append_of_le_length (by omega), List.take_append_of_le_length (by rw [List.length_drop]; omega)]
    exact this
  · rw [List.getElem?_append_right hge] at hj
    have := k.2 _ x hj
    have e : j * T.sz = cs.length + (j - xs.length) * T.sz := by
      rw [h.1, ← Nat.add_mul]; congr 1; omega
    rw [e, ← List.drop_drop, List.drop_left]
    exact this
theorem Cells.one {α : Type} {T : Ty α} {ok : Nat → Prop} {w : World} {x : α} {cs : List Value} (h : T.R ok w x cs) : Cells T ok w [x] cs := by
  refine ⟨by simp [T.len h], fun j y hj => ?_⟩
  match j, hj with
  | 0, hj =>
    simp at hj
    subst hj
    rw [Nat.zero_mul, List.drop_zero, ← T.len h, List.take_length]
    exact h
  | j + 1, hj => simp at hj
theorem Cells.one_ {α : Type} {T : Ty α} {ok : Nat → Prop} {w : World} : ∀ {xs : List α} {cs : List Value}, Cells T ok w xs cs → ∀ u ∈ cs, u.oneCell' = true := by
  intro xs cs h u hu
  obtain ⟨k, hk, e⟩ := List.mem_iff_getElem.1 hu
  rcases Nat.eq_zero_or_pos T.sz with h0 | h0
  · have := h.1; rw [h0] at this; simp at this; rw [this] at hk; simp at hk
  have hj : k / T.sz < xs.length := by
    rw [Nat.div_lt_iff_lt_mul h0]; rw [← h.1]; exact hk
  have hR := h.2 _ _ (List.getElem?_eq_getElem hj)
  refine T.one hR u (List.mem_of_getElem? (i := k % T.sz) ?_)
  rw [List.getElem?_take, if_pos (Nat.mod_lt _ h0), List.getElem?_drop]
  rw [show k / T.sz * T.sz + k % T.sz = k by rw [Nat.mul_comm]; exact Nat.div_add_mod k T.sz]
  rw [← e]; exact List.getElem?_eq_getElem hk

section
variable {P : Program} {N : Nat} {Q : QE} {ρ : Env} {w : World} {w0 : Base} {ops : Array Oper} {rest : List Oper}
variable {d : Option Tmp} {ty : TypeId} {pos : String} {aft : Array Edge} {gd : Option (Nat × Bool)}
variable {ok0 : Nat → Prop} {Γ : List It} {Λ : List LObj}

theorem St.slice (hs : St ok0 w0 w Γ Λ) (i : Nat) {α : Type} {A : Ty α} {xs : List α} {v : Value} (hi : Γ[i]? = some (vl (tSlice A) xs v)) : ∃ a c, v = .slice a xs.length c := by
  obtain ⟨ok, h⟩ := hs.get i hi
  obtain ⟨a, c, e, _⟩ := tSlice_V.1 h
  exact ⟨a, c, e⟩
theorem ownsRow_form {base n sz : Nat} {E : TypeId} {v : Value} {cs : List Value} (h : w.ownsRow base E sz v n cs) : ∃ a c, v = .slice a n c ∧ n ≤ c := by
  rcases h.2 with ⟨rfl, rfl⟩ | ⟨g, cap, cur, rfl, _, _, hc, _⟩
  · exact ⟨_, _, rfl, Nat.le_refl _⟩
  · exact ⟨_, _, rfl, hc⟩
theorem St.ownv (hs : St ok0 w0 w Γ Λ) (i : Nat) {α : Type} {A : Ty α} {E : TypeId} {xs : List α} {v : Value} (hi : Λ[i]? = some (own A E v xs)) : ∃ a c, v = .slice a xs.length c := by
  obtain ⟨ok, bs, ⟨_, _, rfl, a, rfl⟩ | ⟨_, cs, _, h, _⟩, _⟩ := hs.split i hi
  · exact ⟨_, _, rfl⟩
  · obtain ⟨a, c, e, _⟩ := ownsRow_form h
    exact ⟨a, c, e⟩
theorem St.ownv3 (hs : St ok0 w0 w Γ Λ) (i : Nat) {α : Type} {A : Ty α} {E : TypeId} {xs : List α} {v : Value} (hi : Λ[i]? = some (own A E v xs)) : ∃ a n c, v = .slice a n c := by
  obtain ⟨a, c, e⟩ := hs.ownv i hi
  exact ⟨a, _, c, e⟩
theorem St.ownLen (hs : St ok0 w0 w Γ Λ) (i : Nat) {α : Type} {A : Ty α} {E : TypeId} {xs : List α} {a : Option Addr} {n c : Nat} (hi : Λ[i]? = some (own A E (.slice a n c) xs)) : n = xs.length := by
  obtain ⟨a', c', e⟩ := hs.ownv i hi
  cases e
  rfl
theorem St.ownNil (hs : St ok0 w0 w Γ Λ) {α : Type} (A : Ty α) (E : TypeId) : St ok0 w0 w Γ (own A E (.slice none 0 0) [] :: Λ) :=
  hs.new (Below.refl _ _) (bs := []) (by simp) (by simp) fun ok ok1 _ _ => .inl ⟨rfl, rfl, rfl, _, rfl⟩
theorem St.ownEmpty (hs : St ok0 w0 w Γ Λ) {α : Type} (A : Ty α) (E : TypeId) (a : Option Addr) : St ok0 w0 w Γ (own A E (.slice a 0 0) [] :: Λ) :=
  hs.new (Below.refl _ _) (bs := []) (by simp) (by simp) fun ok ok1 _ _ => .inl ⟨rfl, rfl, rfl, _, rfl⟩
theorem St.ownLit (hs : St ok0 w0 w Γ Λ) (i : Nat) {g : Nat} {E : TypeId} {cs : List Value} (hi : Λ[i]? = some (blk g E cs)) {α : Type} {A : Ty α} {xs : List α} (h : ∀ ok, All ok w Γ → Cells A ok w xs cs) (hm : xs.length ≤ maxLen) :
    St ok0 w0 w Γ (Λ.set i (own A E (.slice (some ⟨g, 0, none⟩) xs.length xs.length) xs)) := by
  rcases Nat.eq_zero_or_pos xs.length with h0 | h0
  · obtain rfl := List.length_eq_zero_iff.1 h0
    obtain ⟨ok, bs, ho, hA, hn, hb, hput⟩ := hs.split i hi
    exact hput _ [] w (Off.refl _ _) (by simp) (by simp) fun ok' hm' => .inl ⟨rfl, rfl, rfl, _, rfl⟩
  obtain ⟨ok, bs, ho, hA, hn, hb, hput⟩ := hs.split i hi
  obtain ⟨rfl, hg⟩ := ho
  refine hput _ [g] w (Off.refl _ _) (by simp) (fun b hb' => ⟨.inl hb', by simp only [List.mem_singleton] at hb'; subst hb'; exact lt_of_some hg⟩) fun ok' hm' => ?_
  have hC := (h ok hA).move hm'
  refine .inr ⟨h0, cs, by simp [Value.ownBlock], ⟨hC.1, .inr ⟨g, xs.length, cs.toArray, rfl, Nat.zero_le _, hg, Nat.le_refl _, hm, by simp [hC.1], ?_⟩⟩, hC⟩
  rw [← hC.1]; simp
theorem ownsRow_row {α : Type} {A : Ty α} {ok : Nat → Prop} {E : TypeId} {v : Value} {xs : List α} {cs : List Value} (h : w.ownsRow 0 E A.sz v xs.length cs) (hC : Cells A ok w xs cs) :
    (tSlice A).V (fun b => ok b ∨ b ∈ v.ownBlock.toList) w xs v := by
  refine tSlice_V.2 ?_
  obtain ⟨a, c, e, hc⟩ := ownsRow_form h
  refine ⟨a, c, e, hc, ?_⟩
  rcases h.2 with ⟨rfl, h0⟩ | ⟨g, cap, cur, rfl, _, hg, _⟩
  · exact .inl (List.length_eq_zero_iff.1 h0)
  · cases e
    refine .inr ⟨g, 0, rfl, .inr (by simp [Value.ownBlock]), lt_of_some hg, fun j x hj => ⟨_, A.move (hC.2 j x hj) fun b hb _ => ⟨rfl, .inl hb⟩, fun i u hu => ?_⟩⟩
    have hcell := h.cells (g := g) (by simp [Value.ownBlock]) (j * A.sz + i) u (by
      rw [List.getElem?_take] at hu
      split at hu
      · rwa [List.getElem?_drop] at hu
      · cases hu)
    rw [addr_add, Nat.zero_add] at hcell
    rw [Nat.zero_add]
    exact hcell
theorem St.freezeOwn (hs : St ok0 w0 w Γ Λ) (i : Nat) {α : Type} {A : Ty α} {E : TypeId} {xs : List α} {v : Value} (hi : Λ[i]? = some (own A E v xs)) :
    St ok0 w0 w (vl (tSlice A) xs v :: Γ) (Λ.eraseIdx i) :=
  hs.freeze i hi fun ok bs h => by
    rcases h with ⟨_, rfl, rfl, a, rfl⟩ | ⟨h0, cs, rfl, h, hC⟩
    · exact tSlice_V.2 ⟨a, 0, rfl, Nat.le_refl _, .inl rfl⟩
    · exact ownsRow_row h hC

theorem run_append_room_ {t tx ty e : TypeId} {i : TypeInfo} (ht : P.underlying t = some (.slice e)) (hi : P.info? e = some i) {g n cap : Nat} {x : Value} {m : Nat} {news : List Value} (hs : Src P i.size tx x m news w) (hroom : n + m ≤ cap)
    {cur : List Value} (hg : w.heap[g]? = some (.cells cur.toArray e (0, 0))) (hb : (n + m) * i.size ≤ cur.length) :
    (Builtin.append_ #[t, tx] ty #[.slice (some ⟨g, 0, none⟩) n cap, x]).run P w = .ok (.slice (some ⟨g, 0, none⟩) (n + m) cap) (setCells w g (n * i.size) news) := by
  have hst := run_storeCells (P := P) (g := g) (T := e) (n * i.size) news 0 w cur hs.one hg (by rw [hs.newsLen, Nat.add_zero, ← Nat.add_mul]; exact hb)
  simp only [Nat.add_zero] at hst
  rcases hs.kind with ⟨e', hk⟩ | hk <;> simp [Builtin.append_, run_underlying ht, run_underlying hk, sizeOf, typeInfo, hi, hs.len, hroom, hs.cells, Addr.add_lit, hst]
theorem WL.app_ {α : Type} {A : Ty α} {T tx E : TypeId} {z : Value} {bytes : Nat} {s x : Operand} {xs ys : List α} {v xv : Value} {news : List Value} (hs : St ok0 w0 w Γ Λ) (i : Nat) (hi : Λ[i]? = some (own A E v xs))
    (hT : P.underlying T = some (.slice E)) (hE : EI P E z A.sz bytes) (hsv : ρ.ev s = v) (hx : ρ.ev x = xv) (hsrc : Src P A.sz tx xv ys.length news w)
    (hC : ∀ ok, All ok w Γ → Cells A ok w ys news) (hb : (xs.length + ys.length) * bytes ≤ 140737488355328) (h63 : xs.length + ys.length ≤ 9223372036854775807)
    (K : ∀ v' w', St ok0 w0 w' Γ (Λ.set i (own A E v' (xs ++ ys))) → WL P N ops Q rest (putE ρ d v') w')
    (hg : wantedE ops ρ ⟨d, .call { callee := .builtin .append, args := #[s, x], argTypes := #[T, tx] }, ty, pos, aft, gd⟩ = true) (hd : fits N d = true) :
    WL P N ops Q (⟨d, .call { callee := .builtin .append, args := #[s, x], argTypes := #[T, tx] }, ty, pos, aft, gd⟩ :: rest) ρ w := by
  obtain ⟨ok, bs, ho, hA, hn, hbs, hput⟩ := hs.split i hi
  have hCy := hC ok hA
  have exec : ∀ {v' : Value} {w' : World}, (Builtin.append_ #[T, tx] ty #[v, xv]).run P w = .ok v' w' → (execOp ρ.ev ⟨d, .call { callee := .builtin .append, args := #[s, x], argTypes := #[T, tx] }, ty, pos, aft, gd⟩).run P w = .ok (.value v') w' := by
    intro v' w' hrun
    refine exec_builtin fun cns => ?_
    subst hsv
    rw [List.map_toArray]
    show (do pure (Next.value (← Builtin.append_ #[T, tx] ty #[ρ.ev s, ρ.ev x])) : Sem Next).run P w = _
    rw [hx]
    exact exec_v hrun
  obtain ⟨ti, hi1, hi2, hi3, hi4, hi5, hi6⟩ := hE.parts
  subst hi4
  have form : ∃ a c, v = .slice a xs.length c ∧ xs.length ≤ c := by
    rcases ho with ⟨_, _, rfl, a, rfl⟩ | ⟨_, cs, _, h, _⟩
    · exact ⟨a, 0, rfl, Nat.le_refl _⟩
    · exact ownsRow_form h
  obtain ⟨a, c, rfl, hac⟩ := form
  rw [← hi3] at hsrc
  rcases Nat.eq_zero_or_pos ys.length with hy | hy
  · -- nothing is added
    obtain rfl := List.length_eq_zero_iff.1 hy
    have hn0 : news = [] := List.length_eq_zero_iff.1 (by rw [hsrc.newsLen]; simp)
    subst hn0
    refine WL.value hg hd (exec (run_append_nothing w T tx ty E ti hT hi1 a xs.length c hac xv (by simpa using hsrc))) (K _ w ?_)
    rw [List.append_nil]
    exact hput _ bs w (Off.refl _ _) hn (fun b hb' => ⟨.inl hb', (hbs b hb').2.2⟩) fun ok' hm' => (own A E _ xs).move ho (fun b hb' => rfl) (fun b h1 h2 => ⟨rfl, (hm' b h1 h2).2⟩)
  · by_cases hroom : xs.length + ys.length ≤ c
    · -- there is room: the row is its own
      rcases ho with ⟨h0, _, rfl, a', e⟩ | ⟨h0, cs, hbe, how, hCx⟩
      · simp only [slCap] at h0; omega
      · rcases how.2 with ⟨e, _⟩ | ⟨g, cap, cur, e, _, hgg, hc, hm, hsz, ht⟩
        · injection e with _ _ e3
          subst e3; simp only [slCap] at h0; omega
        · cases e
          have hcl : (xs.length + ys.length) * A.sz ≤ cur.toList.length := by rw [Array.length_toList (xs := cur), hsz]; exact Nat.mul_le_mul_right _ hroom
          have hg2 : w.heap[g]? = some (.cells cur.toList.toArray E (0, 0)) := by simpa using hgg
          refine WL.value hg hd (exec (run_append_room_ hT hi1 hsrc hroom hg2 (by rw [hi3]; exact hcl))) (K _ _ ?_)
          have hnew := heap_setCells news (j := xs.length * ti.size) hg2
          have hnl : news.length = ys.length * A.sz := hCy.1
          refine hput _ [g] _ (by rw [hbe]; exact off_setCells g news w _) (by simp) (fun b hb' => ?_) fun ok' hm' => .inr ⟨h0, cs ++ news, by simp [Value.ownBlock], ?_, (hCx.app hCy).move hm'⟩
          · simp only [List.mem_singleton] at hb'
            subst hb'
            exact ⟨.inl (by rw [hbe]; simp [Value.ownBlock]), lt_of_some hnew⟩
          · rw [List.length_append]
            refine ⟨(hCx.app hCy).1.trans (by rw [List.length_append]), .inr ⟨g, c, _, rfl, Nat.zero_le _, hnew, hroom, hm, by simp [setAt_length, hsz], ?_⟩⟩
            rw [List.toList_toArray, hi3, setAt_eq _ _ _ (by rw [hnl, ← Nat.add_mul]; exact hcl), ht, hnl, ← Nat.add_mul]
            have hlen : (cs ++ news).length = (xs.length + ys.length) * A.sz := (hCx.app hCy).1.trans (by rw [List.length_append])
            rw [← hlen, List.take_left]
    · -- a new row
      have hold : ∃ olds : List Value, Cells A ok w xs olds ∧ (Builtin.firstCells ti.size xs.length (.slice a xs.length c)).run P w.drew = .ok olds.toArray w.drew := by
        rcases ho with ⟨h0, _, rfl, a', e⟩ | ⟨h0, cs, hbe, how, hCx⟩
        · refine ⟨[], Cells.nil _ _ _, ?_⟩
          cases a with
          | none => exact run_firstCells_none w.drew ti.size 0 0 c
          | some a => exact run_firstCells_some w.drew ti.size 0 a 0 c [] (by simp) (fun j u h => by cases h)
        · refine ⟨cs, hCx, ?_⟩
          rcases how.2 with ⟨e, h00⟩ | ⟨g, cap, cur, e, _, hgg, _⟩
          · injection e with _ _ e3
            subst e3; simp only [slCap] at h0; omega
          · cases e
            refine run_firstCells_some w.drew ti.size xs.length ⟨g, 0, none⟩ xs.length c cs (by rw [hi3]; exact hCx.1) (fun j u hu => ?_)
            exact how.cells (g := g) (by simp [Value.ownBlock]) j u hu
      obtain ⟨olds, hCo, hrunold⟩ := hold
      have hgrow := run_append_grow_src w T tx ty E ti z hT hi1 hi2 a xs.length c olds hrunold xv ys.length news hsrc (by omega) (by omega) (growslice_fits (by omega) hb)
      have hge := grownCap_ge w (xs.length + ys.length) c E
      refine WL.value hg hd (exec hgrow) (K _ _ ?_)
      have hnew : (w.drew.alloc (.cells ((olds ++ news).toArray ++ Builtin.zeroCells z.cells (grownCap w (xs.length + ys.length) c E - (xs.length + ys.length))) E)).heap[w.heap.size]? = some (.cells ((olds ++ news).toArray ++ Builtin.zeroCells z.cells (grownCap w (xs.length + ys.length) c E - (xs.length + ys.length))) E (0, 0)) := heap_alloc_new w.drew _
      have hlen : (olds ++ news).length = (xs.length + ys.length) * A.sz := (hCo.app hCy).1.trans (by rw [List.length_append])
      refine hput _ [w.heap.size] _ ?_ (by simp) (fun b hb' => ?_) fun ok' hm' => .inr ⟨?_, olds ++ news, by simp [Value.ownBlock], ?_, (hCo.app hCy).move hm'⟩
      · have hbl := fun o => below_alloc w.drew o
        exact ⟨(hbl _).os, (hbl _).tape, (hbl _).output, (hbl _).size, fun k hk _ => (hbl _).block k hk⟩
      · simp only [List.mem_singleton] at hb'
        subst hb'
        exact ⟨.inr (Nat.le_refl _), lt_of_some hnew⟩
      · show 0 < grownCap w (xs.length + ys.length) c E
        omega
      · rw [List.length_append]
        refine ⟨hlen, .inr ⟨w.heap.size, _, _, rfl, Nat.zero_le _, hnew, hge, grownCap_le_maxLen w _ c E (by simp only [maxLen]; omega), ?_, ?_⟩⟩
        · simp only [Array.size_append, List.size_toArray, size_zeroCells, hi5, hlen, ← Nat.add_mul]
          congr 1
          omega
        · simp only [Array.toList_append]
          rw [← hlen]
          exact List.take_left
theorem WL.append {α : Type} {A : Ty α} {T E : TypeId} {z : Value} {bytes : Nat} {s x : Operand} {xs ys : List α} {v : Value} {g : Nat} {news : List Value} (hs : St ok0 w0 w Γ Λ) (i : Nat) (hi : Λ[i]? = some (own A E v xs)) (j : Nat) (hj : Λ[j]? = some (blk g E news))
    (hT : P.underlying T = some (.slice E)) (hE : EI P E z A.sz bytes) (hsv : ρ.ev s = v) (hx : ρ.ev x = .slice (some ⟨g, 0, none⟩) ys.length ys.length)
    (hC : ∀ ok, All ok w Γ → Cells A ok w ys news) (hb : (xs.length + ys.length) * bytes ≤ 140737488355328) (h63 : xs.length + ys.length ≤ 9223372036854775807) {zs : List α} (hz : xs ++ ys = zs)
    (K : ∀ v' w', St ok0 w0 w' Γ (Λ.set i (own A E v' zs)) → WL P N ops Q rest (putE ρ d v') w')
    (hg : wantedE ops ρ ⟨d, .call { callee := .builtin .append, args := #[s, x], argTypes := #[T, T] }, ty, pos, aft, gd⟩ = true := by rfl) (hd : fits N d = true := by rfl) :
    WL P N ops Q (⟨d, .call { callee := .builtin .append, args := #[s, x], argTypes := #[T, T] }, ty, pos, aft, gd⟩ :: rest) ρ w := by
  obtain ⟨ok, hA, _⟩ := hs.call
  have hCy := hC ok hA
  refine WL.app_ hs i hi hT hE hsv hx (Src.ofSlice w hT _ ys.length _ news hCy.1 (fun k u hu => ?_) hCy.one_) hC hb h63 (hz ▸ K) hg hd
  rw [addr_add, blk_cell (hs.blk_at j hj), Nat.zero_add]
  exact hu
theorem Row.news {α : Type} {A : Ty α} {ok : Nat → Prop} {g off : Nat} : ∀ {xs : List α}, (∀ j x, xs[j]? = some x → ∃ cs, A.R ok w x cs ∧ ∀ i u, cs[i]? = some u → w.cell? ⟨g, off + j * A.sz + i, none⟩ = some u) →
    ∃ news, Cells A ok w xs news ∧ ∀ k u, news[k]? = some u → w.cell? ⟨g, off + k, none⟩ = some u := by
  intro xs
  induction xs generalizing off with
  | nil => exact fun _ => ⟨[], Cells.nil _ _ _, fun k u h => by cases h⟩
  | cons x xs ih =>
    intro h
    obtain ⟨cs, hR, hc⟩ := h 0 x rfl
    obtain ⟨news, hC, hn⟩ := ih (off := off + A.sz) fun j y hj => by
      obtain ⟨ds, hR', hd⟩ := h (j + 1) y hj
      refine ⟨ds, hR', fun i u hu => ?_⟩
      have := hd i u hu
      rwa [show off + (j + 1) * A.sz + i = off + A.sz + j * A.sz + i by rw [Nat.add_mul, Nat.one_mul]; omega] at this
    refine ⟨cs ++ news, (Cells.one hR).app hC, fun k u hu => ?_⟩
    rcases Nat.lt_or_ge k cs.length with hk | hk
    · rw [List.getElem?_append_left hk] at hu
      have := hc k u hu
      rwa [Nat.zero_mul, Nat.add_zero] at this
    · rw [List.getElem?_append_right hk] at hu
      have := hn _ u hu
      rwa [A.len hR, show off + A.sz + (k - A.sz) = off + k by rw [A.len hR] at hk; omega] at this
theorem WL.appendS {α : Type} {A : Ty α} {T tx E : TypeId} {z : Value} {bytes : Nat} {s x : Operand} {xs ys zs : List α} {v : Value} {a : Option Addr} {c : Nat} (hs : St ok0 w0 w Γ Λ) (i : Nat) (hi : Λ[i]? = some (own A E v xs)) (j : Nat) (hj : Γ[j]? = some (vl (tSlice A) ys (.slice a ys.length c)))
    (hT : P.underlying T = some (.slice E)) (hTx : P.underlying tx = some (.slice E)) (hE : EI P E z A.sz bytes) (hsv : ρ.ev s = v) (hx : ρ.ev x = .slice a ys.length c)
    (hb : (xs.length + ys.length) * bytes ≤ 140737488355328) (h63 : xs.length + ys.length ≤ 9223372036854775807) (hz : xs ++ ys = zs)
    (K : ∀ v' w', St ok0 w0 w' Γ (Λ.set i (own A E v' zs)) → WL P N ops Q rest (putE ρ d v') w')
    (hg : wantedE ops ρ ⟨d, .call { callee := .builtin .append, args := #[s, x], argTypes := #[T, tx] }, ty, pos, aft, gd⟩ = true := by rfl) (hd : fits N d = true := by rfl) :
    WL P N ops Q (⟨d, .call { callee := .builtin .append, args := #[s, x], argTypes := #[T, tx] }, ty, pos, aft, gd⟩ :: rest) ρ w := by
  obtain ⟨ok, hh⟩ := hs.get j hj
  obtain ⟨a', c', e, hc, hr⟩ := tSlice_V.1 hh
  cases e
  rcases hr with rfl | ⟨g, off, rfl, hok, hlt, hcell⟩
  · -- no element
    have hsrc : Src P A.sz tx (.slice a 0 c) 0 [] w := by
      cases a with
      | none => exact Src.ofNil w hTx c
      | some a => exact Src.ofSlice w hTx a 0 c [] (by simp) (fun k u h => by cases h) (fun _ h => by cases h)
    exact WL.app_ (ys := []) hs i hi hT hE hsv hx hsrc (fun _ _ => Cells.nil _ _ _) hb h63 (hz ▸ K) hg hd
  · obtain ⟨news, hC, hn⟩ := Row.news hcell
    have hnews : ∀ ok, All ok w Γ → Cells A ok w ys news := by
      intro ok' hA
      obtain ⟨a2, c2, e2, _, hr2⟩ := tSlice_V.1 (hA.get j hj)
      cases e2
      rcases hr2 with h0 | ⟨g2, off2, e3, _, _, hcell2⟩
      · have h0' : ys = [] := h0
        subst h0'
        have : news = [] := List.length_eq_zero_iff.1 (by rw [hC.1]; simp)
        subst this
        exact Cells.nil _ _ _
      · cases e3
        obtain ⟨news2, hC2, hn2⟩ := Row.news hcell2
        have : news = news2 := by
          apply List.ext_getElem?
          intro k
          rcases Nat.lt_or_ge k (ys.length * A.sz) with hk | hk
          · have a1 := hn k _ (List.getElem?_eq_getElem (by rw [hC.1]; exact hk))
            have a2 := hn2 k _ (List.getElem?_eq_getElem (by rw [hC2.1]; exact hk))
            rw [List.getElem?_eq_getElem (by rw [hC.1]; exact hk), List.getElem?_eq_getElem (by rw [hC2.1]; exact hk), ← a1, ← a2]
          · rw [List.getElem?_eq_none (by rw [hC.1]; exact hk), List.getElem?_eq_none (by rw [hC2.1]; exact hk)]
        rw [this]
        exact hC2
    refine WL.app_ hs i hi hT hE hsv hx (Src.ofSlice w hTx _ ys.length c news hC.1 (fun k u hu => ?_) hC.one_) hnews hb h63 (hz ▸ K) hg hd
    rw [addr_add]
    exact hn k u hu
end
end Go.Proofs.YthcohhpmpdijoaaDoorL
set_option linter.unusedVariables false
set_option linter.unusedSimpArgs false
set_option linter.unnecessarySimpa false
namespace Go.Proofs.YthcohhpmpdijoaaDoorL
open Go Go.RowKit

def dstOf (l : List Oper) (i : Nat) : Option Tmp := (l[i]?).bind (·.dst)
def hasDst (d : Nat) : Option Tmp → Bool
  | some t => Nat.beq t d
  | none => false
def notDst : List Oper → Nat → Bool
  | [], _ => true
  | o :: l, s => !hasDst s o.dst && notDst l s
def depsOf (l : List Oper) (i : Nat) : List Nat := ((l[i]?).map fun o => (o.after.toList.filter fun e => Region.binds .any e).map (·.on)).getD []
def reach (l : List Oper) : Nat → Nat → Nat → Bool
  | 0, _, _ => false
  | f + 1, i, j => (depsOf l i).any fun d => Nat.beq d j || reach l f d j
def anyOkT (l : List Oper) (m : Nat) : Bool :=
  Nat.ble m l.length && (List.range l.length).all fun i => ((depsOf l i).all fun d => Nat.blt d i) && (Nat.blt i m || (List.range m).all fun j => reach l l.length i j)
def maskTo (n m : Nat) : List Bool := (List.range n).map fun i => Nat.blt i m
def distinctDst : List Oper → Bool
  | [] => true
  | o :: l => (match o.dst with | some d => notDst l d | none => true) && distinctDst l

theorem reach_listed {l : List Oper} {listed : Array Bool} (hc : ∀ k, listed.getD k false = true → ∀ d ∈ depsOf l k, listed.getD d false = true) :
    ∀ (f i j : Nat), (∀ d ∈ depsOf l i, listed.getD d false = true) → reach l f i j = true → listed.getD j false = true
  | 0, _, _, _, h => by simp [reach] at h
  | f + 1, i, j, hd, h => by
    simp only [reach, List.any_eq_true, Bool.or_eq_true] at h
    obtain ⟨d, hm, h | h⟩ := h
    · rw [← Nat.eq_of_beq_eq_true h]; exact hd d hm
    · exact reach_listed hc f d j (hc d (hd d hm)) h

theorem notDst_of {l : List Oper} {s : Nat} (h : notDst l s = true) : ∀ {i : Nat}, dstOf l i ≠ some s := by
  induction l with
  | nil => intro i; simp [dstOf]
  | cons o l ih =>
    intro i
    simp only [notDst, Bool.and_eq_true, Bool.not_eq_true'] at h
    cases i with
    | zero =>
      intro e
      simp only [dstOf, List.getElem?_cons_zero, Option.bind_some] at e
      rw [e] at h
      simp [hasDst] at h
    | succ i => exact ih h.2 (i := i)
theorem distinct_of {l : List Oper} (h : distinctDst l = true) : ∀ {i j : Nat} {d : Tmp}, dstOf l i = some d → dstOf l j = some d → i = j := by
  induction l with
  | nil => intro i j d hi; simp [dstOf] at hi
  | cons o l ih =>
    intro i j d hi hj
    simp only [distinctDst, Bool.and_eq_true] at h
    cases i with
    | zero =>
      cases j with
      | zero => rfl
      | succ j =>
        simp only [dstOf, List.getElem?_cons_zero, Option.bind_some] at hi
        rw [hi] at h
        exact absurd hj (notDst_of (l := l) h.1 (i := j))
    | succ i =>
      cases j with
      | zero =>
        simp only [dstOf, List.getElem?_cons_zero, Option.bind_some] at hj
        rw [hj] at h
        exact absurd hi (notDst_of (l := l) h.1 (i := i))
      | succ j => rw [ih h.2 (i := i) (j := j) hi hj]

def oneQ (ρ : Env) (d : Option Tmp) (R : Value → World → Prop) : QE := fun e ρ' w' => e = .normal ∧ ∃ v, ρ' = putE ρ d v ∧ R v w'

section
variable {P : Program} {N : Nat} {Q : QE} {ρ0 : Env} {w1 : World} {w0 : Base} {l : List Oper} {ok0 : Nat → Prop} {Γ : List It} {Λ : List LObj}

def slotOf (ρ : Env) : Option Tmp → Value
  | some d => ρ d
  | none => undef

theorem oneQ_out (ρ : Env) (d : Option Tmp) (R : Value → World → Prop) : ¬ LetsOut (lift N (oneQ ρ d R)) := by
  rintro ⟨a, w, ρ', _, h, _⟩
  cases h
theorem wpOp_of_WL {ops : Array Oper} {i : Nat} {o : Oper} {ρ : Env} {w : World} {R : Value → World → Prop} {K : Act → World → Prop} {Q' : Exit → Act → World → Prop} {a : Act}
    (hi : ops[i]? = some o) (ha : Agree N a ρ) (h : WL P N ops (oneQ ρ o.dst R) [o] ρ w) (k : ∀ a' v w', Agree N a' (putE ρ o.dst v) → R v w' → K a' w') : wpOp P ops Q' i K a w := by
  unfold wpOp
  rw [hi]
  have h1 := h a ha
  simp only [wpList] at h1
  dsimp only
  split
  · rename_i hw
    rw [if_pos hw] at h1
    rcases h1 with h1 | h1
    · refine .inl ?_
      unfold Oper.wp at *
      generalize (execOp a.eval o).run P w = r at *
      have hk : ∀ a' w', lift N (oneQ ρ o.dst R) .normal a' w' → K a' w' := by
        rintro a' w' ⟨ρ', hρ', _, v, rfl, hR⟩
        exact k a' v w' hρ' hR
      cases r with
      | ok n w' =>
        cases n <;> simp only [Oper.upon] at h1 ⊢ <;>
          first
            | exact hk _ _ h1
            | exact Calls.mono h1 (fun e w'' he => by
                cases e with
                | returned v => exact hk _ _ he
                | panicked c => obtain ⟨_, _, h, _⟩ := he; cases h
                | outgrown => exact (oneQ_out _ _ _ he).elim)
            | exact Rows.mono h1 (fun _ _ he => hk _ _ he)
      | halt x w' =>
        cases x <;> simp only [Oper.upon] at h1 ⊢
        · obtain ⟨_, _, h, _⟩ := h1; cases h
    · exact (oneQ_out _ _ _ h1.2).elim
  · rename_i hw
    rw [if_neg hw] at h1
    obtain ⟨ρ', hρ', _, v, rfl, hR⟩ := h1
    exact k _ v w hρ' hR

def leftOf (listed : Array Bool) : Nat → Nat
  | 0 => 0
  | n + 1 => leftOf listed n + (bif listed.getD n true then 0 else 1)
theorem leftOf_set {listed : Array Bool} {i : Nat} (h : listed.getD i true = false) : ∀ n, leftOf (listed.setIfInBounds i true) n + (if i < n then 1 else 0) = leftOf listed n
  | 0 => by simp [leftOf]
  | n + 1 => by
    have ih := leftOf_set h n
    simp only [leftOf]
    by_cases hi : i = n
    · subst hi
      have hlt : i < listed.size := by
        rcases Nat.lt_or_ge i listed.size with h' | h'
        · exact h'
        · simp [Array.getElem?_eq_none h'] at h
      have e : (listed.setIfInBounds i true).getD i true = true := by simp [hlt]
      rw [e, h]
      simp only [Nat.lt_irrefl, if_false, Nat.add_zero, cond_true, cond_false] at ih ⊢
      rw [if_pos (by omega)]
      omega
    · rw [getD_set_ne true hi]
      by_cases h2 : i < n
      · rw [if_pos h2] at ih; rw [if_pos (by omega)]; omega
      · rw [if_neg h2] at ih; rw [if_neg (by omega)]; omega
theorem leftOf_zero {listed : Array Bool} : ∀ {n : Nat}, leftOf listed n = 0 → ∀ i, i < n → listed.getD i true = true
  | 0, _, i, hi => by omega
  | n + 1, h, i, hi => by
    simp only [leftOf] at h
    rcases Nat.lt_or_ge i n with h1 | h1
    · exact leftOf_zero (n := n) (by omega) i h1
    · have : i = n := by omega
      subst this
      cases hb : listed.getD i true with
      | true => rfl
      | false => rw [hb] at h; simp at h

def valOf : Option Tmp → Value → Value
  | some _, v => v
  | none, _ => undef
theorem slot_val (ρ : Env) (d : Option Tmp) (v : Value) : slotOf (putE ρ d v) d = valOf d v := by
  cases d with
  | none => rfl
  | some t => exact upd_same _ _ _
structure PO where
  P : List Value → Value → Prop
  G : Value → List It
  L : Value → List LObj
  Pre : List LObj := []
  needs : List Nat := []
def PO.at_ (p : PO) (l : List Oper) (ρ : Env) (v : Value) : Prop := p.P (p.needs.map fun k => slotOf ρ (dstOf l k)) v
def needOk (l : List Oper) (m : Nat) (po : Nat → PO) : Bool := (List.range m).all fun i => (po i).needs.all fun k => reach l l.length i k
def obl (P : Program) (N : Nat) (l : List Oper) (ok0 : Nat → Prop) (w0 : Base) (Γ : List It) (Λ : List LObj) (ρ0 : Env) (po : Nat → PO) (m i : Nat) : Prop :=
  match l[i]? with
  | none => True
  | some o => ∀ ρ w Γx Λx, St ok0 w0 w (Γx ++ Γ) (Λx ++ ((po i).Pre ++ Λ)) → (∀ s, notDst (l.take m) s = true → ρ s = ρ0 s) →
      (∀ j, reach l l.length i j = true → (po j).at_ l ρ (slotOf ρ (dstOf l j)) ∧ ∀ it ∈ (po j).G (slotOf ρ (dstOf l j)), it ∈ Γx) →
      WL P N l.toArray (oneQ ρ o.dst fun v w' => (po i).at_ l ρ (valOf o.dst v) ∧ St ok0 w0 w' ((po i).G (valOf o.dst v) ++ (Γx ++ Γ)) ((po i).L (valOf o.dst v) ++ (Λx ++ Λ))) [o] ρ w
def upTo (f : Nat → Prop) : Nat → Prop
  | 0 => True
  | m + 1 => upTo f m ∧ f m
theorem upTo.at_ {f : Nat → Prop} : ∀ {m : Nat}, upTo f m → ∀ i, i < m → f i
  | 0, _, i, h => by omega
  | m + 1, h, i, hi => by
    rcases Nat.lt_or_ge i m with h1 | h1
    · exact upTo.at_ h.1 i h1
    · have : i = m := by omega
      subst this; exact h.2
theorem upTo.mk {f : Nat → Prop} : ∀ (m : Nat), (∀ i, i < m → f i) → upTo f m
  | 0, _ => trivial
  | m + 1, h => ⟨upTo.mk m fun i hi => h i (by omega), h m (by omega)⟩
def catTo {α : Type _} (f : Nat → List α) : Nat → List α
  | 0 => []
  | m + 1 => f m ++ catTo f m
theorem mem_catTo {α : Type _} {f : Nat → List α} {x : α} : ∀ {m : Nat}, x ∈ catTo f m → ∃ i, i < m ∧ x ∈ f i
  | 0, h => by cases h
  | m + 1, h => by
    rcases List.mem_append.1 h with h | h
    · exact ⟨m, by omega, h⟩
    · obtain ⟨i, hi, hx⟩ := mem_catTo h
      exact ⟨i, by omega, hx⟩
theorem catTo_congr {α : Type _} {f g : Nat → List α} : ∀ {m : Nat}, (∀ i, i < m → f i = g i) → catTo f m = catTo g m
  | 0, _ => rfl
  | m + 1, h => by rw [catTo, catTo, h m (by omega), catTo_congr fun i hi => h i (by omega)]
theorem catTo_take {α : Type _} (f : Nat → List α) : ∀ {m i : Nat}, i < m → (catTo f m).Perm (f i ++ catTo (fun j => if j = i then [] else f j) m)
  | 0, i, h => by omega
  | m + 1, i, h => by
    rw [catTo, catTo]
    by_cases hi : i = m
    · subst hi
      rw [if_pos rfl, List.nil_append, catTo_congr (f := fun j => if j = i then [] else f j) (g := f) fun j hj => if_neg (by omega)]
    · rw [if_neg (fun e => hi e.symm)]
      have ih := catTo_take f (m := m) (i := i) (by omega)
      refine (ih.append_left (f m)).trans ?_
      rw [← List.append_assoc, ← List.append_assoc]
      exact (List.perm_append_comm).append_right _
theorem slot_put {ρ : Env} {d d' : Option Tmp} {v : Value} (h : ∀ t, d = some t → d' ≠ some t) : slotOf (putE ρ d v) d' = slotOf ρ d' := by
  cases d' with
  | none => rfl
  | some t =>
    cases d with
    | none => rfl
    | some t' => exact upd_ne _ _ fun e => h t' rfl (by rw [e])
def WA (P : Program) (N : Nat) (l : List Oper) (Q : QE) (fuel : Nat) (b : List Bool) (ρ : Env) (w : World) : Prop :=
  ∀ a, Agree N a ρ → wpAny P .any l.toArray (lift N Q) fuel b.toArray a w
def WAs (P : Program) (N : Nat) (l : List Oper) (Q : QE) (fuel : Nat) (b : List Bool) (ρ : Env) (w : World) : List Nat → Prop
  | [] => True
  | i :: is => (match l[i]? with
    | none => True
    | some o => WL P N l.toArray (oneQ ρ o.dst fun v w' => WA P N l Q fuel (b.set i true) (putE ρ o.dst v) w') [o] ρ w) ∧ WAs P N l Q fuel b ρ w is
end
section
variable {P : Program} {N : Nat} {Q : QE} {ρ ρ0 : Env} {w w1 : World} {w0 : Base} {l : List Oper} {ok0 : Nat → Prop} {Γ : List It} {Λ : List LObj}
theorem WA.done {b : List Bool} (h : Region.ready .any l.toArray b.toArray = []) (q : Q .normal ρ w) : WA P N l Q 0 b ρ w :=
  fun a ha => ⟨h, ρ, ha, q⟩
theorem WAs.at_ {fuel : Nat} {b : List Bool} : ∀ {is : List Nat}, WAs P N l Q fuel b ρ w is → ∀ i ∈ is, ∀ o, l[i]? = some o →
    WL P N l.toArray (oneQ ρ o.dst fun v w' => WA P N l Q fuel (b.set i true) (putE ρ o.dst v) w') [o] ρ w
  | [], _, i, hi, _, _ => by cases hi
  | j :: is, h, i, hi, o, ho => by
    rcases List.mem_cons.1 hi with rfl | hi
    · have := h.1
      rw [ho] at this
      exact this
    · exact WAs.at_ h.2 i hi o ho
theorem WA.step {fuel : Nat} {b : List Bool} (is : List Nat) (h : Region.ready .any l.toArray b.toArray = is) (hn : is ≠ []) (hs : WAs P N l Q fuel b ρ w is) : WA P N l Q (fuel + 1) b ρ w := by
  intro a ha
  refine ⟨fun e => absurd (h.symm.trans e) hn, fun i hi => ?_⟩
  have hi' : i ∈ is := h ▸ hi
  obtain ⟨_, o, ho, _⟩ := mem_ready.1 hi
  refine wpOp_of_WL ho ha (hs.at_ i hi' o (by simpa using ho)) fun a' v w' ha' hR => ?_
  have e : (b.set i true).toArray = b.toArray.setIfInBounds i true := by simp
  rw [← e]
  exact hR a' ha'

theorem anyOkT_le {m : Nat} (h : anyOkT l m = true) : m ≤ l.length := by
  simp only [anyOkT, Bool.and_eq_true] at h
  simpa using h.1
theorem anyOkT_lt {m : Nat} (h : anyOkT l m = true) {i d : Nat} (hi : i < l.length) (hd : d ∈ depsOf l i) : d < i := by
  simp only [anyOkT, Bool.and_eq_true, List.all_eq_true, List.mem_range] at h
  have := (h.2 i hi).1 d hd
  simp [Nat.blt] at this
  omega
theorem anyOkT_all {m : Nat} (h : anyOkT l m = true) {i j : Nat} (hi : i < l.length) (hm : m ≤ i) (hj : j < m) : reach l l.length i j = true := by
  simp only [anyOkT, Bool.and_eq_true, List.all_eq_true, List.mem_range, Bool.or_eq_true] at h
  rcases (h.2 i hi).2 with h | h
  · simp [Nat.blt] at h; omega
  · exact h j hj
theorem leftOf_mask (n m : Nat) (hm : m ≤ n) {listed : Array Bool} (hs : listed.size = n) (hl : ∀ i, i < n → (listed.getD i false = true ↔ i < m)) : leftOf listed n = n - m := by
  have : ∀ k, k ≤ n → leftOf listed k = k - m := by
    intro k
    induction k with
    | zero => intro _; simp [leftOf]
    | succ k ih =>
      intro hk
      rw [leftOf, ih (by omega)]
      have h1 := hl k (by omega)
      have h2 : listed.getD k true = listed.getD k false := by
        have : k < listed.size := by omega
        simp [this]
      rw [h2]
      by_cases h3 : k < m
      · rw [h1.2 h3]; simp; omega
      · have : listed.getD k false = false := by
          cases hb : listed.getD k false with
          | false => rfl
          | true => exact absurd (h1.1 hb) h3
        rw [this]; simp; omega
  exact this n (Nat.le_refl _)
theorem listed_mask (n m : Nat) {listed : Array Bool} (hs : listed.size = n) (hl : ∀ i, i < n → (listed.getD i false = true ↔ i < m)) : listed = (maskTo n m).toArray := by
  apply Array.ext
  · simp [maskTo, hs]
  · intro i h1 h2
    have h3 := hl i (by omega)
    simp only [Array.getD, h1, dif_pos] at h3
    simp only [maskTo, List.getElem_toArray, List.getElem_map, List.getElem_range]
    by_cases h4 : i < m
    · have := h3.2 h4
      rw [show Nat.blt i m = true by simp [Nat.blt]; omega]
      exact this
    · rw [show Nat.blt i m = false from Bool.eq_false_iff.2 fun e => h4 (by simp [Nat.blt] at e; omega)]
      cases hb : listed[i] with
      | false => rfl
      | true => exact absurd (h3.1 hb) h4

theorem W.any {id : Nat} (hm : P.follows .mixedOrders = true) (m F : Nat) (B : List Bool) (hF : l.length - m = F) (hB : maskTo l.length m = B) (po : Nat → PO) (hs : St ok0 w0 w1 Γ (catTo (fun i => (po i).Pre) m ++ Λ)) (hok : anyOkT l m = true) (hdd : distinctDst l = true) (hnd : needOk l m po = true)
    (hops : upTo (obl P N l ok0 w0 Γ Λ ρ0 po m) m)
    (hfin : ∀ ρ w, St ok0 w0 w (catTo (fun i => (po i).G (slotOf ρ (dstOf l i))) m ++ Γ) (catTo (fun i => (po i).L (slotOf ρ (dstOf l i))) m ++ Λ) → (∀ s, notDst (l.take m) s = true → ρ s = ρ0 s) →
      upTo (fun i => (po i).at_ l ρ (slotOf ρ (dstOf l i))) m → WA P N l Q F B ρ w) :
    W P N (.region id l.toArray true) Q ρ0 w1 := by
  intro a0 ha0
  refine wp_region_any hm ?_
  let con : Array Bool → Env → Nat → List LObj := fun listed ρ i => if listed.getD i false = true then (po i).L (slotOf ρ (dstOf l i)) else (po i).Pre
  let InvA : Array Bool → Act → World → Prop := fun listed a w => ∃ (ρ : Env) (Γx : List It), Agree N a ρ ∧ St ok0 w0 w (Γx ++ Γ) (catTo (con listed ρ) m ++ Λ) ∧ (∀ s, notDst (l.take m) s = true → ρ s = ρ0 s) ∧
    (∀ i, listed.getD i false = true → i < m ∧ (po i).at_ l ρ (slotOf ρ (dstOf l i)) ∧ ∀ it ∈ (po i).G (slotOf ρ (dstOf l i)), it ∈ Γx)
  have hsz : l.toArray.size = l.length := by simp
  have finish : ∀ listed a w, InvA listed a w → (∀ i, i < m → listed.getD i false = true) → wpAny P .any l.toArray (lift N Q) F B.toArray a w := by
    rintro listed a w ⟨ρ, Γx, hρ, hst, hu, hp⟩ hall
    refine hfin ρ w (St.sub (Γ := Γx ++ Γ) ?_ fun it hit => ?_) hu (upTo.mk m fun i hi => (hp i (hall i hi)).2.1) a hρ
    · rw [catTo_congr (f := con listed ρ) (g := fun i => (po i).L (slotOf ρ (dstOf l i))) fun i hi => if_pos (hall i hi)] at hst
      exact hst
    · rcases List.mem_append.1 hit with hit | hit
      · obtain ⟨i, hi, hx⟩ := mem_catTo hit
        exact List.mem_append.2 (.inl ((hp i (hall i hi)).2.2 it hx))
      · exact List.mem_append.2 (.inr hit)
  have hdeps : ∀ {listed : Array Bool} {i : Nat}, i ∈ Region.ready .any l.toArray listed → i < l.length ∧ listed.getD i true = false ∧ ∀ d ∈ depsOf l i, listed.getD d false = true := by
    intro listed i hi
    rw [mem_ready] at hi
    obtain ⟨h0, o, ho, hall⟩ := hi
    have ho' : l[i]? = some o := by simpa using ho
    refine ⟨(List.getElem?_eq_some_iff.1 ho').1, h0, fun d hd => ?_⟩
    simp only [depsOf, ho', Option.map_some, Option.getD_some, List.mem_map, List.mem_filter] at hd
    obtain ⟨e, ⟨he, hb⟩, rfl⟩ := hd
    exact hall e (by simpa using he) hb
  have hready : ∀ {listed : Array Bool}, Region.ready .any l.toArray listed = [] → listed.size = l.length → ∀ i, i < l.length → listed.getD i false = true := by
    intro listed hr hls i
    induction i using Nat.strongRecOn with
    | _ i ih =>
      intro hi
      cases hb : listed.getD i false with
      | true => rfl
      | false =>
        exfalso
        have hin : i ∈ Region.ready .any l.toArray listed := by
          rw [mem_ready]
          refine ⟨?_, l[i], by simp [hi], fun e he hbd => ?_⟩
          · have : i < listed.size := by omega
            simp [this] at hb ⊢
            exact hb
          · have hd : e.on ∈ depsOf l i := by
              simp only [depsOf, List.getElem?_eq_getElem hi, Option.map_some, Option.getD_some, List.mem_map, List.mem_filter]
              exact ⟨e, ⟨by simpa using he, hbd⟩, rfl⟩
            have hlt := anyOkT_lt hok hi hd
            exact ih e.on hlt (by omega)
        rw [hr] at hin
        cases hin
  have hset : ∀ {listed : Array Bool} {i j : Nat}, listed.size = l.length → i < l.length → ((listed.setIfInBounds i true).getD j false = true ↔ (j = i ∨ listed.getD j false = true)) := by
    intro listed i j hls hi
    by_cases hij : i = j
    · subst hij
      have : i < listed.size := by omega
      simp [this]
    · rw [getD_set_ne false hij]
      constructor
      · exact .inr
      · rintro (h | h)
        · exact absurd h.symm hij
        · exact h
  have main : ∀ fuel listed a w, listed.size = l.length → leftOf listed l.length = fuel →
      (∀ k, listed.getD k false = true → ∀ d ∈ depsOf l k, listed.getD d false = true) → InvA listed a w → wpAny P .any l.toArray (lift N Q) fuel listed a w := by
    intro fuel
    induction fuel with
    | zero =>
      intro listed a w hls hlf hcl hI
      have hall : ∀ i, i < l.length → listed.getD i false = true := by
        intro i hi
        have h1 := leftOf_zero hlf i hi
        have : i < listed.size := by omega
        simp [this] at h1 ⊢
        exact h1
      refine ⟨?_, ?_⟩
      · cases hr : Region.ready .any l.toArray listed with
        | nil => rfl
        | cons i rs =>
          exfalso
          obtain ⟨h1, h2, _⟩ := hdeps (listed := listed) (i := i) (by rw [hr]; simp)
          rw [leftOf_zero hlf i h1] at h2
          cases h2
      · have hmn : m = l.length := by
          obtain ⟨ρ, Γx, hρ, hst, hu, hp⟩ := hI
          rcases Nat.lt_or_ge m l.length with h | h
          · have := (hp m (hall m h)).1; omega
          · have := anyOkT_le hok; omega
        have h0 := finish listed a w hI fun i hi => hall i (by omega)
        have hF0 : F = 0 := by omega
        subst hF0
        exact h0.2
    | succ fuel ih =>
      intro listed a w hls hlf hcl hI
      have hne : Region.ready .any l.toArray listed ≠ [] := by
        intro hr
        have hall := hready hr hls
        have : ∀ n, n ≤ l.length → leftOf listed n = 0 := by
          intro n
          induction n with
          | zero => exact fun _ => rfl
          | succ n ihn =>
            intro hn
            have h1 := hall n (by omega)
            have : n < listed.size := by omega
            have h2 : listed.getD n true = true := by simp [this] at h1 ⊢; exact h1
            rw [leftOf, ihn (by omega), h2]; rfl
        rw [this l.length (Nat.le_refl _)] at hlf
        cases hlf
      refine ⟨fun hr => absurd hr hne, fun i hi => ?_⟩
      obtain ⟨hin, hi0, hid⟩ := hdeps hi
      have hri : ∀ j, reach l l.length i j = true → listed.getD j false = true := fun j hj => reach_listed hcl _ i j hid hj
      have ho : l[i]? = some l[i] := List.getElem?_eq_getElem hin
      have ho2 : l.toArray[i]? = some l[i] := by simpa using ho
      have hls' : (listed.setIfInBounds i true).size = l.length := by simpa using hls
      have hlf' : leftOf (listed.setIfInBounds i true) l.length = fuel := by
        have := leftOf_set hi0 l.length
        rw [if_pos hin] at this
        omega
      have hcl' : ∀ k, (listed.setIfInBounds i true).getD k false = true → ∀ d ∈ depsOf l k, (listed.setIfInBounds i true).getD d false = true := by
        intro k hk d hd
        rcases (hset hls hin).1 hk with rfl | hk
        · exact getD_set_true (hid d hd)
        · exact getD_set_true (hcl k hk d hd)
      have hif : listed.getD i false = false := by
        have : i < listed.size := by omega
        simp [this] at hi0 ⊢
        exact hi0
      rcases Nat.lt_or_ge i m with him | him
      · obtain ⟨ρ, Γx, hρ, hst, hu, hp⟩ := hI
        have hob := hops.at_ i him
        unfold obl at hob
        rw [ho] at hob
        have hci : con listed ρ i = (po i).Pre := if_neg (by rw [hif]; simp)
        have hst1 : St ok0 w0 w (Γx ++ Γ) (catTo (fun j => if j = i then [] else con listed ρ j) m ++ ((po i).Pre ++ Λ)) := by
          refine hst.perm ?_
          have := (catTo_take (con listed ρ) him).append_right Λ
          rw [hci] at this
          refine this.trans ((List.perm_append_comm.append_right Λ).trans ?_)
          rw [List.append_assoc]
        refine wpOp_of_WL ho2 hρ (hob ρ w Γx _ hst1 hu fun j hj => (hp j (hri j hj)).2) fun a' v w' ha' hR => ih _ a' w' hls' hlf' hcl' ?_
        have hdi : dstOf l i = l[i].dst := by simp [dstOf, ho]
        have hsame : ∀ j, j ≠ i → slotOf (putE ρ l[i].dst v) (dstOf l j) = slotOf ρ (dstOf l j) := fun j hj => slot_put fun t ht e => hj (distinct_of hdd e (hdi.trans ht))
        have hcs : ∀ j, j ≠ i → con (listed.setIfInBounds i true) (putE ρ l[i].dst v) j = con listed ρ j := by
          intro j hj
          show (if _ then _ else _) = (if _ then _ else _)
          rw [getD_set_ne false (fun e => hj e.symm), hsame j hj]
        have hci2 : con (listed.setIfInBounds i true) (putE ρ l[i].dst v) i = (po i).L (valOf l[i].dst v) := by
          show (if _ then _ else _) = _
          rw [if_pos ((hset hls hin).2 (.inl rfl)), hdi, slot_val]
        have hat : ∀ j, j < m → (∀ k, reach l l.length j k = true → listed.getD k false = true) → ∀ v', (po j).at_ l ρ v' → (po j).at_ l (putE ρ l[i].dst v) v' := by
          intro j hjm hk v' h
          have e : ((po j).needs.map fun k => slotOf (putE ρ l[i].dst v) (dstOf l k)) = (po j).needs.map fun k => slotOf ρ (dstOf l k) := by
            refine List.map_congr_left fun k hkn => hsame k ?_
            rintro rfl
            simp only [needOk, List.all_eq_true, List.mem_range] at hnd
            have := hk _ (hnd j hjm _ hkn)
            rw [hif] at this
            cases this
          unfold PO.at_
          rw [e]
          exact h
        have hcj := hri
        refine ⟨_, (po i).G (valOf l[i].dst v) ++ Γx, ha', ?_, fun s hsn => ?_, fun j hj => ?_⟩
        · rw [List.append_assoc]
          refine hR.2.perm ?_
          have h9 := (catTo_take (con (listed.setIfInBounds i true) (putE ρ l[i].dst v)) him).append_right Λ
          rw [hci2, catTo_congr (f := fun j => if j = i then [] else con (listed.setIfInBounds i true) (putE ρ l[i].dst v) j) (g := fun j => if j = i then [] else con listed ρ j) (fun j _ => by
            by_cases e : j = i
            · simp [e]
            · rw [if_neg e, if_neg e, hcs j e]), List.append_assoc] at h9
          exact h9.symm
        · cases hd : l[i].dst with
          | none => exact hu s hsn
          | some t =>
            have : s ≠ t := by
              rintro rfl
              exact notDst_of hsn (i := i) (by simp [dstOf, List.getElem?_take, him, ho, hd])
            show upd ρ t v s = ρ0 s
            rw [upd_ne _ _ this]
            exact hu s hsn
        · by_cases hji : j = i
          · subst hji
            refine ⟨him, ?_⟩
            rw [hdi, slot_val]
            exact ⟨hat j him hcj _ hR.1, fun it hit => List.mem_append.2 (.inl hit)⟩
          · have hj' := ((hset hls hin).1 hj).resolve_left hji
            rw [hsame j hji]
            exact ⟨(hp j hj').1, hat j (hp j hj').1 (fun k hk => reach_listed hcl _ j k (hcl j hj') hk) _ (hp j hj').2.1, fun it hit => List.mem_append.2 (.inr ((hp j hj').2.2 it hit))⟩
      · have hall : ∀ j, j < m → listed.getD j false = true := fun j hj => hri j (anyOkT_all hok hin him hj)
        have h0 := finish listed a w hI hall
        obtain ⟨ρ, Γx, hρ, hst, hu, hp⟩ := hI
        have hl2 : ∀ j, j < l.length → (listed.getD j false = true ↔ j < m) := fun j hj => ⟨fun h => (hp j h).1, fun h => hall j h⟩
        have e1 := listed_mask l.length m hls hl2
        have e2 := leftOf_mask l.length m (anyOkT_le hok) hls hl2
        have e3 : F = fuel + 1 := by omega
        rw [← hB, ← e1, e3] at h0
        exact h0.2 i hi
  have hfull : leftOf (Array.replicate l.length false) l.length = l.length := by
    have : ∀ n, n ≤ l.length → leftOf (Array.replicate l.length false) n = n := by
      intro n
      induction n with
      | zero => exact fun _ => rfl
      | succ n ih =>
        intro hn
        have h2 : (Array.replicate l.length false).getD n true = false := by
          have : n < l.length := by omega
          simp [this]
        rw [leftOf, ih (by omega), h2]; rfl
    exact this _ (Nat.le_refl _)
  have hnone : ∀ i, (Array.replicate l.length false).getD i false ≠ true := by
    intro i hi
    rcases Nat.lt_or_ge i l.length with h | h <;> simp [h] at hi
  suffices hgo : InvA (Array.replicate l.length false) a0 { w1 with drawn := w1.drawn + 1 } by
    have := main l.length (Array.replicate l.length false) a0 { w1 with drawn := w1.drawn + 1 } (by simp) hfull (fun k hk => absurd hk (hnone k)) hgo
    simpa using this
  refine ⟨ρ0, [], ha0, ?_, fun _ _ => rfl, fun i hi => absurd hi (hnone i)⟩
  rw [catTo_congr (f := con (Array.replicate l.length false) ρ0) (g := fun i => (po i).Pre) fun i _ => if_neg (hnone i)]
  exact hs.drew
end
end Go.Proofs.YthcohhpmpdijoaaDoorL
set_option linter.unusedVariables false
set_option linter.unusedSimpArgs false
set_option linter.unnecessarySimpa false
namespace Go.Proofs.YthcohhpmpdijoaaDoorL
open Go Go.RowKit

theorem bindE {α β : Type} {o : Option α} {f : α → Option β} {r : β} (h : o.bind f = some r) : ∃ x, o = some x ∧ f x = some r := Option.bind_eq_some_iff.1 h
theorem iteE {β : Type} {c : Bool} {a b : Option β} {r : β} (h : (if c then a else b) = some r) : (c = true ∧ a = some r) ∨ (c = false ∧ b = some r) := by
  cases c with
  | true => exact .inl ⟨rfl, h⟩
  | false => exact .inr ⟨rfl, h⟩
theorem guardE {β : Type} {c : Prop} [Decidable c] {a : Option β} {r : β} (h : (if c then a else none) = some r) : c ∧ a = some r := by
  split at h
  · exact ⟨‹_›, h⟩
  · cases h
def letV {α β : Type} (e : α) (f : α → Option β) : Option β := f e
theorem letE {α β : Type} {e : α} {f : α → Option β} {r : β} (h : letV e f = some r) : ∃ x, e = x ∧ f x = some r := ⟨e, rfl, h⟩
theorem bool_tr {v : Value} {c b : Bool} (h : v = .bool c) (hc : c = b) : v = .bool b := by rw [h, hc]
theorem ib_as {op : BinOp} {k : IntKind} {a b e x : Int} (h : e = x) (hb : IntBin op k a b (.int k e)) : IntBin op k a b (.int k x) := h ▸ hb
def app {α : Type} (bytes : Nat) (xs ys : List α) : Option (List α) := if (xs.length + ys.length) * bytes ≤ 140737488355328 then some (xs ++ ys) else none
theorem appE {α : Type} {bytes : Nat} {xs ys zs : List α} (h : app bytes xs ys = some zs) : (xs.length + ys.length) * bytes ≤ 140737488355328 ∧ xs ++ ys = zs := by
  unfold app at h
  obtain ⟨h1, h2⟩ := guardE h
  exact ⟨h1, Option.some.inj h2⟩
def cat (a b : List UInt8) : Option (List UInt8) := if a.length + b.length ≤ 9223372036854775807 then some (a ++ b) else none
theorem sb_cat {a b c : List UInt8} (h : cat a b = some c) : StrBin .add a b (bstr c) := by
  unfold cat at h
  obtain ⟨h1, h2⟩ := guardE h
  cases h2
  exact sb_add a b h1
def cut {α : Type} (xs : List α) (lo hi : Int) : Option (List α) := if 0 ≤ lo ∧ lo ≤ hi ∧ hi ≤ xs.length then some ((xs.take hi.toNat).drop lo.toNat) else none
theorem cutE {α : Type} {xs ys : List α} {lo hi : Int} (h : cut xs lo hi = some ys) : (0 ≤ lo ∧ lo ≤ hi ∧ hi ≤ xs.length) ∧ (xs.take hi.toNat).drop lo.toNat = ys := by
  obtain ⟨h1, h2⟩ := guardE h
  exact ⟨h1, Option.some.inj h2⟩
def mk {α : Type} (bytes : Nat) (n : Int) (z : α) : Option (List α) := if 0 ≤ n ∧ n * bytes ≤ 140737488355328 then some (List.replicate n.toNat z) else none
def maxI (a b : Int) : Int := if b > a then b else a
def minI (a b : Int) : Int := if b < a then b else a

theorem All.nil {ok : Nat → Prop} {w : World} : All ok w [] := fun _ h => by cases h
theorem All.cons {ok : Nat → Prop} {w : World} {it : It} {Γ : List It} (h : it.holds ok w) (hr : All ok w Γ) : All ok w (it :: Γ) := fun i hi => by
  rcases List.mem_cons.1 hi with rfl | hi
  · exact h
  · exact hr i hi
section
variable {α β γ : Type} {T : Ty α} {F : Ty β} {G : Ty γ} {ok : Nat → Prop} {w : World}
theorem R_agg {x : α} {cs : List Value} (h : (vl T x (.agg cs.toArray)).holds ok w) (hT : T.agg = true) : T.R ok w x cs := by
  obtain ⟨ds, hR, e⟩ := h
  rw [hT] at e
  simp only [cond_true, Value.agg.injEq] at e
  have : cs = ds := by simpa using congrArg Array.toList e
  rwa [this]
theorem V_agg {x : α} {cs : List Value} (h : T.R ok w x cs) (hT : T.agg = true) : (vl T x (.agg cs.toArray)).holds ok w := ⟨cs, h, by rw [hT]; rfl⟩
theorem R_one {xs : List α} {v : Value} (h : (vl (tSlice T) xs v).holds ok w) : (tSlice T).R ok w xs [v] := by
  obtain ⟨a, c, e, h1, h2⟩ := tSlice_V.1 h
  exact ⟨a, c, by rw [e], h1, h2⟩
theorem R_nil : (tSlice T).R ok w [] [.slice none 0 0] := ⟨none, 0, rfl, Nat.le_refl _, .inl rfl⟩
theorem V_fld {off : Nat} {get : α → β} {set : α → β → α} (hf : Fld T F off get set) {x : α} {cs : List Value} {v : Value} (h : (vl T x (.agg cs.toArray)).holds ok w) (hT : T.agg = true) (hF : F.agg = false) (hv : (cs.drop off).take F.sz = [v]) :
    (vl F (get x) v).holds ok w := ⟨[v], hv ▸ hf.get_ (R_agg h hT), by rw [hF]; rfl⟩
theorem Fld.self : Fld T T 0 (fun x => x) (fun _ y => y) where
  le := by simp
  get_ := by
    intro ok w x cs h
    rw [List.drop_zero, ← T.len h, List.take_length]
    exact h
  set_ := by
    intro ok w x cs y ds h h'
    rw [List.take_zero, Nat.zero_add, ← T.len h, List.drop_length]
    simpa using h'
theorem Fld.fst (T : Ty α) (F : Ty β) : Fld (tPair T F) T 0 (fun x => x.1) (fun x y => (y, x.2)) where
  le := by show 0 + T.sz ≤ T.sz + F.sz; omega
  get_ := by
    rintro ok w x _ ⟨c1, c2, rfl, h1, h2⟩
    rw [List.drop_zero, ← T.len h1, List.take_left]
    exact h1
  set_ := by
    rintro ok w x _ y ds ⟨c1, c2, rfl, h1, h2⟩ h'
    rw [List.take_zero, Nat.zero_add, ← T.len h1, List.drop_left]
    exact ⟨ds, c2, by simp, h', h2⟩
theorem Fld.snd {off : Nat} {get : β → γ} {set : β → γ → β} (h : Fld F G off get set) : Fld (tPair T F) G (T.sz + off) (fun x => get x.2) (fun x y => (x.1, set x.2 y)) where
  le := by have := h.le; show T.sz + off + G.sz ≤ T.sz + F.sz; omega
  get_ := by
    rintro ok w x _ ⟨c1, c2, rfl, h1, h2⟩
    rw [← T.len h1, ← List.drop_drop, List.drop_left]
    exact h.get_ h2
  set_ := by
    rintro ok w x _ y ds ⟨c1, c2, rfl, h1, h2⟩ h'
    refine ⟨c1, _, ?_, h1, h.set_ h2 h'⟩
    rw [← T.len h1]
    have e1 : (c1 ++ c2).take (c1.length + off) = c1 ++ c2.take off := by
      rw [List.take_append, List.take_of_length_le (by omega), Nat.add_sub_cancel_left]
    have e2 : (c1 ++ c2).drop (c1.length + off + G.sz) = c2.drop (off + G.sz) := by
      rw [Nat.add_assoc, ← List.drop_drop, List.drop_left]
    rw [e1, e2]
    simp
theorem Fld.iso {off : Nat} {get : β → γ} {set : β → γ → β} (h : Fld F G off get set) {f : α → β} {g : α → γ} {s : α → γ → α} {off' : Nat} (hg : ∀ x, g x = get (f x)) (hs : ∀ x y, f (s x y) = set (f x) y) (ho : off = off' := by rfl) : Fld (tIso F f) G off' g s where
  le := by subst ho; exact h.le
  get_ := by
    intro ok w x cs h'
    subst ho
    rw [hg]
    exact h.get_ h'
  set_ := by
    intro ok w x cs y ds h1 h2
    subst ho
    show F.R ok w (f (s x y)) _
    rw [hs]
    exact h.set_ h1 h2
theorem Fld.comp {o1 o2 : Nat} {g1 : α → β} {s1 : α → β → α} {g2 : β → γ} {s2 : β → γ → β} (h : Fld T F o1 g1 s1) (k : Fld F G o2 g2 s2) : Fld T G (o1 + o2) (fun x => g2 (g1 x)) (fun x y => s1 x (s2 (g1 x) y)) where
  le := by have := h.le; have := k.le; omega
  get_ := by
    intro ok w x cs hR
    have := k.get_ (h.get_ hR)
    rw [List.drop_take, List.drop_drop, List.take_take, Nat.min_eq_left (by have := k.le; omega)] at this
    exact this
  set_ := by
    intro ok w x cs y ds hR h'
    have h2 := h.set_ hR (k.set_ (h.get_ hR) h')
    have hl := T.len hR
    have hd := G.len h'
    have hk := k.le
    have hh := h.le
    have e : cs.take o1 ++ (((cs.drop o1).take F.sz).take o2 ++ ds ++ ((cs.drop o1).take F.sz).drop (o2 + G.sz)) ++ cs.drop (o1 + F.sz) = cs.take (o1 + o2) ++ ds ++ cs.drop (o1 + o2 + G.sz) := by
      rw [List.take_take, Nat.min_eq_left (by omega), List.drop_take, List.drop_drop]
      have a1 : cs.take (o1 + o2) = cs.take o1 ++ (cs.drop o1).take o2 := by rw [List.take_add]
      have a2 : cs.drop (o1 + o2 + G.sz) = (cs.drop (o1 + (o2 + G.sz))).take (F.sz - (o2 + G.sz)) ++ cs.drop (o1 + F.sz) := by
        conv => lhs; rw [show o1 + o2 + G.sz = o1 + (o2 + G.sz) by omega, ← List.take_append_drop (F.sz - (o2 + G.sz)) (cs.drop (o1 + (o2 + G.sz))), List.drop_drop]
        rw [show o1 + (o2 + G.sz) + (F.sz - (o2 + G.sz)) = o1 + F.sz by omega]
      rw [a1, a2]
      simp only [List.append_assoc]
    rw [← e]
    exact h2
end

section
variable {P : Program} {N : Nat} {Q : QE} {ρ : Env} {w : World} {w0 : Base} {ops : Array Oper} {rest : List Oper}
variable {d : Option Tmp} {ty : TypeId} {pos : String} {aft : Array Edge} {gd : Option (Nat × Bool)}
variable {ok0 : Nat → Prop} {Γ : List It} {Λ : List LObj}
theorem St.aggv (hs : St ok0 w0 w Γ Λ) (i : Nat) {α : Type} {A : Ty α} {x : α} {v : Value} {n : Nat} (hi : Γ[i]? = some (vl A x v)) (hA : A.agg = true) (hn : A.sz = n) : ∃ cs : List Value, cs.length = n ∧ v = .agg cs.toArray := by
  obtain ⟨ok, ds, hR, e⟩ := hs.get i hi
  rw [hA] at e
  exact ⟨ds, hn ▸ A.len hR, e⟩
theorem St.agglen (hs : St ok0 w0 w Γ Λ) (i : Nat) {α : Type} {A : Ty α} {x : α} {cs : List Value} {n : Nat} (hi : Γ[i]? = some (vl A x (.agg cs.toArray))) (hA : A.agg = true) (hn : A.sz = n) : cs.length = n := by
  obtain ⟨ok, h⟩ := hs.get i hi
  exact hn ▸ A.len (R_agg h hA)
theorem St.ones (hs : St ok0 w0 w Γ Λ) (i : Nat) {α : Type} {A : Ty α} {x : α} {cs : List Value} (hi : Γ[i]? = some (vl A x (.agg cs.toArray))) (hA : A.agg = true) : ∀ u ∈ cs, u.oneCell' = true := by
  obtain ⟨ok, h⟩ := hs.get i hi
  exact A.one (R_agg h hA)
theorem ones_of {l : List Value} (h : (l.all fun u => u.oneCell') = true) : ∀ u ∈ l, u.oneCell' = true := by simpa using h
theorem res_all (hs : St ok0 w0 w Γ Λ) (i : Nat) {g : Nat} {T t : TypeId} {cs : List Value} {sz : Nat} {p : Tmp} (hi : Λ[i]? = some (blk g T cs)) (ht : TI P t true sz) (h : ρ p = .pointer (some ⟨g, 0, none⟩)) (hl : cs.length = sz) : resVal P ρ w (.agg cs.toArray) (.cell p t) :=
  ⟨_, h, run_loadVarN ht hl fun k u hu => by rw [blk_cell (hs.blk_at i hi), Nat.zero_add]; exact hu⟩
theorem WL.loadAll {t : TypeId} {x : Operand} {g : Nat} {T : TypeId} {cs : List Value} {sz : Nat} (hs : St ok0 w0 w Γ Λ) (i : Nat) (hi : Λ[i]? = some (blk g T cs)) (ht : TI P t true sz)
    (hx : ρ.ev x = .pointer (some ⟨g, 0, none⟩)) (hl : cs.length = sz) (K : WL P N ops Q rest (putE ρ d (.agg cs.toArray)) w)
    (hg : wantedE ops ρ ⟨d, .load t x, ty, pos, aft, gd⟩ = true := by rfl) (hd : fits N d = true := by rfl) :
    WL P N ops Q (⟨d, .load t x, ty, pos, aft, gd⟩ :: rest) ρ w :=
  WL.load_ hx (run_loadVarN ht hl fun k u hu => by rw [blk_cell (hs.blk_at i hi), Nat.zero_add]; exact hu) K hg hd
theorem WL.storeAll {t : TypeId} {a x : Operand} {agg : Bool} {sz g : Nat} {T : TypeId} {cs vs : List Value} {v : Value} (hs : St ok0 w0 w Γ Λ) (i : Nat) (hi : Λ[i]? = some (blk g T cs)) (ht : TI P t agg sz)
    (ha : ρ.ev a = .pointer (some ⟨g, 0, none⟩)) (hx : ρ.ev x = v) (hv : v.cells = vs.toArray) (hl : vs.length = sz) (h1 : ∀ u ∈ vs, u.oneCell' = true) (hb : cs.length = sz)
    (K : ∀ w', St ok0 w0 w' Γ (Λ.set i (blk g T vs)) → WL P N ops Q rest (putE ρ d undef) w')
    (hg : wantedE ops ρ ⟨d, .store t a x, ty, pos, aft, gd⟩ = true := by rfl) (hd : fits N d = true := by rfl) :
    WL P N ops Q (⟨d, .store t a x, ty, pos, aft, gd⟩ :: rest) ρ w :=
  WL.store hs i hi ht ha hx hv hl h1 (by omega) (by
    rw [setAt_eq _ _ _ (by omega), List.take_zero, Nat.zero_add, hl, ← hb, List.drop_length]; simp) K hg hd

def fillL (places : List (Nat × Nat)) : List (Nat × Value) → List Value → Option (List Value)
  | [], cs => some cs
  | (i, v) :: l, cs => match places[i]? with
    | none => none
    | some (off, sz) => if v.cells.toList.length = sz ∧ off + sz ≤ cs.length then fillL places l (cs.take off ++ v.cells.toList ++ cs.drop (off + sz)) else none
theorem foldl_set (off : Nat) : ∀ (vs : List Value) (k : Nat) (cs : Array Value), (vs.zipIdx k).foldl (fun cs (c, j) => cs.setIfInBounds (off + j) c) cs = (setAt cs.toList (off + k) vs).toArray
  | [], k, cs => by simp [setAt]
  | v :: vs, k, cs => by
    rw [List.zipIdx_cons, List.foldl_cons, foldl_set off vs (k + 1)]
    simp [setAt, Nat.add_assoc]
theorem fill_of {place : Nat → Option (Nat × Nat)} {places : List (Nat × Nat)} (hp : ∀ i q, places[i]? = some q → place i = some q) : ∀ (l : List (Nat × Value)) (cs : List Value) (out : List Value), fillL places l cs = some out → Instr.fill place cs.toArray l = some out.toArray
  | [], cs, out, h => by simp [fillL] at h; simp [Instr.fill, h]
  | (i, v) :: l, cs, out, h => by
    unfold fillL at h
    unfold Instr.fill
    cases hpi : places[i]? with
    | none => rw [hpi] at h; cases h
    | some q =>
      obtain ⟨off, sz⟩ := q
      rw [hpi] at h
      rw [hp i _ hpi]
      dsimp only at h ⊢
      split at h
      · rename_i hc
        have hsz : v.cells.size = sz := by simpa using hc.1
        rw [if_neg (by simp [hsz]; omega)]
        have e : v.cells.zipIdx.foldl (fun cs (c, j) => cs.setIfInBounds (off + j) c) cs.toArray = (cs.take off ++ v.cells.toList ++ cs.drop (off + sz)).toArray := by
          rw [← Array.foldl_toList, Array.toList_zipIdx, foldl_set off v.cells.toList 0 cs.toArray]
          simp only [Nat.add_zero]
          rw [setAt_eq _ _ _ (by rw [hc.1]; exact hc.2), hc.1]
        rw [e]
        exact fill_of hp l _ out h
      · cases h
def PL (P : Program) (t : TypeId) (places : List (Nat × Nat)) (zero : List Value) : Prop :=
  (∃ fs : Array Field, P.underlying t = some (.struct fs) ∧ ∀ w, (fs.mapM fun f => do pure (f.offset, ← sizeOf f.type) : Sem (Array (Nat × Nat))).run P w = .ok places.toArray w) ∧ ∃ z, (∀ w, (zeroValue t).run P w = .ok z w) ∧ z.cells = zero.toArray
theorem bld {t : TypeId} {places : List (Nat × Nat)} {zero cs : List Value} {vs : List (Nat × Value)} (h : PL P t places zero) (hf : fillL places vs zero = some cs) : BLD P t vs cs := by
  obtain ⟨⟨fs, hu, hp⟩, z, hz, hc⟩ := h
  intro w
  unfold Instr.build
  refine (run_bind (hz w)).trans ?_
  refine (run_bind (run_und hu w)).trans ?_
  refine (run_bind (hp w)).trans ?_
  rw [hc, fill_of (places := places) (fun i q h => by simpa using h) vs zero cs hf]
  rfl
def PS (P : Program) (t E : TypeId) (sz : Nat) (zero : List Value) : Prop :=
  P.underlying t = some (.slice E) ∧ (∀ w, (sizeOf E).run P w = .ok sz w) ∧ ∃ z, (∀ w, (zeroValue E).run P w = .ok z w) ∧ z.cells = zero.toArray
def fillS (sz n : Nat) (zero : List Value) (vs : List (Nat × Value)) : Option (List Value) := fillL ((List.range n).map fun i => (i * sz, sz)) vs ((List.replicate n zero).flatten)
theorem flatten_rep (zero : List Value) : ∀ n, (List.replicate n zero).flatten = (List.range (n * zero.length)).map fun i => zero[i % zero.length]!
  | 0 => by simp
  | n + 1 => by
    rw [List.replicate_succ', List.flatten_append, flatten_rep zero n]
    rw [show (n + 1) * zero.length = n * zero.length + zero.length by rw [Nat.add_mul, Nat.one_mul], List.range_add, List.map_append]
    congr 1
    simp only [List.flatten_cons, List.flatten_nil, List.append_nil, List.map_map]
    apply List.ext_getElem
    · simp
    · intro i h1 h2
      simp only [List.getElem_map, List.getElem_range, Function.comp]
      have : (n * zero.length + i) % zero.length = i := by
        rw [Nat.mul_comm, Nat.mul_add_mod, Nat.mod_eq_of_lt h1]
      rw [this]
      simp [h1]
theorem bls {t E : TypeId} {sz n : Nat} {zero cs : List Value} {vs : List (Nat × Value)} (h : PS P t E sz zero) (hn : 0 < n ∧ zero.length = sz ∧ 0 < sz ∧ n * sz ≤ 16777216) (hf : fillS sz n zero vs = some cs) : BLS P t n vs E cs := by
  obtain ⟨hu, hs, z, hz, hc⟩ := h
  obtain ⟨hn0, hl, hs0, hb⟩ := hn
  intro w
  unfold Instr.buildSlice
  refine (run_bind (run_und hu w)).trans ?_
  refine (run_bind (hs w)).trans ?_
  rw [if_neg (by omega)]
  have h0 : n * sz ≠ 0 := by
    have := Nat.mul_pos hn0 hs0; omega
  rw [if_neg h0]
  refine (run_bind (hz w)).trans ?_
  rw [hc]
  refine (run_bind (x := zero.toArray) (w' := w) rfl).trans ?_
  have e : (Array.range (n * sz)).map (fun i => zero.toArray[i % zero.toArray.size]!) = ((List.replicate n zero).flatten).toArray := by
    rw [flatten_rep, hl]
    apply Array.ext
    · simp
    · intro i h1 h2
      simp [hl]
  dsimp only
  rw [e, fill_of (places := (List.range n).map fun i => (i * sz, sz)) ?_ vs _ cs hf]
  · rfl
  · intro i q h
    rw [List.getElem?_map] at h
    obtain ⟨j, hj, e⟩ := Option.map_eq_some_iff.1 h
    obtain ⟨hlt, he⟩ := List.getElem?_eq_some_iff.1 hj
    simp at he
    subst he
    rw [← e]
theorem WL.makeFunc {f : FuncId} {caps : List Operand} {vs : List Value} (ha : Evs ρ caps vs) (K : WL P N ops Q rest (putE ρ d (.func (.func f) #[] vs.toArray)) w)
    (hg : wantedE ops ρ ⟨d, .makeFunc (.func f) #[] caps.toArray, ty, pos, aft, gd⟩ = true := by rfl) (hd : fits N d = true := by rfl) :
    WL P N ops Q (⟨d, .makeFunc (.func f) #[] caps.toArray, ty, pos, aft, gd⟩ :: rest) ρ w :=
  WL.value hg hd (v := .func (.func f) #[] vs.toArray) (w' := w) (by
    show (do pure (Next.value (← Instr.makeFunc (.func f) (#[].map ρ.ev) (caps.toArray.map ρ.ev))) : Sem Next).run P w = _
    simp only [List.map_toArray, ha.map]
    rfl) K
theorem WL.shr_ {T T' : TypeId} {x y : Operand} {k k' : IntKind} {a b e : Int} (hx : ρ.ev x = .int k a) (hy : ρ.ev y = .int k' b) (hb : 0 ≤ b) (he : shrI k a b = e)
    (K : WL P N ops Q rest (putE ρ d (.int k e)) w)
    (hg : wantedE ops ρ ⟨d, .binOp .shr T x y T', ty, pos, aft, gd⟩ = true := by rfl) (hd : fits N d = true := by rfl) :
    WL P N ops Q (⟨d, .binOp .shr T x y T', ty, pos, aft, gd⟩ :: rest) ρ w := WL.shr hx hy hb (he ▸ K) hg hd
theorem WL.max {T T' : TypeId} {x y : Operand} {k : IntKind} {a b : Int} (hx : ρ.ev x = .int k a) (hy : ρ.ev y = .int k b) (K : WL P N ops Q rest (putE ρ d (.int k (maxI a b))) w)
    (hg : wantedE ops ρ ⟨d, .call { callee := .builtin .max, args := #[x, y], argTypes := #[T, T'] }, ty, pos, aft, gd⟩ = true := by rfl) (hd : fits N d = true := by rfl) :
    WL P N ops Q (⟨d, .call { callee := .builtin .max, args := #[x, y], argTypes := #[T, T'] }, ty, pos, aft, gd⟩ :: rest) ρ w :=
  WL.value hg hd (v := .int k (maxI a b)) (w' := w) (exec_builtin fun cs => by
    rw [List.map_toArray]
    simp only [List.map_cons, List.map_nil, hx, hy]
    rfl) K
theorem WL.min {T T' : TypeId} {x y : Operand} {k : IntKind} {a b : Int} (hx : ρ.ev x = .int k a) (hy : ρ.ev y = .int k b) (K : WL P N ops Q rest (putE ρ d (.int k (minI a b))) w)
    (hg : wantedE ops ρ ⟨d, .call { callee := .builtin .min, args := #[x, y], argTypes := #[T, T'] }, ty, pos, aft, gd⟩ = true := by rfl) (hd : fits N d = true := by rfl) :
    WL P N ops Q (⟨d, .call { callee := .builtin .min, args := #[x, y], argTypes := #[T, T'] }, ty, pos, aft, gd⟩ :: rest) ρ w :=
  WL.value hg hd (v := .int k (minI a b)) (w' := w) (exec_builtin fun cs => by
    rw [List.map_toArray]
    simp only [List.map_cons, List.map_nil, hx, hy]
    rfl) K
def OwnAt (sz : Nat) (v : Value) (i : Int) (ad : Addr) : Prop := ∃ g n c, v = .slice (some ⟨g, 0, none⟩) n c ∧ ad = ⟨g, i.toNat * sz, none⟩
theorem own_some {ok : Nat → Prop} {bs : List Nat} {α : Type} {A : Ty α} {E : TypeId} {v : Value} {xs : List α} (h : (own A E v xs).H ok bs w) (h0 : 0 < xs.length) :
    ∃ g c cur, v = .slice (some ⟨g, 0, none⟩) xs.length c ∧ bs = [g] ∧ w.heap[g]? = some (.cells cur E (0, 0)) ∧ xs.length ≤ c ∧ c ≤ maxLen ∧ cur.size = c * A.sz ∧ Cells A ok w xs (cur.toList.take (xs.length * A.sz)) := by
  rcases h with ⟨_, _, h, _⟩ | ⟨_, cs, hb, how, hC⟩
  · subst h; simp at h0
  rcases how.2 with ⟨_, h1⟩ | ⟨g, cap, cur, rfl, _, hg, hc, hm, hs, ht⟩
  · omega
  · exact ⟨g, cap, cur, rfl, by simpa [Value.ownBlock] using hb, hg, hc, hm, hs, ht ▸ hC⟩
theorem WL.indexAddrO {α : Type} {A : Ty α} {xs : List α} {y : α} {T E E' : TypeId} {x z : Operand} {a : Option Addr} {c : Nat} {k : IntKind} {i : Int} {agg : Bool} {n : Nat} (hs : St ok0 w0 w Γ Λ) (m : Nat) (hm : Λ[m]? = some (own A E' (.slice a n c) xs))
    (hT : P.underlying T = some (.slice E)) (hE : TI P E agg A.sz) (hx : ρ.ev x = .slice a n c) (hz : ρ.ev z = .int k i) (hi : idx xs i = some y)
    (K : ∀ ad, OwnAt A.sz (.slice a n c) i ad → WL P N ops Q rest (putE ρ d (.pointer (some ad))) w)
    (hg : wantedE ops ρ ⟨d, .indexAddr T x z, ty, pos, aft, gd⟩ = true := by rfl) (hd : fits N d = true := by rfl) :
    WL P N ops Q (⟨d, .indexAddr T x z, ty, pos, aft, gd⟩ :: rest) ρ w := by
  obtain ⟨h0, h1, h2⟩ := idx_some hi
  obtain rfl := hs.ownLen m hm
  obtain ⟨ok, bs, ho, _⟩ := hs.split m hm
  obtain ⟨g, c', cur, e, _⟩ := own_some ho (by omega)
  cases e
  refine WL.value hg hd (v := .pointer (some ⟨g, i.toNat * A.sz, none⟩)) (w' := w) (by
    show (do pure (Next.value (← Instr.indexAt T (ρ.ev x) (ρ.ev z))) : Sem Next).run P w = _
    rw [hx, hz]
    have := run_indexAt (P := P) (w := w) (g := g) (off := 0) (c := c) (k := k) hT hE h0 h1
    rw [Nat.zero_add] at this
    exact exec_v this) (K _ ⟨g, _, _, rfl, rfl⟩)
theorem WL.loadO {α : Type} {A : Ty α} {xs : List α} {y : α} {t E : TypeId} {x : Operand} {v : Value} {i : Int} {ad : Addr} (hs : St ok0 w0 w Γ Λ) (m : Nat) (hm : Λ[m]? = some (own A E v xs)) (ht : TI P t A.agg A.sz) (h1 : A.agg = true ∨ A.sz = 1)
    (hat : OwnAt A.sz v i ad) (hi : idx xs i = some y) (hx : ρ.ev x = .pointer (some ad)) (K : ∀ u, St ok0 w0 w (vl A y u :: Γ) Λ → WL P N ops Q rest (putE ρ d u) w)
    (hg : wantedE ops ρ ⟨d, .load t x, ty, pos, aft, gd⟩ = true := by rfl) (hd : fits N d = true := by rfl) :
    WL P N ops Q (⟨d, .load t x, ty, pos, aft, gd⟩ :: rest) ρ w := by
  obtain ⟨h0, hlt, h2⟩ := idx_some hi
  obtain ⟨g, n, c, rfl, rfl⟩ := hat
  obtain ⟨hB, bss, hN, hltb, hO, hA⟩ := hs
  obtain ⟨l1, bs, l2, rfl, hl, ho, hput⟩ := Own.split m hO hm
  obtain ⟨g', c', cur, e, hb, hg', hc, hmx, hsz, hC⟩ := own_some ho (by omega)
  cases e
  have hR := hC.2 _ _ h2
  generalize hvs : ((cur.toList.take (xs.length * A.sz)).drop (i.toNat * A.sz)).take A.sz = vs at hR
  have hlen := A.len hR
  have hcell : ∀ k u, vs[k]? = some u → w.cell? ⟨g, i.toNat * A.sz + k, none⟩ = some u := by
    intro k u hu
    rw [← hvs, List.getElem?_take] at hu
    split at hu
    · rw [List.getElem?_drop, List.getElem?_take] at hu
      split at hu
      · simp only [World.cell?, hg']
        simpa using hu
      · cases hu
    · cases hu
  have hload : (loadVar t ⟨g, i.toNat * A.sz, none⟩).run P w = .ok (bif A.agg then .agg vs.toArray else vs.getD 0 undef) w := by
    rcases hag : A.agg with _ | _
    · have hsz1 := h1.resolve_left (by simp [hag])
      rw [hag] at ht
      match vs, hlen, hcell with
      | [], hl, _ => simp [hsz1] at hl
      | c :: cs', hl, hc => exact run_loadVar1 ht (hc 0 c rfl)
    · rw [hag] at ht
      exact run_loadVarN ht hlen hcell
  exact WL.load_ hx hload (K _ ⟨hB, _, hN, hltb, hO, fun it hit => by
    rcases List.mem_cons.1 hit with rfl | hit
    · exact V_one hR
    · exact hA it hit⟩) hg hd
theorem Cells.set {α : Type} {A : Ty α} {ok : Nat → Prop} {xs : List α} {cs vs : List Value} {y : α} (h : Cells A ok w xs cs) (hy : A.R ok w y vs) (j : Nat) (hj : j < xs.length) : Cells A ok w (xs.set j y) (setAt cs (j * A.sz) vs) := by
  have hl := A.len hy
  have hle : (j + 1) * A.sz ≤ xs.length * A.sz := Nat.mul_le_mul_right _ hj
  rw [Nat.add_mul, Nat.one_mul, ← h.1] at hle
  rw [setAt_eq _ _ _ (by omega), hl]
  refine ⟨?_, fun k x hk => ?_⟩
  · have := h.1
    simp only [List.length_append, List.length_take, List.length_drop, hl, List.length_set]
    omega
  · rcases Nat.lt_trichotomy k j with hkj | rfl | hkj
    · rw [List.getElem?_set_ne (by omega)] at hk
      have hR := h.2 k x hk
      have h3 : (k + 1) * A.sz ≤ j * A.sz := Nat.mul_le_mul_right _ hkj
      rw [Nat.add_mul, Nat.one_mul] at h3
      rw [List.append_assoc, List.drop_append_of_le_length (by rw [List.length_take]; omega), List.take_append_of_le_length (by rw [List.length_drop, List.length_take]; omega), List.drop_take, List.take_take, Nat.min_eq_left (by omega)]
      exact hR
    · rw [List.getElem?_set_self hj] at hk
      cases hk
      have h4 : (cs.take (k * A.sz)).length = k * A.sz := by rw [List.length_take]; omega
      have e : (cs.take (k * A.sz) ++ vs ++ cs.drop (k * A.sz + A.sz)).drop (k * A.sz) = vs ++ cs.drop (k * A.sz + A.sz) := by
        rw [List.append_assoc, List.drop_append, h4, Nat.sub_self, List.drop_zero, List.drop_of_length_le (by omega), List.nil_append]
      rw [e, ← hl, List.take_left]
      exact hy
    · rw [List.getElem?_set_ne (by omega)] at hk
      have hR := h.2 k x hk
      have h3 : (j + 1) * A.sz ≤ k * A.sz := Nat.mul_le_mul_right _ hkj
      rw [Nat.add_mul, Nat.one_mul] at h3
      have h4 : (cs.take (j * A.sz) ++ vs).length = j * A.sz + A.sz := by rw [List.length_append, List.length_take, hl]; omega
      have e : (cs.take (j * A.sz) ++ vs ++ cs.drop (j * A.sz + A.sz)).drop (k * A.sz) = cs.drop (k * A.sz) := by
        rw [List.drop_append, List.drop_of_length_le (by omega), List.nil_append, h4, List.drop_drop]
        congr 1
        omega
      rw [e]
      exact hR
theorem WL.indexS {T : TypeId} {x z : Operand} {s : List UInt8} {k : IntKind} {i : Int} {b : UInt8} (hT : P.underlying T = some .string) (hx : ρ.ev x = bstr s) (hz : ρ.ev z = .int k i) (hi : idx s i = some b)
    (K : WL P N ops Q rest (putE ρ d (.int .u8 (b.toNat : Int))) w)
    (hg : wantedE ops ρ ⟨d, .index T x z, ty, pos, aft, gd⟩ = true := by rfl) (hd : fits N d = true := by rfl) :
    WL P N ops Q (⟨d, .index T x z, ty, pos, aft, gd⟩ :: rest) ρ w :=
  WL.value hg hd (v := .int .u8 (b.toNat : Int)) (w' := w) (by
    show (do pure (Next.value (← Instr.index T (ρ.ev x) (ρ.ev z))) : Sem Next).run P w = _
    rw [hx, hz]
    refine exec_v ?_
    obtain ⟨h0, h1, h2⟩ := idx_some hi
    unfold Instr.index bstr
    refine (run_bind (x := (k, i)) (w' := w) rfl).trans ?_
    refine (run_bind (run_und hT w)).trans ?_
    have e : (if 0 ≤ i then (⟨s.toArray⟩ : ByteArray)[i.toNat]? else none) = some b := by
      rw [if_pos h0]
      have hlt : i.toNat < (⟨s.toArray⟩ : ByteArray).size := by simpa [ByteArray.size] using h1
      rw [getElem?_pos (⟨s.toArray⟩ : ByteArray) i.toNat hlt]
      have := (List.getElem?_eq_some_iff.1 h2).2
      rw [← this]
      simp [ByteArray.getElem_eq_getElem_data]
    dsimp only
    rw [e]
    rfl) K
def pT : PO := ⟨fun _ _ => True, fun _ => [], fun _ => [], [], []⟩
def pv (v0 : Value) : PO := ⟨fun _ v => v = v0, fun _ => [], fun _ => [], [], []⟩
def pq {Y : Type} (val : Y → Value) (G : Value → List It) (L : Value → List LObj) : PO := ⟨fun _ v => ∃ y, v = val y, G, L, [], []⟩
def pw (a b : LObj) : PO := ⟨fun _ _ => True, fun _ => [], fun _ => [b], [a], []⟩
def cellsOf : Value → List Value
  | .agg a => a.toList
  | _ => []
def poAt (l : List PO) (i : Nat) : PO := l.getD i pT
def adOf : Value → Addr
  | .pointer (some a) => a
  | _ => default
def gOf (v : Value) : Nat := (adOf v).block
theorem getApp {α : Type _} {l1 l2 : List α} {i : Nat} {x : α} (h : l2[i]? = some x) : (l1 ++ l2)[l1.length + i]? = some x := by
  rw [List.getElem?_append_right (by omega), Nat.add_sub_cancel_left]; exact h
theorem St.memo1 (hs : St ok0 w0 w Γ Λ) {it : It} (h : it ∈ Γ) : St ok0 w0 w (it :: Γ) Λ := hs.sub fun i hi => (List.mem_cons.1 hi).elim (fun e => e ▸ h) id
theorem St.cutG (hs : St ok0 w0 w Γ Λ) (n k : Nat) : St ok0 w0 w (Γ.take n ++ Γ.drop (n + k)) Λ := hs.sub fun it hi => (List.mem_append.1 hi).elim List.mem_of_mem_take List.mem_of_mem_drop
def tbx {α : Type} (A : Ty α) (x : α) (g : Nat) (T : TypeId) : LObj where
  H := fun ok bs w => bs = [g] ∧ ∃ cs : List Value, w.heap[g]? = some (.cells cs.toArray T (0, 0)) ∧ A.R ok w x cs
  fn := by rintro _ _ _ _ _ ⟨rfl, _⟩ ⟨rfl, _⟩; rfl
  lt := by rintro _ _ _ ⟨rfl, cs, h, _⟩ b hb; simp at hb; subst hb; exact lt_of_some h
  move := by rintro _ _ _ _ _ ⟨rfl, cs, h, hR⟩ hk hm; exact ⟨rfl, cs, (hk g (by simp)).trans h, A.move hR hm⟩
theorem St.toT (hs : St ok0 w0 w Γ Λ) (i : Nat) {α : Type} {A : Ty α} {x : α} {g : Nat} {T : TypeId} {cs : List Value} (hi : Λ[i]? = some (blk g T cs)) (hR : ∀ ok, All ok w Γ → A.R ok w x cs) : St ok0 w0 w Γ (Λ.set i (tbx A x g T)) := by
  obtain ⟨ok, bs, ho, hA, hn, hbs, hput⟩ := hs.split i hi
  refine hput _ bs w (Off.refl _ _) hn (fun b hb => ⟨.inl hb, (hbs b hb).2.2⟩) fun ok' hm' => ⟨ho.1, cs, ho.2, A.move (hR ok hA) hm'⟩
theorem St.ofT (hs : St ok0 w0 w Γ Λ) (i : Nat) {α : Type} {A : Ty α} {x : α} {g n : Nat} {T : TypeId} (hi : Λ[i]? = some (tbx A x g T)) (hA : A.agg = true) (hn : A.sz = n) : ∃ cs : List Value, cs.length = n ∧ St ok0 w0 w (vl A x (.agg cs.toArray) :: Γ) (Λ.set i (blk g T cs)) := by
  obtain ⟨hB, bss, hN, hlt, hO, hAl⟩ := hs
  obtain ⟨l1, bs, l2, rfl, hl, ho, hput⟩ := Own.split i hO hi
  obtain ⟨e, cs, hc, hR⟩ := ho
  refine ⟨cs, hn ▸ A.len hR, hB, _, hN, hlt, hput _ bs _ w ⟨e, hc⟩ (fun b h _ => ⟨rfl, h⟩) (fun _ _ => rfl), fun it hit => ?_⟩
  rcases List.mem_cons.1 hit with rfl | hit
  · exact V_agg hR hA
  · exact hAl it hit
theorem St.front (hs : St ok0 w0 w Γ Λ) (i : Nat) {o : LObj} (hi : Λ[i]? = some o) : St ok0 w0 w Γ (o :: Λ.eraseIdx i) := by
  refine hs.perm ?_
  clear hs
  induction Λ generalizing i with
  | nil => simp at hi
  | cons a Λ ih =>
    cases i with
    | zero => simp at hi; subst hi; exact .refl _
    | succ i => exact ((ih i (by simpa using hi)).cons a).trans (.swap _ _ _)
theorem St.backP {Λx : List LObj} {a b : LObj} (hs : St ok0 w0 w Γ ((Λx ++ ([a] ++ Λ)).set (Λx.length + 0) b)) : St ok0 w0 w Γ ([b] ++ (Λx ++ Λ)) := by
  rw [Nat.add_zero, List.set_append_right _ _ (Nat.le_refl _), Nat.sub_self] at hs
  exact hs.perm List.perm_middle
theorem WL.buildSliceB {α : Type} {A : Ty α} {ys : List α} {t E : TypeId} {n : Nat} {parts : List (Nat × Operand)} {vs : List (Nat × Value)} {cs : List Value} (hs : St ok0 w0 w Γ Λ) (ha : EvsN ρ parts vs) (hb : BLS P t n vs E cs)
    (hC : ∀ ok, All ok w Γ → Cells A ok w ys cs) (hn : ys.length = n) (hm : n ≤ 9223372036854775807)
    (K : ∀ a w', Below w.heap.size w w' → St ok0 w0 w' (vl (tSlice A) ys (.slice a ys.length n) :: Γ) Λ → WL P N ops Q rest (putE ρ d (.slice a ys.length n)) w')
    (hg : wantedE ops ρ ⟨d, .buildSlice t n parts.toArray, ty, pos, aft, gd⟩ = true := by rfl) (hd : fits N d = true := by rfl) :
    WL P N ops Q (⟨d, .buildSlice t n parts.toArray, ty, pos, aft, gd⟩ :: rest) ρ w := by
  subst hn
  refine WL.value hg hd (v := .slice (some ⟨w.heap.size, 0, none⟩) ys.length ys.length) (w' := w.alloc (.cells cs.toArray E)) (by
    show (do pure (Next.value (← Instr.buildSlice t ys.length (parts.toArray.map fun (i, x) => (i, ρ.ev x)))) : Sem Next).run P w = _
    rw [List.map_toArray, ha.map]
    exact exec_v (hb w)) (K _ _ (below_alloc w _) ?_)
  rcases Nat.eq_zero_or_pos ys.length with hz | hz
  · obtain rfl := List.length_eq_zero_iff.1 hz
    exact (hs.below (below_alloc w _)).add fun ok hA => tSlice_V.2 ⟨_, _, rfl, Nat.le_refl _, .inl rfl⟩
  have h1 : St ok0 w0 (w.alloc (.cells cs.toArray E)) Γ (own A E (.slice (some ⟨w.heap.size, 0, none⟩) ys.length ys.length) ys :: Λ) :=
    hs.new (below_alloc w _) (bs := [w.heap.size]) (by simp) (by simp [size_alloc]) fun ok ok1 hA hsub => by
      have hC1 : Cells A ok (w.alloc (.cells cs.toArray E)) ys cs := (hC ok1 hA).move fun b hb hl => ⟨(below_alloc w _).block b hl, hsub b hb hl⟩
      exact .inr ⟨hz, cs, by simp [Value.ownBlock], ⟨hC1.1, .inr ⟨w.heap.size, ys.length, cs.toArray, rfl, Nat.zero_le _, heap_new w _, Nat.le_refl _, hm, by simp [hC1.1], by rw [← hC1.1]; simp⟩⟩, hC1⟩
  exact h1.freezeOwn 0 rfl
theorem WL.buildSlice0 {t E : TypeId} {sz : Nat} {agg : Bool} (hs : St ok0 w0 w Γ Λ) (hT : P.underlying t = some (.slice E)) (hE : TI P E agg sz)
    (K : ∀ a w', St ok0 w0 w' Γ Λ → WL P N ops Q rest (putE ρ d (.slice a 0 0)) w')
    (hg : wantedE ops ρ ⟨d, .buildSlice t 0 #[], ty, pos, aft, gd⟩ = true := by rfl) (hd : fits N d = true := by rfl) :
    WL P N ops Q (⟨d, .buildSlice t 0 #[], ty, pos, aft, gd⟩ :: rest) ρ w :=
  WL.value hg hd (v := .slice (some ⟨w.heap.size, 0, none⟩) 0 0) (w' := w.alloc (.cells #[] E)) (by
    show (do pure (Next.value (← Instr.buildSlice t 0 ((#[] : Array (Nat × Operand)).map fun (i, x) => (i, ρ.ev x)))) : Sem Next).run P w = _
    rw [Array.map_empty]
    refine exec_v ?_
    unfold Instr.buildSlice
    refine (run_bind (run_und hT w)).trans ?_
    refine (run_bind (hE.size_ w)).trans ?_
    rw [if_neg (by omega)]
    simp [Instr.fill, newRow, newObj, Sem.run]
    have e : (Array.map (fun _ => (default : Value)) (Array.range 0)) = #[] := by simp
    rw [e]) (K _ _ (hs.below (below_alloc w _)))
end
end Go.Proofs.YthcohhpmpdijoaaDoorL
set_option linter.unusedVariables false
set_option linter.unusedSimpArgs false
set_option linter.unnecessarySimpa false
namespace Go.Proofs.YthcohhpmpdijoaaDoorL
open Go Go.RowKit

section
variable {P : Program} {N : Nat} {Q : QE} {ρ ρ0 : Env} {w w1 : World} {w0 : Base} {l : List Oper} {ok0 : Nat → Prop} {Γ : List It} {Λ : List LObj}
def EqR (P : Program) (d : Nat) (T : TypeId) (u v : Value) (b : Bool) : Prop := ∀ w, (Op.equalIn d T u v).run P w = .ok b w
def EqL (P : Program) (d : Nat) (xs ys : Array Value) (fs : List Field) (b : Bool) : Prop := ∀ w, (Op.eqFields d xs ys fs).run P w = .ok b w
theorem EqR.int {d : Nat} {T : TypeId} {k k' : IntKind} (a b : Int) (h : P.underlying T = some (.int k')) : EqR P (d + 1) T (.int k a) (.int k b) (a == b) := fun w => run_equalIn_int w d T k k' a b h
theorem EqR.bool {d : Nat} {T : TypeId} (a b : Bool) (h : P.underlying T = some .bool) : EqR P (d + 1) T (.bool a) (.bool b) (a == b) := fun w => run_equalIn_bool w d T a b h
theorem bstr_list (l : List UInt8) : (⟨l.toArray⟩ : ByteArray).toList = l := by rw [ByteArray.toList_eq]
theorem EqR.str {d : Nat} {T : TypeId} (a b : List UInt8) (h : P.underlying T = some .string) : EqR P (d + 1) T (bstr a) (bstr b) (a == b) := fun w => by
  have := run_equalIn_string w d T ⟨a.toArray⟩ ⟨b.toArray⟩ h
  rw [bstr_list, bstr_list] at this
  exact this
theorem EqR.agg {d : Nat} {T : TypeId} {xs ys : Array Value} {fs : Array Field} {b : Bool} (hS : P.underlying T = some (.struct fs)) (hp : P.stoodInHeld T = false) (h : EqL P d xs ys fs.toList b) : EqR P (d + 1) T (.agg xs) (.agg ys) b := by
  have e : P.fieldsOf T = fs := by simp [Program.fieldsOf, hS]
  intro w
  rw [run_equalIn_agg w d T xs ys (e ▸ hS) hp, e]
  exact h w
theorem EqL.nil {d : Nat} {xs ys : Array Value} : EqL P d xs ys [] true := fun w => rfl
theorem EqL.cons {d : Nat} {xs ys : Array Value} {f : Field} {fs : List Field} {u v : Value} {b c : Bool} (hn : f.name ≠ "_") (hu : ∀ w, (part f.type xs f.offset).run P w = .ok u w) (hv : ∀ w, (part f.type ys f.offset).run P w = .ok v w)
    (h : EqR P d f.type u v b) (hr : EqL P d xs ys fs c) : EqL P d xs ys (f :: fs) (b && c) := by
  intro w
  unfold Op.eqFields
  rw [if_pos hn]
  refine (run_bind (hu w)).trans ((run_bind (hv w)).trans ((run_bind (h w)).trans ?_))
  cases b with
  | false => rfl
  | true => exact hr w
theorem neq_of {T : TypeId} {xs ys : Array Value} {b c : Bool} (h : EqR P 10000 T (.agg xs) (.agg ys) b) (e : b = c) (w : World) : (binOp .neq T (.agg xs) (.agg ys)).run P w = .ok (.bool (!c)) w := by
  subst e
  rw [run_neq_struct, h w]
  rfl
variable {d : Option Tmp} {ty : TypeId} {pos : String} {aft : Array Edge} {gd : Option (Nat × Bool)} {ops : Array Oper} {rest : List Oper}
theorem WL.eqA {op : BinOp} {T T' : TypeId} {x y : Operand} {xs ys : Array Value} {b : Bool} (hx : ρ.ev x = .agg xs) (hy : ρ.ev y = .agg ys) (hgt : P.eqGuardType P.depth T = false)
    (hb : ∀ w, (binOp op T (.agg xs) (.agg ys)).run P w = .ok (.bool b) w) (K : WL P N ops Q rest (putE ρ d (.bool b)) w)
    (hg : wantedE ops ρ ⟨d, .binOp op T x y T', ty, pos, aft, gd⟩ = true := by rfl) (hd : fits N d = true := by rfl) :
    WL P N ops Q (⟨d, .binOp op T x y T', ty, pos, aft, gd⟩ :: rest) ρ w :=
  WL.value hg hd (v := .bool b) (w' := w) (by
    show (do pure (Next.value (← (do eqGuard op T x y (ρ.ev x) (ρ.ev y); binOp op T (ρ.ev x) (ρ.ev y)))) : Sem Next).run P w = _
    rw [hx, hy]
    exact exec_v ((run_bind (run_eqGuard_agg w op T x y xs ys hgt)).trans (hb w))) K
end
end Go.Proofs.YthcohhpmpdijoaaDoorL
set_option linter.unusedVariables false
set_option linter.unusedSimpArgs false
set_option linter.unnecessarySimpa false
namespace Go.Proofs.YthcohhpmpdijoaaDoorL
open Go Go.RowKit
section
variable {P : Program} {N : Nat} {Q : QE} {ρ : Env} {w : World} {w0 : Base} {ok0 : Nat → Prop} {Γ : List It} {Λ : List LObj}
variable {d : Option Tmp} {ty : TypeId} {pos : String} {aft : Array Edge} {gd : Option (Nat × Bool)} {ops : Array Oper} {rest : List Oper}

def cutv (a : Option Addr) (l h m s : Nat) : Value := .slice (if m = l then a else a.map (·.add (l * s))) (h - l) (m - l)
theorem cut_item {α : Type} {A : Ty α} {xs : List α} {ok : Nat → Prop} {a : Option Addr} {c l h m : Nat} (hv : (vl (tSlice A) xs (.slice a xs.length c)).holds ok w) (h1 : l ≤ h) (h2 : h ≤ xs.length) (h3 : h ≤ m) (h4 : m ≤ c) :
    (vl (tSlice A) ((xs.take h).drop l) (cutv a l h m A.sz)).holds ok w := by
  obtain ⟨a', c', e, hc, hr⟩ := tSlice_V.1 hv
  cases e
  have hlen : ((xs.take h).drop l).length = h - l := by rw [List.length_drop, List.length_take]; omega
  refine tSlice_V.2 ⟨_, _, by rw [hlen]; rfl, by rw [hlen]; omega, ?_⟩
  by_cases hlh : h = l
  · exact .inl (List.length_eq_zero_iff.1 (by rw [hlen]; omega))
  rcases hr with rfl | ⟨g, off, rfl, hg, hlt, hcell⟩
  · exact .inl (by simp)
  · rw [if_neg (by omega)]
    refine .inr ⟨g, off + l * A.sz, by rw [Option.map_some, addr_add], hg, hlt, fun j x hj => ?_⟩
    have hj' : xs[l + j]? = some x := by
      rw [List.getElem?_drop, List.getElem?_take] at hj
      split at hj
      · exact hj
      · cases hj
    obtain ⟨cs, hR, hcs⟩ := hcell _ _ hj'
    refine ⟨cs, hR, fun i u hu => ?_⟩
    have := hcs i u hu
    rwa [Nat.add_mul, ← Nat.add_assoc] at this
theorem WL.slice_ {α : Type} {A : Ty α} {xs ys : List α} {T E : TypeId} {agg : Bool} {x : Operand} {lo hi mx : Option Operand} {a : Option Addr} {c l h m : Nat} (hs : St ok0 w0 w Γ Λ) (i : Nat) (hi' : Γ[i]? = some (vl (tSlice A) xs (.slice a xs.length c)))
    (hT : P.underlying T = some (.slice E)) (hE : TI P E agg A.sz) (hx : ρ.ev x = .slice a xs.length c)
    (hrun : xs.length ≤ c → (Instr.slice T (.slice a xs.length c) (lo.map ρ.ev) (hi.map ρ.ev) (mx.map ρ.ev)).run P w = ((sizeOf (P.elem T)).run P w).andThen fun s w => .ok (sliced a l h m s) w)
    (h1 : l ≤ h) (h2 : h ≤ xs.length) (h3 : xs.length ≤ c → h ≤ m) (h4 : xs.length ≤ c → m ≤ c) (hy : (xs.take h).drop l = ys)
    (K : ∀ a' c', St ok0 w0 w (vl (tSlice A) ys (.slice a' ys.length c') :: Γ) Λ → WL P N ops Q rest (putE ρ d (.slice a' ys.length c')) w)
    (hg : wantedE ops ρ ⟨d, .slice T x lo hi mx, ty, pos, aft, gd⟩ = true) (hd : fits N d = true) :
    WL P N ops Q (⟨d, .slice T x lo hi mx, ty, pos, aft, gd⟩ :: rest) ρ w := by
  subst hy
  obtain ⟨ok, hh⟩ := hs.get i hi'
  obtain ⟨a', c', e, hc, _⟩ := tSlice_V.1 hh
  cases e
  have hlen : ((xs.take h).drop l).length = h - l := by rw [List.length_drop, List.length_take]; omega
  have hc' : xs.length ≤ c := hc
  have hv : cutv a l h m A.sz = .slice (if m = l then a else a.map (·.add (l * A.sz))) ((xs.take h).drop l).length (m - l) := by rw [hlen]; rfl
  refine WL.value hg hd (v := cutv a l h m A.sz) (w' := w) (by
    show (do pure (Next.value (← Instr.sliceAt T (ρ.ev x) (lo.map ρ.ev) (hi.map ρ.ev) (mx.map ρ.ev))) : Sem Next).run P w = _
    rw [hx]
    refine exec_v ?_
    rw [run_sliceAt_slice w T _ _ _ _ (by rw [elem_of hT]; exact hT), hrun hc', elem_of hT, hE.size_ w]
    rfl) ?_
  rw [hv]
  refine K _ _ ?_
  rw [← hv]
  exact hs.add fun ok hA => cut_item (hA.get i hi') h1 h2 (h3 hc') (h4 hc')
theorem WL.slice_h {α : Type} {A : Ty α} {xs ys : List α} {T E : TypeId} {agg : Bool} {x z : Operand} {a : Option Addr} {c : Nat} {k : IntKind} {h : Int} (hs : St ok0 w0 w Γ Λ) (i : Nat) (hi' : Γ[i]? = some (vl (tSlice A) xs (.slice a xs.length c)))
    (hT : P.underlying T = some (.slice E)) (hE : TI P E agg A.sz) (hx : ρ.ev x = .slice a xs.length c) (hz : ρ.ev z = .int k h) (hc : cut xs 0 h = some ys)
    (K : ∀ a' c', St ok0 w0 w (vl (tSlice A) ys (.slice a' ys.length c') :: Γ) Λ → WL P N ops Q rest (putE ρ d (.slice a' ys.length c')) w)
    (hg : wantedE ops ρ ⟨d, .slice T x none (some z) none, ty, pos, aft, gd⟩ = true := by rfl) (hd : fits N d = true := by rfl) :
    WL P N ops Q (⟨d, .slice T x none (some z) none, ty, pos, aft, gd⟩ :: rest) ρ w := by
  obtain ⟨⟨h0, h1, h2⟩, hy⟩ := cutE hc
  refine WL.slice_ hs i hi' hT hE hx (l := 0) (h := h.toNat) (m := c) (fun hcc => ?_) (by omega) (by omega) (fun _ => by omega) (fun _ => Nat.le_refl _) hy K hg hd
  simp only [Option.map_none, Option.map_some, hz]
  exact run_slice_h w T a xs.length c (by rw [elem_of hT]; exact hT) k h h1 (by omega)
theorem WL.slice_l {α : Type} {A : Ty α} {xs ys : List α} {T E : TypeId} {agg : Bool} {x z : Operand} {a : Option Addr} {c : Nat} {k : IntKind} {l : Int} (hs : St ok0 w0 w Γ Λ) (i : Nat) (hi' : Γ[i]? = some (vl (tSlice A) xs (.slice a xs.length c)))
    (hT : P.underlying T = some (.slice E)) (hE : TI P E agg A.sz) (hx : ρ.ev x = .slice a xs.length c) (hz : ρ.ev z = .int k l) (hc : cut xs l (xs.length : Int) = some ys)
    (K : ∀ a' c', St ok0 w0 w (vl (tSlice A) ys (.slice a' ys.length c') :: Γ) Λ → WL P N ops Q rest (putE ρ d (.slice a' ys.length c')) w)
    (hg : wantedE ops ρ ⟨d, .slice T x (some z) none none, ty, pos, aft, gd⟩ = true := by rfl) (hd : fits N d = true := by rfl) :
    WL P N ops Q (⟨d, .slice T x (some z) none none, ty, pos, aft, gd⟩ :: rest) ρ w := by
  obtain ⟨⟨h0, h1, h2⟩, hy⟩ := cutE hc
  refine WL.slice_ hs i hi' hT hE hx (l := l.toNat) (h := xs.length) (m := c) (fun hcc => ?_) (by omega) (Nat.le_refl _) (fun h => h) (fun _ => Nat.le_refl _) (by simpa using hy) K hg hd
  simp only [Option.map_none, Option.map_some, hz]
  exact run_slice_l w T a xs.length c (by rw [elem_of hT]; exact hT) k l h0 h1
theorem WL.slice_lh {α : Type} {A : Ty α} {xs ys : List α} {T E : TypeId} {agg : Bool} {x z y : Operand} {a : Option Addr} {c : Nat} {k k' : IntKind} {l h : Int} (hs : St ok0 w0 w Γ Λ) (i : Nat) (hi' : Γ[i]? = some (vl (tSlice A) xs (.slice a xs.length c)))
    (hT : P.underlying T = some (.slice E)) (hE : TI P E agg A.sz) (hx : ρ.ev x = .slice a xs.length c) (hz : ρ.ev z = .int k l) (hy' : ρ.ev y = .int k' h) (hc : cut xs l h = some ys)
    (K : ∀ a' c', St ok0 w0 w (vl (tSlice A) ys (.slice a' ys.length c') :: Γ) Λ → WL P N ops Q rest (putE ρ d (.slice a' ys.length c')) w)
    (hg : wantedE ops ρ ⟨d, .slice T x (some z) (some y) none, ty, pos, aft, gd⟩ = true := by rfl) (hd : fits N d = true := by rfl) :
    WL P N ops Q (⟨d, .slice T x (some z) (some y) none, ty, pos, aft, gd⟩ :: rest) ρ w := by
  obtain ⟨⟨h0, h1, h2⟩, hy⟩ := cutE hc
  refine WL.slice_ hs i hi' hT hE hx (l := l.toNat) (h := h.toNat) (m := c) (fun hcc => ?_) (by omega) (by omega) (fun _ => by omega) (fun _ => Nat.le_refl _) hy K hg hd
  simp only [Option.map_none, Option.map_some, hz, hy']
  exact run_slice_lh w T a xs.length c (by rw [elem_of hT]; exact hT) k k' l h h0 h1 (by omega)
theorem WL.slice_hm {α : Type} {A : Ty α} {xs ys : List α} {T E : TypeId} {agg : Bool} {x y z : Operand} {a : Option Addr} {c : Nat} {k k' : IntKind} {h m : Int} (hs : St ok0 w0 w Γ Λ) (i : Nat) (hi' : Γ[i]? = some (vl (tSlice A) xs (.slice a xs.length c)))
    (hT : P.underlying T = some (.slice E)) (hE : TI P E agg A.sz) (hx : ρ.ev x = .slice a xs.length c) (hz : ρ.ev z = .int k h) (hy' : ρ.ev y = .int k' m) (hm : h = m) (hc : cut xs 0 h = some ys)
    (K : ∀ a', St ok0 w0 w (vl (tSlice A) ys (.slice a' ys.length ys.length) :: Γ) Λ → WL P N ops Q rest (putE ρ d (.slice a' ys.length ys.length)) w)
    (hg : wantedE ops ρ ⟨d, .slice T x none (some z) (some y), ty, pos, aft, gd⟩ = true := by rfl) (hd : fits N d = true := by rfl) :
    WL P N ops Q (⟨d, .slice T x none (some z) (some y), ty, pos, aft, gd⟩ :: rest) ρ w := by
  subst hm
  obtain ⟨⟨h0, h1, h2⟩, hy⟩ := cutE hc
  subst hy
  obtain ⟨ok, hh⟩ := hs.get i hi'
  obtain ⟨a', c', e, hcc, _⟩ := tSlice_V.1 hh
  cases e
  have hcc' : xs.length ≤ c := hcc
  have hlen : ((xs.take h.toNat).drop (0 : Int).toNat).length = h.toNat := by rw [List.length_drop, List.length_take]; simp; omega
  have hv : cutv a 0 h.toNat h.toNat A.sz = .slice (if h.toNat = 0 then a else a.map (·.add (0 * A.sz))) ((xs.take h.toNat).drop (0 : Int).toNat).length ((xs.take h.toNat).drop (0 : Int).toNat).length := by rw [hlen]; rfl
  refine WL.value hg hd (v := cutv a 0 h.toNat h.toNat A.sz) (w' := w) (by
    show (do pure (Next.value (← Instr.sliceAt T (ρ.ev x) none (some (ρ.ev z)) (some (ρ.ev y)))) : Sem Next).run P w = _
    rw [hx, hz, hy']
    refine exec_v ?_
    rw [run_sliceAt_slice w T _ _ _ _ (by rw [elem_of hT]; exact hT), run_slice_hm w T a xs.length c (by rw [elem_of hT]; exact hT) k k' h h h1 (Int.le_refl _) (by omega), elem_of hT, hE.size_ w]
    rfl) ?_
  rw [hv]
  refine K _ ?_
  rw [← hv]
  exact hs.add fun ok hA => cut_item (l := 0) (hA.get i hi') (by omega) (by omega) (Nat.le_refl _) (by omega)

theorem extract_bytes (s : List UInt8) (l h : Nat) : (⟨s.toArray⟩ : ByteArray).extract l h = ⟨((s.take h).drop l).toArray⟩ := by
  apply ByteArray.ext
  simp [ByteArray.extract, ByteArray.copySlice]
  rw [List.drop_take]
theorem WL.sliceS_ {s t : List UInt8} {T : TypeId} {x : Operand} {lo hi : Option Operand} {l h : Nat} (hT : P.underlying T = some .string) (hx : ρ.ev x = bstr s)
    (hrun : (Instr.sliceBounds false s.length s.length (lo.map ρ.ev) (hi.map ρ.ev) none).run P w = .ok (l, h, s.length) w) (ht : (s.take h).drop l = t)
    (K : WL P N ops Q rest (putE ρ d (bstr t)) w)
    (hg : wantedE ops ρ ⟨d, .slice T x lo hi none, ty, pos, aft, gd⟩ = true) (hd : fits N d = true) :
    WL P N ops Q (⟨d, .slice T x lo hi none, ty, pos, aft, gd⟩ :: rest) ρ w :=
  WL.value hg hd (v := bstr t) (w' := w) (by
    show (do pure (Next.value (← Instr.sliceAt T (ρ.ev x) (lo.map ρ.ev) (hi.map ρ.ev) none)) : Sem Next).run P w = _
    rw [hx]
    refine exec_v ?_
    rw [run_sliceAt_string w T _ _ _ _ hT]
    unfold Instr.slice bstr
    refine (run_bind (run_und hT w)).trans ?_
    have e : (⟨s.toArray⟩ : ByteArray).size = s.length := by simp [ByteArray.size]
    simp only [e]
    refine (run_bind hrun).trans ?_
    rw [extract_bytes, ht]
    rfl) K
theorem WL.sliceS_h {s t : List UInt8} {T : TypeId} {x z : Operand} {k : IntKind} {h : Int} (hT : P.underlying T = some .string) (hx : ρ.ev x = bstr s) (hz : ρ.ev z = .int k h) (hc : cut s 0 h = some t)
    (K : WL P N ops Q rest (putE ρ d (bstr t)) w)
    (hg : wantedE ops ρ ⟨d, .slice T x none (some z) none, ty, pos, aft, gd⟩ = true := by rfl) (hd : fits N d = true := by rfl) :
    WL P N ops Q (⟨d, .slice T x none (some z) none, ty, pos, aft, gd⟩ :: rest) ρ w := by
  obtain ⟨⟨h0, h1, h2⟩, hy⟩ := cutE hc
  refine WL.sliceS_ hT hx (l := 0) (h := h.toNat) ?_ hy K hg hd
  simp only [Option.map_none, Option.map_some, hz, Instr.sliceBounds]
  exact (run_bind (by rfl)).trans ((run_bind (run_sliceBound w k h s.length _ h1 h2)).trans rfl)
theorem WL.sliceS_l {s t : List UInt8} {T : TypeId} {x z : Operand} {k : IntKind} {l : Int} (hT : P.underlying T = some .string) (hx : ρ.ev x = bstr s) (hz : ρ.ev z = .int k l) (hc : cut s l (s.length : Int) = some t)
    (K : WL P N ops Q rest (putE ρ d (bstr t)) w)
    (hg : wantedE ops ρ ⟨d, .slice T x (some z) none none, ty, pos, aft, gd⟩ = true := by rfl) (hd : fits N d = true := by rfl) :
    WL P N ops Q (⟨d, .slice T x (some z) none none, ty, pos, aft, gd⟩ :: rest) ρ w := by
  obtain ⟨⟨h0, h1, h2⟩, hy⟩ := cutE hc
  refine WL.sliceS_ hT hx (l := l.toNat) (h := s.length) ?_ (by simpa using hy) K hg hd
  simp only [Option.map_none, Option.map_some, hz, Instr.sliceBounds]
  exact (run_bind (by rfl)).trans ((run_bind (by rfl)).trans ((run_bind (run_sliceBound w k l s.length _ h0 h1)).trans rfl))
theorem WL.sliceS_lh {s t : List UInt8} {T : TypeId} {x z y : Operand} {k k' : IntKind} {l h : Int} (hT : P.underlying T = some .string) (hx : ρ.ev x = bstr s) (hz : ρ.ev z = .int k l) (hy' : ρ.ev y = .int k' h) (hc : cut s l h = some t)
    (K : WL P N ops Q rest (putE ρ d (bstr t)) w)
    (hg : wantedE ops ρ ⟨d, .slice T x (some z) (some y) none, ty, pos, aft, gd⟩ = true := by rfl) (hd : fits N d = true := by rfl) :
    WL P N ops Q (⟨d, .slice T x (some z) (some y) none, ty, pos, aft, gd⟩ :: rest) ρ w := by
  obtain ⟨⟨h0, h1, h2⟩, hy⟩ := cutE hc
  refine WL.sliceS_ hT hx (l := l.toNat) (h := h.toNat) ?_ hy K hg hd
  simp only [Option.map_none, Option.map_some, hz, hy', Instr.sliceBounds]
  have e : (h.toNat : Int) = h := Int.toNat_of_nonneg (by omega)
  exact (run_bind (by rfl)).trans ((run_bind (run_sliceBound w k' h s.length _ (by omega) h2)).trans ((run_bind (run_sliceBound w k l h.toNat _ h0 (by rw [e]; exact h1))).trans rfl))
end
end Go.Proofs.YthcohhpmpdijoaaDoorL
set_option linter.unusedVariables false
set_option linter.unusedSimpArgs false
namespace Go.Proofs.YthcohhpmpdijoaaDoorL
open Go Go.RowKit

def argK1 {α : Type} (T : Ty α) : α → (Nat → Prop) → World → List Value → Prop := fun x ok w vs => ∃ v, vs = [v] ∧ T.V ok w x v
def argK2 {α β : Type} (S : Ty α) (T : Ty β) : α × β → (Nat → Prop) → World → List Value → Prop := fun x ok w vs => ∃ u v, vs = [u, v] ∧ S.V ok w x.1 u ∧ T.V ok w x.2 v
def Does (P : Program) {α β : Type} (ar : α → (Nat → Prop) → World → List Value → Prop) (res : β → Value) (g : FuncId) (caps : Array Value) (ok : Nat → Prop) (w : World) (F : α → Option β) : Prop :=
  FN P g ∧ ∀ (ok' : Nat → Prop) (w' : World), (∀ b, ok b → b < w.heap.size → w'.heap[b]? = w.heap[b]? ∧ ok' b) →
    ∀ x r vs, F x = some r → ar x ok' w' vs → Calls P g (vs.toArray ++ caps) w' fun e w'' => ∃ v, e = .returned v ∧ v = res r ∧ St ok' (bz w') w'' [] []
def tFun (P : Program) {α β : Type} (ar : α → (Nat → Prop) → World → List Value → Prop) (res : β → Value) : Ty (α → Option β) where
  sz := 1
  agg := false
  R := fun ok w F cs => ∃ g caps, cs = [.func (.func g) #[] caps] ∧ Does P ar res g caps ok w F
  len := by rintro _ _ _ _ ⟨g, caps, rfl, _⟩; rfl
  one := by rintro _ _ _ _ ⟨g, caps, rfl, _⟩ u hu; simp at hu; subst hu; rfl
  move := by
    rintro ok ok' w w' F cs ⟨g, caps, rfl, hf, hd⟩ hm
    refine ⟨g, caps, rfl, hf, fun ok2 w2 hm2 => hd ok2 w2 fun b hb hl => ?_⟩
    obtain ⟨h1, h2⟩ := hm b hb hl
    have hl' : b < w'.heap.size := lt_of_some (h1.trans (Array.getElem?_eq_getElem hl))
    obtain ⟨h3, h4⟩ := hm2 b h2 hl'
    exact ⟨h3.trans h1, h4⟩
theorem tFun_V {P : Program} {α β : Type} {ar : α → (Nat → Prop) → World → List Value → Prop} {res : β → Value} {ok : Nat → Prop} {w : World} {F : α → Option β} {v : Value} :
    (tFun P ar res).V ok w F v ↔ ∃ g caps, v = .func (.func g) #[] caps ∧ Does P ar res g caps ok w F :=
  ⟨by rintro ⟨_, ⟨g, caps, rfl, h⟩, e⟩; exact ⟨g, caps, e, h⟩, by rintro ⟨g, caps, rfl, h⟩; exact ⟨_, ⟨g, caps, rfl, h⟩, rfl⟩⟩
section
variable {P : Program} {N : Nat} {Q : QE} {ρ : Env} {w : World} {w0 : Base} {ok0 : Nat → Prop} {Γ : List It} {Λ : List LObj}
variable {d : Option Tmp} {ty : TypeId} {pos : String} {aft : Array Edge} {gd : Option (Nat × Bool)} {ops : Array Oper} {rest : List Oper}
theorem WL.callF {α β : Type} {ar : α → (Nat → Prop) → World → List Value → Prop} {res : β → Value} {F : α → Option β} {f : Tmp} {fv : Value} {args : List Operand} {ats : Array TypeId} {vs : List Value} {x : α} {r : β}
    (hs : St ok0 w0 w Γ Λ) (i : Nat) (hi : Γ[i]? = some (vl (tFun P ar res) F fv)) (hf : ρ f = fv) (ha : Evs ρ args vs) (har : ∀ ok, All ok w Γ → ar x ok w vs) (hF : F x = some r)
    (K : ∀ w', St ok0 w0 w' Γ Λ → WL P N ops Q rest (putE ρ d (res r)) w')
    (hg : wantedE ops ρ ⟨d, .call { callee := .value (.tmp f), args := args.toArray, argTypes := ats }, ty, pos, aft, gd⟩ = true := by rfl) (hd : fits N d = true := by rfl) :
    WL P N ops Q (⟨d, .call { callee := .value (.tmp f), args := args.toArray, argTypes := ats }, ty, pos, aft, gd⟩ :: rest) ρ w := by
  obtain ⟨ok, hA, hput⟩ := hs.call
  obtain ⟨g, caps, rfl, hFN, hdo⟩ := tFun_V.1 (hA.get i hi)
  refine WL.enter hg hd (w' := w) (f := g) (args := vs.toArray ++ caps) ?_ (hdo ok w (fun b hb _ => ⟨rfl, hb⟩) x r vs hF (har ok hA)) ?_
  · show (do let df ← Deferred.ofValue (ρ f) (args.toArray.map ρ.ev); invoke df.target df.args : Sem Next).run P w = _
    rw [hf, List.map_toArray, ha.map]
    simpa [Deferred.ofValue, invoke] using hFN (vs.toArray ++ caps) w
  · rintro v w' ⟨rfl, hs'⟩
    exact K w' (hput w' [] [] hs')
theorem St.freezeB (hs : St ok0 w0 w Γ Λ) (i : Nat) {α : Type} {A : Ty α} {x : α} {g : Nat} {T : TypeId} {cs : List Value} (hi : Λ[i]? = some (blk g T cs)) (hR : ∀ ok, All ok w Γ → A.R ok w x cs) :
    St ok0 w0 w (pl A x ⟨g, 0, none⟩ :: Γ) (Λ.eraseIdx i) := by
  have h1 := hs.toT i hi hR
  have hlt : i < Λ.length := (List.getElem?_eq_some_iff.1 hi).1
  have h2 := h1.freeze i (o := tbx A x g T) (it := pl A x ⟨g, 0, none⟩) (by rw [List.getElem?_set_self hlt]) fun ok bs h => by
    obtain ⟨rfl, cs', hc, hR'⟩ := h
    exact ⟨rfl, .inr (by simp), lt_of_some hc, cs', A.move hR' fun b hb _ => ⟨rfl, .inl hb⟩, fun k u hu => by
      have := blk_cell hc (0 + k)
      rw [this, Nat.zero_add]
      exact hu⟩
  have e : (Λ.set i (tbx A x g T)).eraseIdx i = Λ.eraseIdx i := by
    apply List.ext_getElem?
    intro k
    rw [List.getElem?_eraseIdx, List.getElem?_eraseIdx]
    by_cases hk : k < i
    · rw [if_pos hk, if_pos hk, List.getElem?_set_ne (by omega)]
    · rw [if_neg hk, if_neg hk, List.getElem?_set_ne (by omega)]
  rwa [e] at h2
end
end Go.Proofs.YthcohhpmpdijoaaDoorL
set_option linter.unusedVariables false
set_option linter.unusedSimpArgs false
namespace Go.Proofs.YthcohhpmpdijoaaDoorL
open Go Go.RowKit
open Go.ChangeMaps (setBlock)

section
variable {P : Program} {N : Nat} {Q : QE} {ρ : Env} {w : World} {w0 : Base} {ok0 : Nat → Prop} {Γ : List It} {Λ : List LObj}
variable {d : Option Tmp} {ty : TypeId} {pos : String} {aft : Array Edge} {gd : Option (Nat × Bool)} {ops : Array Oper} {rest : List Oper}
end

section
set_option linter.unusedSectionVars false
variable {κ β : Type} [BEq κ] [LawfulBEq κ]
def Ents (kv : κ → Value) (V : Ty β) (ok : Nat → Prop) (w : World) : List (κ × β) → List MapEntry → Prop
  | [], [] => True
  | x :: l, e :: es => e.key = kv x.1 ∧ V.V ok w x.2 e.val ∧ Ents kv V ok w l es
  | _, _ => False
variable {kv : κ → Value} {V : Ty β} {ok ok' : Nat → Prop} {w w' : World}
theorem Ents.move (hm : ∀ b, ok b → b < w.heap.size → w'.heap[b]? = w.heap[b]? ∧ ok' b) : ∀ {l : List (κ × β)} {es : List MapEntry}, Ents kv V ok w l es → Ents kv V ok' w' l es
  | [], [], _ => trivial
  | _ :: _, _ :: _, ⟨h1, h2, h3⟩ => ⟨h1, h2.move hm, Ents.move hm h3⟩
  | [], _ :: _, h => h.elim
  | _ :: _, [], h => h.elim
theorem Ents.length : ∀ {l : List (κ × β)} {es : List MapEntry}, Ents kv V ok w l es → l.length = es.length
  | [], [], _ => rfl
  | _ :: _, _ :: _, ⟨_, _, h⟩ => by simp [Ents.length h]
  | [], _ :: _, h => h.elim
  | _ :: _, [], h => h.elim
theorem Ents.app : ∀ {l l' : List (κ × β)} {es es' : List MapEntry}, Ents kv V ok w l es → Ents kv V ok w l' es' → Ents kv V ok w (l ++ l') (es ++ es')
  | [], _, [], _, _, h => h
  | _ :: _, _, _ :: _, _, ⟨h1, h2, h3⟩, h => ⟨h1, h2, Ents.app h3 h⟩
  | [], _, _ :: _, _, h, _ => h.elim
  | _ :: _, _, [], _, h, _ => h.elim
def mapo (kv : κ → Value) (V : Ty β) (g : Nat) (l : List (κ × β)) : LObj where
  H := fun ok bs w => bs = [g] ∧ ∃ es clock, w.heap[g]? = some (.map es clock) ∧ Ents kv V ok w l es.toList ∧ (es.toList.map (·.born)).Nodup ∧ (∀ e ∈ es.toList, e.born < clock) ∧ (l.map (·.1)).Nodup
  fn := by rintro _ _ _ _ _ ⟨rfl, _⟩ ⟨rfl, _⟩; rfl
  lt := by rintro _ _ _ ⟨rfl, es, c, h, _⟩ b hb; simp at hb; subst hb; exact lt_of_some h
  move := by
    rintro _ _ _ _ _ ⟨rfl, es, c, h, he, h2⟩ hk hm
    exact ⟨rfl, es, c, (hk g (by simp)).trans h, he.move hm, h2⟩
end

theorem run_getO {P : Program} {w : World} {g : Nat} {es : Array MapEntry} {c : Nat} (h : w.heap[g]? = some (.map es c)) : (getObj g).run P w = .ok (.map es c) w := by simp [getObj, Sem.run, h]
section
variable {P : Program} {N : Nat} {Q : QE} {ρ : Env} {w : World} {w0 : Base} {ok0 : Nat → Prop} {Γ : List It} {Λ : List LObj}
variable {d : Option Tmp} {ty : TypeId} {pos : String} {aft : Array Edge} {gd : Option (Nat × Bool)} {ops : Array Oper} {rest : List Oper}
variable {κ β : Type} [BEq κ] [LawfulBEq κ] {kv : κ → Value} {V : Ty β}
end
end Go.Proofs.YthcohhpmpdijoaaDoorL
set_option linter.unusedVariables false
set_option linter.unusedSimpArgs false
set_option linter.unusedSectionVars false
namespace Go.Proofs.YthcohhpmpdijoaaDoorL
open Go Go.RowKit
open Go.ChangeMaps (setBlock)

section
variable {P : Program} {N : Nat} {Q : QE} {ρ : Env} {w : World} {c : Code}
end

section
variable {κ β : Type} [BEq κ] [LawfulBEq κ]
def rng (kv : κ → Value) (V : Ty β) (g r : Nat) (l left : List (κ × β)) (cur : Option (κ × β)) : LObj where
  H := fun ok bs w => bs = [r, g] ∧ ∃ es clock since seen c0, w.heap[g]? = some (.map es clock) ∧ (Ents kv V ok w l es.toList ∧ (es.toList.map (·.born)).Nodup ∧ (∀ e ∈ es.toList, e.born < clock) ∧ (l.map (·.1)).Nodup) ∧
    w.heap[r]? = some (.mapIter (some g) since seen c0) ∧ (∀ x ∈ es.toList, x.born < since) ∧ since ≤ c0 ∧ since ≤ clock ∧
    left.Perm (((l.zip es.toList).filter fun p => !seen.contains p.2.born).map (·.1)) ∧
    ∀ kx, cur = some kx → c0 = clock ∧ ∃ (e : MapEntry) (seen' : Array Nat), (kx, e) ∈ l.zip es.toList ∧ seen = seen'.push e.born
  fn := by rintro _ _ _ _ _ ⟨rfl, _⟩ ⟨rfl, _⟩; rfl
  lt := by
    rintro _ _ _ ⟨rfl, es, c, s, se, c0, h, _, h2, _⟩ b hb
    simp at hb
    rcases hb with rfl | rfl
    · exact lt_of_some h2
    · exact lt_of_some h
  move := by
    rintro ok1 ok2 bs w1 w2 ⟨rfl, es, c, s, se, c0, h, ⟨he, h1⟩, h2, h3⟩ hk hm
    exact ⟨rfl, es, c, s, se, c0, (hk g (by simp)).trans h, ⟨he.move hm, h1⟩, (hk r (by simp)).trans h2, h3⟩
end
theorem Ents.zip {κ β : Type} {kv : κ → Value} {V : Ty β} {ok : Nat → Prop} {w : World} : ∀ {l : List (κ × β)} {es : List MapEntry}, Ents kv V ok w l es → ∀ {x : κ × β} {e : MapEntry}, (x, e) ∈ l.zip es → e.key = kv x.1 ∧ V.V ok w x.2 e.val ∧ e ∈ es
  | [], [], _, _, _, h => by simp at h
  | y :: l, f :: es, ⟨h1, h2, h3⟩, x, e, h => by
    rw [List.zip_cons_cons] at h
    rcases List.mem_cons.1 h with h | h
    · cases h
      exact ⟨h1, h2, by simp⟩
    · obtain ⟨a, b, c⟩ := Ents.zip h3 h
      exact ⟨a, b, by simp [c]⟩
  | [], _ :: _, h, _, _, _ => h.elim
  | _ :: _, [], h, _, _, _ => h.elim
theorem zip_mem {α γ : Type} : ∀ {l : List α} {es : List γ}, l.length = es.length → ∀ {e : γ}, e ∈ es → ∃ x, (x, e) ∈ l.zip es
  | [], [], _, _, h => by simp at h
  | x :: l, f :: es, hl, e, h => by
    rcases List.mem_cons.1 h with rfl | h
    · exact ⟨x, by simp⟩
    · obtain ⟨y, hy⟩ := zip_mem (by simpa using hl) h
      exact ⟨y, by simp [hy]⟩
  | [], _ :: _, hl, _, _ => by simp at hl
  | _ :: _, [], hl, _, _ => by simp at hl
theorem left_take {κ β : Type} {seen : Array Nat} {x : κ × β} {e : MapEntry} : ∀ {l : List (κ × β)} {es : List MapEntry}, (es.map (·.born)).Nodup → (x, e) ∈ l.zip es → seen.contains e.born = false →
    (((l.zip es).filter fun p => !seen.contains p.2.born).map (·.1)).Perm (x :: (((l.zip es).filter fun p => !(seen.push e.born).contains p.2.born).map (·.1)))
  | [], _, _, h, _ => by simp at h
  | _ :: _, [], _, h, _ => by simp at h
  | y :: l, f :: es, hn, h, hc => by
    simp only [List.map_cons, List.nodup_cons] at hn
    have hno : ∀ p ∈ l.zip es, p.2.born ≠ f.born := fun p hp hb => hn.1 (List.mem_map.2 ⟨p.2, (List.of_mem_zip hp).2, hb⟩)
    rw [List.zip_cons_cons] at h ⊢
    rcases List.mem_cons.1 h with h | h
    · cases h
      rw [List.filter_cons, List.filter_cons, if_pos (by rw [hc]; rfl), if_neg (by rw [contains_push]; simp), List.map_cons]
      refine List.Perm.cons _ ?_
      rw [List.filter_congr fun p hp => ?_]
      rw [contains_push]
      have := hno p hp
      simp [this]
    · have hb : f.born ≠ e.born := fun hb => hno _ h hb.symm
      have ih := left_take hn.2 h hc
      rw [List.filter_cons, List.filter_cons]
      have e1 : (seen.push e.born).contains f.born = seen.contains f.born := by rw [contains_push]; simp [hb]
      simp only [e1]
      generalize seen.contains f.born = cf
      cases cf with
      | true => exact ih
      | false =>
        simp only [Bool.not_false, if_true, List.map_cons]
        exact (ih.cons y).trans (.swap _ _ _)
section
variable {P : Program} {N : Nat} {Q : QE} {ρ : Env} {w : World} {w0 : Base} {ok0 : Nat → Prop} {Γ : List It} {Λ : List LObj}
variable {d : Option Tmp} {ty : TypeId} {pos : String} {aft : Array Edge} {gd : Option (Nat × Bool)} {ops : Array Oper} {rest : List Oper}
variable {κ β : Type} [BEq κ] [LawfulBEq κ] {kv : κ → Value} {V : Ty β}
theorem WL.range {t kt et : TypeId} {m : Operand} {g : Nat} {l : List (κ × β)} (hs : St ok0 w0 w Γ Λ) (i : Nat) (hi : Λ[i]? = some (mapo kv V g l)) (ht : P.underlying t = some (.map kt et)) (hm : ρ.ev m = .map (some g))
    (K : ∀ r w', St ok0 w0 w' Γ (Λ.set i (rng kv V g r l l none)) → WL P N ops Q rest (putE ρ d (.pointer (some ⟨r, 0, none⟩))) w')
    (hg : wantedE ops ρ ⟨d, .range t m, ty, pos, aft, gd⟩ = true := by rfl) (hd : fits N d = true := by rfl) :
    WL P N ops Q (⟨d, .range t m, ty, pos, aft, gd⟩ :: rest) ρ w := by
  obtain ⟨ok, bs, ho, hA, hn, hbs, hput⟩ := hs.split i hi
  obtain ⟨rfl, es, c, hh, he, hb1, hb2, hnd⟩ := ho
  have hlt := lt_of_some hh
  refine WL.value hg hd (v := .pointer (some ⟨w.heap.size, 0, none⟩)) (w' := w.alloc (.mapIter (some g) c #[] c)) (by
    show (do pure (Next.value (← Instr.range t (ρ.ev m))) : Sem Next).run P w = _
    rw [hm]
    refine exec_v ?_
    unfold Instr.range
    refine (run_bind (run_und ht w)).trans ?_
    refine (run_bind ((run_bind (run_getO hh)).trans rfl)).trans ?_
    exact (run_bind (x := w.heap.size) (w' := w.alloc (.mapIter (some g) c #[] c)) rfl).trans rfl) (K _ _ (hput _ [w.heap.size, g] _ (Off.of_below (below_alloc w _) _) ?_ ?_ fun ok' hm' => ?_))
  · simp; omega
  · intro b hb
    simp only [List.mem_cons, List.not_mem_nil, or_false] at hb
    rw [size_alloc]
    rcases hb with rfl | rfl
    · exact ⟨.inr (Nat.le_refl _), Nat.lt_succ_self _⟩
    · exact ⟨.inl (by simp), by omega⟩
  · have hmm := (below_alloc w (.mapIter (some g) c #[] c)).block g hlt
    refine ⟨rfl, es, c, c, #[], c, hmm.trans hh, ⟨he.move hm', hb1, hb2, hnd⟩, heap_new w _, hb2, Nat.le_refl _, Nat.le_refl _, ?_, fun _ h => by cases h⟩
    have : ((l.zip es.toList).filter fun p => !(#[] : Array Nat).contains p.2.born) = l.zip es.toList := List.filter_eq_self.2 fun _ _ => by simp
    rw [this]
    have e : (l.zip es.toList).map (·.1) = l := by
      have := List.map_fst_zip (l₁ := l) (l₂ := es.toList) (by rw [he.length]; exact Nat.le_refl _)
      exact this
    rw [e]
theorem WL.next {it : Operand} {g r : Nat} {l left : List (κ × β)} {cur : Option (κ × β)} (hs : St ok0 w0 w Γ Λ) (i : Nat) (hi : Λ[i]? = some (rng kv V g r l left cur)) (hx : ρ.ev it = .pointer (some ⟨r, 0, none⟩))
    (K1 : left = [] → WL P N ops Q rest (putE ρ d (.tuple #[.bool false])) w)
    (K2 : ∀ k y left' v w', left.Perm ((k, y) :: left') → St ok0 w0 w' Γ (Λ.set i (rng kv V g r l left' (some (k, y)))) → WL P N ops Q rest (putE ρ d (.tuple #[.bool true, kv k, v])) w')
    (hg : wantedE ops ρ ⟨d, .next it false, ty, pos, aft, gd⟩ = true := by rfl) (hd : fits N d = true := by rfl) :
    WL P N ops Q (⟨d, .next it false, ty, pos, aft, gd⟩ :: rest) ρ w := by
  obtain ⟨ok, bs, ho, hA, hn, hbs, hput⟩ := hs.split i hi
  obtain ⟨rfl, es, c, s, se, c0, hh, ⟨he, hb1, hb2, hnd⟩, hr, hold, h4, h5, hleft, _⟩ := ho
  have hltr := lt_of_some hr
  have hltg := lt_of_some hh
  have hrg : r ≠ g := by simpa using hn
  have hlen := he.length
  rcases run_next_at (P := P) w ty r g s c0 se es c hr hh hold h4 with ⟨h0, hrun⟩ | ⟨e, hel, w1, hw1, hrun⟩
  · have h0' := all_seen es se h0
    have hl0 : left = [] := by
      have : ((l.zip es.toList).filter fun p => !se.contains p.2.born) = [] := List.filter_eq_nil_iff.2 fun p hp => by
        rw [h0' _ (List.of_mem_zip hp).2]
        simp
      rw [this] at hleft
      exact hleft.eq_nil
    exact WL.value hg hd (v := .tuple #[.bool false]) (w' := w) (by
      show (do pure (Next.value (← Instr.next (ρ.ev it) false ty)) : Sem Next).run P w = _
      rw [hx]
      exact exec_v hrun) (K1 hl0)
  · have hel2 := mem_left hel
    obtain ⟨x, hx2⟩ := zip_mem hlen hel2.1
    have hz := he.zip hx2
    have hperm := hleft.trans (left_take hb1 hx2 hel2.2)
    have hw1h : w1.heap = w.heap := by rcases hw1 with rfl | rfl <;> rfl
    have hoff : Off [r, g] w (setBlock w1 r (.mapIter (some g) s (se.push e.born) c)) := by
      refine ⟨by rcases hw1 with rfl | rfl <;> rfl, by rcases hw1 with rfl | rfl <;> rfl, by rcases hw1 with rfl | rfl <;> rfl, by simp [setBlock, hw1h], fun k hk hkn => ?_⟩
      have : r ≠ k := fun e => hkn (by simp [e])
      simp [setBlock, this, hw1h]
    have hg' : (setBlock w1 r (.mapIter (some g) s (se.push e.born) c)).heap[g]? = some (.map es c) := by simp [setBlock, hrg, hw1h, hh]
    have hr' : (setBlock w1 r (.mapIter (some g) s (se.push e.born) c)).heap[r]? = some (.mapIter (some g) s (se.push e.born) c) := by simp [setBlock, hw1h, hltr]
    have hsz : (setBlock w1 r (.mapIter (some g) s (se.push e.born) c)).heap.size = w.heap.size := by simp [setBlock, hw1h]
    obtain ⟨xk, xy⟩ := x
    refine WL.value hg hd (v := .tuple #[.bool true, e.key, e.val]) (w' := setBlock w1 r (.mapIter (some g) s (se.push e.born) c)) (by
      show (do pure (Next.value (← Instr.next (ρ.ev it) false ty)) : Sem Next).run P w = _
      rw [hx]
      exact exec_v hrun) ?_
    rw [hz.1]
    refine K2 xk xy _ _ _ hperm (hput _ [r, g] _ hoff hn (fun b hb => ⟨.inl hb, by rw [hsz]; exact (hbs b hb).2.2⟩) fun ok' hm' => ?_)
    exact ⟨rfl, es, c, s, se.push e.born, c, hg', ⟨he.move hm', hb1, hb2, hnd⟩, hr', hold, h5, h5, .refl _, fun kx hkx => by cases hkx; exact ⟨rfl, e, se, hx2, rfl⟩⟩
end
end Go.Proofs.YthcohhpmpdijoaaDoorL
set_option linter.unusedVariables false
set_option linter.unusedSimpArgs false
set_option linter.unusedSectionVars false
namespace Go.Proofs.YthcohhpmpdijoaaDoorL
open Go Go.RowKit
section
variable {P : Program} {N : Nat} {Q : QE} {ρ : Env} {w : World} {w0 : Base} {ok0 : Nat → Prop} {Γ : List It} {Λ : List LObj}
variable {d : Option Tmp} {ty : TypeId} {pos : String} {aft : Array Edge} {gd : Option (Nat × Bool)} {ops : Array Oper} {rest : List Oper}
theorem len_own {α : Type} {A : Ty α} {T E E' : TypeId} {a : Option Addr} {n c : Nat} {xs : List α} (hs : St ok0 w0 w Γ Λ) (i : Nat) (hi : Λ[i]? = some (own A E' (.slice a n c) xs)) (hT : P.underlying T = some (.slice E)) :
    (Builtin.len_ #[T] ty #[.slice a n c]).run P w = .ok (.int .i64 (xs.length : Int)) w := by
  obtain rfl := hs.ownLen i hi
  exact len_slice hT
theorem St.nilx (hs : St ok0 w0 w Γ Λ) (i : Nat) {α : Type} {A : Ty α} {xs : List α} {n c : Nat} (hi : Γ[i]? = some (vl (tSlice A) xs (.slice none n c))) : xs = [] := by
  obtain ⟨ok, h⟩ := hs.get i hi
  obtain ⟨a, c, e, _, h | ⟨g, off, e2, _⟩⟩ := tSlice_V.1 h
  · exact h
  · subst e2; cases e
theorem nilEq_run {T E : TypeId} {a : Option Addr} {n c : Nat} (hT : P.underlying T = some (.slice E)) (w : World) : (Op.equal T (.slice a n c) (.slice none 0 0)).run P w = .ok a.isNone w := by
  show (Op.equalIn 10000 T (.slice a n c) (.slice none 0 0)).run P w = _
  unfold Op.equalIn
  refine (run_bind (run_und hT w)).trans ?_
  cases a <;> rfl
theorem guard_sl (op : BinOp) (T : TypeId) (x y : Operand) (a b : Option Addr) (n c m k : Nat) (P : Program) (w : World) : (eqGuard op T x y (.slice a n c) (.slice b m k)).run P w = .ok () w := by
  unfold eqGuard; cases op <;> rfl
theorem WL.nilEq {T E T' : TypeId} {x : Operand} {a : Option Addr} {n c : Nat} (hT : P.underlying T = some (.slice E)) (hx : ρ.ev x = .slice a n c)
    (K : WL P N ops Q rest (putE ρ d (.bool a.isNone)) w)
    (hg : wantedE ops ρ ⟨d, .binOp .eql T x (.const (.slice none 0 0)) T', ty, pos, aft, gd⟩ = true := by rfl) (hd : fits N d = true := by rfl) :
    WL P N ops Q (⟨d, .binOp .eql T x (.const (.slice none 0 0)) T', ty, pos, aft, gd⟩ :: rest) ρ w :=
  WL.value hg hd (v := .bool a.isNone) (w' := w) (by
    show (do pure (Next.value (← (do eqGuard .eql T x (.const (.slice none 0 0)) (ρ.ev x) (.slice none 0 0); binOp .eql T (ρ.ev x) (.slice none 0 0)))) : Sem Next).run P w = _
    rw [hx]
    refine exec_v ((run_bind (guard_sl .eql T _ _ _ _ _ _ _ _ P w)).trans ?_)
    show (do pure (Value.bool (← Op.equal T (.slice a n c) (.slice none 0 0))) : Sem Value).run P w = _
    exact (run_bind (nilEq_run hT w)).trans rfl) K
theorem Cells.take {α : Type} {A : Ty α} {ok : Nat → Prop} {xs : List α} {cs : List Value} (h : Cells A ok w xs cs) (l : Nat) (hl : l ≤ xs.length) : Cells A ok w (xs.take l) (cs.take (l * A.sz)) := by
  have hle : l * A.sz ≤ xs.length * A.sz := Nat.mul_le_mul_right _ hl
  refine ⟨by rw [List.length_take, List.length_take, h.1]; rw [Nat.min_eq_left hle, Nat.min_eq_left hl], fun j y hj => ?_⟩
  rw [List.getElem?_take] at hj
  split at hj
  · rename_i hjh
    have h3 : (j + 1) * A.sz ≤ l * A.sz := Nat.mul_le_mul_right _ hjh
    rw [Nat.add_mul, Nat.one_mul] at h3
    rw [List.drop_take, List.take_take, Nat.min_eq_left (by omega)]
    exact h.2 j y hj
  · cases hj
end
end Go.Proofs.YthcohhpmpdijoaaDoorL
set_option linter.unusedVariables false
set_option linter.unusedSimpArgs false
set_option linter.unusedSectionVars false
namespace Go.Proofs.YthcohhpmpdijoaaDoorL
open Go Go.RowKit
section
variable {P : Program} {N : Nat} {Q : QE} {ρ : Env} {w : World} {w0 : Base} {ok0 : Nat → Prop} {Γ : List It} {Λ : List LObj}
variable {d : Option Tmp} {ty : TypeId} {pos : String} {aft : Array Edge} {gd : Option (Nat × Bool)} {ops : Array Oper} {rest : List Oper}
theorem WL.appG_ {α : Type} {A : Ty α} {T tx E : TypeId} {z : Value} {bytes : Nat} {s x : Operand} {xs ys zs : List α} {a : Option Addr} {xv : Value} {news : List Value} (hs : St ok0 w0 w Γ Λ) (i : Nat) (hi : Γ[i]? = some (vl (tSlice A) xs (.slice a xs.length xs.length)))
    (hT : P.underlying T = some (.slice E)) (hE : EI P E z A.sz bytes) (hsv : ρ.ev s = .slice a xs.length xs.length) (hx : ρ.ev x = xv) (hsrc : Src P A.sz tx xv ys.length news w)
    (hC : ∀ ok, All ok w Γ → Cells A ok w ys news) (hb : (xs.length + ys.length) * bytes ≤ 140737488355328) (h63 : xs.length + ys.length ≤ 9223372036854775807) (hz : xs ++ ys = zs)
    (hy : 0 < ys.length) (K : ∀ a' c' w', St ok0 w0 w' Γ (own A E (.slice a' zs.length c') zs :: Λ) → WL P N ops Q rest (putE ρ d (.slice a' zs.length c')) w')
    (hg : wantedE ops ρ ⟨d, .call { callee := .builtin .append, args := #[s, x], argTypes := #[T, tx] }, ty, pos, aft, gd⟩ = true) (hd : fits N d = true) :
    WL P N ops Q (⟨d, .call { callee := .builtin .append, args := #[s, x], argTypes := #[T, tx] }, ty, pos, aft, gd⟩ :: rest) ρ w := by
  subst hz
  have exec : ∀ {v' : Value} {w' : World}, (Builtin.append_ #[T, tx] ty #[.slice a xs.length xs.length, xv]).run P w = .ok v' w' → (execOp ρ.ev ⟨d, .call { callee := .builtin .append, args := #[s, x], argTypes := #[T, tx] }, ty, pos, aft, gd⟩).run P w = .ok (.value v') w' := by
    intro v' w' hrun
    refine exec_builtin fun cns => ?_
    rw [List.map_toArray]
    show (do pure (Next.value (← Builtin.append_ #[T, tx] ty #[ρ.ev s, ρ.ev x])) : Sem Next).run P w = _
    rw [hsv, hx]
    exact exec_v hrun
  obtain ⟨ti, hi1, hi2, hi3, hi4, hi5, hi6⟩ := hE.parts
  subst hi4
  rw [← hi3] at hsrc
  obtain ⟨ok, hh⟩ := hs.get i hi
  obtain ⟨a', c', e, hc, hr⟩ := tSlice_V.1 hh
  cases e
  obtain ⟨olds, hrunold, hCo⟩ : ∃ olds : List Value, (Builtin.firstCells ti.size xs.length (.slice a xs.length xs.length)).run P w.drew = .ok olds.toArray w.drew ∧ ∀ ok', (vl (tSlice A) xs (.slice a xs.length xs.length)).holds ok' w → Cells A ok' w xs olds := by
    rcases hr with rfl | ⟨g, off, rfl, hok, hlt, hcell⟩
    · refine ⟨[], ?_, fun _ _ => Cells.nil _ _ _⟩
      cases a with
      | none => exact run_firstCells_none w.drew ti.size 0 0 0
      | some a => exact run_firstCells_some w.drew ti.size 0 a 0 0 [] (by simp) (fun j u h => by cases h)
    · obtain ⟨olds, hCo, hn⟩ := Row.news hcell
      refine ⟨olds, run_firstCells_some w.drew ti.size xs.length ⟨g, off, none⟩ xs.length xs.length olds (by rw [hi3]; exact hCo.1) (fun j u hu => by rw [addr_add]; exact hn j u hu), fun ok' h' => ?_⟩
      obtain ⟨a', c', e, _, hr'⟩ := tSlice_V.1 h'
      cases e
      rcases hr' with rfl | ⟨g', off', e, hok', hlt', hcell'⟩
      · have : olds = [] := List.length_eq_zero_iff.1 (by rw [hCo.1]; simp)
        subst this
        exact Cells.nil _ _ _
      · cases e
        obtain ⟨olds', hCo', hn'⟩ := Row.news hcell'
        have : olds = olds' := by
          apply List.ext_getElem?
          intro k
          have hl : olds.length = olds'.length := by rw [hCo.1, hCo'.1]
          rcases Nat.lt_or_ge k olds.length with hk | hk
          · have e1 := hn k _ (List.getElem?_eq_getElem hk)
            have e2 := hn' k _ (List.getElem?_eq_getElem (by omega))
            rw [e1] at e2
            rw [List.getElem?_eq_getElem hk, List.getElem?_eq_getElem (by omega)]
            exact e2
          · rw [List.getElem?_eq_none hk, List.getElem?_eq_none (by omega)]
        rw [this]
        exact hCo'
  have hol : olds.length = xs.length * A.sz := (hCo ok hh).1
  obtain ⟨okc, hAc, _⟩ := hs.call
  have hnl : news.length = ys.length * A.sz := (hC okc hAc).1
  have hgrow := run_append_grow_src w T tx ty E ti z hT hi1 hi2 a xs.length xs.length olds hrunold xv ys.length news hsrc (by omega) (by omega) (growslice_fits (by omega) hb)
  have hge := grownCap_ge w (xs.length + ys.length) xs.length E
  have hlen : (olds ++ news).length = (xs.length + ys.length) * A.sz := by rw [List.length_append, hol, hnl, Nat.add_mul]
  have hbl : Below w.heap.size w (w.drew.alloc (.cells ((olds ++ news).toArray ++ Builtin.zeroCells z.cells (grownCap w (xs.length + ys.length) xs.length E - (xs.length + ys.length))) E)) := by
    have hbl := fun o => below_alloc w.drew o
    exact ⟨(hbl _).os, (hbl _).tape, (hbl _).output, (hbl _).size, fun k hk => (hbl _).block k hk⟩
  have hnew : (w.drew.alloc (.cells ((olds ++ news).toArray ++ Builtin.zeroCells z.cells (grownCap w (xs.length + ys.length) xs.length E - (xs.length + ys.length))) E)).heap[w.heap.size]? = some (.cells ((olds ++ news).toArray ++ Builtin.zeroCells z.cells (grownCap w (xs.length + ys.length) xs.length E - (xs.length + ys.length))) E (0, 0)) := heap_new w.drew _
  have hown := hs.new (o := own A E (.slice (some ⟨w.heap.size, 0, none⟩) (xs ++ ys).length (grownCap w (xs.length + ys.length) xs.length E)) (xs ++ ys)) hbl (bs := [w.heap.size]) (by simp) (by
    intro b hb'
    simp only [List.mem_singleton] at hb'
    subst hb'
    exact ⟨Nat.le_refl _, lt_of_some hnew⟩) fun ok' ok1 hA1 hm' => by
      have hC1 := ((hCo ok1 (hA1.get i hi)).app (hC ok1 hA1)).move (w' := (w.drew.alloc (.cells ((olds ++ news).toArray ++ Builtin.zeroCells z.cells (grownCap w (xs.length + ys.length) xs.length E - (xs.length + ys.length))) E))) (ok' := ok') fun b hb1 hb2 => ⟨hbl.block b hb2, hm' b hb1 hb2⟩
      refine .inr ⟨by show 0 < grownCap w (xs.length + ys.length) xs.length E; omega, olds ++ news, by simp [Value.ownBlock], ⟨hC1.1, .inr ⟨w.heap.size, _, _, rfl, Nat.zero_le _, hnew, by rw [List.length_append]; exact hge, grownCap_le_maxLen w _ xs.length E (by simp only [maxLen]; omega), ?_, ?_⟩⟩, hC1⟩
      · simp only [Array.size_append, List.size_toArray, size_zeroCells, hi5, hlen, ← Nat.add_mul]
        congr 1
        omega
      · simp only [Array.toList_append]
        rw [List.length_append, ← hlen]
        exact List.take_left
  refine WL.value hg hd (exec hgrow) ?_
  have := K (some ⟨w.heap.size, 0, none⟩) (grownCap w (xs.length + ys.length) xs.length E) _ hown
  rw [List.length_append] at this
  exact this
theorem WL.appF_ {α : Type} {A : Ty α} {T tx E : TypeId} {z : Value} {bytes : Nat} {s x : Operand} {xs ys zs : List α} {a : Option Addr} {xv : Value} {news : List Value} (hs : St ok0 w0 w Γ Λ) (i : Nat) (hi : Γ[i]? = some (vl (tSlice A) xs (.slice a xs.length xs.length)))
    (hT : P.underlying T = some (.slice E)) (hE : EI P E z A.sz bytes) (hsv : ρ.ev s = .slice a xs.length xs.length) (hx : ρ.ev x = xv) (hsrc : Src P A.sz tx xv ys.length news w)
    (hC : ∀ ok, All ok w Γ → Cells A ok w ys news) (hb : (xs.length + ys.length) * bytes ≤ 140737488355328) (h63 : xs.length + ys.length ≤ 9223372036854775807) (hz : xs ++ ys = zs)
    (K : ∀ a' c' w', St ok0 w0 w' (vl (tSlice A) zs (.slice a' zs.length c') :: Γ) Λ → WL P N ops Q rest (putE ρ d (.slice a' zs.length c')) w')
    (hg : wantedE ops ρ ⟨d, .call { callee := .builtin .append, args := #[s, x], argTypes := #[T, tx] }, ty, pos, aft, gd⟩ = true) (hd : fits N d = true) :
    WL P N ops Q (⟨d, .call { callee := .builtin .append, args := #[s, x], argTypes := #[T, tx] }, ty, pos, aft, gd⟩ :: rest) ρ w := by
  subst hz
  have exec : ∀ {v' : Value} {w' : World}, (Builtin.append_ #[T, tx] ty #[.slice a xs.length xs.length, xv]).run P w = .ok v' w' → (execOp ρ.ev ⟨d, .call { callee := .builtin .append, args := #[s, x], argTypes := #[T, tx] }, ty, pos, aft, gd⟩).run P w = .ok (.value v') w' := by
    intro v' w' hrun
    refine exec_builtin fun cns => ?_
    rw [List.map_toArray]
    show (do pure (Next.value (← Builtin.append_ #[T, tx] ty #[ρ.ev s, ρ.ev x])) : Sem Next).run P w = _
    rw [hsv, hx]
    exact exec_v hrun
  obtain ⟨ti, hi1, hi2, hi3, hi4, hi5, hi6⟩ := hE.parts
  subst hi4
  rw [← hi3] at hsrc
  rcases Nat.eq_zero_or_pos ys.length with hy | hy
  · obtain rfl := List.length_eq_zero_iff.1 hy
    have hn0 : news = [] := List.length_eq_zero_iff.1 (by rw [hsrc.newsLen]; simp)
    subst hn0
    have hrun := exec (run_append_nothing w T tx ty E ti hT hi1 a xs.length xs.length (Nat.le_refl _) xv (by simpa using hsrc))
    refine WL.value hg hd hrun ?_
    have := K a xs.length w
    rw [List.append_nil] at this
    exact this (hs.add fun ok hA => hA.get i hi)
  · exact WL.appG_ hs i hi hT hE hsv hx (by rw [hi3] at hsrc; exact hsrc) hC hb h63 rfl hy (fun a' c' w' hs' => K a' c' w' (hs'.freezeOwn 0 rfl)) hg hd
theorem WL.appendFS {α : Type} {A : Ty α} {T tx E : TypeId} {z : Value} {bytes : Nat} {s x : Operand} {xs ys zs : List α} {a b : Option Addr} {c : Nat} (hs : St ok0 w0 w Γ Λ) (i : Nat) (hi : Γ[i]? = some (vl (tSlice A) xs (.slice a xs.length xs.length))) (j : Nat) (hj : Γ[j]? = some (vl (tSlice A) ys (.slice b ys.length c)))
    (hT : P.underlying T = some (.slice E)) (hTx : P.underlying tx = some (.slice E)) (hE : EI P E z A.sz bytes) (hsv : ρ.ev s = .slice a xs.length xs.length) (hx : ρ.ev x = .slice b ys.length c)
    (hb : (xs.length + ys.length) * bytes ≤ 140737488355328) (h63 : xs.length + ys.length ≤ 9223372036854775807) (hz : xs ++ ys = zs)
    (K : ∀ a' c' w', St ok0 w0 w' (vl (tSlice A) zs (.slice a' zs.length c') :: Γ) Λ → WL P N ops Q rest (putE ρ d (.slice a' zs.length c')) w')
    (hg : wantedE ops ρ ⟨d, .call { callee := .builtin .append, args := #[s, x], argTypes := #[T, tx] }, ty, pos, aft, gd⟩ = true := by rfl) (hd : fits N d = true := by rfl) :
    WL P N ops Q (⟨d, .call { callee := .builtin .append, args := #[s, x], argTypes := #[T, tx] }, ty, pos, aft, gd⟩ :: rest) ρ w := by
  obtain ⟨ok, hh⟩ := hs.get j hj
  obtain ⟨a', c', e, hc, hr⟩ := tSlice_V.1 hh
  cases e
  rcases hr with rfl | ⟨g, off, rfl, hok, hlt, hcell⟩
  · -- no element
    have hsrc : Src P A.sz tx (.slice b 0 c) 0 [] w := by
      cases b with
      | none => exact Src.ofNil w hTx c
      | some b => exact Src.ofSlice w hTx b 0 c [] (by simp) (fun k u h => by cases h) (fun _ h => by cases h)
    exact WL.appF_ (ys := []) hs i hi hT hE hsv hx hsrc (fun _ _ => Cells.nil _ _ _) hb h63 hz K hg hd
  · obtain ⟨news, hC, hn⟩ := Row.news hcell
    have hnews : ∀ ok, All ok w Γ → Cells A ok w ys news := by
      intro ok' hA
      obtain ⟨a2, c2, e2, _, hr2⟩ := tSlice_V.1 (hA.get j hj)
      cases e2
      rcases hr2 with h0 | ⟨g2, off2, e3, _, _, hcell2⟩
      · have h0' : ys = [] := h0
        subst h0'
        have : news = [] := List.length_eq_zero_iff.1 (by rw [hC.1]; simp)
        subst this
        exact Cells.nil _ _ _
      · cases e3
        obtain ⟨news2, hC2, hn2⟩ := Row.news hcell2
        have : news = news2 := by
          apply List.ext_getElem?
          intro k
          rcases Nat.lt_or_ge k (ys.length * A.sz) with hk | hk
          · have a1 := hn k _ (List.getElem?_eq_getElem (by rw [hC.1]; exact hk))
            have a2 := hn2 k _ (List.getElem?_eq_getElem (by rw [hC2.1]; exact hk))
            rw [List.getElem?_eq_getElem (by rw [hC.1]; exact hk), List.getElem?_eq_getElem (by rw [hC2.1]; exact hk), ← a1, ← a2]
          · rw [List.getElem?_eq_none (by rw [hC.1]; exact hk), List.getElem?_eq_none (by rw [hC2.1]; exact hk)]
        rw [this]
        exact hC2
    refine WL.appF_ hs i hi hT hE hsv hx (Src.ofSlice w hTx _ ys.length c news hC.1 (fun k u hu => ?_) hC.one_) hnews hb h63 hz K hg hd
    rw [addr_add]
    exact hn k u hu
theorem St.allT (hs : St ok0 w0 w Γ Λ) : All (fun _ => True) w Γ := by
  obtain ⟨_, _, _, _, _, hA⟩ := hs
  exact hA.move fun _ _ _ => ⟨rfl, trivial⟩
theorem St.ownT (hs : St ok0 w0 w Γ Λ) (i : Nat) {α : Type} {A : Ty α} {E : TypeId} {xs : List α} {v : Value} (hi : Λ[i]? = some (own A E v xs)) : (vl (tSlice A) xs v).holds (fun _ => True) w := by
  have h1 := hs.freezeOwn i hi
  exact h1.allT _ (by simp)
theorem St.ownN (hs : St ok0 w0 w Γ Λ) (i : Nat) {α : Type} {A : Ty α} {E : TypeId} {xs : List α} {a : Option Addr} {n c : Nat} (hi : Λ[i]? = some (own A E (.slice a n c) xs)) : (vl (tSlice A) xs (.slice a xs.length c)).holds (fun _ => True) w := by
  have h1 := hs.ownT i hi
  rwa [hs.ownLen i hi] at h1
theorem sl_len {a : Option Addr} {n m c : Nat} (h : n = m) : Value.slice a n c = .slice a m c := h ▸ rfl
theorem WL.callL {f : FuncId} {args : List Operand} {ats : Array TypeId} {vs : List Value} {Y : Type} {val : Y → Value} (hs : St ok0 w0 w Γ Λ) (hf : FN P f) (ha : Evs ρ args vs)
    (hc : Calls P f vs.toArray w fun e w' => ∃ v, e = .returned v ∧ ∃ y, v = val y ∧ St (fun _ => True) (bz w) w' [] [])
    (K : ∀ y w', St ok0 w0 w' Γ Λ → WL P N ops Q rest (putE ρ d (val y)) w')
    (hg : wantedE ops ρ ⟨d, .call { callee := .value (.func f), args := args.toArray, argTypes := ats }, ty, pos, aft, gd⟩ = true := by rfl) (hd : fits N d = true := by rfl) :
    WL P N ops Q (⟨d, .call { callee := .value (.func f), args := args.toArray, argTypes := ats }, ty, pos, aft, gd⟩ :: rest) ρ w := by
  refine WL.enter hg hd (w' := w) (f := f) (args := vs.toArray) ?_ hc ?_
  · show (invoke (.fn (.func f) #[]) (#[] ++ args.toArray.map ρ.ev)).run P w = _
    rw [List.map_toArray, ha.map]
    simpa [invoke] using hf vs.toArray w
  · rintro v w' ⟨y, rfl, hs'⟩
    exact K y w' (hs.below hs'.1.nil_below)
end
end Go.Proofs.YthcohhpmpdijoaaDoorL
set_option linter.unusedVariables false
set_option linter.unusedSimpArgs false
namespace Go.Proofs.YthcohhpmpdijoaaDoorL
open Go Go.RowKit Go.ChangeShapes Go.WideShapes Go.ChangeAt

def RdAt (P : Program) (t : TypeId) {α : Type} (T : Ty α) (Wf : α → Prop) : Prop :=
  ∀ (H : Type) (enc : TypeId × Value → H) (w : World) (spare : Nat → Bool) (held : Bool) (fuel : Nat) (cs : List Value) (x : DataW H × List MemPlace), DataW.trod enc P w 0 spare held fuel t cs = some x → ∃ y, T.R (fun b => b < w.heap.size) w y cs ∧ Wf y
def wInt (k : IntKind) : Int → Prop := fun x => (Lit.int k x).wf = true
def wStr : List UInt8 → Prop := fun s => s.length ≤ 9223372036854775807
def wSlice {α : Type} (W : α → Prop) : List α → Prop := fun xs => xs.length ≤ 9223372036854775807 ∧ ∀ x ∈ xs, W x
def wPair {α β : Type} (A : α → Prop) (B : β → Prop) : α × β → Prop := fun x => A x.1 ∧ B x.2
section
variable {P : Program}
theorem rdInt {t : TypeId} {k : IntKind} (h : P.underlying t = some (.int k)) : RdAt P t (tInt k) (wInt k) := by
  intro H enc w spare held fuel cs x hx
  obtain ⟨n, h1, h2, h3⟩ := DataW.trod_int h hx
  exact ⟨n, h1, h3⟩
theorem rdSlice {t e : TypeId} {α : Type} {T : Ty α} {W : α → Prop} (h : P.underlying t = some (.slice e)) (he : RdAt P e T W) (hc : P.cellsOf e = T.sz) (h0 : 0 < T.sz) : RdAt P t (tSlice T) (wSlice W) := by
  intro H enc w spare held fuel cs x hx
  rcases DataW.trod_slice h hx with ⟨h1, _⟩ | ⟨a, len, cap, elems, rest, n, rfl, h1, _, _, hlc, hcm, hel, hget, _⟩
  · exact ⟨[], ⟨none, 0, h1, Nat.le_refl _, .inl rfl⟩, ⟨by simp, by simp⟩⟩
  · rw [hc] at hget
    have step : ∀ m, m ≤ len → ∃ xs : List α, xs.length = m ∧ (∀ x ∈ xs, W x) ∧ ∀ j x, xs[j]? = some x → ∃ cs, T.R (fun b => b < w.heap.size) w x cs ∧ w.cells? 0 (a.add (j * T.sz)) T.sz = some cs := by
      intro m
      induction m with
      | zero => exact fun _ => ⟨[], rfl, by simp, by simp⟩
      | succ m ih =>
        intro hm
        obtain ⟨xs, hl, hw, hr⟩ := ih (by omega)
        have hg := hget m (by omega)
        have hes : elems[m]? = some elems[m] := List.getElem?_eq_getElem (by omega)
        rw [hes] at hg
        obtain ⟨cs, hcs, htr⟩ := Option.bind_eq_some_iff.1 hg
        obtain ⟨y, hy, hyw⟩ := he H enc w spare held n cs _ htr
        refine ⟨xs ++ [y], by simp [hl], fun x hx => ?_, fun j x hj => ?_⟩
        · rcases List.mem_append.1 hx with hx | hx
          · exact hw x hx
          · simp at hx; subst hx; exact hyw
        · rcases Nat.lt_or_ge j xs.length with h | h
          · rw [List.getElem?_append_left h] at hj
            exact hr j x hj
          · rw [List.getElem?_append_right h] at hj
            have hj0 : j = m := by
              have := (List.getElem?_eq_some_iff.1 hj).1
              simp at this
              omega
            subst hj0
            rw [hl, Nat.sub_self] at hj
            simp at hj
            subst hj
            exact ⟨cs, hy, hcs⟩
    obtain ⟨xs, hl, hw, hr⟩ := step len (Nat.le_refl _)
    refine ⟨xs, ⟨some a, cap, by rw [hl]; exact h1, by omega, ?_⟩, ⟨by rw [hl]; simp only [maxLen] at hcm; omega, hw⟩⟩
    rcases Nat.eq_zero_or_pos xs.length with hz | hz
    · exact .inl (List.length_eq_zero_iff.1 hz)
    · have hspot : a.spot = none := by
        obtain ⟨cs, hR, hc2⟩ := hr 0 _ (List.getElem?_eq_getElem hz)
        have hlen := T.len hR
        obtain ⟨_, _, hcell⟩ := World.cells?_some hc2
        have := hcell 0 (by omega)
        rw [List.getElem?_eq_getElem (by omega)] at this
        have h3 := World.cell?_spot this
        rw [Nat.zero_mul] at h3
        revert h3
        unfold Addr.add
        obtain ⟨b, o, sp⟩ := a
        cases sp <;> simp
      obtain ⟨b, off, sp⟩ := a
      simp only at hspot
      subst hspot
      have hlt : b < w.heap.size := by
        obtain ⟨cs, hR, hc2⟩ := hr 0 _ (List.getElem?_eq_getElem hz)
        have := World.cells?_block hc2 h0
        rwa [addr_add] at this
      refine .inr ⟨b, off, rfl, hlt, hlt, fun j x hj => ?_⟩
      obtain ⟨cs, hR, hc2⟩ := hr j x hj
      refine ⟨cs, hR, fun i u hu => ?_⟩
      obtain ⟨_, _, hcell⟩ := World.cells?_some hc2
      have hi := (List.getElem?_eq_some_iff.1 hu).1
      have := hcell i (by rw [T.len hR] at hi; exact hi)
      rw [addr_add, addr_add, hu] at this
      exact this

def RdF (P : Program) (off : Nat) (fs : List Field) {α : Type} (T : Ty α) (Wf : α → Prop) : Prop :=
  ∀ (H : Type) (enc : TypeId × Value → H) (w : World) (spare : Nat → Bool) (held : Bool) (fuel : Nat) (cs : List Value), cs.length = T.sz →
    (∀ f ∈ fs, ∃ x, DataW.trod enc P w 0 spare held fuel f.type ((cs.drop (f.offset - off)).take (P.cellsOf f.type)) = some x) → ∃ y, T.R (fun b => b < w.heap.size) w y cs ∧ Wf y
theorem RdF.one {off : Nat} {f : Field} {α : Type} {T : Ty α} {W : α → Prop} (h : RdAt P f.type T W) (ho : f.offset = off) (hc : P.cellsOf f.type = T.sz) : RdF P off [f] T W := by
  intro H enc w spare held fuel cs hl hx
  obtain ⟨x, hx⟩ := hx f (by simp)
  rw [ho, Nat.sub_self, List.drop_zero, hc, ← hl, List.take_length] at hx
  exact h H enc w spare held fuel cs x hx
theorem RdF.cons {off off' : Nat} {f : Field} {fs : List Field} {α β : Type} {A : Ty α} {B : Ty β} {W : α → Prop} {V : β → Prop} (h : RdAt P f.type A W) (ho : f.offset = off) (hc : P.cellsOf f.type = A.sz) (hr : RdF P off' fs B V)
    (hoff : off' = off + A.sz) (hall : (fs.all fun g => Nat.ble off' g.offset) = true) : RdF P off (f :: fs) (tPair A B) (wPair W V) := by
  intro H enc w spare held fuel cs hl hx
  have hl' : cs.length = A.sz + B.sz := hl
  obtain ⟨x, hx1⟩ := hx f (by simp)
  rw [ho, Nat.sub_self, List.drop_zero, hc] at hx1
  obtain ⟨y1, h1, w1⟩ := h H enc w spare held fuel _ x hx1
  obtain ⟨y2, h2, w2⟩ := hr H enc w spare held fuel (cs.drop A.sz) (by rw [List.length_drop]; omega) fun g hg => by
    obtain ⟨x, hx2⟩ := hx g (by simp [hg])
    have hle : off' ≤ g.offset := by
      have := List.all_eq_true.1 hall g hg
      simpa using this
    refine ⟨x, ?_⟩
    rw [List.drop_drop]
    rw [show A.sz + (g.offset - off') = g.offset - off by omega]
    exact hx2
  exact ⟨(y1, y2), ⟨_, _, (List.take_append_drop A.sz cs).symm, h1, h2⟩, w1, w2⟩
theorem arg_slice {H : Type} {enc : TypeId × Value → H} {W : World} {sp : Nat → Bool} {held : Bool} {t : TypeId} {a : Option Addr} {n c : Nat} {d : DataW H} {p : List MemPlace} {α : Type} {T : Ty α} {Wf : List α → Prop} (hr : RdAt P t (tSlice T) Wf)
    (h : DataW.Trod enc P W 0 sp held t (.slice a n c) d p) : ∃ xs : List α, n = xs.length ∧ (vl (tSlice T) xs (.slice a xs.length c)).holds (fun b => b < W.heap.size) W ∧ Wf xs := by
  obtain ⟨fuel, hf⟩ := h
  obtain ⟨xs, ⟨a', c', e, h1, h2⟩, h3⟩ := hr _ _ _ _ _ _ _ _ hf
  simp only [Value.cells, List.cons.injEq, and_true] at e
  injection e with e1 e2 e3
  subst e1; subst e2; subst e3
  exact ⟨xs, rfl, tSlice_V.2 ⟨_, _, rfl, h1, h2⟩, h3⟩
theorem arg_str {H : Type} {enc : TypeId × Value → H} {W : World} {r : Reach} {b0 : Nat} {sp : Nat → Bool} {held : Bool} {t : TypeId} {v : Value} {d : DataW H} {p : List MemPlace} (ht : P.underlying t = some .string) (hval : Value.okWide P W r b0 t v)
    (h : DataW.Trod enc P W 0 sp held t v d p) : ∃ x : List UInt8, v = bstr x ∧ wStr x := by
  obtain ⟨s, rfl⟩ := okWide_string ht hval
  obtain ⟨fuel, hf⟩ := h
  obtain ⟨s', h1, h2, h3⟩ := DataW.trod_string ht hf
  have e : s = s' := by
    have : ([Value.string s] : List Value) = [.string s'] := h1
    injection this with this
    injection this
  subst e
  exact ⟨s.data.toList, by simp [bstr], by show s.data.toList.length ≤ _; rw [Array.length_toList]; exact h3⟩
end
end Go.Proofs.YthcohhpmpdijoaaDoorL
set_option linter.unusedVariables false
set_option linter.unusedSimpArgs false
set_option linter.unusedSectionVars false
namespace Go.Proofs.YthcohhpmpdijoaaDoorL
open Go Go.RowKit Go.Sort

def cmpI (x y : Int) : Int := if x < y then -1 else if y < x then 1 else 0
theorem cmpI_neg (x y : Int) : decide (cmpI x y < 0) = decide (x < y) := by
  unfold cmpI
  by_cases h1 : x < y
  · simp [h1]
  · by_cases h2 : y < x <;> simp [h1, h2]
end Go.Proofs.YthcohhpmpdijoaaDoorL
set_option linter.unusedVariables false
set_option linter.unusedSimpArgs false
set_option linter.unnecessarySimpa false
namespace Go.Proofs.YthcohhpmpdijoaaDoorL
open Go Go.RowKit
section
variable {P : Program} {N : Nat} {ops : Array Oper} {Q : QE} {ρ : Env} {w : World} {w0 : Base} {rest : List Oper} {d : Option Tmp} {ty : TypeId} {pos : String} {aft : Array Edge} {gd : Option (Nat × Bool)} {ok0 : Nat → Prop} {Γ : List It} {Λ : List LObj}

def bts (xs : List Int) : List UInt8 := xs.map fun n => UInt8.ofNat n.toNat
theorem WL.bytesStr {T U E : TypeId} {x : Operand} {xs : List Int} {a : Option Addr} {c : Nat} (hs : St ok0 w0 w Γ Λ) (i : Nat) (hi : Γ[i]? = some (vl (tSlice (tInt .u8)) xs (.slice a xs.length c)))
    (hT : P.underlying T = some (.slice E)) (hE : P.underlying E = some (.int .u8)) (hU : P.underlying U = some .string) (hx : ρ.ev x = .slice a xs.length c) (K : WL P N ops Q rest (putE ρ d (bstr (bts xs))) w)
    (hg : wantedE ops ρ ⟨d, .convert T U x, ty, pos, aft, gd⟩ = true := by rfl) (hd : fits N d = true := by rfl) :
    WL P N ops Q (⟨d, .convert T U x, ty, pos, aft, gd⟩ :: rest) ρ w :=
  WL.value hg hd (v := bstr (bts xs)) (w' := w) (by
    show (do pure (Next.value (← convert T U (ρ.ev x))) : Sem Next).run P w = _
    rw [hx]
    refine exec_v ?_
    have hz : xs = [] → ∀ a : Option Addr, (convert T U (.slice a xs.length c)).run P w = .ok (bstr (bts xs)) w := by
      rintro rfl a
      cases a with
      | none => exact run_convert_bytes_nil w T E hT hE 0 c U hU
      | some a =>
        have hl : (loadCells a 0).run P w = .ok (([] : List Int).map (Value.int .u8)).toArray w := by simpa using run_loadCells_list (P := P) w a [] (by simp)
        rw [List.length_nil, run_convert_bytes_string w T U E _ 0 c hT hE hU, run_bytesToString w a 0 c [] hl]
        rfl
    obtain ⟨ok, h⟩ := hs.get i hi
    obtain ⟨a', c', e, hc, hr⟩ := tSlice_V.1 h
    injection e with e1 e2 e3
    subst e1
    rcases hr with h0 | ⟨g, off, rfl, hg, hlt, hcell⟩
    · exact hz h0 a
    · rw [run_convert_bytes_arg w T E hT hE g off xs.length c xs rfl (fun i hi => by
        have hxi : xs[i]? = some xs[i] := List.getElem?_eq_getElem hi
        obtain ⟨cs, hR, hcs⟩ := hcell i xs[i] hxi
        have hR' : cs = [.int .u8 xs[i]] := hR
        subst hR'
        have h1 := hcs 0 _ rfl
        have h2 : off + i * (tInt .u8).sz + 0 = off + i := by show off + i * 1 + 0 = off + i; omega
        rw [h2] at h1
        rw [h1, List.getD_eq_getElem?_getD, hxi]
        rfl) U hU]
      rfl) K
end
end Go.Proofs.YthcohhpmpdijoaaDoorL
set_option linter.unusedVariables false
set_option linter.unusedSimpArgs false
namespace Go.Proofs.YthcohhpmpdijoaaDoorL
open Go Go.RowKit
section
variable {w : World} {w0 : Base} {ok0 : Nat → Prop} {Γ : List It} {Λ : List LObj}
end
section
variable {P : Program} {N : Nat} {Q : QE} {ρ : Env} {w : World} {w0 : Base} {ok0 : Nat → Prop} {Γ : List It} {Λ : List LObj}
variable {d : Option Tmp} {ty : TypeId} {pos : String} {aft : Array Edge} {gd : Option (Nat × Bool)} {ops : Array Oper} {rest : List Oper}
theorem bldA {t e : TypeId} {n : Nat} {places : List (Nat × Nat)} {zero cs : List Value} {vs : List (Nat × Value)} {zv : Value} (hu : P.underlying t = some (.array n e)) (hs : TI P e false 1) (hz : ∀ w, (zeroValue t).run P w = .ok zv w) (hc : zv.cells = zero.toArray)
    (hp : places = (List.range n).map fun i => (i * 1, 1)) (hf : fillL places vs zero = some cs) : BLD P t vs cs := by
  intro w
  unfold Instr.build
  refine (run_bind (hz w)).trans ?_
  refine (run_bind (run_und hu w)).trans ?_
  refine (run_bind (hs.size_ w)).trans ?_
  rw [hc, fill_of (places := places) (fun i q h => by
    rw [hp, List.getElem?_map] at h
    obtain ⟨j, hj, rfl⟩ := Option.map_eq_some_iff.1 h
    have hlt := (List.getElem?_eq_some_iff.1 hj).1
    have := (List.getElem?_eq_some_iff.1 hj).2
    simp at this
    rw [this]) vs zero cs hf]
  rfl
end
end Go.Proofs.YthcohhpmpdijoaaDoorL
