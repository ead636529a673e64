/- The operations on memory, in a state. -/
import Derived.Test.YtbbeobiampbddaaLe
set_option linter.unusedVariables false
set_option linter.unusedSimpArgs false
namespace Go.Proofs.YtbbeobiampbddaaL
open Go Go.RowKit

section
variable {P : Program} {N : Nat} {Q : QE} {ρ : Env} {w : World} {w0 : Base} {ops : Array Oper} {rest : List Oper}
variable {d : Option Tmp} {ty : TypeId} {pos : String} {aft : Array Edge} {gd : Option (Nat × Bool)}
variable {ok0 : Nat → Prop} {Γ : List It} {Λ : List LObj}

theorem St.blk_at (hs : St ok0 w0 w Γ Λ) (i : Nat) {g : Nat} {T : TypeId} {cs : List Value} (hi : Λ[i]? = some (blk g T cs)) : w.heap[g]? = some (.cells cs.toArray T (0, 0)) := by
  obtain ⟨ok, bs, h, _⟩ := hs.split i hi
  exact h.2

/-! Loads. -/
theorem WL.load_ {t : TypeId} {x : Operand} {ad : Addr} {v : Value} (hx : ρ.ev x = .pointer (some ad)) (hv : (loadVar t ad).run P w = .ok v w) (K : WL P N ops Q rest (putE ρ d v) w)
    (hg : wantedE ops ρ ⟨d, .load t x, ty, pos, aft, gd⟩ = true) (hd : fits N d = true) :
    WL P N ops Q (⟨d, .load t x, ty, pos, aft, gd⟩ :: rest) ρ w :=
  WL.value hg hd (v := v) (w' := w) (by
    show (do pure (Next.value (← Instr.loadAt t (ρ.ev x))) : Sem Next).run P w = _
    rw [hx]
    exact exec_v ((run_bind (by rfl)).trans hv)) K
/-- One cell of a variable of the call's own. -/
theorem WL.load1 {t : TypeId} {x : Operand} {g j : Nat} {T : TypeId} {cs : List Value} {v : Value} {sz : Nat} (hs : St ok0 w0 w Γ Λ) (i : Nat) (hi : Λ[i]? = some (blk g T cs)) (ht : TI P t false sz)
    (hx : ρ.ev x = .pointer (some ⟨g, j, none⟩)) (hv : cs[j]? = some v) (K : WL P N ops Q rest (putE ρ d v) w)
    (hg : wantedE ops ρ ⟨d, .load t x, ty, pos, aft, gd⟩ = true := by rfl) (hd : fits N d = true := by rfl) :
    WL P N ops Q (⟨d, .load t x, ty, pos, aft, gd⟩ :: rest) ρ w :=
  WL.load_ hx (run_loadVar1 ht ((blk_cell (hs.blk_at i hi) j).trans hv)) K hg hd
/-- Several cells of a variable of the call's own. -/
theorem WL.loadN {t : TypeId} {x : Operand} {g j : Nat} {T : TypeId} {cs vs : List Value} {sz : Nat} (hs : St ok0 w0 w Γ Λ) (i : Nat) (hi : Λ[i]? = some (blk g T cs)) (ht : TI P t true sz)
    (hx : ρ.ev x = .pointer (some ⟨g, j, none⟩)) (hv : (cs.drop j).take sz = vs) (hl : vs.length = sz) (K : WL P N ops Q rest (putE ρ d (.agg vs.toArray)) w)
    (hg : wantedE ops ρ ⟨d, .load t x, ty, pos, aft, gd⟩ = true := by rfl) (hd : fits N d = true := by rfl) :
    WL P N ops Q (⟨d, .load t x, ty, pos, aft, gd⟩ :: rest) ρ w :=
  WL.load_ hx (run_loadVarN ht hl fun k u hu => by
    rw [blk_cell (hs.blk_at i hi)]
    subst hv
    rw [List.getElem?_take] at hu
    split at hu
    · rwa [List.getElem?_drop] at hu
    · cases hu) K hg hd

theorem V_one {α : Type} {F : Ty α} {ok : Nat → Prop} {y : α} {ds : List Value} (h : F.R ok w y ds) : F.V ok w y (bif F.agg then .agg ds.toArray else ds.getD 0 undef) := ⟨ds, h, rfl⟩

/-- A place that is only read. -/
theorem WL.loadP {α : Type} {F : Ty α} {y : α} {t : TypeId} {x : Operand} {ad : Addr} (hs : St ok0 w0 w Γ Λ) (i : Nat) (hi : Γ[i]? = some (pl F y ad)) (ht : TI P t F.agg F.sz) (h1 : F.agg = true ∨ F.sz = 1)
    (hx : ρ.ev x = .pointer (some ad)) (K : ∀ v, St ok0 w0 w (vl F y v :: Γ) Λ → WL P N ops Q rest (putE ρ d v) w)
    (hg : wantedE ops ρ ⟨d, .load t x, ty, pos, aft, gd⟩ = true := by rfl) (hd : fits N d = true := by rfl) :
    WL P N ops Q (⟨d, .load t x, ty, pos, aft, gd⟩ :: rest) ρ w := by
  -- the value is the same whatever region the reading is done in
  obtain ⟨ok, hh⟩ := hs.get i hi
  have key : ∃ v, (loadVar t ad).run P w = .ok v w ∧ ∀ ok, (pl F y ad).holds ok w → F.V ok w y v := by
    obtain ⟨hsp, hok, hlt, cs, hR, hc⟩ := hh
    obtain ⟨g, j, sp⟩ := ad
    cases hsp
    rcases hag : F.agg with _ | _
    · have hsz := h1.resolve_left (by simp [hag])
      rw [hag] at ht
      have hl := F.len hR
      match cs, hl, hc with
      | [], hl, _ => simp [hsz] at hl
      | c :: cs', hl, hc =>
        refine ⟨c, run_loadVar1 ht (hc 0 c rfl), fun ok' h' => ?_⟩
        obtain ⟨_, _, _, cs2, hR2, hc2⟩ := h'
        have hl2 := F.len hR2
        match cs2, hl2, hc2, hR2 with
        | [], hl2, _, _ => simp [hsz] at hl2
        | c2 :: cs2', hl2, hc2, hR2 =>
          have e1 := hc 0 c rfl
          have e2 := hc2 0 c2 rfl
          simp only at e1 e2
          rw [e1] at e2
          cases e2
          exact ⟨_, hR2, by simp [hag]⟩
    · rw [hag] at ht
      refine ⟨_, run_loadVarN ht (F.len hR) hc, fun ok' h' => ?_⟩
      obtain ⟨_, _, _, cs2, hR2, hc2⟩ := h'
      have e : cs = cs2 := by
        apply List.ext_getElem?
        intro k
        rcases Nat.lt_or_ge k F.sz with hk | hk
        · have a1 := hc k _ (List.getElem?_eq_getElem (by rw [F.len hR]; exact hk))
          have a2 := hc2 k _ (List.getElem?_eq_getElem (by rw [F.len hR2]; exact hk))
          rw [List.getElem?_eq_getElem (by rw [F.len hR]; exact hk), List.getElem?_eq_getElem (by rw [F.len hR2]; exact hk), ← a1, ← a2]
        · rw [List.getElem?_eq_none (by rw [F.len hR]; exact hk), List.getElem?_eq_none (by rw [F.len hR2]; exact hk)]
      subst e
      exact ⟨_, hR2, by simp [hag]⟩
  obtain ⟨v, hv, hV⟩ := key
  exact WL.load_ hx hv (K v (hs.add fun ok hA => hV ok (hA.get i hi))) hg hd

/-- A field of a variable that holds a value which stays whole. -/
theorem WL.loadF {α β : Type} {T : Ty α} {F : Ty β} {off : Nat} {get : α → β} {set : α → β → α} (hf : Fld T F off get set) {x : α} {t : TypeId} {a : Operand} {g : Nat} {Tb : TypeId} {cs : List Value}
    (hs : St ok0 w0 w Γ Λ) (i : Nat) (hi : Λ[i]? = some (blk g Tb cs)) (m : Nat) (hm : Γ[m]? = some (vl T x (.agg cs.toArray))) (hT : T.agg = true) (ht : TI P t F.agg F.sz) (h1 : F.agg = true ∨ F.sz = 1)
    (hx : ρ.ev a = .pointer (some ⟨g, off, none⟩)) {z : β} (hz : get x = z) (K : ∀ v, St ok0 w0 w (vl F z v :: Γ) Λ → WL P N ops Q rest (putE ρ d v) w)
    (hg : wantedE ops ρ ⟨d, .load t a, ty, pos, aft, gd⟩ = true := by rfl) (hd : fits N d = true := by rfl) :
    WL P N ops Q (⟨d, .load t a, ty, pos, aft, gd⟩ :: rest) ρ w := by
  subst hz
  have hb := hs.blk_at i hi
  have hcs : ∀ ok, (vl T x (.agg cs.toArray)).holds ok w → T.R ok w x cs := by
    rintro ok ⟨ds, hR, e⟩
    rw [hT] at e
    simp only [cond_true, Value.agg.injEq] at e
    have : cs = ds := by simpa using congrArg Array.toList e
    rwa [this]
  obtain ⟨ok, hh⟩ := hs.get m hm
  have hR := hf.get_ (hcs ok hh)
  have hl := F.len hR
  have hvadd : St ok0 w0 w (vl F (get x) (bif F.agg then .agg ((cs.drop off).take F.sz).toArray else ((cs.drop off).take F.sz).getD 0 undef) :: Γ) Λ :=
    hs.add fun ok hA => V_one (hf.get_ (hcs ok (hA.get m hm)))
  have hcell : ∀ k u, ((cs.drop off).take F.sz)[k]? = some u → w.cell? ⟨g, off + k, none⟩ = some u := by
    intro k u hu
    rw [blk_cell hb]
    rw [List.getElem?_take] at hu
    split at hu
    · rwa [List.getElem?_drop] at hu
    · cases hu
  generalize (cs.drop off).take F.sz = vs at hR hl hvadd hcell
  have hload : (loadVar t ⟨g, off, none⟩).run P w = .ok (bif F.agg then .agg vs.toArray else vs.getD 0 undef) w := by
    rcases hag : F.agg with _ | _
    · have hsz := h1.resolve_left (by simp [hag])
      rw [hag] at ht
      match vs, hl, hcell with
      | [], hl, _ => simp [hsz] at hl
      | c :: cs', hl, hc => exact run_loadVar1 ht (hc 0 c rfl)
    · rw [hag] at ht
      exact run_loadVarN ht hl hcell
  exact WL.load_ hx hload (K _ hvadd) hg hd

/-! Stores. -/
theorem St.store (hs : St ok0 w0 w Γ Λ) (i : Nat) {g : Nat} {T : TypeId} {cs : List Value} (hi : Λ[i]? = some (blk g T cs)) (j : Nat) (vs : List Value) :
    St ok0 w0 (setCells w g j vs) Γ (Λ.set i (blk g T (setAt cs j vs))) := by
  obtain ⟨ok, bs, h, hA, hn, hb, hput⟩ := hs.split i hi
  obtain ⟨rfl, hg⟩ := h
  exact hput _ [g] _ (off_setCells g vs w j) (by simp) (fun b hb' => by
    simp only [List.mem_singleton] at hb'
    subst hb'
    exact ⟨.inl (by simp), lt_of_some (heap_setCells vs hg)⟩) fun ok' _ => ⟨rfl, heap_setCells vs hg⟩
theorem WL.store {t : TypeId} {a x : Operand} {agg : Bool} {sz g j : Nat} {T : TypeId} {cs cs' vs : List Value} {v : Value} (hs : St ok0 w0 w Γ Λ) (i : Nat) (hi : Λ[i]? = some (blk g T cs)) (ht : TI P t agg sz)
    (ha : ρ.ev a = .pointer (some ⟨g, j, none⟩)) (hx : ρ.ev x = v) (hv : v.cells = vs.toArray) (hl : vs.length = sz) (h1 : ∀ u ∈ vs, u.oneCell' = true) (hb : j + sz ≤ cs.length) (hc : setAt cs j vs = cs')
    (K : ∀ w', St ok0 w0 w' Γ (Λ.set i (blk g T cs')) → WL P N ops Q rest (putE ρ d undef) w')
    (hg : wantedE ops ρ ⟨d, .store t a x, ty, pos, aft, gd⟩ = true := by rfl) (hd : fits N d = true := by rfl) :
    WL P N ops Q (⟨d, .store t a x, ty, pos, aft, gd⟩ :: rest) ρ w :=
  WL.unit hg hd (w' := setCells w g j vs) (by
    show (do Instr.storeAt t (ρ.ev a) (ρ.ev x); pure Next.skip : Sem Next).run P w = _
    rw [ha, hx]
    exact exec_u ((run_bind (by rfl)).trans (run_storeVar ht (hs.blk_at i hi) hv hl h1 hb))) (K _ (hc ▸ hs.store i hi j vs))

/-! New variables. -/
theorem WL.box {t : TypeId} {x : Operand} {v : Value} {vs : List Value} (hs : St ok0 w0 w Γ Λ) (hx : ρ.ev x = v) (hv : v.cells = vs.toArray)
    (K : ∀ g w', St ok0 w0 w' Γ (blk g t vs :: Λ) → WL P N ops Q rest (putE ρ d (.pointer (some ⟨g, 0, none⟩))) w')
    (hg : wantedE ops ρ ⟨d, .box t x, ty, pos, aft, gd⟩ = true := by rfl) (hd : fits N d = true := by rfl) :
    WL P N ops Q (⟨d, .box t x, ty, pos, aft, gd⟩ :: rest) ρ w :=
  WL.value hg hd (v := .pointer (some ⟨w.heap.size, 0, none⟩)) (w' := w.alloc (.cells vs.toArray t)) (by
    show (do pure (Next.value (← Instr.box t (ρ.ev x))) : Sem Next).run P w = _
    rw [hx]
    refine exec_v ?_
    unfold Instr.box newVar
    rw [hv]
    rfl) (K _ _ (hs.alloc t vs))
def ZV (P : Program) (t : TypeId) (vs : List Value) : Prop := ∃ z, (∀ w, (zeroValue t).run P w = .ok z w) ∧ z.cells = vs.toArray
theorem WL.alloc {t : TypeId} {vs : List Value} (hs : St ok0 w0 w Γ Λ) (hz : ZV P t vs)
    (K : ∀ g w', St ok0 w0 w' Γ (blk g t vs :: Λ) → WL P N ops Q rest (putE ρ d (.pointer (some ⟨g, 0, none⟩))) w')
    (hg : wantedE ops ρ ⟨d, .alloc t, ty, pos, aft, gd⟩ = true := by rfl) (hd : fits N d = true := by rfl) :
    WL P N ops Q (⟨d, .alloc t, ty, pos, aft, gd⟩ :: rest) ρ w := by
  obtain ⟨z, hz, hc⟩ := hz
  exact WL.value hg hd (v := .pointer (some ⟨w.heap.size, 0, none⟩)) (w' := w.alloc (.cells vs.toArray t)) (by
    show (do pure (Next.value (← Instr.alloc t true (.tuple #[]))) : Sem Next).run P w = _
    refine exec_v ?_
    unfold Instr.alloc
    refine (run_bind (hz w)).trans ?_
    show (do pure (Value.pointer (some (← newVar t z))) : Sem Value).run P w = _
    unfold newVar
    rw [hc]
    rfl) (K _ _ (hs.alloc t vs))

/-! Addresses. -/
/-- Where a field lies. -/
def FA (P : Program) (T : TypeId) (i off : Nat) : Prop := ∀ (ad : Addr) (w : World), (Instr.fieldAt T (.pointer (some ad)) i).run P w = .ok (.pointer (some (ad.add off))) w
theorem WL.fieldAddr {T : TypeId} {x : Operand} {i off g j m : Nat} (hx : ρ.ev x = .pointer (some ⟨g, j, none⟩)) (hf : FA P T i off) (hm : j + off = m)
    (K : WL P N ops Q rest (putE ρ d (.pointer (some ⟨g, m, none⟩))) w)
    (hg : wantedE ops ρ ⟨d, .fieldAddr T x i, ty, pos, aft, gd⟩ = true := by rfl) (hd : fits N d = true := by rfl) :
    WL P N ops Q (⟨d, .fieldAddr T x i, ty, pos, aft, gd⟩ :: rest) ρ w :=
  WL.value hg hd (v := .pointer (some ⟨g, m, none⟩)) (w' := w) (by
    show (do pure (Next.value (← Instr.fieldAt T (ρ.ev x) i)) : Sem Next).run P w = _
    rw [hx]
    refine exec_v ((hf _ w).trans ?_)
    rw [addr_add, hm]) K
/-- A field of a place that is only read. -/
theorem WL.fieldAddrP {α β : Type} {A : Ty α} {F : Ty β} {off : Nat} {get : α → β} {set : α → β → α} (hF : Fld A F off get set) {y : α} {T : TypeId} {x : Operand} {i : Nat} {ad : Addr} (hs : St ok0 w0 w Γ Λ) (m : Nat) (hm : Γ[m]? = some (pl A y ad))
    (hx : ρ.ev x = .pointer (some ad)) (hf : FA P T i off) {z : β} (hz : get y = z)
    (K : ∀ ad', St ok0 w0 w (pl F z ad' :: Γ) Λ → WL P N ops Q rest (putE ρ d (.pointer (some ad'))) w)
    (hg : wantedE ops ρ ⟨d, .fieldAddr T x i, ty, pos, aft, gd⟩ = true := by rfl) (hd : fits N d = true := by rfl) :
    WL P N ops Q (⟨d, .fieldAddr T x i, ty, pos, aft, gd⟩ :: rest) ρ w :=
  WL.value hg hd (v := .pointer (some (ad.add off))) (w' := w) (by
    show (do pure (Next.value (← Instr.fieldAt T (ρ.ev x) i)) : Sem Next).run P w = _
    rw [hx]
    exact exec_v (hf _ w)) (K _ (hs.add fun ok hA => by
      subst hz
      obtain ⟨hsp, hok, hlt, cs, hR, hc⟩ := hA.get m hm
      obtain ⟨g, j, sp⟩ := ad
      cases hsp
      simp only [addr_add]
      refine ⟨rfl, hok, hlt, _, hF.get_ hR, fun k u hu => ?_⟩
      rw [List.getElem?_take] at hu
      split at hu
      · rw [List.getElem?_drop] at hu
        have := hc _ u hu
        simp only at this ⊢
        rwa [Nat.add_assoc]
      · cases hu))

/-- The element at a place. -/
def idx {α : Type} (xs : List α) (i : Int) : Option α := if 0 ≤ i then xs[i.toNat]? else none
theorem idx_some {α : Type} {xs : List α} {i : Int} {x : α} (h : idx xs i = some x) : 0 ≤ i ∧ i.toNat < xs.length ∧ xs[i.toNat]? = some x := by
  unfold idx at h
  split at h
  · rename_i h0
    exact ⟨h0, (List.getElem?_eq_some_iff.1 h).1, h⟩
  · cases h
theorem elem_of {T E : TypeId} (h : P.underlying T = some (.slice E)) : P.elem T = E := by simp [Program.elem, h]
theorem run_indexAt {T E : TypeId} {sz : Nat} {agg : Bool} (hT : P.underlying T = some (.slice E)) (hE : TI P E agg sz) {g off n c : Nat} {k : IntKind} {i : Int} (h0 : 0 ≤ i) (h1 : i.toNat < n) :
    (Instr.indexAt T (.slice (some ⟨g, off, none⟩) n c) (.int k i)).run P w = .ok (.pointer (some ⟨g, off + i.toNat * sz, none⟩)) w := by
  rw [run_indexAt_slice (P := P) (w := w) T _ n c k i (by rw [elem_of hT]; exact hT), if_pos ⟨h0, by omega⟩, elem_of hT, hE.size_ w]
  simp [Result.andThen, addr_add]
theorem WL.indexAddr {α : Type} {A : Ty α} {xs : List α} {y : α} {T E : TypeId} {x z : Operand} {a : Option Addr} {c : Nat} {k : IntKind} {i : Int} {agg : Bool} (hs : St ok0 w0 w Γ Λ) (m : Nat) (hm : Γ[m]? = some (vl (tSlice A) xs (.slice a xs.length c)))
    (hT : P.underlying T = some (.slice E)) (hE : TI P E agg A.sz) (hx : ρ.ev x = .slice a xs.length c) (hz : ρ.ev z = .int k i) (hi : idx xs i = some y)
    (K : ∀ ad, St ok0 w0 w (pl A y ad :: Γ) Λ → WL P N ops Q rest (putE ρ d (.pointer (some ad))) w)
    (hg : wantedE ops ρ ⟨d, .indexAddr T x z, ty, pos, aft, gd⟩ = true := by rfl) (hd : fits N d = true := by rfl) :
    WL P N ops Q (⟨d, .indexAddr T x z, ty, pos, aft, gd⟩ :: rest) ρ w := by
  obtain ⟨h0, h1, h2⟩ := idx_some hi
  obtain ⟨ok, hh⟩ := hs.get m hm
  obtain ⟨a', c', e, hc, hr⟩ := tSlice_V.1 hh
  cases e
  rcases hr with hr | ⟨g, off, rfl, hok, hlt, hcell⟩
  · subst hr; simp at h1
  refine WL.value hg hd (v := .pointer (some ⟨g, off + i.toNat * A.sz, none⟩)) (w' := w) (by
    show (do pure (Next.value (← Instr.indexAt T (ρ.ev x) (ρ.ev z))) : Sem Next).run P w = _
    rw [hx, hz]
    exact exec_v (run_indexAt hT hE h0 h1)) (K _ (hs.add fun ok hA => ?_))
  obtain ⟨a', c', e, hc, hr⟩ := tSlice_V.1 (hA.get m hm)
  cases e
  rcases hr with hr | ⟨g', off', e, hok, hlt, hcell⟩
  · subst hr; simp at h1
  cases e
  obtain ⟨cs, hR, hcs⟩ := hcell _ _ h2
  exact ⟨rfl, hok, hlt, cs, hR, hcs⟩

/-! Lengths. -/
theorem exec_builtin {b : Builtin} {args : Array Operand} {ats : Array TypeId} {r : Result Next} (h : ∀ consts, (builtin b ats ty consts (args.map ρ.ev)).run P w = r) :
    (execOp ρ.ev ⟨d, .call { callee := .builtin b, args := args, argTypes := ats }, ty, pos, aft, gd⟩).run P w = r := h _
theorem WL.len {T : TypeId} {x : Operand} {v : Value} {n : Int} (hx : ρ.ev x = v) (hl : (Builtin.len_ #[T] ty #[v]).run P w = .ok (.int .i64 n) w) (K : WL P N ops Q rest (putE ρ d (.int .i64 n)) w)
    (hg : wantedE ops ρ ⟨d, .call { callee := .builtin .len, args := #[x], argTypes := #[T] }, ty, pos, aft, gd⟩ = true := by rfl) (hd : fits N d = true := by rfl) :
    WL P N ops Q (⟨d, .call { callee := .builtin .len, args := #[x], argTypes := #[T] }, ty, pos, aft, gd⟩ :: rest) ρ w :=
  WL.value hg hd (v := .int .i64 n) (w' := w) (exec_builtin fun cs => by
    subst hx
    rw [List.map_toArray]
    exact exec_v hl) K
theorem len_slice {T E : TypeId} {a : Option Addr} {n c : Nat} (hT : P.underlying T = some (.slice E)) : (Builtin.len_ #[T] ty #[.slice a n c]).run P w = .ok (.int .i64 n) w := by
  rw [run_len_slice (P := P) (w := w) T ty a n c (by rw [elem_of hT]; exact hT)]; rfl
theorem len_string {T : TypeId} {s : List UInt8} (hT : P.underlying T = some .string) : (Builtin.len_ #[T] ty #[bstr s]).run P w = .ok (.int .i64 s.length) w := by
  rw [bstr, run_len_string (P := P) (w := w) T ty _ hT]
  simp [goInt, ByteArray.size]

/-! Calls. -/
def Evs (ρ : Env) : List Operand → List Value → Prop
  | [], [] => True
  | x :: l, v :: vs => ρ.ev x = v ∧ Evs ρ l vs
  | _, _ => False
theorem Evs.map {ρ : Env} : ∀ {l : List Operand} {vs : List Value}, Evs ρ l vs → l.map ρ.ev = vs
  | [], [], _ => rfl
  | x :: l, v :: vs, ⟨h, hr⟩ => by rw [List.map_cons, h, hr.map]
  | [], _ :: _, h => h.elim
  | _ :: _, [], h => h.elim
/-- A function with a body. -/
def FN (P : Program) (f : FuncId) : Prop := ∀ (args : Array Value) (w : World), (callFunc f args).run P w = .ok (.enter f args) w
theorem WL.call {f : FuncId} {args : List Operand} {ats : Array TypeId} {vs : List Value} {Y : Type} {val : Y → Value} {Γr : Y → List It} {Λr : Y → List LObj} (hs : St ok0 w0 w Γ Λ) (hf : FN P f) (ha : Evs ρ args vs)
    (hc : ∀ ok, All ok w Γ → Calls P f vs.toArray w fun e w' => ∃ v, e = .returned v ∧ ∃ y, v = val y ∧ St ok (bz w) w' (Γr y) (Λr y))
    (K : ∀ y w', St ok0 w0 w' (Γr y ++ Γ) (Λr y ++ Λ) → WL P N ops Q rest (putE ρ d (val y)) w')
    (hg : wantedE ops ρ ⟨d, .call { callee := .value (.func f), args := args.toArray, argTypes := ats }, ty, pos, aft, gd⟩ = true := by rfl) (hd : fits N d = true := by rfl) :
    WL P N ops Q (⟨d, .call { callee := .value (.func f), args := args.toArray, argTypes := ats }, ty, pos, aft, gd⟩ :: rest) ρ w := by
  obtain ⟨ok, hA, hput⟩ := hs.call
  refine WL.enter hg hd (w' := w) (f := f) (args := vs.toArray) ?_ (hc ok hA) ?_
  · show (invoke (.fn (.func f) #[]) (#[] ++ args.toArray.map ρ.ev)).run P w = _
    rw [List.map_toArray, ha.map]
    simpa [invoke] using hf vs.toArray w
  · rintro v w' ⟨y, rfl, hs'⟩
    exact K y w' (hput w' _ _ hs')

/-! Values that are put together. -/
/-- Type facts of an element: its zero, its cells, its bytes. -/
def EI (P : Program) (E : TypeId) (z : Value) (size bytes : Nat) : Prop := (P.info? E).map (fun i => (i.zero, i.size, i.bytes)) = some (some z, size, bytes) ∧ z.cells.size = size ∧ 0 < size
theorem EI.parts {P : Program} {E : TypeId} {z : Value} {size bytes : Nat} (h : EI P E z size bytes) : ∃ i, P.info? E = some i ∧ i.zero = some z ∧ i.size = size ∧ i.bytes = bytes ∧ z.cells.size = size ∧ 0 < size := by
  obtain ⟨h1, h2, h3⟩ := h
  obtain ⟨i, hi, e⟩ := Option.map_eq_some_iff.1 h1
  simp only [Prod.mk.injEq] at e
  exact ⟨i, hi, e.1, e.2.1, e.2.2, h2, h3⟩
def BLD (P : Program) (t : TypeId) (vs : List (Nat × Value)) (cs : List Value) : Prop := ∀ w, (Instr.build t vs.toArray).run P w = .ok (.agg cs.toArray) w
def EvsN (ρ : Env) : List (Nat × Operand) → List (Nat × Value) → Prop
  | [], [] => True
  | (i, x) :: l, (j, v) :: vs => (i = j ∧ ρ.ev x = v) ∧ EvsN ρ l vs
  | _, _ => False
theorem EvsN.map {ρ : Env} : ∀ {l : List (Nat × Operand)} {vs : List (Nat × Value)}, EvsN ρ l vs → l.map (fun (i, x) => (i, ρ.ev x)) = vs
  | [], [], _ => rfl
  | (i, x) :: l, (j, v) :: vs, ⟨⟨h0, h⟩, hr⟩ => by subst h0; subst h; rw [List.map_cons, hr.map]
  | [], _ :: _, h => h.elim
  | _ :: _, [], h => h.elim
theorem WL.build {t : TypeId} {parts : List (Nat × Operand)} {vs : List (Nat × Value)} {cs : List Value} (ha : EvsN ρ parts vs) (hb : BLD P t vs cs) (K : WL P N ops Q rest (putE ρ d (.agg cs.toArray)) w)
    (hg : wantedE ops ρ ⟨d, .build t parts.toArray, ty, pos, aft, gd⟩ = true := by rfl) (hd : fits N d = true := by rfl) :
    WL P N ops Q (⟨d, .build t parts.toArray, ty, pos, aft, gd⟩ :: rest) ρ w :=
  WL.value hg hd (v := .agg cs.toArray) (w' := w) (by
    show (do pure (Next.value (← Instr.build t (parts.toArray.map fun (i, x) => (i, ρ.ev x)))) : Sem Next).run P w = _
    rw [List.map_toArray, ha.map]
    exact exec_v (hb w)) K
def BLS (P : Program) (t : TypeId) (n : Nat) (vs : List (Nat × Value)) (E : TypeId) (cs : List Value) : Prop :=
  ∀ w, (Instr.buildSlice t n vs.toArray).run P w = .ok (.slice (some ⟨w.heap.size, 0, none⟩) n n) (w.alloc (.cells cs.toArray E))
theorem WL.buildSlice {t E : TypeId} {n : Nat} {parts : List (Nat × Operand)} {vs : List (Nat × Value)} {cs : List Value} (hs : St ok0 w0 w Γ Λ) (ha : EvsN ρ parts vs) (hb : BLS P t n vs E cs)
    (K : ∀ g w', St ok0 w0 w' Γ (blk g E cs :: Λ) → WL P N ops Q rest (putE ρ d (.slice (some ⟨g, 0, none⟩) n n)) w')
    (hg : wantedE ops ρ ⟨d, .buildSlice t n parts.toArray, ty, pos, aft, gd⟩ = true := by rfl) (hd : fits N d = true := by rfl) :
    WL P N ops Q (⟨d, .buildSlice t n parts.toArray, ty, pos, aft, gd⟩ :: rest) ρ w :=
  WL.value hg hd (v := .slice (some ⟨w.heap.size, 0, none⟩) n n) (w' := w.alloc (.cells cs.toArray E)) (by
    show (do pure (Next.value (← Instr.buildSlice t n (parts.toArray.map fun (i, x) => (i, ρ.ev x)))) : Sem Next).run P w = _
    rw [List.map_toArray, ha.map]
    exact exec_v (hb w)) (K _ _ (hs.alloc E cs))
end
end Go.Proofs.YtbbeobiampbddaaL
