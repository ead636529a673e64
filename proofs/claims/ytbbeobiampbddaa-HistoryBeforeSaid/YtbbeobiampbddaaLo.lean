/- Slices of the call's own: lengths, views, clearing; nil compared. -/
import Derived.Test.YtbbeobiampbddaaLn
set_option linter.unusedVariables false
set_option linter.unusedSimpArgs false
set_option linter.unusedSectionVars false
namespace Go.Proofs.YtbbeobiampbddaaL
open Go Go.RowKit
section
variable {P : Program} {N : Nat} {Q : QE} {ρ : Env} {w : World} {w0 : Base} {ok0 : Nat → Prop} {Γ : List It} {Λ : List LObj}
variable {d : Option Tmp} {ty : TypeId} {pos : String} {aft : Array Edge} {gd : Option (Nat × Bool)} {ops : Array Oper} {rest : List Oper}
theorem len_own {α : Type} {A : Ty α} {T E E' : TypeId} {a : Option Addr} {n c : Nat} {xs : List α} (hs : St ok0 w0 w Γ Λ) (i : Nat) (hi : Λ[i]? = some (own A E' (.slice a n c) xs)) (hT : P.underlying T = some (.slice E)) :
    (Builtin.len_ #[T] ty #[.slice a n c]).run P w = .ok (.int .i64 (xs.length : Int)) w := by
  obtain rfl := hs.ownLen i hi
  exact len_slice hT
/-- The nil slice has no elements. -/
theorem St.nilx (hs : St ok0 w0 w Γ Λ) (i : Nat) {α : Type} {A : Ty α} {xs : List α} {n c : Nat} (hi : Γ[i]? = some (vl (tSlice A) xs (.slice none n c))) : xs = [] := by
  obtain ⟨ok, h⟩ := hs.get i hi
  obtain ⟨a, c, e, _, h | ⟨g, off, e2, _⟩⟩ := tSlice_V.1 h
  · exact h
  · subst e2; cases e
theorem nilEq_run {T E : TypeId} {a : Option Addr} {n c : Nat} (hT : P.underlying T = some (.slice E)) (w : World) : (Op.equal T (.slice a n c) (.slice none 0 0)).run P w = .ok a.isNone w := by
  show (Op.equalIn 10000 T (.slice a n c) (.slice none 0 0)).run P w = _
  unfold Op.equalIn
  refine (run_bind (run_und hT w)).trans ?_
  cases a <;> rfl
theorem guard_sl (op : BinOp) (T : TypeId) (x y : Operand) (a b : Option Addr) (n c m k : Nat) (P : Program) (w : World) : (eqGuard op T x y (.slice a n c) (.slice b m k)).run P w = .ok () w := by
  unfold eqGuard; cases op <;> rfl
theorem WL.nilEq {T E T' : TypeId} {x : Operand} {a : Option Addr} {n c : Nat} (hT : P.underlying T = some (.slice E)) (hx : ρ.ev x = .slice a n c)
    (K : WL P N ops Q rest (putE ρ d (.bool a.isNone)) w)
    (hg : wantedE ops ρ ⟨d, .binOp .eql T x (.const (.slice none 0 0)) T', ty, pos, aft, gd⟩ = true := by rfl) (hd : fits N d = true := by rfl) :
    WL P N ops Q (⟨d, .binOp .eql T x (.const (.slice none 0 0)) T', ty, pos, aft, gd⟩ :: rest) ρ w :=
  WL.value hg hd (v := .bool a.isNone) (w' := w) (by
    show (do pure (Next.value (← (do eqGuard .eql T x (.const (.slice none 0 0)) (ρ.ev x) (.slice none 0 0); binOp .eql T (ρ.ev x) (.slice none 0 0)))) : Sem Next).run P w = _
    rw [hx]
    refine exec_v ((run_bind (guard_sl .eql T _ _ _ _ _ _ _ _ P w)).trans ?_)
    show (do pure (Value.bool (← Op.equal T (.slice a n c) (.slice none 0 0))) : Sem Value).run P w = _
    exact (run_bind (nilEq_run hT w)).trans rfl) K
theorem WL.nilNe {T E T' : TypeId} {x : Operand} {a : Option Addr} {n c : Nat} (hT : P.underlying T = some (.slice E)) (hx : ρ.ev x = .slice a n c)
    (K : WL P N ops Q rest (putE ρ d (.bool (!a.isNone))) w)
    (hg : wantedE ops ρ ⟨d, .binOp .neq T x (.const (.slice none 0 0)) T', ty, pos, aft, gd⟩ = true := by rfl) (hd : fits N d = true := by rfl) :
    WL P N ops Q (⟨d, .binOp .neq T x (.const (.slice none 0 0)) T', ty, pos, aft, gd⟩ :: rest) ρ w :=
  WL.value hg hd (v := .bool (!a.isNone)) (w' := w) (by
    show (do pure (Next.value (← (do eqGuard .neq T x (.const (.slice none 0 0)) (ρ.ev x) (.slice none 0 0); binOp .neq T (ρ.ev x) (.slice none 0 0)))) : Sem Next).run P w = _
    rw [hx]
    refine exec_v ((run_bind (guard_sl .neq T _ _ _ _ _ _ _ _ P w)).trans ?_)
    show (do pure (Value.bool (!(← Op.equal T (.slice a n c) (.slice none 0 0)))) : Sem Value).run P w = _
    exact (run_bind (nilEq_run hT w)).trans rfl) K

/-! clear(xs[l:]). -/
def clr {α : Type} (xs : List α) (l : Int) (z : α) : Option (List α) := if 0 ≤ l ∧ l ≤ xs.length then some (xs.take l.toNat ++ List.replicate (xs.length - l.toNat) z) else none
theorem clrE {α : Type} {xs ys : List α} {l : Int} {z : α} (h : clr xs l z = some ys) : (0 ≤ l ∧ l ≤ xs.length) ∧ xs.take l.toNat ++ List.replicate (xs.length - l.toNat) z = ys := by
  obtain ⟨h1, h2⟩ := guardE h
  exact ⟨h1, Option.some.inj h2⟩
theorem WL.view_l {α : Type} {A : Ty α} {T E : TypeId} {agg : Bool} {x z : Operand} {a : Option Addr} {n c : Nat} {k : IntKind} {l : Int} {xs : List α} (hs : St ok0 w0 w Γ Λ) (i : Nat) (hi : Λ[i]? = some (own A E (.slice a n c) xs))
    (hT : P.underlying T = some (.slice E)) (hE : TI P E agg A.sz) (hx : ρ.ev x = .slice a n c) (hz : ρ.ev z = .int k l) (hl : 0 ≤ l ∧ l ≤ xs.length)
    (K : WL P N ops Q rest (putE ρ d (cutv a l.toNat n c A.sz)) w)
    (hg : wantedE ops ρ ⟨d, .slice T x (some z) none none, ty, pos, aft, gd⟩ = true := by rfl) (hd : fits N d = true := by rfl) :
    WL P N ops Q (⟨d, .slice T x (some z) none none, ty, pos, aft, gd⟩ :: rest) ρ w := by
  obtain rfl := hs.ownLen i hi
  have hc : xs.length ≤ c := by
    obtain ⟨ok, bs, ho, _⟩ := hs.split i hi
    rcases ho with ⟨h0, _, rfl, _⟩ | ⟨_, cs, _, how, _⟩
    · simp
    · obtain ⟨a', c', e, hc'⟩ := ownsRow_form how
      cases e
      exact hc'
  refine WL.value hg hd (v := cutv a l.toNat xs.length c A.sz) (w' := w) (by
    show (do pure (Next.value (← Instr.sliceAt T (ρ.ev x) (some (ρ.ev z)) none none)) : Sem Next).run P w = _
    rw [hx, hz]
    refine exec_v ?_
    rw [run_sliceAt_slice w T _ _ _ _ (by rw [elem_of hT]; exact hT), run_slice_l w T a xs.length c (by rw [elem_of hT]; exact hT) k l hl.1 hl.2, elem_of hT, hE.size_ w]
    rfl) K
theorem Cells.take {α : Type} {A : Ty α} {ok : Nat → Prop} {xs : List α} {cs : List Value} (h : Cells A ok w xs cs) (l : Nat) (hl : l ≤ xs.length) : Cells A ok w (xs.take l) (cs.take (l * A.sz)) := by
  have hle : l * A.sz ≤ xs.length * A.sz := Nat.mul_le_mul_right _ hl
  refine ⟨by rw [List.length_take, List.length_take, h.1]; rw [Nat.min_eq_left hle, Nat.min_eq_left hl], fun j y hj => ?_⟩
  rw [List.getElem?_take] at hj
  split at hj
  · rename_i hjh
    have h3 : (j + 1) * A.sz ≤ l * A.sz := Nat.mul_le_mul_right _ hjh
    rw [Nat.add_mul, Nat.one_mul] at h3
    rw [List.drop_take, List.take_take, Nat.min_eq_left (by omega)]
    exact h.2 j y hj
  · cases hj
theorem WL.clearO {α : Type} {A : Ty α} {T E : TypeId} {x : Operand} {a : Option Addr} {n c : Nat} {l : Int} {xs ys : List α} {z : α} {zc : Value} (hs : St ok0 w0 w Γ Λ) (i : Nat) (hi : Λ[i]? = some (own A E (.slice a n c) xs))
    (hT : P.underlying T = some (.slice E)) (hx : ρ.ev x = cutv a l.toNat n c A.sz) (hz : ∀ w, (zeroValue E).run P w = .ok zc w) (hzR : ∀ (ok : Nat → Prop), A.R ok w z zc.cells.toList) (hA0 : 0 < A.sz) (hc : clr xs l z = some ys)
    (K : ∀ w', St ok0 w0 w' Γ (Λ.set i (own A E (.slice a n c) ys)) → WL P N ops Q rest (putE ρ d (.tuple #[])) w')
    (hg : wantedE ops ρ ⟨d, .call { callee := .builtin .clear, args := #[x], argTypes := #[T] }, ty, pos, aft, gd⟩ = true := by rfl) (hd : fits N d = true := by rfl) :
    WL P N ops Q (⟨d, .call { callee := .builtin .clear, args := #[x], argTypes := #[T] }, ty, pos, aft, gd⟩ :: rest) ρ w := by
  obtain ⟨⟨h0, h1⟩, hys⟩ := clrE hc
  obtain rfl := hs.ownLen i hi
  have hlen : l.toNat ≤ xs.length := by omega
  obtain ⟨ok, bs, ho, hA, hn, hbs, hput⟩ := hs.split i hi
  rcases Nat.eq_or_lt_of_le hlen with he | hlt
  · have : ys = xs := by rw [← hys, he]; simp
    subst this
    have hsame : Λ.set i (own A E (.slice a ys.length c) ys) = Λ := by
      apply List.ext_getElem?
      intro k
      rw [List.getElem?_set]
      by_cases hk : i = k
      · subst hk
        rw [if_pos rfl, if_pos (List.getElem?_eq_some_iff.1 hi).1, hi]
      · rw [if_neg hk]
    refine WL.value hg hd (v := .tuple #[]) (w' := w) (exec_builtin fun cs => ?_) (K w (by rw [hsame]; exact hs))
    rw [List.map_toArray]
    refine exec_v ?_
    show (Builtin.clear_ #[T] ty #[ρ.ev x]).run P w = _
    rw [hx]
    unfold Builtin.clear_ cutv
    refine (run_bind (run_und hT w)).trans ?_
    rw [he, Nat.sub_self]
    generalize (if c = ys.length then a else Option.map (fun x => x.add (ys.length * A.sz)) a) = a'
    cases a' <;> rfl
  obtain ⟨g, c', cur, e, hb, hgh, hc', hmx, hsz, hC⟩ := own_some ho (by omega)
  cases e
  have hcl : c ≠ l.toNat := by omega
  have hzl : zc.cells.size = A.sz := by have := A.len (hzR ok); simpa using this
  have hle : l.toNat * A.sz ≤ xs.length * A.sz := Nat.mul_le_mul_right _ hlen
  have hmul : (xs.length - l.toNat) * A.sz = xs.length * A.sz - l.toNat * A.sz := Nat.sub_mul ..
  have hcur : xs.length * A.sz ≤ cur.size := by rw [hsz]; exact Nat.mul_le_mul_right _ hc'
  have hmade := made_cells (A := A) (ok := ok) (hzR ok) hA0 (xs.length - l.toNat)
  generalize hvs : (madeCells zc.cells ((xs.length - l.toNat) * A.sz)).toList = vs at hmade
  have hvl : vs.length = (xs.length - l.toNat) * A.sz := by rw [hmade.1, List.length_replicate]
  have hone : ∀ v ∈ vs, v.oneCell' = true := hmade.one_
  have hsum : l.toNat * A.sz + vs.length = xs.length * A.sz := by rw [hvl, hmul]; exact Nat.add_sub_of_le hle
  have hrun := run_storeCells (P := P) (g := g) (T := E) (l.toNat * A.sz) vs 0 w cur.toList hone (by simpa using hgh) (by rw [Nat.add_zero, hsum, Array.length_toList (xs := cur)]; exact hcur)
  have hnew := setCells_heap hgh (l.toNat * A.sz) vs
  refine WL.value hg hd (v := .tuple #[]) (w' := setCells w g (l.toNat * A.sz) vs) (exec_builtin fun cs => ?_) (K _ ?_)
  · rw [List.map_toArray]
    refine exec_v ?_
    show (Builtin.clear_ #[T] ty #[ρ.ev x]).run P w = _
    rw [hx]
    unfold Builtin.clear_ cutv
    refine (run_bind (run_und hT w)).trans ?_
    rw [if_neg hcl]
    obtain ⟨m, hm⟩ : ∃ m, xs.length - l.toNat = m + 1 := ⟨_, (Nat.succ_pred_eq_of_pos (by omega)).symm⟩
    have hzc : (Builtin.zeroCells zc.cells (xs.length - l.toNat)).toList = vs := by
      rw [← hvs, ← hzl]; rfl
    rw [hm] at hzc ⊢
    simp only [Option.map_some, addr_add, Nat.zero_add]
    refine (run_bind (hz w)).trans ?_
    rw [hzc]
    rw [Nat.add_zero] at hrun
    exact (run_bind hrun).trans rfl
  · refine hput _ [g] _ (by rw [hb]; exact off_setCells g vs w _) (by simp) (fun b hb' => ?_) fun ok' hm' => ?_
    · simp only [List.mem_singleton] at hb'
      subst hb'
      exact ⟨.inl (by rw [hb]; simp), lt_of_some hnew⟩
    · have hyl : ys.length = xs.length := by rw [← hys, List.length_append, List.length_take, List.length_replicate]; omega
      have hC2 : Cells A ok w ys (((cur.toList.take (xs.length * A.sz)).take (l.toNat * A.sz)) ++ vs) := by
        rw [← hys]
        exact Cells.app (hC.take l.toNat hlen) hmade
      have hC3 := hC2.move hm'
      refine .inr ⟨by show 0 < c; omega, _, by simp [Value.ownBlock], ⟨hC3.1, .inr ⟨g, c, _, by rw [hyl], Nat.zero_le _, hnew, by rw [hyl]; exact hc', hmx, by simp [setAt_length, hsz], ?_⟩⟩, hC3⟩
      rw [hyl, List.toList_toArray, setAt_take _ _ _ _ (by rw [hsum]; exact Nat.le_refl _)]
      rw [setAt_eq _ _ _ (by rw [hsum, List.length_take, Array.length_toList (xs := cur), Nat.min_eq_left hcur]; exact Nat.le_refl _)]
      have : (cur.toList.take (xs.length * A.sz)).drop (l.toNat * A.sz + vs.length) = [] := by
        rw [List.drop_eq_nil_iff, List.length_take, hsum]; exact Nat.min_le_left _ _
      rw [this, List.append_nil]
end
end Go.Proofs.YtbbeobiampbddaaL
