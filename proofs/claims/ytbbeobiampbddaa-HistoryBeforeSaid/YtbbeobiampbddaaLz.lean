/- Cells as they are; lists of the call's own objects, by what they lie with. -/
import Derived.Test.YtbbeobiampbddaaLm
import Derived.Test.YtbbeobiampbddaaLw
set_option linter.unusedVariables false
set_option linter.unusedSimpArgs false
namespace Go.Proofs.YtbbeobiampbddaaL
open Go Go.RowKit
/-- Two steps that do not lean on each other. -/
theorem bindSwap {α β γ : Type} {A : Option α} {B : Option β} {R : α → β → Option γ} : (A.bind fun x => B.bind fun y => R x y) = (B.bind fun y => A.bind fun x => R x y) := by
  cases A <;> cases B <;> rfl
/-- One cell, whatever it means. -/
def tCell : Ty Value where
  sz := 1
  agg := false
  R := fun _ _ x cs => cs = [x] ∧ x.oneCell' = true
  len := by rintro _ _ _ _ ⟨rfl, _⟩; rfl
  one := by rintro _ _ _ _ ⟨rfl, h⟩ u hu; simp at hu; subst hu; exact h
  move := fun h _ => h
/-- Cells, whatever they mean. -/
def tRaw (n : Nat) : Ty (List Value) where
  sz := n
  agg := true
  R := fun _ _ x cs => cs = x ∧ x.length = n ∧ ∀ u ∈ x, u.oneCell' = true
  len := by rintro _ _ _ _ ⟨rfl, h, _⟩; exact h
  one := by rintro _ _ _ _ ⟨rfl, _, h⟩; exact h
  move := fun h _ => h
theorem tCell_V {ok : Nat → Prop} {w : World} {x v : Value} : tCell.V ok w x v ↔ v = x ∧ x.oneCell' = true :=
  ⟨by rintro ⟨_, ⟨rfl, h⟩, e⟩; exact ⟨e, h⟩, by rintro ⟨rfl, h⟩; exact ⟨[v], ⟨rfl, h⟩, rfl⟩⟩
theorem tRaw_V {n : Nat} {ok : Nat → Prop} {w : World} {x : List Value} {v : Value} : (tRaw n).V ok w x v ↔ v = .agg x.toArray ∧ x.length = n ∧ ∀ u ∈ x, u.oneCell' = true :=
  ⟨by rintro ⟨_, ⟨rfl, h⟩, e⟩; exact ⟨e, h⟩, by rintro ⟨rfl, h⟩; exact ⟨x, ⟨rfl, h⟩, rfl⟩⟩
section
variable {w : World} {w0 : Base} {ok0 : Nat → Prop} {Γ : List It} {Λ : List LObj}
theorem St.cellv (hs : St ok0 w0 w Γ Λ) (i : Nat) {x v : Value} (hi : Γ[i]? = some (vl tCell x v)) : v = x := by
  obtain ⟨ok, h⟩ := hs.get i hi
  exact (tCell_V.1 h).1
theorem St.rawv (hs : St ok0 w0 w Γ Λ) (i : Nat) {n : Nat} {x : List Value} {v : Value} (hi : Γ[i]? = some (vl (tRaw n) x v)) : v = .agg x.toArray := by
  obtain ⟨ok, h⟩ := hs.get i hi
  exact (tRaw_V.1 h).1
end
/-! The bytes of a string appended. -/
def sby (s : List UInt8) : List Int := s.map fun b => (b.toNat : Int)
section
variable {P : Program} {N : Nat} {Q : QE} {ρ : Env} {w : World} {w0 : Base} {ok0 : Nat → Prop} {Γ : List It} {Λ : List LObj}
variable {d : Option Tmp} {ty : TypeId} {pos : String} {aft : Array Edge} {gd : Option (Nat × Bool)} {ops : Array Oper} {rest : List Oper}
theorem WL.appendStr {T tx E : TypeId} {z : Value} {bytes : Nat} {s x : Operand} {xs zs : List Int} {str : List UInt8} {v : Value} (hs : St ok0 w0 w Γ Λ) (i : Nat) (hi : Λ[i]? = some (own (tInt .u8) E v xs))
    (hT : P.underlying T = some (.slice E)) (hTx : P.underlying tx = some .string) (hE : EI P E z (tInt .u8).sz bytes) (hsv : ρ.ev s = v) (hx : ρ.ev x = bstr str)
    (hb : (xs.length + (sby str).length) * bytes ≤ 140737488355328) (h63 : xs.length + (sby str).length ≤ 9223372036854775807) (hz : xs ++ sby str = zs)
    (K : ∀ v' w', St ok0 w0 w' Γ (Λ.set i (own (tInt .u8) E v' zs)) → WL P N ops Q rest (putE ρ d v') w')
    (hg : wantedE ops ρ ⟨d, .call { callee := .builtin .append, args := #[s, x], argTypes := #[T, tx] }, ty, pos, aft, gd⟩ = true := by rfl) (hd : fits N d = true := by rfl) :
    WL P N ops Q (⟨d, .call { callee := .builtin .append, args := #[s, x], argTypes := #[T, tx] }, ty, pos, aft, gd⟩ :: rest) ρ w := by
  refine WL.app_ (A := tInt .u8) (ys := sby str) (news := str.map fun b => Value.int .u8 (b.toNat : Int)) hs i hi hT hE hsv hx ?_ (fun ok hA => ⟨by simp [sby, tInt], fun j y hy => ?_⟩) hb h63 (hz ▸ K) hg hd
  · have h := Src.ofString w hTx (ByteArray.mk str.toArray)
    have e1 : (ByteArray.mk str.toArray).size = (sby str).length := by simp [sby, ByteArray.size]
    have e2 : byteCells (ByteArray.mk str.toArray) = str.map fun b => Value.int .u8 (b.toNat : Int) := by simp [byteCells]
    rw [e1, e2] at h
    exact h
  · unfold sby at hy
    rw [List.getElem?_map] at hy
    obtain ⟨b, hb, rfl⟩ := Option.map_eq_some_iff.1 hy
    show _ = [Value.int .u8 (b.toNat : Int)]
    have hj := (List.getElem?_eq_some_iff.1 hb).1
    rw [show j * (tInt .u8).sz = j from Nat.mul_one j, show (tInt .u8).sz = 1 from rfl, List.drop_eq_getElem_cons (by simpa using hj), List.take_succ_cons, List.take_zero, List.getElem_map]
    rw [(List.getElem?_eq_some_iff.1 hb).2]
/-- An append to a full slice of what has an element: a slice of the call's own. -/
theorem WL.appendFSO {α : Type} {A : Ty α} {T tx E : TypeId} {z : Value} {bytes : Nat} {s x : Operand} {xs ys zs : List α} {a b : Option Addr} {c : Nat} (hs : St ok0 w0 w Γ Λ) (i : Nat) (hi : Γ[i]? = some (vl (tSlice A) xs (.slice a xs.length xs.length))) (j : Nat) (hj : Γ[j]? = some (vl (tSlice A) ys (.slice b ys.length c)))
    (hT : P.underlying T = some (.slice E)) (hTx : P.underlying tx = some (.slice E)) (hE : EI P E z A.sz bytes) (hsv : ρ.ev s = .slice a xs.length xs.length) (hx : ρ.ev x = .slice b ys.length c)
    (hb : (xs.length + ys.length) * bytes ≤ 140737488355328) (h63 : xs.length + ys.length ≤ 9223372036854775807) (hz : xs ++ ys = zs)
    (hy : 0 < ys.length) (K : ∀ a' c' w', St ok0 w0 w' Γ (own A E (.slice a' zs.length c') zs :: Λ) → WL P N ops Q rest (putE ρ d (.slice a' zs.length c')) w')
    (hg : wantedE ops ρ ⟨d, .call { callee := .builtin .append, args := #[s, x], argTypes := #[T, tx] }, ty, pos, aft, gd⟩ = true := by rfl) (hd : fits N d = true := by rfl) :
    WL P N ops Q (⟨d, .call { callee := .builtin .append, args := #[s, x], argTypes := #[T, tx] }, ty, pos, aft, gd⟩ :: rest) ρ w := by
  obtain ⟨ok, hh⟩ := hs.get j hj
  obtain ⟨a', c', e, hc, hr⟩ := tSlice_V.1 hh
  cases e
  rcases hr with rfl | ⟨g, off, rfl, hok, hlt, hcell⟩
  · exact absurd hy (by simp)
  · obtain ⟨news, hC, hn⟩ := Row.news hcell
    have hnews : ∀ ok, All ok w Γ → Cells A ok w ys news := by
      intro ok' hA
      obtain ⟨a2, c2, e2, _, hr2⟩ := tSlice_V.1 (hA.get j hj)
      cases e2
      rcases hr2 with h0 | ⟨g2, off2, e3, _, _, hcell2⟩
      · have h0' : ys = [] := h0
        subst h0'
        exact absurd hy (by simp)
      · cases e3
        obtain ⟨news2, hC2, hn2⟩ := Row.news hcell2
        have : news = news2 := by
          apply List.ext_getElem?
          intro k
          rcases Nat.lt_or_ge k (ys.length * A.sz) with hk | hk
          · have a1 := hn k _ (List.getElem?_eq_getElem (by rw [hC.1]; exact hk))
            have a2 := hn2 k _ (List.getElem?_eq_getElem (by rw [hC2.1]; exact hk))
            rw [List.getElem?_eq_getElem (by rw [hC.1]; exact hk), List.getElem?_eq_getElem (by rw [hC2.1]; exact hk), ← a1, ← a2]
          · rw [List.getElem?_eq_none (by rw [hC.1]; exact hk), List.getElem?_eq_none (by rw [hC2.1]; exact hk)]
        rw [this]
        exact hC2
    refine WL.appG_ hs i hi hT hE hsv hx (Src.ofSlice w hTx _ ys.length c news hC.1 (fun k u hu => ?_) hC.one_) hnews hb h63 hz hy K hg hd
    rw [addr_add]
    exact hn k u hu
/-! Arrays of one-cell elements. -/
theorem bldA {t e : TypeId} {n : Nat} {places : List (Nat × Nat)} {zero cs : List Value} {vs : List (Nat × Value)} {zv : Value} (hu : P.underlying t = some (.array n e)) (hs : TI P e false 1) (hz : ∀ w, (zeroValue t).run P w = .ok zv w) (hc : zv.cells = zero.toArray)
    (hp : places = (List.range n).map fun i => (i * 1, 1)) (hf : fillL places vs zero = some cs) : BLD P t vs cs := by
  intro w
  unfold Instr.build
  refine (run_bind (hz w)).trans ?_
  refine (run_bind (run_und hu w)).trans ?_
  refine (run_bind (hs.size_ w)).trans ?_
  rw [hc, fill_of (places := places) (fun i q h => by
    rw [hp, List.getElem?_map] at h
    obtain ⟨j, hj, rfl⟩ := Option.map_eq_some_iff.1 h
    have hlt := (List.getElem?_eq_some_iff.1 hj).1
    have := (List.getElem?_eq_some_iff.1 hj).2
    simp at this
    rw [this]) vs zero cs hf]
  rfl
theorem WL.indexA {α : Type} {T e : TypeId} {n : Nat} {x z : Operand} {xs : List α} {enc : α → Value} {k : IntKind} {i : Int} {y : α} (hT : P.underlying T = some (.array n e)) (hs : TI P e false 1) (hn : xs.length = n) (hx : ρ.ev x = .agg (xs.map enc).toArray) (hz : ρ.ev z = .int k i) (hi : idx xs i = some y)
    (K : WL P N ops Q rest (putE ρ d (enc y)) w)
    (hg : wantedE ops ρ ⟨d, .index T x z, ty, pos, aft, gd⟩ = true := by rfl) (hd : fits N d = true := by rfl) :
    WL P N ops Q (⟨d, .index T x z, ty, pos, aft, gd⟩ :: rest) ρ w :=
  WL.value hg hd (v := enc y) (w' := w) (by
    show (do pure (Next.value (← Instr.index T (ρ.ev x) (ρ.ev z))) : Sem Next).run P w = _
    rw [hx, hz]
    refine exec_v ?_
    obtain ⟨h0, h1, h2⟩ := idx_some hi
    unfold Instr.index
    refine (run_bind (x := (k, i)) (w' := w) rfl).trans ?_
    refine (run_bind (run_und hT w)).trans ?_
    have hlt : i < (n : Int) := by omega
    show (if 0 ≤ i ∧ i < (n : Int) then (do part e (xs.map enc).toArray (i.toNat * (← sizeOf e))) else boundsPanic k i n .index : Sem Value).run P w = _
    rw [if_pos ⟨h0, hlt⟩]
    refine (run_bind (hs.size_ w)).trans ?_
    unfold part
    refine (run_bind (hs.agg_ w)).trans ?_
    have e : (xs.map enc).toArray[i.toNat * 1]? = some (enc y) := by
      rw [Nat.mul_one, List.getElem?_toArray, List.getElem?_map, h2]
      rfl
    simp only [Bool.false_eq_true, if_false]
    rw [e]
    rfl) K
/-! A field of a struct's value. -/
def FV (P : Program) (T : TypeId) (j off : Nat) (t : TypeId) : Prop := ∃ (fs : Array Field) (f : Field), P.underlying T = some (.struct fs) ∧ fs[j]? = some f ∧ f.type = t ∧ f.offset = off
theorem WL.fieldV {α β : Type} {A : Ty α} {F : Ty β} {off j : Nat} {get : α → β} {set : α → β → α} {z : β} {T t : TypeId} {a : Operand} {x : α} {l : List Value} (hF : Fld A F off get set) (hs : St ok0 w0 w Γ Λ) (i : Nat) (hi : Γ[i]? = some (vl A x (.agg l.toArray))) (hA : A.agg = true)
    (hx : ρ.ev a = .agg l.toArray) (hf : FV P T j off t) (ht : TI P t F.agg F.sz) (h1 : F.agg = true ∨ F.sz = 1) (hz : get x = z)
    (K : ∀ v, St ok0 w0 w (vl F z v :: Γ) Λ → WL P N ops Q rest (putE ρ d v) w)
    (hg : wantedE ops ρ ⟨d, .field T a j, ty, pos, aft, gd⟩ = true := by rfl) (hd : fits N d = true := by rfl) :
    WL P N ops Q (⟨d, .field T a j, ty, pos, aft, gd⟩ :: rest) ρ w := by
  subst hz
  obtain ⟨fs, f, hu, hfj, rfl, rfl⟩ := hf
  have hval : ∀ ok, (vl A x (.agg l.toArray)).holds ok w → A.R ok w x l := by
    rintro ok ⟨cs, hR, e⟩
    rw [hA] at e
    have : l = cs := by
      have e' : l.toArray = cs.toArray := Value.agg.inj e
      simpa using e'
    rw [this]; exact hR
  obtain ⟨ok, hh⟩ := hs.get i hi
  have hlen := A.len (hval ok hh)
  have hle := hF.le
  let v : Value := bif F.agg then .agg ((l.drop f.offset).take F.sz).toArray else ((l.drop f.offset).take F.sz).getD 0 undef
  refine WL.value hg hd (v := v) (w' := w) ?_ (K v (hs.add fun ok' hA' => ⟨_, hF.get_ (hval ok' (hA'.get i hi)), rfl⟩))
  show (do pure (Next.value (← Instr.field T (ρ.ev a) j)) : Sem Next).run P w = _
  rw [hx]
  refine exec_v ?_
  unfold Instr.field
  refine (run_bind (run_und hu w)).trans ?_
  show (match fs[j]? with | some f => (do part f.type (← asAgg (.agg l.toArray)) f.offset) | none => stuck "Field: no such field" : Sem Value).run P w = _
  rw [hfj]
  refine (run_bind (x := l.toArray) (w' := w) rfl).trans ?_
  unfold part
  refine (run_bind (ht.agg_ w)).trans ?_
  rcases hag : F.agg with _ | _
  · have hsz := h1.resolve_left (by simp [hag])
    have hlt : f.offset < l.length := by omega
    simp only [Bool.false_eq_true, if_false]
    rw [List.getElem?_toArray, List.getElem?_eq_getElem hlt]
    have e : v = l[f.offset] := by
      show (bif F.agg then _ else _) = _
      rw [hag, hsz, List.drop_eq_getElem_cons hlt]
      rfl
    rw [e]
    rfl
  · simp only [if_true]
    refine (run_bind (ht.size_ w)).trans ?_
    have e : v = .agg (l.toArray.extract f.offset (f.offset + F.sz)) := by
      show (bif F.agg then _ else _) = _
      rw [hag]
      simp [List.extract_toArray, List.extract_eq_take_drop]
    rw [e]
    rfl
end
end Go.Proofs.YtbbeobiampbddaaL
