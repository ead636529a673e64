/- Slices cut, slices made, strings cut. -/
import Derived.Test.YtbbeobiampbddaaLj
import Derived.Laws.Slices
import Derived.Laws.OwnMore
set_option linter.unusedVariables false
set_option linter.unusedSimpArgs false
set_option linter.unnecessarySimpa false
namespace Go.Proofs.YtbbeobiampbddaaL
open Go Go.RowKit
section
variable {P : Program} {N : Nat} {Q : QE} {ρ : Env} {w : World} {w0 : Base} {ok0 : Nat → Prop} {Γ : List It} {Λ : List LObj}
variable {d : Option Tmp} {ty : TypeId} {pos : String} {aft : Array Edge} {gd : Option (Nat × Bool)} {ops : Array Oper} {rest : List Oper}

/-- What a cut hands out, as a value. -/
def cutv (a : Option Addr) (l h m s : Nat) : Value := .slice (if m = l then a else a.map (·.add (l * s))) (h - l) (m - l)
theorem cut_item {α : Type} {A : Ty α} {xs : List α} {ok : Nat → Prop} {a : Option Addr} {c l h m : Nat} (hv : (vl (tSlice A) xs (.slice a xs.length c)).holds ok w) (h1 : l ≤ h) (h2 : h ≤ xs.length) (h3 : h ≤ m) (h4 : m ≤ c) :
    (vl (tSlice A) ((xs.take h).drop l) (cutv a l h m A.sz)).holds ok w := by
  obtain ⟨a', c', e, hc, hr⟩ := tSlice_V.1 hv
  cases e
  have hlen : ((xs.take h).drop l).length = h - l := by rw [List.length_drop, List.length_take]; omega
  refine tSlice_V.2 ⟨_, _, by rw [hlen]; rfl, by rw [hlen]; omega, ?_⟩
  by_cases hlh : h = l
  · exact .inl (List.length_eq_zero_iff.1 (by rw [hlen]; omega))
  rcases hr with rfl | ⟨g, off, rfl, hg, hlt, hcell⟩
  · exact .inl (by simp)
  · rw [if_neg (by omega)]
    refine .inr ⟨g, off + l * A.sz, by rw [Option.map_some, addr_add], hg, hlt, fun j x hj => ?_⟩
    have hj' : xs[l + j]? = some x := by
      rw [List.getElem?_drop, List.getElem?_take] at hj
      split at hj
      · exact hj
      · cases hj
    obtain ⟨cs, hR, hcs⟩ := hcell _ _ hj'
    refine ⟨cs, hR, fun i u hu => ?_⟩
    have := hcs i u hu
    rwa [Nat.add_mul, ← Nat.add_assoc] at this
theorem WL.slice_ {α : Type} {A : Ty α} {xs ys : List α} {T E : TypeId} {agg : Bool} {x : Operand} {lo hi mx : Option Operand} {a : Option Addr} {c l h m : Nat} (hs : St ok0 w0 w Γ Λ) (i : Nat) (hi' : Γ[i]? = some (vl (tSlice A) xs (.slice a xs.length c)))
    (hT : P.underlying T = some (.slice E)) (hE : TI P E agg A.sz) (hx : ρ.ev x = .slice a xs.length c)
    (hrun : xs.length ≤ c → (Instr.slice T (.slice a xs.length c) (lo.map ρ.ev) (hi.map ρ.ev) (mx.map ρ.ev)).run P w = ((sizeOf (P.elem T)).run P w).andThen fun s w => .ok (sliced a l h m s) w)
    (h1 : l ≤ h) (h2 : h ≤ xs.length) (h3 : xs.length ≤ c → h ≤ m) (h4 : xs.length ≤ c → m ≤ c) (hy : (xs.take h).drop l = ys)
    (K : ∀ a' c', St ok0 w0 w (vl (tSlice A) ys (.slice a' ys.length c') :: Γ) Λ → WL P N ops Q rest (putE ρ d (.slice a' ys.length c')) w)
    (hg : wantedE ops ρ ⟨d, .slice T x lo hi mx, ty, pos, aft, gd⟩ = true) (hd : fits N d = true) :
    WL P N ops Q (⟨d, .slice T x lo hi mx, ty, pos, aft, gd⟩ :: rest) ρ w := by
  subst hy
  obtain ⟨ok, hh⟩ := hs.get i hi'
  obtain ⟨a', c', e, hc, _⟩ := tSlice_V.1 hh
  cases e
  have hlen : ((xs.take h).drop l).length = h - l := by rw [List.length_drop, List.length_take]; omega
  have hc' : xs.length ≤ c := hc
  have hv : cutv a l h m A.sz = .slice (if m = l then a else a.map (·.add (l * A.sz))) ((xs.take h).drop l).length (m - l) := by rw [hlen]; rfl
  refine WL.value hg hd (v := cutv a l h m A.sz) (w' := w) (by
    show (do pure (Next.value (← Instr.sliceAt T (ρ.ev x) (lo.map ρ.ev) (hi.map ρ.ev) (mx.map ρ.ev))) : Sem Next).run P w = _
    rw [hx]
    refine exec_v ?_
    rw [run_sliceAt_slice w T _ _ _ _ (by rw [elem_of hT]; exact hT), hrun hc', elem_of hT, hE.size_ w]
    rfl) ?_
  rw [hv]
  refine K _ _ ?_
  rw [← hv]
  exact hs.add fun ok hA => cut_item (hA.get i hi') h1 h2 (h3 hc') (h4 hc')
theorem WL.slice_h {α : Type} {A : Ty α} {xs ys : List α} {T E : TypeId} {agg : Bool} {x z : Operand} {a : Option Addr} {c : Nat} {k : IntKind} {h : Int} (hs : St ok0 w0 w Γ Λ) (i : Nat) (hi' : Γ[i]? = some (vl (tSlice A) xs (.slice a xs.length c)))
    (hT : P.underlying T = some (.slice E)) (hE : TI P E agg A.sz) (hx : ρ.ev x = .slice a xs.length c) (hz : ρ.ev z = .int k h) (hc : cut xs 0 h = some ys)
    (K : ∀ a' c', St ok0 w0 w (vl (tSlice A) ys (.slice a' ys.length c') :: Γ) Λ → WL P N ops Q rest (putE ρ d (.slice a' ys.length c')) w)
    (hg : wantedE ops ρ ⟨d, .slice T x none (some z) none, ty, pos, aft, gd⟩ = true := by rfl) (hd : fits N d = true := by rfl) :
    WL P N ops Q (⟨d, .slice T x none (some z) none, ty, pos, aft, gd⟩ :: rest) ρ w := by
  obtain ⟨⟨h0, h1, h2⟩, hy⟩ := cutE hc
  refine WL.slice_ hs i hi' hT hE hx (l := 0) (h := h.toNat) (m := c) (fun hcc => ?_) (by omega) (by omega) (fun _ => by omega) (fun _ => Nat.le_refl _) hy K hg hd
  simp only [Option.map_none, Option.map_some, hz]
  exact run_slice_h w T a xs.length c (by rw [elem_of hT]; exact hT) k h h1 (by omega)
theorem WL.slice_l {α : Type} {A : Ty α} {xs ys : List α} {T E : TypeId} {agg : Bool} {x z : Operand} {a : Option Addr} {c : Nat} {k : IntKind} {l : Int} (hs : St ok0 w0 w Γ Λ) (i : Nat) (hi' : Γ[i]? = some (vl (tSlice A) xs (.slice a xs.length c)))
    (hT : P.underlying T = some (.slice E)) (hE : TI P E agg A.sz) (hx : ρ.ev x = .slice a xs.length c) (hz : ρ.ev z = .int k l) (hc : cut xs l (xs.length : Int) = some ys)
    (K : ∀ a' c', St ok0 w0 w (vl (tSlice A) ys (.slice a' ys.length c') :: Γ) Λ → WL P N ops Q rest (putE ρ d (.slice a' ys.length c')) w)
    (hg : wantedE ops ρ ⟨d, .slice T x (some z) none none, ty, pos, aft, gd⟩ = true := by rfl) (hd : fits N d = true := by rfl) :
    WL P N ops Q (⟨d, .slice T x (some z) none none, ty, pos, aft, gd⟩ :: rest) ρ w := by
  obtain ⟨⟨h0, h1, h2⟩, hy⟩ := cutE hc
  refine WL.slice_ hs i hi' hT hE hx (l := l.toNat) (h := xs.length) (m := c) (fun hcc => ?_) (by omega) (Nat.le_refl _) (fun h => h) (fun _ => Nat.le_refl _) (by simpa using hy) K hg hd
  simp only [Option.map_none, Option.map_some, hz]
  exact run_slice_l w T a xs.length c (by rw [elem_of hT]; exact hT) k l h0 h1
theorem WL.slice_lh {α : Type} {A : Ty α} {xs ys : List α} {T E : TypeId} {agg : Bool} {x z y : Operand} {a : Option Addr} {c : Nat} {k k' : IntKind} {l h : Int} (hs : St ok0 w0 w Γ Λ) (i : Nat) (hi' : Γ[i]? = some (vl (tSlice A) xs (.slice a xs.length c)))
    (hT : P.underlying T = some (.slice E)) (hE : TI P E agg A.sz) (hx : ρ.ev x = .slice a xs.length c) (hz : ρ.ev z = .int k l) (hy' : ρ.ev y = .int k' h) (hc : cut xs l h = some ys)
    (K : ∀ a' c', St ok0 w0 w (vl (tSlice A) ys (.slice a' ys.length c') :: Γ) Λ → WL P N ops Q rest (putE ρ d (.slice a' ys.length c')) w)
    (hg : wantedE ops ρ ⟨d, .slice T x (some z) (some y) none, ty, pos, aft, gd⟩ = true := by rfl) (hd : fits N d = true := by rfl) :
    WL P N ops Q (⟨d, .slice T x (some z) (some y) none, ty, pos, aft, gd⟩ :: rest) ρ w := by
  obtain ⟨⟨h0, h1, h2⟩, hy⟩ := cutE hc
  refine WL.slice_ hs i hi' hT hE hx (l := l.toNat) (h := h.toNat) (m := c) (fun hcc => ?_) (by omega) (by omega) (fun _ => by omega) (fun _ => Nat.le_refl _) hy K hg hd
  simp only [Option.map_none, Option.map_some, hz, hy']
  exact run_slice_lh w T a xs.length c (by rw [elem_of hT]; exact hT) k k' l h h0 h1 (by omega)
theorem WL.slice_n {α : Type} {A : Ty α} {xs ys : List α} {T E : TypeId} {agg : Bool} {x : Operand} {a : Option Addr} {c : Nat} (hs : St ok0 w0 w Γ Λ) (i : Nat) (hi' : Γ[i]? = some (vl (tSlice A) xs (.slice a xs.length c)))
    (hT : P.underlying T = some (.slice E)) (hE : TI P E agg A.sz) (hx : ρ.ev x = .slice a xs.length c) (hc : cut xs 0 (xs.length : Int) = some ys)
    (K : ∀ a' c', St ok0 w0 w (vl (tSlice A) ys (.slice a' ys.length c') :: Γ) Λ → WL P N ops Q rest (putE ρ d (.slice a' ys.length c')) w)
    (hg : wantedE ops ρ ⟨d, .slice T x none none none, ty, pos, aft, gd⟩ = true := by rfl) (hd : fits N d = true := by rfl) :
    WL P N ops Q (⟨d, .slice T x none none none, ty, pos, aft, gd⟩ :: rest) ρ w := by
  obtain ⟨⟨h0, h1, h2⟩, hy⟩ := cutE hc
  refine WL.slice_ hs i hi' hT hE hx (l := 0) (h := xs.length) (m := c) (fun hcc => ?_) (by omega) (Nat.le_refl _) (fun h => h) (fun _ => Nat.le_refl _) (by simpa using hy) K hg hd
  exact run_slice_all w T a xs.length c (by rw [elem_of hT]; exact hT)
/-- s[:i:i]: no room behind. -/
theorem WL.slice_hm {α : Type} {A : Ty α} {xs ys : List α} {T E : TypeId} {agg : Bool} {x y z : Operand} {a : Option Addr} {c : Nat} {k k' : IntKind} {h m : Int} (hs : St ok0 w0 w Γ Λ) (i : Nat) (hi' : Γ[i]? = some (vl (tSlice A) xs (.slice a xs.length c)))
    (hT : P.underlying T = some (.slice E)) (hE : TI P E agg A.sz) (hx : ρ.ev x = .slice a xs.length c) (hz : ρ.ev z = .int k h) (hy' : ρ.ev y = .int k' m) (hm : h = m) (hc : cut xs 0 h = some ys)
    (K : ∀ a', St ok0 w0 w (vl (tSlice A) ys (.slice a' ys.length ys.length) :: Γ) Λ → WL P N ops Q rest (putE ρ d (.slice a' ys.length ys.length)) w)
    (hg : wantedE ops ρ ⟨d, .slice T x none (some z) (some y), ty, pos, aft, gd⟩ = true := by rfl) (hd : fits N d = true := by rfl) :
    WL P N ops Q (⟨d, .slice T x none (some z) (some y), ty, pos, aft, gd⟩ :: rest) ρ w := by
  subst hm
  obtain ⟨⟨h0, h1, h2⟩, hy⟩ := cutE hc
  subst hy
  obtain ⟨ok, hh⟩ := hs.get i hi'
  obtain ⟨a', c', e, hcc, _⟩ := tSlice_V.1 hh
  cases e
  have hcc' : xs.length ≤ c := hcc
  have hlen : ((xs.take h.toNat).drop (0 : Int).toNat).length = h.toNat := by rw [List.length_drop, List.length_take]; simp; omega
  have hv : cutv a 0 h.toNat h.toNat A.sz = .slice (if h.toNat = 0 then a else a.map (·.add (0 * A.sz))) ((xs.take h.toNat).drop (0 : Int).toNat).length ((xs.take h.toNat).drop (0 : Int).toNat).length := by rw [hlen]; rfl
  refine WL.value hg hd (v := cutv a 0 h.toNat h.toNat A.sz) (w' := w) (by
    show (do pure (Next.value (← Instr.sliceAt T (ρ.ev x) none (some (ρ.ev z)) (some (ρ.ev y)))) : Sem Next).run P w = _
    rw [hx, hz, hy']
    refine exec_v ?_
    rw [run_sliceAt_slice w T _ _ _ _ (by rw [elem_of hT]; exact hT), run_slice_hm w T a xs.length c (by rw [elem_of hT]; exact hT) k k' h h h1 (Int.le_refl _) (by omega), elem_of hT, hE.size_ w]
    rfl) ?_
  rw [hv]
  refine K _ ?_
  rw [← hv]
  exact hs.add fun ok hA => cut_item (l := 0) (hA.get i hi') (by omega) (by omega) (Nat.le_refl _) (by omega)

/-! Strings cut. -/
theorem extract_bytes (s : List UInt8) (l h : Nat) : (⟨s.toArray⟩ : ByteArray).extract l h = ⟨((s.take h).drop l).toArray⟩ := by
  apply ByteArray.ext
  simp [ByteArray.extract, ByteArray.copySlice]
  rw [List.drop_take]
theorem WL.sliceS_ {s t : List UInt8} {T : TypeId} {x : Operand} {lo hi : Option Operand} {l h : Nat} (hT : P.underlying T = some .string) (hx : ρ.ev x = bstr s)
    (hrun : (Instr.sliceBounds false s.length s.length (lo.map ρ.ev) (hi.map ρ.ev) none).run P w = .ok (l, h, s.length) w) (ht : (s.take h).drop l = t)
    (K : WL P N ops Q rest (putE ρ d (bstr t)) w)
    (hg : wantedE ops ρ ⟨d, .slice T x lo hi none, ty, pos, aft, gd⟩ = true) (hd : fits N d = true) :
    WL P N ops Q (⟨d, .slice T x lo hi none, ty, pos, aft, gd⟩ :: rest) ρ w :=
  WL.value hg hd (v := bstr t) (w' := w) (by
    show (do pure (Next.value (← Instr.sliceAt T (ρ.ev x) (lo.map ρ.ev) (hi.map ρ.ev) none)) : Sem Next).run P w = _
    rw [hx]
    refine exec_v ?_
    rw [run_sliceAt_string w T _ _ _ _ hT]
    unfold Instr.slice bstr
    refine (run_bind (run_und hT w)).trans ?_
    have e : (⟨s.toArray⟩ : ByteArray).size = s.length := by simp [ByteArray.size]
    simp only [e]
    refine (run_bind hrun).trans ?_
    rw [extract_bytes, ht]
    rfl) K
theorem WL.sliceS_h {s t : List UInt8} {T : TypeId} {x z : Operand} {k : IntKind} {h : Int} (hT : P.underlying T = some .string) (hx : ρ.ev x = bstr s) (hz : ρ.ev z = .int k h) (hc : cut s 0 h = some t)
    (K : WL P N ops Q rest (putE ρ d (bstr t)) w)
    (hg : wantedE ops ρ ⟨d, .slice T x none (some z) none, ty, pos, aft, gd⟩ = true := by rfl) (hd : fits N d = true := by rfl) :
    WL P N ops Q (⟨d, .slice T x none (some z) none, ty, pos, aft, gd⟩ :: rest) ρ w := by
  obtain ⟨⟨h0, h1, h2⟩, hy⟩ := cutE hc
  refine WL.sliceS_ hT hx (l := 0) (h := h.toNat) ?_ hy K hg hd
  simp only [Option.map_none, Option.map_some, hz, Instr.sliceBounds]
  exact (run_bind (by rfl)).trans ((run_bind (run_sliceBound w k h s.length _ h1 h2)).trans rfl)
theorem WL.sliceS_l {s t : List UInt8} {T : TypeId} {x z : Operand} {k : IntKind} {l : Int} (hT : P.underlying T = some .string) (hx : ρ.ev x = bstr s) (hz : ρ.ev z = .int k l) (hc : cut s l (s.length : Int) = some t)
    (K : WL P N ops Q rest (putE ρ d (bstr t)) w)
    (hg : wantedE ops ρ ⟨d, .slice T x (some z) none none, ty, pos, aft, gd⟩ = true := by rfl) (hd : fits N d = true := by rfl) :
    WL P N ops Q (⟨d, .slice T x (some z) none none, ty, pos, aft, gd⟩ :: rest) ρ w := by
  obtain ⟨⟨h0, h1, h2⟩, hy⟩ := cutE hc
  refine WL.sliceS_ hT hx (l := l.toNat) (h := s.length) ?_ (by simpa using hy) K hg hd
  simp only [Option.map_none, Option.map_some, hz, Instr.sliceBounds]
  exact (run_bind (by rfl)).trans ((run_bind (by rfl)).trans ((run_bind (run_sliceBound w k l s.length _ h0 h1)).trans rfl))
theorem WL.sliceS_lh {s t : List UInt8} {T : TypeId} {x z y : Operand} {k k' : IntKind} {l h : Int} (hT : P.underlying T = some .string) (hx : ρ.ev x = bstr s) (hz : ρ.ev z = .int k l) (hy' : ρ.ev y = .int k' h) (hc : cut s l h = some t)
    (K : WL P N ops Q rest (putE ρ d (bstr t)) w)
    (hg : wantedE ops ρ ⟨d, .slice T x (some z) (some y) none, ty, pos, aft, gd⟩ = true := by rfl) (hd : fits N d = true := by rfl) :
    WL P N ops Q (⟨d, .slice T x (some z) (some y) none, ty, pos, aft, gd⟩ :: rest) ρ w := by
  obtain ⟨⟨h0, h1, h2⟩, hy⟩ := cutE hc
  refine WL.sliceS_ hT hx (l := l.toNat) (h := h.toNat) ?_ hy K hg hd
  simp only [Option.map_none, Option.map_some, hz, hy', Instr.sliceBounds]
  have e : (h.toNat : Int) = h := Int.toNat_of_nonneg (by omega)
  exact (run_bind (by rfl)).trans ((run_bind (run_sliceBound w k' h s.length _ (by omega) h2)).trans ((run_bind (run_sliceBound w k l h.toNat _ h0 (by rw [e]; exact h1))).trans rfl))
/-! Slices made. -/
theorem made_cells {α : Type} {A : Ty α} {ok : Nat → Prop} {z : α} {zc : Value} (h : A.R ok w z zc.cells.toList) (h0 : 0 < A.sz) : ∀ n, Cells A ok w (List.replicate n z) (madeCells zc.cells (n * A.sz)).toList := by
  have hz : zc.cells.size = A.sz := by have := A.len h; simpa using this
  intro n
  refine ⟨by rw [Array.length_toList, size_madeCells, List.length_replicate], fun j x hj => ?_⟩
  have hjn : j < n := by have := (List.getElem?_eq_some_iff.1 hj).1; simpa using this
  have hx : x = z := by
    have := (List.getElem?_eq_some_iff.1 hj).2
    simpa using this.symm
  subst hx
  have hle : (j + 1) * A.sz ≤ n * A.sz := Nat.mul_le_mul_right _ hjn
  rw [Nat.add_mul, Nat.one_mul] at hle
  have e : (((madeCells zc.cells (n * A.sz)).toList.drop (j * A.sz)).take A.sz) = zc.cells.toList := by
    apply List.ext_getElem?
    intro i
    rw [List.getElem?_take]
    by_cases hi : i < A.sz
    · rw [if_pos hi, List.getElem?_drop]
      have h1 : j * A.sz + i < n * A.sz := by omega
      have h2 : (j * A.sz + i) % A.sz = i := by rw [Nat.add_comm, Nat.add_mul_mod_self_right, Nat.mod_eq_of_lt hi]
      have h3 : i < zc.cells.size := by omega
      simp [madeCells, h1, hz, h2]
      rw [getElem!_pos zc.cells i h3, getElem?_pos zc.cells i h3]
    · rw [if_neg hi, List.getElem?_eq_none (by rw [Array.length_toList]; omega)]
  rw [e]
  exact h
theorem WL.makeSlice {α : Type} {A : Ty α} {z : α} {zs : List α} {T E : TypeId} {zc : Value} {bytes : Nat} {x y : Operand} {k k' : IntKind} {n : Int} (hs : St ok0 w0 w Γ Λ) (hT : P.underlying T = some (.slice E)) (hE : EI P E zc A.sz bytes)
    (hx : ρ.ev x = .int k n) (hy : ρ.ev y = .int k' n) (hz : ∀ ok : Nat → Prop, A.R ok w z zc.cells.toList) (hm : mk bytes n z = some zs) (hbp : 1 ≤ bytes)
    (K : ∀ v w', St ok0 w0 w' Γ (own A E v zs :: Λ) → WL P N ops Q rest (putE ρ d v) w')
    (hg : wantedE ops ρ ⟨d, .makeSlice T x y, ty, pos, aft, gd⟩ = true := by rfl) (hd : fits N d = true := by rfl) :
    WL P N ops Q (⟨d, .makeSlice T x y, ty, pos, aft, gd⟩ :: rest) ρ w := by
  unfold mk at hm
  obtain ⟨⟨h0, hb⟩, hzs⟩ := guardE hm
  cases hzs
  obtain ⟨ti, hi1, hi2, hi3, hi4, hi5, hi6⟩ := hE.parts
  obtain ⟨m, rfl⟩ := Int.eq_ofNat_of_zero_le h0
  have hbm : ti.bytes * m ≤ 281474976710656 := by
    rw [hi4, Nat.mul_comm]
    have : (m : Int) * (bytes : Int) ≤ 140737488355328 := hb
    have : ((m * bytes : Nat) : Int) ≤ 140737488355328 := by simpa using this
    omega
  have h63' : m ≤ maxLen := by
    have h1 : m * 1 ≤ m * bytes := Nat.mul_le_mul_left m hbp
    have h2 : (m : Int) * (bytes : Int) ≤ 140737488355328 := hb
    have h3 : ((m * bytes : Nat) : Int) ≤ 140737488355328 := by simpa using h2
    simp only [maxLen]
    omega
  obtain ⟨w', hrun, how, hgrow⟩ := run_make_full (P := P) w w.heap.size T E ti zc A.sz hT hi1 hi2 hi3 k k' m hbm h63' (Nat.le_refl _)
  have hbel : Below w.heap.size w w' := Below.grown (Below.refl _ _) hgrow (Nat.le_refl _) (fun j hj => by cases hj)
  refine WL.value hg hd (v := .slice (some ⟨w.heap.size, 0, none⟩) m m) (w' := w') (by
    show (do pure (Next.value (← Instr.makeSlice T (ρ.ev x) (ρ.ev y))) : Sem Next).run P w = _
    rw [hx, hy]
    exact exec_v hrun) (K _ _ ?_)
  simp only [Int.toNat_natCast]
  rcases Nat.eq_zero_or_pos m with hm0 | hm0
  · subst hm0
    exact (hs.below hbel).ownEmpty A E _
  have hblk := how.2
  have hlt : w.heap.size < w'.heap.size := by
    rcases how.2 with ⟨e, _⟩ | ⟨g, cap, cur, e, _, hgg, _⟩
    · cases e
    · cases e; exact lt_of_some hgg
  refine hs.new hbel (bs := [w.heap.size]) (by simp) (by simp [hlt]) fun ok ok1 hA hsub => ?_
  have hC : Cells A ok w' (List.replicate m z) (madeCells zc.cells (m * A.sz)).toList := (made_cells (hz ok1) hi6 m).move fun b hb hl => ⟨hbel.block b hl, hsub b hb hl⟩
  refine .inr ⟨by show 0 < m; exact hm0, _, by simp [Value.ownBlock], ?_, hC⟩
  rw [List.length_replicate]
  exact ⟨how.1, by
    rcases how.2 with h | ⟨g, cap, cur, e, hb, hr⟩
    · exact .inl h
    · exact .inr ⟨g, cap, cur, e, Nat.zero_le _, hr⟩⟩
/-- The elder part of a slice of the call's own. -/
theorem WL.sliceO_h {α : Type} {A : Ty α} {xs ys : List α} {T E : TypeId} {agg : Bool} {x z : Operand} {a : Option Addr} {c : Nat} {k : IntKind} {h : Int} {n : Nat} (hs : St ok0 w0 w Γ Λ) (i : Nat) (hi' : Λ[i]? = some (own A E (.slice a n c) xs))
    (hT : P.underlying T = some (.slice E)) (hE : TI P E agg A.sz) (hx : ρ.ev x = .slice a n c) (hz : ρ.ev z = .int k h) (hc : cut xs 0 h = some ys)
    (K : St ok0 w0 w Γ (Λ.set i (own A E (.slice a ys.length c) ys)) → WL P N ops Q rest (putE ρ d (.slice a ys.length c)) w)
    (hg : wantedE ops ρ ⟨d, .slice T x none (some z) none, ty, pos, aft, gd⟩ = true := by rfl) (hd : fits N d = true := by rfl) :
    WL P N ops Q (⟨d, .slice T x none (some z) none, ty, pos, aft, gd⟩ :: rest) ρ w := by
  obtain ⟨⟨h0, h1, h2⟩, hy⟩ := cutE hc
  obtain rfl := hs.ownLen i hi'
  obtain ⟨ok, bs, ho, hA, hn, hbs, hput⟩ := hs.split i hi'
  have hlen : ys.length = h.toNat := by rw [← hy, List.length_drop, List.length_take]; simp; omega
  have hcc : xs.length ≤ c := by
    rcases ho with ⟨h0, _, rfl, _⟩ | ⟨_, cs, _, how, _⟩
    · simp
    · obtain ⟨a', c', e, hc'⟩ := ownsRow_form how
      cases e
      exact hc'
  have hadd : ∀ b : Addr, b.add 0 = b := fun b => by unfold Addr.add; cases b; split <;> simp_all
  have hv : cutv a 0 h.toNat c A.sz = .slice a ys.length c := by
    unfold cutv
    rw [hlen]
    congr 1
    cases a with
    | none => simp
    | some b => simp [hadd]
  refine WL.value hg hd (v := cutv a 0 h.toNat c A.sz) (w' := w) (by
    show (do pure (Next.value (← Instr.sliceAt T (ρ.ev x) none (some (ρ.ev z)) none)) : Sem Next).run P w = _
    rw [hx, hz]
    refine exec_v ?_
    rw [run_sliceAt_slice w T _ _ _ _ (by rw [elem_of hT]; exact hT), run_slice_h w T a xs.length c (by rw [elem_of hT]; exact hT) k h h1 (by omega), elem_of hT, hE.size_ w]
    rfl) ?_
  rw [hv]
  refine K (hput _ bs w (Off.refl _ _) hn (fun b hb => ⟨.inl hb, (hbs b hb).2.2⟩) fun ok' hm' => ?_)
  rcases ho with ⟨h00, rfl, rfl, a', e⟩ | ⟨h00, cs, hbe, how, hC⟩
  · have : ys = [] := List.length_eq_zero_iff.1 (by rw [hlen]; simp at h2; omega)
    subst this
    cases e
    exact .inl ⟨rfl, rfl, rfl, _, rfl⟩
  · have hle : h.toNat * A.sz ≤ xs.length * A.sz := Nat.mul_le_mul_right _ (by omega)
    have hys : ys = xs.take h.toNat := by rw [← hy]; simp
    have hC2 : Cells A ok w ys (cs.take (h.toNat * A.sz)) := by
      refine ⟨by rw [List.length_take, hlen, hC.1]; omega, fun j y hj => ?_⟩
      rw [hys, List.getElem?_take] at hj
      split at hj
      · rename_i hjh
        have h3 : (j + 1) * A.sz ≤ h.toNat * A.sz := Nat.mul_le_mul_right _ hjh
        rw [Nat.add_mul, Nat.one_mul] at h3
        rw [List.drop_take, List.take_take, Nat.min_eq_left (by omega)]
        exact hC.2 j y hj
      · cases hj
    refine .inr ⟨h00, cs.take (h.toNat * A.sz), by rw [hbe]; cases a <;> rfl, ⟨hC2.1, ?_⟩, hC2.move hm'⟩
    rcases how.2 with ⟨e, h1'⟩ | ⟨g, cap, cur, e, hb, hgg, h3, h4, h5, h6⟩
    · injection e with _ _ e3
      subst e3; simp only [slCap] at h00; omega
    · cases e
      refine .inr ⟨g, c, cur, rfl, hb, hgg, by omega, h4, h5, ?_⟩
      rw [hlen, ← h6, List.take_take, Nat.min_eq_left hle]
end
end Go.Proofs.YtbbeobiampbddaaL
