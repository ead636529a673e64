/- append to what has no room; what is lent to be read. -/
import Derived.Test.YtbbeobiampbddaaLo
set_option linter.unusedVariables false
set_option linter.unusedSimpArgs false
set_option linter.unusedSectionVars false
namespace Go.Proofs.YtbbeobiampbddaaL
open Go Go.RowKit
section
variable {P : Program} {N : Nat} {Q : QE} {ρ : Env} {w : World} {w0 : Base} {ok0 : Nat → Prop} {Γ : List It} {Λ : List LObj}
variable {d : Option Tmp} {ty : TypeId} {pos : String} {aft : Array Edge} {gd : Option (Nat × Bool)} {ops : Array Oper} {rest : List Oper}
theorem WL.appG_ {α : Type} {A : Ty α} {T tx E : TypeId} {z : Value} {bytes : Nat} {s x : Operand} {xs ys zs : List α} {a : Option Addr} {xv : Value} {news : List Value} (hs : St ok0 w0 w Γ Λ) (i : Nat) (hi : Γ[i]? = some (vl (tSlice A) xs (.slice a xs.length xs.length)))
    (hT : P.underlying T = some (.slice E)) (hE : EI P E z A.sz bytes) (hsv : ρ.ev s = .slice a xs.length xs.length) (hx : ρ.ev x = xv) (hsrc : Src P A.sz tx xv ys.length news w)
    (hC : ∀ ok, All ok w Γ → Cells A ok w ys news) (hb : (xs.length + ys.length) * bytes ≤ 140737488355328) (h63 : xs.length + ys.length ≤ 9223372036854775807) (hz : xs ++ ys = zs)
    (hy : 0 < ys.length) (K : ∀ a' c' w', St ok0 w0 w' Γ (own A E (.slice a' zs.length c') zs :: Λ) → WL P N ops Q rest (putE ρ d (.slice a' zs.length c')) w')
    (hg : wantedE ops ρ ⟨d, .call { callee := .builtin .append, args := #[s, x], argTypes := #[T, tx] }, ty, pos, aft, gd⟩ = true) (hd : fits N d = true) :
    WL P N ops Q (⟨d, .call { callee := .builtin .append, args := #[s, x], argTypes := #[T, tx] }, ty, pos, aft, gd⟩ :: rest) ρ w := by
  subst hz
  have exec : ∀ {v' : Value} {w' : World}, (Builtin.append_ #[T, tx] ty #[.slice a xs.length xs.length, xv]).run P w = .ok v' w' → (execOp ρ.ev ⟨d, .call { callee := .builtin .append, args := #[s, x], argTypes := #[T, tx] }, ty, pos, aft, gd⟩).run P w = .ok (.value v') w' := by
    intro v' w' hrun
    refine exec_builtin fun cns => ?_
    rw [List.map_toArray]
    show (do pure (Next.value (← Builtin.append_ #[T, tx] ty #[ρ.ev s, ρ.ev x])) : Sem Next).run P w = _
    rw [hsv, hx]
    exact exec_v hrun
  obtain ⟨ti, hi1, hi2, hi3, hi4, hi5, hi6⟩ := hE.parts
  subst hi4
  rw [← hi3] at hsrc
  obtain ⟨ok, hh⟩ := hs.get i hi
  obtain ⟨a', c', e, hc, hr⟩ := tSlice_V.1 hh
  cases e
  obtain ⟨olds, hrunold, hCo⟩ : ∃ olds : List Value, (Builtin.firstCells ti.size xs.length (.slice a xs.length xs.length)).run P w.drew = .ok olds.toArray w.drew ∧ ∀ ok', (vl (tSlice A) xs (.slice a xs.length xs.length)).holds ok' w → Cells A ok' w xs olds := by
    rcases hr with rfl | ⟨g, off, rfl, hok, hlt, hcell⟩
    · refine ⟨[], ?_, fun _ _ => Cells.nil _ _ _⟩
      cases a with
      | none => exact run_firstCells_none w.drew ti.size 0 0 0
      | some a => exact run_firstCells_some w.drew ti.size 0 a 0 0 [] (by simp) (fun j u h => by cases h)
    · obtain ⟨olds, hCo, hn⟩ := Row.news hcell
      refine ⟨olds, run_firstCells_some w.drew ti.size xs.length ⟨g, off, none⟩ xs.length xs.length olds (by rw [hi3]; exact hCo.1) (fun j u hu => by rw [addr_add]; exact hn j u hu), fun ok' h' => ?_⟩
      obtain ⟨a', c', e, _, hr'⟩ := tSlice_V.1 h'
      cases e
      rcases hr' with rfl | ⟨g', off', e, hok', hlt', hcell'⟩
      · have : olds = [] := List.length_eq_zero_iff.1 (by rw [hCo.1]; simp)
        subst this
        exact Cells.nil _ _ _
      · cases e
        obtain ⟨olds', hCo', hn'⟩ := Row.news hcell'
        have : olds = olds' := by
          apply List.ext_getElem?
          intro k
          have hl : olds.length = olds'.length := by rw [hCo.1, hCo'.1]
          rcases Nat.lt_or_ge k olds.length with hk | hk
          · have e1 := hn k _ (List.getElem?_eq_getElem hk)
            have e2 := hn' k _ (List.getElem?_eq_getElem (by omega))
            rw [e1] at e2
            rw [List.getElem?_eq_getElem hk, List.getElem?_eq_getElem (by omega)]
            exact e2
          · rw [List.getElem?_eq_none hk, List.getElem?_eq_none (by omega)]
        rw [this]
        exact hCo'
  have hol : olds.length = xs.length * A.sz := (hCo ok hh).1
  obtain ⟨okc, hAc, _⟩ := hs.call
  have hnl : news.length = ys.length * A.sz := (hC okc hAc).1
  have hgrow := run_append_grow_src w T tx ty E ti z hT hi1 hi2 a xs.length xs.length olds hrunold xv ys.length news hsrc (by omega) (by omega) (growslice_fits (by omega) hb)
  have hge := grownCap_ge w (xs.length + ys.length) xs.length E
  have hlen : (olds ++ news).length = (xs.length + ys.length) * A.sz := by rw [List.length_append, hol, hnl, Nat.add_mul]
  have hbl : Below w.heap.size w (w.drew.alloc (.cells ((olds ++ news).toArray ++ Builtin.zeroCells z.cells (grownCap w (xs.length + ys.length) xs.length E - (xs.length + ys.length))) E)) := by
    have hbl := fun o => below_alloc w.drew o
    exact ⟨(hbl _).os, (hbl _).tape, (hbl _).output, (hbl _).size, fun k hk => (hbl _).block k hk⟩
  have hnew : (w.drew.alloc (.cells ((olds ++ news).toArray ++ Builtin.zeroCells z.cells (grownCap w (xs.length + ys.length) xs.length E - (xs.length + ys.length))) E)).heap[w.heap.size]? = some (.cells ((olds ++ news).toArray ++ Builtin.zeroCells z.cells (grownCap w (xs.length + ys.length) xs.length E - (xs.length + ys.length))) E (0, 0)) := heap_new w.drew _
  have hown := hs.new (o := own A E (.slice (some ⟨w.heap.size, 0, none⟩) (xs ++ ys).length (grownCap w (xs.length + ys.length) xs.length E)) (xs ++ ys)) hbl (bs := [w.heap.size]) (by simp) (by
    intro b hb'
    simp only [List.mem_singleton] at hb'
    subst hb'
    exact ⟨Nat.le_refl _, lt_of_some hnew⟩) fun ok' ok1 hA1 hm' => by
      have hC1 := ((hCo ok1 (hA1.get i hi)).app (hC ok1 hA1)).move (w' := (w.drew.alloc (.cells ((olds ++ news).toArray ++ Builtin.zeroCells z.cells (grownCap w (xs.length + ys.length) xs.length E - (xs.length + ys.length))) E))) (ok' := ok') fun b hb1 hb2 => ⟨hbl.block b hb2, hm' b hb1 hb2⟩
      refine .inr ⟨by show 0 < grownCap w (xs.length + ys.length) xs.length E; omega, olds ++ news, by simp [Value.ownBlock], ⟨hC1.1, .inr ⟨w.heap.size, _, _, rfl, Nat.zero_le _, hnew, by rw [List.length_append]; exact hge, grownCap_le_maxLen w _ xs.length E (by simp only [maxLen]; omega), ?_, ?_⟩⟩, hC1⟩
      · simp only [Array.size_append, List.size_toArray, size_zeroCells, hi5, hlen, ← Nat.add_mul]
        congr 1
        omega
      · simp only [Array.toList_append]
        rw [List.length_append, ← hlen]
        exact List.take_left
  refine WL.value hg hd (exec hgrow) ?_
  have := K (some ⟨w.heap.size, 0, none⟩) (grownCap w (xs.length + ys.length) xs.length E) _ hown
  rw [List.length_append] at this
  exact this
theorem WL.appF_ {α : Type} {A : Ty α} {T tx E : TypeId} {z : Value} {bytes : Nat} {s x : Operand} {xs ys zs : List α} {a : Option Addr} {xv : Value} {news : List Value} (hs : St ok0 w0 w Γ Λ) (i : Nat) (hi : Γ[i]? = some (vl (tSlice A) xs (.slice a xs.length xs.length)))
    (hT : P.underlying T = some (.slice E)) (hE : EI P E z A.sz bytes) (hsv : ρ.ev s = .slice a xs.length xs.length) (hx : ρ.ev x = xv) (hsrc : Src P A.sz tx xv ys.length news w)
    (hC : ∀ ok, All ok w Γ → Cells A ok w ys news) (hb : (xs.length + ys.length) * bytes ≤ 140737488355328) (h63 : xs.length + ys.length ≤ 9223372036854775807) (hz : xs ++ ys = zs)
    (K : ∀ a' c' w', St ok0 w0 w' (vl (tSlice A) zs (.slice a' zs.length c') :: Γ) Λ → WL P N ops Q rest (putE ρ d (.slice a' zs.length c')) w')
    (hg : wantedE ops ρ ⟨d, .call { callee := .builtin .append, args := #[s, x], argTypes := #[T, tx] }, ty, pos, aft, gd⟩ = true) (hd : fits N d = true) :
    WL P N ops Q (⟨d, .call { callee := .builtin .append, args := #[s, x], argTypes := #[T, tx] }, ty, pos, aft, gd⟩ :: rest) ρ w := by
  subst hz
  have exec : ∀ {v' : Value} {w' : World}, (Builtin.append_ #[T, tx] ty #[.slice a xs.length xs.length, xv]).run P w = .ok v' w' → (execOp ρ.ev ⟨d, .call { callee := .builtin .append, args := #[s, x], argTypes := #[T, tx] }, ty, pos, aft, gd⟩).run P w = .ok (.value v') w' := by
    intro v' w' hrun
    refine exec_builtin fun cns => ?_
    rw [List.map_toArray]
    show (do pure (Next.value (← Builtin.append_ #[T, tx] ty #[ρ.ev s, ρ.ev x])) : Sem Next).run P w = _
    rw [hsv, hx]
    exact exec_v hrun
  obtain ⟨ti, hi1, hi2, hi3, hi4, hi5, hi6⟩ := hE.parts
  subst hi4
  rw [← hi3] at hsrc
  rcases Nat.eq_zero_or_pos ys.length with hy | hy
  · obtain rfl := List.length_eq_zero_iff.1 hy
    have hn0 : news = [] := List.length_eq_zero_iff.1 (by rw [hsrc.newsLen]; simp)
    subst hn0
    have hrun := exec (run_append_nothing w T tx ty E ti hT hi1 a xs.length xs.length (Nat.le_refl _) xv (by simpa using hsrc))
    refine WL.value hg hd hrun ?_
    have := K a xs.length w
    rw [List.append_nil] at this
    exact this (hs.add fun ok hA => hA.get i hi)
  · exact WL.appG_ hs i hi hT hE hsv hx (by rw [hi3] at hsrc; exact hsrc) hC hb h63 rfl hy (fun a' c' w' hs' => K a' c' w' (hs'.freezeOwn 0 rfl)) hg hd
theorem WL.appendFS {α : Type} {A : Ty α} {T tx E : TypeId} {z : Value} {bytes : Nat} {s x : Operand} {xs ys zs : List α} {a b : Option Addr} {c : Nat} (hs : St ok0 w0 w Γ Λ) (i : Nat) (hi : Γ[i]? = some (vl (tSlice A) xs (.slice a xs.length xs.length))) (j : Nat) (hj : Γ[j]? = some (vl (tSlice A) ys (.slice b ys.length c)))
    (hT : P.underlying T = some (.slice E)) (hTx : P.underlying tx = some (.slice E)) (hE : EI P E z A.sz bytes) (hsv : ρ.ev s = .slice a xs.length xs.length) (hx : ρ.ev x = .slice b ys.length c)
    (hb : (xs.length + ys.length) * bytes ≤ 140737488355328) (h63 : xs.length + ys.length ≤ 9223372036854775807) (hz : xs ++ ys = zs)
    (K : ∀ a' c' w', St ok0 w0 w' (vl (tSlice A) zs (.slice a' zs.length c') :: Γ) Λ → WL P N ops Q rest (putE ρ d (.slice a' zs.length c')) w')
    (hg : wantedE ops ρ ⟨d, .call { callee := .builtin .append, args := #[s, x], argTypes := #[T, tx] }, ty, pos, aft, gd⟩ = true := by rfl) (hd : fits N d = true := by rfl) :
    WL P N ops Q (⟨d, .call { callee := .builtin .append, args := #[s, x], argTypes := #[T, tx] }, ty, pos, aft, gd⟩ :: rest) ρ w := by
  obtain ⟨ok, hh⟩ := hs.get j hj
  obtain ⟨a', c', e, hc, hr⟩ := tSlice_V.1 hh
  cases e
  rcases hr with rfl | ⟨g, off, rfl, hok, hlt, hcell⟩
  · -- no element
    have hsrc : Src P A.sz tx (.slice b 0 c) 0 [] w := by
      cases b with
      | none => exact Src.ofNil w hTx c
      | some b => exact Src.ofSlice w hTx b 0 c [] (by simp) (fun k u h => by cases h) (fun _ h => by cases h)
    exact WL.appF_ (ys := []) hs i hi hT hE hsv hx hsrc (fun _ _ => Cells.nil _ _ _) hb h63 hz K hg hd
  · obtain ⟨news, hC, hn⟩ := Row.news hcell
    have hnews : ∀ ok, All ok w Γ → Cells A ok w ys news := by
      intro ok' hA
      obtain ⟨a2, c2, e2, _, hr2⟩ := tSlice_V.1 (hA.get j hj)
      cases e2
      rcases hr2 with h0 | ⟨g2, off2, e3, _, _, hcell2⟩
      · have h0' : ys = [] := h0
        subst h0'
        have : news = [] := List.length_eq_zero_iff.1 (by rw [hC.1]; simp)
        subst this
        exact Cells.nil _ _ _
      · cases e3
        obtain ⟨news2, hC2, hn2⟩ := Row.news hcell2
        have : news = news2 := by
          apply List.ext_getElem?
          intro k
          rcases Nat.lt_or_ge k (ys.length * A.sz) with hk | hk
          · have a1 := hn k _ (List.getElem?_eq_getElem (by rw [hC.1]; exact hk))
            have a2 := hn2 k _ (List.getElem?_eq_getElem (by rw [hC2.1]; exact hk))
            rw [List.getElem?_eq_getElem (by rw [hC.1]; exact hk), List.getElem?_eq_getElem (by rw [hC2.1]; exact hk), ← a1, ← a2]
          · rw [List.getElem?_eq_none (by rw [hC.1]; exact hk), List.getElem?_eq_none (by rw [hC2.1]; exact hk)]
        rw [this]
        exact hC2
    refine WL.appF_ hs i hi hT hE hsv hx (Src.ofSlice w hTx _ ys.length c news hC.1 (fun k u hu => ?_) hC.one_) hnews hb h63 hz K hg hd
    rw [addr_add]
    exact hn k u hu
theorem WL.appendF {α : Type} {A : Ty α} {T E : TypeId} {z : Value} {bytes : Nat} {s x : Operand} {xs ys zs : List α} {a : Option Addr} {g : Nat} {news : List Value} (hs : St ok0 w0 w Γ Λ) (i : Nat) (hi : Γ[i]? = some (vl (tSlice A) xs (.slice a xs.length xs.length))) (j : Nat) (hj : Λ[j]? = some (blk g E news))
    (hT : P.underlying T = some (.slice E)) (hE : EI P E z A.sz bytes) (hsv : ρ.ev s = .slice a xs.length xs.length) (hx : ρ.ev x = .slice (some ⟨g, 0, none⟩) ys.length ys.length)
    (hC : ∀ ok, All ok w Γ → Cells A ok w ys news) (hb : (xs.length + ys.length) * bytes ≤ 140737488355328) (h63 : xs.length + ys.length ≤ 9223372036854775807) (hz : xs ++ ys = zs)
    (K : ∀ a' c' w', St ok0 w0 w' (vl (tSlice A) zs (.slice a' zs.length c') :: Γ) Λ → WL P N ops Q rest (putE ρ d (.slice a' zs.length c')) w')
    (hg : wantedE ops ρ ⟨d, .call { callee := .builtin .append, args := #[s, x], argTypes := #[T, T] }, ty, pos, aft, gd⟩ = true := by rfl) (hd : fits N d = true := by rfl) :
    WL P N ops Q (⟨d, .call { callee := .builtin .append, args := #[s, x], argTypes := #[T, T] }, ty, pos, aft, gd⟩ :: rest) ρ w := by
  obtain ⟨ok, hA, _⟩ := hs.call
  have hCy := hC ok hA
  refine WL.appF_ hs i hi hT hE hsv hx (Src.ofSlice w hT _ ys.length _ news hCy.1 (fun k u hu => ?_) hCy.one_) hC hb h63 hz K hg hd
  rw [addr_add, blk_cell (hs.blk_at j hj), Nat.zero_add]
  exact hu

theorem WL.appendFO {α : Type} {A : Ty α} {T E : TypeId} {z : Value} {bytes : Nat} {s x : Operand} {xs ys zs : List α} {a : Option Addr} {g : Nat} {news : List Value} (hs : St ok0 w0 w Γ Λ) (i : Nat) (hi : Γ[i]? = some (vl (tSlice A) xs (.slice a xs.length xs.length))) (j : Nat) (hj : Λ[j]? = some (blk g E news))
    (hT : P.underlying T = some (.slice E)) (hE : EI P E z A.sz bytes) (hsv : ρ.ev s = .slice a xs.length xs.length) (hx : ρ.ev x = .slice (some ⟨g, 0, none⟩) ys.length ys.length)
    (hC : ∀ ok, All ok w Γ → Cells A ok w ys news) (hb : (xs.length + ys.length) * bytes ≤ 140737488355328) (h63 : xs.length + ys.length ≤ 9223372036854775807) (hz : xs ++ ys = zs)
    (hy : 0 < ys.length) (K : ∀ a' c' w', St ok0 w0 w' Γ (own A E (.slice a' zs.length c') zs :: Λ) → WL P N ops Q rest (putE ρ d (.slice a' zs.length c')) w')
    (hg : wantedE ops ρ ⟨d, .call { callee := .builtin .append, args := #[s, x], argTypes := #[T, T] }, ty, pos, aft, gd⟩ = true := by rfl) (hd : fits N d = true := by rfl) :
    WL P N ops Q (⟨d, .call { callee := .builtin .append, args := #[s, x], argTypes := #[T, T] }, ty, pos, aft, gd⟩ :: rest) ρ w := by
  obtain ⟨ok, hA, _⟩ := hs.call
  have hCy := hC ok hA
  refine WL.appG_ hs i hi hT hE hsv hx (Src.ofSlice w hT _ ys.length _ news hCy.1 (fun k u hu => ?_) hCy.one_) hC hb h63 hz hy K hg hd
  rw [addr_add, blk_cell (hs.blk_at j hj), Nat.zero_add]
  exact hu

/-! What is lent to be read. -/
theorem St.allT (hs : St ok0 w0 w Γ Λ) : All (fun _ => True) w Γ := by
  obtain ⟨_, _, _, _, _, hA⟩ := hs
  exact hA.move fun _ _ _ => ⟨rfl, trivial⟩
theorem St.ownT (hs : St ok0 w0 w Γ Λ) (i : Nat) {α : Type} {A : Ty α} {E : TypeId} {xs : List α} {v : Value} (hi : Λ[i]? = some (own A E v xs)) : (vl (tSlice A) xs v).holds (fun _ => True) w := by
  have h1 := hs.freezeOwn i hi
  exact h1.allT _ (by simp)
theorem St.ownN (hs : St ok0 w0 w Γ Λ) (i : Nat) {α : Type} {A : Ty α} {E : TypeId} {xs : List α} {a : Option Addr} {n c : Nat} (hi : Λ[i]? = some (own A E (.slice a n c) xs)) : (vl (tSlice A) xs (.slice a xs.length c)).holds (fun _ => True) w := by
  have h1 := hs.ownT i hi
  rwa [hs.ownLen i hi] at h1
theorem sl_len {a : Option Addr} {n m c : Nat} (h : n = m) : Value.slice a n c = .slice a m c := h ▸ rfl
theorem WL.callL {f : FuncId} {args : List Operand} {ats : Array TypeId} {vs : List Value} {Y : Type} {val : Y → Value} (hs : St ok0 w0 w Γ Λ) (hf : FN P f) (ha : Evs ρ args vs)
    (hc : Calls P f vs.toArray w fun e w' => ∃ v, e = .returned v ∧ ∃ y, v = val y ∧ St (fun _ => True) (bz w) w' [] [])
    (K : ∀ y w', St ok0 w0 w' Γ Λ → WL P N ops Q rest (putE ρ d (val y)) w')
    (hg : wantedE ops ρ ⟨d, .call { callee := .value (.func f), args := args.toArray, argTypes := ats }, ty, pos, aft, gd⟩ = true := by rfl) (hd : fits N d = true := by rfl) :
    WL P N ops Q (⟨d, .call { callee := .value (.func f), args := args.toArray, argTypes := ats }, ty, pos, aft, gd⟩ :: rest) ρ w := by
  refine WL.enter hg hd (w' := w) (f := f) (args := vs.toArray) ?_ hc ?_
  · show (invoke (.fn (.func f) #[]) (#[] ++ args.toArray.map ρ.ev)).run P w = _
    rw [List.map_toArray, ha.map]
    simpa [invoke] using hf vs.toArray w
  · rintro v w' ⟨y, rfl, hs'⟩
    exact K y w' (hs.below hs'.1.nil_below)
end
end Go.Proofs.YtbbeobiampbddaaL
