/- An inner map that is being made; it is put into the map of maps. -/
import Derived.Test.YtbbeobiampbddaaMd
set_option linter.unusedVariables false
set_option linter.unusedSimpArgs false
namespace Go.Proofs.YtbbeobiampbddaaL
open Go Go.RowKit
section
variable {w : World} {w0 : Base} {ok0 : Nat → Prop} {Γ : List It} {Λ : List LObj}
theorem St.drop1 {o : LObj} (hs : St ok0 w0 w Γ (o :: Λ)) : St ok0 w0 w Γ Λ := by
  obtain ⟨hB, bss, hN, hlt, hO, hA⟩ := hs
  match bss, hO with
  | [], h => exact h.elim
  | bs :: b2, ⟨_, h2⟩ =>
    have hsub : b2.flatten.Sublist (bs :: b2).flatten := by rw [List.flatten_cons]; exact List.sublist_append_right _ _
    have hm : ∀ b, reg ok0 w0 (bs :: b2).flatten b → b < w.heap.size → w.heap[b]? = w.heap[b]? ∧ reg ok0 w0 b2.flatten b := fun b hr _ => ⟨rfl, hr.1, fun h => hr.2 (hsub.subset h)⟩
    exact ⟨hB, b2, hN.sublist hsub, fun b hb => hlt b (hsub.subset hb), h2.move hm fun _ _ => rfl, hA.move hm⟩
theorem St.dropL {R : List LObj} (hs : St ok0 w0 w Γ (R ++ Λ)) : St ok0 w0 w Γ Λ := hs.allClose.drop1
end
section
variable {φ : Type} (K : FK φ)
/-- An inner map that is being made, with what its values hold. -/
def inno (gi : Nat) (fs : List φ) : LObj where
  H := fun ok bs w => ∃ l : List (φ × Value), l.map (·.1) = fs ∧ (allo (inL K ([], gi, l))).H ok bs w
  fn := by
    rintro ok ok' bs bs' w ⟨l, _, bss, rfl, _, h⟩ ⟨l', _, bss', rfl, _, h'⟩
    have hfp : ∀ (o : BE φ), ∀ p ∈ inP K o, ∀ (ok : Nat → Prop) (bs : List Nat) (w : World), p.1.H ok bs w → bs = p.2 := by
      intro o p hp ok bs w hh
      unfold inP at hp
      rcases List.mem_cons.1 hp with rfl | hp
      · exact hh.1
      · obtain ⟨e, _, rfl⟩ := List.mem_map.1 hp
        exact own_fp hh
    have e1 := Own.eqs (hfp ([], gi, l)) h
    have e2 := Own.eqs (hfp ([], gi, l')) h'
    have m1 := Own.mem h
    have m2 := Own.mem h'
    have key := inP_fps (ok := ok) (ok' := ok') (w := w) K [([], gi, l)] [([], gi, l')] rfl (fun o ho => by
      simp at ho; subst ho
      exact m1 _ (List.mem_cons_self ..)) (fun o ho => by
      simp at ho; subst ho
      exact m2 _ (List.mem_cons_self ..))
    simp only [List.flatMap_cons, List.flatMap_nil, List.append_nil] at key
    rw [e1, e2, key]
  lt := by
    rintro ok bs w ⟨l, _, h⟩ k hk
    exact (allo _).lt h k hk
  move := by
    rintro ok ok' bs w w' ⟨l, hl, h⟩ hk hm
    exact ⟨l, hl, (allo _).move h hk hm⟩
variable {w : World} {w0 : Base} {ok0 : Nat → Prop} {Γ : List It} {Λ : List LObj} {g gi : Nat} {fs : List φ} {x : List (List UInt8 × List φ)} {C : List (BE φ) → Prop}
theorem inL_eq (k : List UInt8) (gi : Nat) (l : List (φ × Value)) : inL K (k, gi, l) = mapo bstr (tRaw K.n) gi (ents K l) :: owns K l := by
  unfold inL inP ents owns
  rw [List.map_cons, List.map_map]
  rfl
theorem St.innOpen (hs : St ok0 w0 w Γ (inno K gi fs :: Λ)) : ∃ l : List (φ × Value), l.map (·.1) = fs ∧ St ok0 w0 w Γ (mapo bstr (tRaw K.n) gi (ents K l) :: (owns K l ++ Λ)) := by
  obtain ⟨hB, bss, hN, hlt, hO, hA⟩ := hs
  match bss, hO with
  | [], h => exact h.elim
  | bs :: bss, ⟨⟨l, hl, h1⟩, h2⟩ =>
    have h3 : St ok0 w0 w Γ (allo (inL K ([], gi, l)) :: Λ) := ⟨hB, bs :: bss, hN, hlt, ⟨h1, h2⟩, hA⟩
    have h4 := h3.allOpen
    rw [inL_eq] at h4
    exact ⟨l, hl, h4⟩
theorem St.innClose {l : List (φ × Value)} (hs : St ok0 w0 w Γ (mapo bstr (tRaw K.n) gi (ents K l) :: (owns K l ++ Λ))) (hl : l.map (·.1) = fs) : St ok0 w0 w Γ (inno K gi fs :: Λ) := by
  have h1 : St ok0 w0 w Γ (inL K ([], gi, l) ++ Λ) := by rw [inL_eq]; exact hs
  obtain ⟨hB, bss, hN, hlt, hO, hA⟩ := h1.allClose
  match bss, hO with
  | [], h => exact h.elim
  | bs :: bss, ⟨h1, h2⟩ => exact ⟨hB, bs :: bss, hN, hlt, ⟨⟨l, hl, h1⟩, h2⟩, hA⟩
theorem owns_perm (f1 f2 : List (φ × Value)) (y : φ) (v : Value) : (owns K (f1 ++ (y, v) :: f2)).Perm (own tStr K.E v (K.fe y) :: owns K (f1 ++ f2)) := by
  unfold owns
  rw [List.map_append, List.map_cons, List.map_append]
  exact List.perm_middle
variable {P : Program} {N : Nat} {Q : QE} {ρ : Env} {d : Option Tmp} {ty : TypeId} {pos : String} {aft : Array Edge} {gd : Option (Nat × Bool)} {ops : Array Oper} {rest : List Oper}
/-- A value put into the inner map that is being made. -/
theorem WL.innPut {t kt et : TypeId} {m xo u : Operand} {y : φ} {v : Value} (hs : St ok0 w0 w Γ (own tStr K.E v (K.fe y) :: inno K gi fs :: Λ)) (hk : KK P kt bstr) (ht : P.underlying t = some (.map kt et)) (hm : ρ.ev m = .map (some gi)) (hx : ρ.ev xo = bstr (K.nm y))
    (hu : ρ.ev u = .agg (K.fc y v).toArray) (h1 : (K.fc y v).length = K.n) (h2 : ∀ u ∈ K.fc y v, u.oneCell' = true)
    (K1 : ∀ w', St ok0 w0 w' Γ (inno K gi (fput K.nm y fs) :: Λ) → WL P N ops Q rest (putE ρ d undef) w')
    (hg : wantedE ops ρ ⟨d, .mapUpdate t m xo u, ty, pos, aft, gd⟩ = true := by rfl) (hd : fits N d = true := by rfl) :
    WL P N ops Q (⟨d, .mapUpdate t m xo u, ty, pos, aft, gd⟩ :: rest) ρ w := by
  obtain ⟨l, hl, h3⟩ := (hs.perm (List.Perm.swap _ _ _)).innOpen
  cases hf : fs.find? (fun q => K.nm y == K.nm q) with
  | none =>
    rw [← hl] at hf
    have e6 : ents K l ++ [(K.nm y, K.fc y v)] = ents K (l ++ [(y, v)]) := by
      unfold ents
      rw [List.map_append]
      rfl
    refine WL.mapUpdate (V := tRaw K.n) (y := K.fc y v) h3 0 rfl hk ht hm hx hu (fun _ _ => tRaw_V.2 ⟨rfl, h1, h2⟩) ((mset_none (ents_none K hf)).trans e6) (fun w' h5 => ?_) hg hd
    have h6 : St ok0 w0 w' Γ (mapo bstr (tRaw K.n) gi (ents K (l ++ [(y, v)])) :: (owns K l ++ (own tStr K.E v (K.fe y) :: Λ))) := h5
    refine K1 w' (St.innClose (K := K) (l := l ++ [(y, v)]) (h6.perm (List.Perm.cons _ ?_)) ?_)
    · have e9 : owns K (l ++ [(y, v)]) = owns K l ++ [own tStr K.E v (K.fe y)] := by
        unfold owns
        rw [List.map_append]
        rfl
      rw [e9, List.append_assoc]
      exact .refl _
    · rw [List.map_append, ← hl, fput_none hf]
      rfl
  | some y0 =>
    rw [← hl] at hf
    obtain ⟨f1, v0, f2, rfl, q1, q2, q3⟩ := ents_at K hf
    have q3' : ∀ e ∈ f1, K.nm y0 ≠ K.nm e.1 := fun e he => by rw [← q1]; exact q3 e he
    refine WL.mapUpdate (V := tRaw K.n) (y := K.fc y v) h3 0 rfl hk ht hm hx hu (l' := ents K (f1 ++ (y, v) :: f2)) (fun _ _ => tRaw_V.2 ⟨rfl, h1, h2⟩) (by rw [q1]; exact mset_ents K q1 q3') (fun w' h5 => ?_) hg hd
    have h6 : St ok0 w0 w' Γ (mapo bstr (tRaw K.n) gi (ents K (f1 ++ (y, v) :: f2)) :: (owns K (f1 ++ (y0, v0) :: f2) ++ (own tStr K.E v (K.fe y) :: Λ))) := h5
    have h7 : St ok0 w0 w' Γ (own tStr K.E v0 (K.fe y0) :: (mapo bstr (tRaw K.n) gi (ents K (f1 ++ (y, v) :: f2)) :: (owns K (f1 ++ f2) ++ (own tStr K.E v (K.fe y) :: Λ)))) := h6.perm (by
      refine (List.Perm.cons _ ((owns_perm K f1 f2 y0 v0).append_right _)).trans ?_
      exact List.Perm.swap _ _ _)
    refine K1 w' (St.innClose (K := K) (l := f1 ++ (y, v) :: f2) (h7.drop1.perm (List.Perm.cons _ ?_)) ?_)
    · refine List.perm_middle.trans ?_
      exact ((owns_perm K f1 f2 y v).symm).append_right Λ
    · rw [List.map_append, List.map_cons, ← hl, List.map_append, List.map_cons, fput_at q1 (fun e he => by
        obtain ⟨q, hq, rfl⟩ := List.mem_map.1 he
        exact q3' q hq)]
theorem mset_out {b1 b2 : List (BE φ)} {k : List UInt8} {gi gi' : Nat} {l l' : List (φ × Value)} (hb : ∀ q ∈ b1, q.1 ≠ k) : mset (outL (b1 ++ (k, gi, l) :: b2)) k (Value.map (some gi')) = outL (b1 ++ (k, gi', l') :: b2) := by
  unfold outL
  induction b1 with
  | nil => rw [List.nil_append, List.nil_append, List.map_cons, List.map_cons, mset, if_pos (by simp)]
  | cons q b1 ih =>
    rw [List.cons_append, List.cons_append, List.map_cons, List.map_cons, mset]
    have : (k == q.1) = false := by
      rw [beq_eq_false_iff_ne]
      exact fun e => hb q (by simp) e.symm
    rw [this, if_neg (by simp), ih fun r hr => hb r (by simp [hr])]
/-- The inner map put into the map of maps; what was there is gone. -/
theorem WL.bldAttach {t kt et : TypeId} {m xo u : Operand} {k : List UInt8} (hs : St ok0 w0 w Γ (inno K gi fs :: bldc K C g x :: Λ)) (hk : KK P kt bstr) (ht : P.underlying t = some (.map kt et)) (hm : ρ.ev m = .map (some g)) (hx : ρ.ev xo = bstr k) (hu : ρ.ev u = .map (some gi))
    (K1 : ∀ w', St ok0 w0 w' Γ (bldo K g (mset x k fs) :: Λ) → WL P N ops Q rest (putE ρ d undef) w')
    (hg : wantedE ops ρ ⟨d, .mapUpdate t m xo u, ty, pos, aft, gd⟩ = true := by rfl) (hd : fits N d = true := by rfl) :
    WL P N ops Q (⟨d, .mapUpdate t m xo u, ty, pos, aft, gd⟩ :: rest) ρ w := by
  obtain ⟨b, ⟨hC, hc⟩, h1⟩ := (hs.perm (List.Perm.swap _ _ _)).bldOpen
  subst hc
  have h2 : St ok0 w0 w Γ (mapo bstr tCell g (outL b) :: (restL K b ++ (inno K gi fs :: Λ))) := h1
  have fin : ∀ (b' : List (BE φ)) (l : List (φ × Value)) (w' : World), l.map (·.1) = fs → cont b' = mset (cont b) k fs → mset (outL b) k (Value.map (some gi)) = outL b' → St ok0 w0 w' Γ (bldL K g b' ++ Λ) → St ok0 w0 w' Γ (bldo K g (mset (cont b) k fs) :: Λ) :=
    fun b' l w' _ h1 _ h2 => St.bldClose (K := K) (b := b') h2 trivial h1
  cases hl : (cont b).lookup k with
  | none =>
    refine WL.mapUpdate (V := tCell) (y := Value.map (some gi)) h2 0 rfl hk ht hm hx hu (fun _ _ => tCell_V.2 ⟨rfl, rfl⟩) (mset_none (cont_none hl)) (fun w' h3 => ?_) hg hd
    have h4 : St ok0 w0 w' Γ (mapo bstr tCell g (outL b ++ [(k, Value.map (some gi))]) :: (restL K b ++ (inno K gi fs :: Λ))) := h3
    have h5 : St ok0 w0 w' Γ (inno K gi fs :: (mapo bstr tCell g (outL b ++ [(k, Value.map (some gi))]) :: (restL K b ++ Λ))) := h4.perm (by
      refine (List.Perm.cons _ List.perm_middle).trans ?_
      exact List.Perm.swap _ _ _)
    obtain ⟨l, hl2, h6⟩ := h5.innOpen
    refine K1 w' (fin (b ++ [(k, gi, l)]) l w' hl2 ?_ ?_ ?_)
    · unfold cont at hl ⊢
      rw [mset_none hl, List.map_append, ← hl2]
      rfl
    · rw [mset_none (cont_none hl)]
      unfold outL
      rw [List.map_append]
      rfl
    · have e1 : bldL K g (b ++ [(k, gi, l)]) = mapo bstr tCell g (outL b ++ [(k, Value.map (some gi))]) :: (restL K b ++ (mapo bstr (tRaw K.n) gi (ents K l) :: owns K l)) := by
        rw [bldL_eq]
        unfold outL restL
        rw [List.map_append, List.flatMap_append, List.map_append]
        congr 2
        have := inL_eq K k gi l
        unfold inL at this
        simp only [List.flatMap_cons, List.flatMap_nil, List.append_nil]
        exact this
      rw [e1]
      refine h6.perm ?_
      rw [List.cons_append, List.append_assoc]
      refine List.Perm.trans ?_ (List.Perm.cons _ (List.perm_append_comm_assoc _ _ _))
      exact (List.perm_middle (l₁ := mapo bstr (tRaw K.n) gi (ents K l) :: owns K l))
  | some fs0 =>
    obtain ⟨b1, o, b2, rfl, e1, e2, e3, e4⟩ := cont_at hl
    obtain ⟨k0, gi0, l0⟩ := o
    simp only at e1 e2 e3
    subst e1
    refine WL.mapUpdate (V := tCell) (y := Value.map (some gi)) h2 0 rfl hk ht hm hx hu (fun _ _ => tCell_V.2 ⟨rfl, rfl⟩) (mset_out (l' := []) e4) (fun w' h3 => ?_) hg hd
    have h4 : St ok0 w0 w' Γ (mapo bstr tCell g (outL (b1 ++ (k0, gi, []) :: b2)) :: (restL K (b1 ++ (k0, gi0, l0) :: b2) ++ (inno K gi fs :: Λ))) := h3
    have h5 : St ok0 w0 w' Γ (inL K (k0, gi0, l0) ++ (inno K gi fs :: (mapo bstr tCell g (outL (b1 ++ (k0, gi, []) :: b2)) :: (restL K (b1 ++ b2) ++ Λ)))) := h4.perm (by
      refine (List.Perm.cons _ ((restL_perm K b1 b2 (k0, gi0, l0)).append_right _)).trans ?_
      rw [List.append_assoc]
      refine (List.perm_middle.symm).trans ?_
      refine List.Perm.append_left _ ?_
      refine (List.Perm.cons _ List.perm_middle).trans ?_
      exact List.Perm.swap _ _ _)
    obtain ⟨l, hl2, h6⟩ := h5.dropL.innOpen
    refine K1 w' (fin (b1 ++ (k0, gi, l) :: b2) l w' hl2 ?_ ?_ ?_)
    · rw [cont_mset (l := l0) e4, hl2, show cont (b1 ++ (k0, gi, l0) :: b2) = cont (b1 ++ (k0, gi0, l0) :: b2) by unfold cont; simp]
    · exact mset_out e4
    · have e5 : outL (b1 ++ (k0, gi, []) :: b2) = outL (b1 ++ (k0, gi, l) :: b2) := by
        unfold outL
        simp
      rw [e5] at h6
      refine h6.perm ?_
      rw [bldL_eq, List.cons_append]
      have p1 := (restL_perm K b1 b2 (k0, gi, l)).append_right Λ
      rw [inL_eq, List.cons_append, List.cons_append, List.append_assoc] at p1
      refine List.Perm.trans ?_ (List.Perm.cons _ p1.symm)
      refine List.Perm.trans ?_ (List.Perm.swap _ _ _)
      refine List.Perm.cons _ ?_
      exact List.perm_middle
end
end Go.Proofs.YtbbeobiampbddaaL
