/- What the row leans on, as few texts. -/
import Derived.Test.YtbbeobiampbddaaQHV1
import Derived.Test.YtbbeobiampbddaaQHV0
set_option linter.unusedVariables false
set_option linter.unusedSimpArgs false
namespace Go.Proofs.YtbbeobiampbddaaL
open Go Go.RowKit
section
variable {w : World} {w0 : Base} {ok0 : Nat → Prop} {Γ : List It} {Λ : List LObj}
theorem St.drop1 {o : LObj} (hs : St ok0 w0 w Γ (o :: Λ)) : St ok0 w0 w Γ Λ := by
  obtain ⟨hB, bss, hN, hlt, hO, hA⟩ := hs
  match bss, hO with
  | [], h => exact h.elim
  | bs :: b2, ⟨_, h2⟩ =>
    have hsub : b2.flatten.Sublist (bs :: b2).flatten := by rw [List.flatten_cons]; exact List.sublist_append_right _ _
    have hm : ∀ b, reg ok0 w0 (bs :: b2).flatten b → b < w.heap.size → w.heap[b]? = w.heap[b]? ∧ reg ok0 w0 b2.flatten b := fun b hr _ => ⟨rfl, hr.1, fun h => hr.2 (hsub.subset h)⟩
    exact ⟨hB, b2, hN.sublist hsub, fun b hb => hlt b (hsub.subset hb), h2.move hm fun _ _ => rfl, hA.move hm⟩
theorem St.dropL {R : List LObj} (hs : St ok0 w0 w Γ (R ++ Λ)) : St ok0 w0 w Γ Λ := hs.allClose.drop1
end
section
variable {φ : Type} (K : FK φ)
def inno (gi : Nat) (fs : List φ) : LObj where
  H := fun ok bs w => ∃ l : List (φ × Value), l.map (·.1) = fs ∧ (allo (inL K ([], gi, l))).H ok bs w
  fn := by
    rintro ok ok' bs bs' w ⟨l, _, bss, rfl, _, h⟩ ⟨l', _, bss', rfl, _, h'⟩
    have hfp : ∀ (o : BE φ), ∀ p ∈ inP K o, ∀ (ok : Nat → Prop) (bs : List Nat) (w : World), p.1.H ok bs w → bs = p.2 := by
      intro o p hp ok bs w hh
      unfold inP at hp
      rcases List.mem_cons.1 hp with rfl | hp
      · exact hh.1
      · obtain ⟨e, _, rfl⟩ := List.mem_map.1 hp
        exact own_fp hh
    have e1 := Own.eqs (hfp ([], gi, l)) h
    have e2 := Own.eqs (hfp ([], gi, l')) h'
    have m1 := Own.mem h
    have m2 := Own.mem h'
    have key := inP_fps (ok := ok) (ok' := ok') (w := w) K [([], gi, l)] [([], gi, l')] rfl (fun o ho => by
      simp at ho; subst ho
      exact m1 _ (List.mem_cons_self ..)) (fun o ho => by
      simp at ho; subst ho
      exact m2 _ (List.mem_cons_self ..))
    simp only [List.flatMap_cons, List.flatMap_nil, List.append_nil] at key
    rw [e1, e2, key]
  lt := by
    rintro ok bs w ⟨l, _, h⟩ k hk
    exact (allo _).lt h k hk
  move := by
    rintro ok ok' bs w w' ⟨l, hl, h⟩ hk hm
    exact ⟨l, hl, (allo _).move h hk hm⟩
variable {w : World} {w0 : Base} {ok0 : Nat → Prop} {Γ : List It} {Λ : List LObj} {g gi : Nat} {fs : List φ} {x : List (List UInt8 × List φ)} {C : List (BE φ) → Prop}
theorem inL_eq (k : List UInt8) (gi : Nat) (l : List (φ × Value)) : inL K (k, gi, l) = mapo bstr (tRaw K.n) gi (ents K l) :: owns K l := by
  unfold inL inP ents owns
  rw [List.map_cons, List.map_map]
  rfl
theorem St.innOpen (hs : St ok0 w0 w Γ (inno K gi fs :: Λ)) : ∃ l : List (φ × Value), l.map (·.1) = fs ∧ St ok0 w0 w Γ (mapo bstr (tRaw K.n) gi (ents K l) :: (owns K l ++ Λ)) := by
  obtain ⟨hB, bss, hN, hlt, hO, hA⟩ := hs
  match bss, hO with
  | [], h => exact h.elim
  | bs :: bss, ⟨⟨l, hl, h1⟩, h2⟩ =>
    have h3 : St ok0 w0 w Γ (allo (inL K ([], gi, l)) :: Λ) := ⟨hB, bs :: bss, hN, hlt, ⟨h1, h2⟩, hA⟩
    have h4 := h3.allOpen
    rw [inL_eq] at h4
    exact ⟨l, hl, h4⟩
theorem St.innClose {l : List (φ × Value)} (hs : St ok0 w0 w Γ (mapo bstr (tRaw K.n) gi (ents K l) :: (owns K l ++ Λ))) (hl : l.map (·.1) = fs) : St ok0 w0 w Γ (inno K gi fs :: Λ) := by
  have h1 : St ok0 w0 w Γ (inL K ([], gi, l) ++ Λ) := by rw [inL_eq]; exact hs
  obtain ⟨hB, bss, hN, hlt, hO, hA⟩ := h1.allClose
  match bss, hO with
  | [], h => exact h.elim
  | bs :: bss, ⟨h1, h2⟩ => exact ⟨hB, bs :: bss, hN, hlt, ⟨⟨l, hl, h1⟩, h2⟩, hA⟩
theorem owns_perm (f1 f2 : List (φ × Value)) (y : φ) (v : Value) : (owns K (f1 ++ (y, v) :: f2)).Perm (own tStr K.E v (K.fe y) :: owns K (f1 ++ f2)) := by
  unfold owns
  rw [List.map_append, List.map_cons, List.map_append]
  exact List.perm_middle
variable {P : Program} {N : Nat} {Q : QE} {ρ : Env} {d : Option Tmp} {ty : TypeId} {pos : String} {aft : Array Edge} {gd : Option (Nat × Bool)} {ops : Array Oper} {rest : List Oper}
theorem WL.innPut {t kt et : TypeId} {m xo u : Operand} {y : φ} {v : Value} (hs : St ok0 w0 w Γ (own tStr K.E v (K.fe y) :: inno K gi fs :: Λ)) (hk : KK P kt bstr) (ht : P.underlying t = some (.map kt et)) (hm : ρ.ev m = .map (some gi)) (hx : ρ.ev xo = bstr (K.nm y))
    (hu : ρ.ev u = .agg (K.fc y v).toArray) (h1 : (K.fc y v).length = K.n) (h2 : ∀ u ∈ K.fc y v, u.oneCell' = true)
    (K1 : ∀ w', St ok0 w0 w' Γ (inno K gi (fput K.nm y fs) :: Λ) → WL P N ops Q rest (putE ρ d undef) w')
    (hg : wantedE ops ρ ⟨d, .mapUpdate t m xo u, ty, pos, aft, gd⟩ = true := by rfl) (hd : fits N d = true := by rfl) :
    WL P N ops Q (⟨d, .mapUpdate t m xo u, ty, pos, aft, gd⟩ :: rest) ρ w := by
  obtain ⟨l, hl, h3⟩ := (hs.perm (List.Perm.swap _ _ _)).innOpen
  cases hf : fs.find? (fun q => K.nm y == K.nm q) with
  | none =>
    rw [← hl] at hf
    have e6 : ents K l ++ [(K.nm y, K.fc y v)] = ents K (l ++ [(y, v)]) := by
      unfold ents
      rw [List.map_append]
      rfl
    refine WL.mapUpdate (V := tRaw K.n) (y := K.fc y v) h3 0 rfl hk ht hm hx hu (fun _ _ => tRaw_V.2 ⟨rfl, h1, h2⟩) ((mset_none (ents_none K hf)).trans e6) (fun w' h5 => ?_) hg hd
    have h6 : St ok0 w0 w' Γ (mapo bstr (tRaw K.n) gi (ents K (l ++ [(y, v)])) :: (owns K l ++ (own tStr K.E v (K.fe y) :: Λ))) := h5
    refine K1 w' (St.innClose (K := K) (l := l ++ [(y, v)]) (h6.perm (List.Perm.cons _ ?_)) ?_)
    · have e9 : owns K (l ++ [(y, v)]) = owns K l ++ [own tStr K.E v (K.fe y)] := by
        unfold owns
        rw [List.map_append]
        rfl
      rw [e9, List.append_assoc]
      exact .refl _
    · rw [List.map_append, ← hl, fput_none hf]
      rfl
  | some y0 =>
    rw [← hl] at hf
    obtain ⟨f1, v0, f2, rfl, q1, q2, q3⟩ := ents_at K hf
    have q3' : ∀ e ∈ f1, K.nm y0 ≠ K.nm e.1 := fun e he => by rw [← q1]; exact q3 e he
    refine WL.mapUpdate (V := tRaw K.n) (y := K.fc y v) h3 0 rfl hk ht hm hx hu (l' := ents K (f1 ++ (y, v) :: f2)) (fun _ _ => tRaw_V.2 ⟨rfl, h1, h2⟩) (by rw [q1]; exact mset_ents K q1 q3') (fun w' h5 => ?_) hg hd
    have h6 : St ok0 w0 w' Γ (mapo bstr (tRaw K.n) gi (ents K (f1 ++ (y, v) :: f2)) :: (owns K (f1 ++ (y0, v0) :: f2) ++ (own tStr K.E v (K.fe y) :: Λ))) := h5
    have h7 : St ok0 w0 w' Γ (own tStr K.E v0 (K.fe y0) :: (mapo bstr (tRaw K.n) gi (ents K (f1 ++ (y, v) :: f2)) :: (owns K (f1 ++ f2) ++ (own tStr K.E v (K.fe y) :: Λ)))) := h6.perm (by
      refine (List.Perm.cons _ ((owns_perm K f1 f2 y0 v0).append_right _)).trans ?_
      exact List.Perm.swap _ _ _)
    refine K1 w' (St.innClose (K := K) (l := f1 ++ (y, v) :: f2) (h7.drop1.perm (List.Perm.cons _ ?_)) ?_)
    · refine List.perm_middle.trans ?_
      exact ((owns_perm K f1 f2 y v).symm).append_right Λ
    · rw [List.map_append, List.map_cons, ← hl, List.map_append, List.map_cons, fput_at q1 (fun e he => by
        obtain ⟨q, hq, rfl⟩ := List.mem_map.1 he
        exact q3' q hq)]
theorem mset_out {b1 b2 : List (BE φ)} {k : List UInt8} {gi gi' : Nat} {l l' : List (φ × Value)} (hb : ∀ q ∈ b1, q.1 ≠ k) : mset (outL (b1 ++ (k, gi, l) :: b2)) k (Value.map (some gi')) = outL (b1 ++ (k, gi', l') :: b2) := by
  unfold outL
  induction b1 with
  | nil => rw [List.nil_append, List.nil_append, List.map_cons, List.map_cons, mset, if_pos (by simp)]
  | cons q b1 ih =>
    rw [List.cons_append, List.cons_append, List.map_cons, List.map_cons, mset]
    have : (k == q.1) = false := by
      rw [beq_eq_false_iff_ne]
      exact fun e => hb q (by simp) e.symm
    rw [this, if_neg (by simp), ih fun r hr => hb r (by simp [hr])]
theorem WL.bldAttach {t kt et : TypeId} {m xo u : Operand} {k : List UInt8} (hs : St ok0 w0 w Γ (inno K gi fs :: bldc K C g x :: Λ)) (hk : KK P kt bstr) (ht : P.underlying t = some (.map kt et)) (hm : ρ.ev m = .map (some g)) (hx : ρ.ev xo = bstr k) (hu : ρ.ev u = .map (some gi))
    (K1 : ∀ w', St ok0 w0 w' Γ (bldo K g (mset x k fs) :: Λ) → WL P N ops Q rest (putE ρ d undef) w')
    (hg : wantedE ops ρ ⟨d, .mapUpdate t m xo u, ty, pos, aft, gd⟩ = true := by rfl) (hd : fits N d = true := by rfl) :
    WL P N ops Q (⟨d, .mapUpdate t m xo u, ty, pos, aft, gd⟩ :: rest) ρ w := by
  obtain ⟨b, ⟨hC, hc⟩, h1⟩ := (hs.perm (List.Perm.swap _ _ _)).bldOpen
  subst hc
  have h2 : St ok0 w0 w Γ (mapo bstr tCell g (outL b) :: (restL K b ++ (inno K gi fs :: Λ))) := h1
  have fin : ∀ (b' : List (BE φ)) (l : List (φ × Value)) (w' : World), l.map (·.1) = fs → cont b' = mset (cont b) k fs → mset (outL b) k (Value.map (some gi)) = outL b' → St ok0 w0 w' Γ (bldL K g b' ++ Λ) → St ok0 w0 w' Γ (bldo K g (mset (cont b) k fs) :: Λ) :=
    fun b' l w' _ h1 _ h2 => St.bldClose (K := K) (b := b') h2 trivial h1
  cases hl : (cont b).lookup k with
  | none =>
    refine WL.mapUpdate (V := tCell) (y := Value.map (some gi)) h2 0 rfl hk ht hm hx hu (fun _ _ => tCell_V.2 ⟨rfl, rfl⟩) (mset_none (cont_none hl)) (fun w' h3 => ?_) hg hd
    have h4 : St ok0 w0 w' Γ (mapo bstr tCell g (outL b ++ [(k, Value.map (some gi))]) :: (restL K b ++ (inno K gi fs :: Λ))) := h3
    have h5 : St ok0 w0 w' Γ (inno K gi fs :: (mapo bstr tCell g (outL b ++ [(k, Value.map (some gi))]) :: (restL K b ++ Λ))) := h4.perm (by
      refine (List.Perm.cons _ List.perm_middle).trans ?_
      exact List.Perm.swap _ _ _)
    obtain ⟨l, hl2, h6⟩ := h5.innOpen
    refine K1 w' (fin (b ++ [(k, gi, l)]) l w' hl2 ?_ ?_ ?_)
    · unfold cont at hl ⊢
      rw [mset_none hl, List.map_append, ← hl2]
      rfl
    · rw [mset_none (cont_none hl)]
      unfold outL
      rw [List.map_append]
      rfl
    · have e1 : bldL K g (b ++ [(k, gi, l)]) = mapo bstr tCell g (outL b ++ [(k, Value.map (some gi))]) :: (restL K b ++ (mapo bstr (tRaw K.n) gi (ents K l) :: owns K l)) := by
        rw [bldL_eq]
        unfold outL restL
        rw [List.map_append, List.flatMap_append, List.map_append]
        congr 2
        have := inL_eq K k gi l
        unfold inL at this
        simp only [List.flatMap_cons, List.flatMap_nil, List.append_nil]
        exact this
      rw [e1]
      refine h6.perm ?_
      rw [List.cons_append, List.append_assoc]
      refine List.Perm.trans ?_ (List.Perm.cons _ (List.perm_append_comm_assoc _ _ _))
      exact (List.perm_middle (l₁ := mapo bstr (tRaw K.n) gi (ents K l) :: owns K l))
  | some fs0 =>
    obtain ⟨b1, o, b2, rfl, e1, e2, e3, e4⟩ := cont_at hl
    obtain ⟨k0, gi0, l0⟩ := o
    simp only at e1 e2 e3
    subst e1
    refine WL.mapUpdate (V := tCell) (y := Value.map (some gi)) h2 0 rfl hk ht hm hx hu (fun _ _ => tCell_V.2 ⟨rfl, rfl⟩) (mset_out (l' := []) e4) (fun w' h3 => ?_) hg hd
    have h4 : St ok0 w0 w' Γ (mapo bstr tCell g (outL (b1 ++ (k0, gi, []) :: b2)) :: (restL K (b1 ++ (k0, gi0, l0) :: b2) ++ (inno K gi fs :: Λ))) := h3
    have h5 : St ok0 w0 w' Γ (inL K (k0, gi0, l0) ++ (inno K gi fs :: (mapo bstr tCell g (outL (b1 ++ (k0, gi, []) :: b2)) :: (restL K (b1 ++ b2) ++ Λ)))) := h4.perm (by
      refine (List.Perm.cons _ ((restL_perm K b1 b2 (k0, gi0, l0)).append_right _)).trans ?_
      rw [List.append_assoc]
      refine (List.perm_middle.symm).trans ?_
      refine List.Perm.append_left _ ?_
      refine (List.Perm.cons _ List.perm_middle).trans ?_
      exact List.Perm.swap _ _ _)
    obtain ⟨l, hl2, h6⟩ := h5.dropL.innOpen
    refine K1 w' (fin (b1 ++ (k0, gi, l) :: b2) l w' hl2 ?_ ?_ ?_)
    · rw [cont_mset (l := l0) e4, hl2, show cont (b1 ++ (k0, gi, l0) :: b2) = cont (b1 ++ (k0, gi0, l0) :: b2) by unfold cont; simp]
    · exact mset_out e4
    · have e5 : outL (b1 ++ (k0, gi, []) :: b2) = outL (b1 ++ (k0, gi, l) :: b2) := by
        unfold outL
        simp
      rw [e5] at h6
      refine h6.perm ?_
      rw [bldL_eq, List.cons_append]
      have p1 := (restL_perm K b1 b2 (k0, gi, l)).append_right Λ
      rw [inL_eq, List.cons_append, List.cons_append, List.append_assoc] at p1
      refine List.Perm.trans ?_ (List.Perm.cons _ p1.symm)
      refine List.Perm.trans ?_ (List.Perm.swap _ _ _)
      refine List.Perm.cons _ ?_
      exact List.perm_middle
end
end Go.Proofs.YtbbeobiampbddaaL
set_option linter.unusedVariables false
set_option linter.unusedSimpArgs false
set_option linter.unusedSectionVars false
namespace Go.Proofs.YtbbeobiampbddaaL
open Go Go.RowKit
open Go.ChangeMaps (setBlock)
theorem Off.mono {bs bs' : List Nat} {a b : World} (h : Off bs a b) (k : ∀ x ∈ bs, x ∈ bs') : Off bs' a b := ⟨h.os, h.tape, h.output, h.size, fun i hi hn => h.block i hi fun hx => hn (k i hx)⟩
def sit (r : Nat) (s : List UInt8) : LObj where
  H := fun ok bs w => bs = [r] ∧ w.heap[r]? = some (.stringIter ⟨s.toArray⟩ 0)
  fn := by rintro _ _ _ _ _ ⟨rfl, _⟩ ⟨rfl, _⟩; rfl
  lt := by rintro _ _ _ ⟨rfl, h⟩ b hb; simp at hb; subst hb; exact lt_of_some h
  move := by
    rintro _ _ _ _ _ ⟨rfl, h⟩ hk hm
    exact ⟨rfl, (hk r (by simp)).trans h⟩
def junk (r : Nat) : LObj where
  H := fun ok bs w => bs = [r] ∧ r < w.heap.size
  fn := by rintro _ _ _ _ _ ⟨rfl, _⟩ ⟨rfl, _⟩; rfl
  lt := by rintro _ _ _ ⟨rfl, h⟩ b hb; simp at hb; subst hb; exact h
  move := by
    rintro _ _ _ w1 w2 ⟨rfl, h⟩ hk hm
    refine ⟨rfl, ?_⟩
    have h1 := hk r (by simp)
    have : (w2.heap[r]?).isSome := by rw [h1]; simp [h]
    simpa using this
section
variable {κ β : Type} [BEq κ] [LawfulBEq κ] {kv : κ → Value} {V : Ty β} {ok : Nat → Prop} {w : World}
theorem del_ents {P : Program} {desc : TypeDesc} (hsame : ∀ a b, Instr.sameNow desc (kv a) (kv b) = some (a == b)) {a : κ} {y : β} {e : MapEntry} : ∀ {l : List (κ × β)} {es : List MapEntry} (i : Nat), Ents kv V ok w l es → (l.map (·.1)).Nodup → ((a, y), e) ∈ l.zip es →
    ∃ j, es[j]? = some e ∧ Instr.findNow desc (kv a) es i = some (some (i + j, e.val)) ∧ Ents kv V ok w (mdel l a) (es.eraseIdx j) ∧ ((mdel l a).map (·.1)).Sublist (l.map (·.1)) ∧
      ∀ f : (κ × β) × MapEntry → Bool, f ((a, y), e) = false → ((mdel l a).zip (es.eraseIdx j)).filter f = (l.zip es).filter f
  | [], _, i, _, _, h => by simp at h
  | _ :: _, [], i, h, _, _ => h.elim
  | x :: l, e0 :: es, i, ⟨h1, h2, h3⟩, hn, h => by
    simp only [List.map_cons, List.nodup_cons] at hn
    rw [List.zip_cons_cons] at h
    have hs := hsame a x.1
    rw [← h1] at hs
    cases hkx : a == x.1 with
    | true =>
      have hk : a = x.1 := by simpa using hkx
      have he : ((a, y), e) = (x, e0) := by
        rcases List.mem_cons.1 h with h | h
        · exact h
        · exact absurd (List.mem_map.2 ⟨(a, y), (List.of_mem_zip h).1, hk⟩) hn.1
      cases he
      refine ⟨0, rfl, by rw [Instr.findNow, hs, hkx]; rfl, by simpa [mdel, hkx] using h3, by simp [mdel], fun f hf => ?_⟩
      simp [mdel, hf]
    | false =>
      have hk : a ≠ x.1 := by simpa using hkx
      rcases List.mem_cons.1 h with h | h
      · cases h; simp at hk
      obtain ⟨j, b1, b2, b3, b4, b5⟩ := del_ents (P := P) hsame (i + 1) h3 hn.2 h
      refine ⟨j + 1, by simpa using b1, by rw [Instr.findNow, hs, hkx]; simpa [Nat.add_assoc, Nat.add_comm 1] using b2, ?_, ?_, fun f hf => ?_⟩
      · simp only [mdel, hkx]; exact ⟨h1, h2, b3⟩
      · simp only [mdel, hkx]; exact b4.cons_cons _
      · simp only [mdel, hkx, Bool.false_eq_true, if_false, List.eraseIdx_cons_succ, List.zip_cons_cons, List.filter_cons, b5 f hf]
end
section
variable {P : Program} {N : Nat} {Q : QE} {ρ : Env} {w : World} {w0 : Base} {ok0 : Nat → Prop} {Γ : List It} {Λ : List LObj}
variable {d : Option Tmp} {ty : TypeId} {pos : String} {aft : Array Edge} {gd : Option (Nat × Bool)} {ops : Array Oper} {rest : List Oper}
variable {κ β : Type} [BEq κ] [LawfulBEq κ] {kv : κ → Value} {V : Ty β}
theorem WL.deleteR {t kt et : TypeId} {m x : Operand} {g r : Nat} {l l' left : List (κ × β)} {a : κ} {y : β} (hs : St ok0 w0 w Γ Λ) (i : Nat) (hi : Λ[i]? = some (rng kv V g r l left (some (a, y)))) (hk : KK P kt kv) (ht : P.underlying t = some (.map kt et))
    (hm : ρ.ev m = .map (some g)) (hx : ρ.ev x = kv a) (hl : mdel l a = l')
    (K : ∀ w', St ok0 w0 w' Γ (Λ.set i (rng kv V g r l' left none)) → WL P N ops Q rest (putE ρ d (.tuple #[])) w')
    (hg : wantedE ops ρ ⟨d, .call { callee := .builtin .delete, args := #[m, x], argTypes := #[t, kt] }, ty, pos, aft, gd⟩ = true := by rfl) (hd : fits N d = true := by rfl) :
    WL P N ops Q (⟨d, .call { callee := .builtin .delete, args := #[m, x], argTypes := #[t, kt] }, ty, pos, aft, gd⟩ :: rest) ρ w := by
  subst hl
  obtain ⟨ok, bs, ho, hA, hn, hbs, hput⟩ := hs.split i hi
  obtain ⟨rfl, es, c, se, seen, c0, hh, ⟨he, hb1, hb2, hnd⟩, hr, hold, h4, h5, hleft, hcur⟩ := ho
  obtain ⟨rfl, e, seen', hz, rfl⟩ := hcur _ rfl
  have hltr := lt_of_some hr
  have hltg := lt_of_some hh
  have hrg : r ≠ g := by simpa using hn
  obtain ⟨desc, hud, hsame⟩ := hk.und
  obtain ⟨j, a1, a2, a3, a4, a5⟩ := del_ents (P := P) hsame 0 he hnd hz
  have hjs : j < es.size := by simpa using (List.getElem?_eq_some_iff.1 a1).1
  have hsub : (es.eraseIdxIfInBounds j).toList = es.toList.eraseIdx j := by
    unfold Array.eraseIdxIfInBounds
    rw [dif_pos hjs]
    simp
  generalize hes' : es.eraseIdxIfInBounds j = es' at hsub
  have hsl : es'.toList.Sublist es.toList := by rw [hsub]; exact List.eraseIdx_sublist _ _
  have hrun : (Builtin.delete_ #[t, kt] ty #[.map (some g), kv a]).run P w = .ok (.tuple #[]) (setBlock w g (.map es' c0)) := by
    unfold Builtin.delete_
    refine (run_bind (run_und ht w)).trans ?_
    refine (run_bind (run_getO hh)).trans ?_
    refine (run_bind (hk.chk _ a w)).trans ?_
    refine (run_bind (run_findKey hud a2 w)).trans ?_
    simp only [Nat.zero_add, hes']
    exact (run_bind (run_setO hh _)).trans rfl
  obtain ⟨o1, o2, o3⟩ := off_setBlock (w := w) (g := g) (.map es' c0) hltg
  refine WL.value hg hd (v := .tuple #[]) (w' := setBlock w g (.map es' c0)) (exec_builtin fun cs => ?_) (K _ (hput _ [r, g] _ (o1.mono (by simp)) hn (fun b hb => ⟨.inl hb, ?_⟩) fun ok' hm' => ?_))
  · rw [List.map_toArray]
    refine exec_v ?_
    show (Builtin.delete_ #[t, kt] ty #[ρ.ev m, ρ.ev x]).run P w = _
    rw [hm, hx]
    exact hrun
  · rw [o3]; exact (hbs b hb).2.2
  · have hr' : (setBlock w g (.map es' c0)).heap[r]? = some (.mapIter (some g) se (seen'.push e.born) c0) := by simp [setBlock, Ne.symm hrg, hr]
    refine ⟨rfl, es', c0, se, seen'.push e.born, c0, o2, ⟨?_, ?_, fun e' he' => hb2 _ (hsl.subset he'), a4.nodup hnd⟩, hr', fun e' he' => hold _ (hsl.subset he'), h4, h5, ?_, fun _ h => by cases h⟩
    · rw [hsub]; exact a3.move hm'
    · exact (hsl.map _).nodup hb1
    · rw [hsub, a5]
      · exact hleft
      · simp
theorem WL.clearM {t kt et : TypeId} {m : Operand} {g : Nat} {l : List (κ × β)} (hs : St ok0 w0 w Γ Λ) (i : Nat) (hi : Λ[i]? = some (mapo kv V g l)) (ht : P.underlying t = some (.map kt et))
    (hm : ρ.ev m = .map (some g))
    (K : ∀ w', St ok0 w0 w' Γ (Λ.set i (mapo kv V g ([] : List (κ × β)))) → WL P N ops Q rest (putE ρ d (.tuple #[])) w')
    (hg : wantedE ops ρ ⟨d, .call { callee := .builtin .clear, args := #[m], argTypes := #[t] }, ty, pos, aft, gd⟩ = true := by rfl) (hd : fits N d = true := by rfl) :
    WL P N ops Q (⟨d, .call { callee := .builtin .clear, args := #[m], argTypes := #[t] }, ty, pos, aft, gd⟩ :: rest) ρ w := by
  obtain ⟨ok, bs, ho, hA, hn, hbs, hput⟩ := hs.split i hi
  obtain ⟨rfl, es, c, hh, he, hb1, hb2, hnd⟩ := ho
  have hlt := lt_of_some hh
  obtain ⟨o1, o2, o3⟩ := off_setBlock (w := w) (g := g) (.map #[] c) hlt
  refine WL.value hg hd (v := .tuple #[]) (w' := setBlock w g (.map #[] c)) (exec_builtin fun cs => ?_) (K _ (hput _ [g] _ o1 (by simp) (fun b hb => ⟨.inl hb, ?_⟩) fun ok' hm' => ⟨rfl, #[], c, o2, trivial, by simp, by simp, by simp⟩))
  · rw [List.map_toArray]
    refine exec_v ?_
    show (Builtin.clear_ #[t] ty #[ρ.ev m]).run P w = _
    rw [hm]
    unfold Builtin.clear_
    refine (run_bind (run_und ht w)).trans ?_
    refine (run_bind (run_getO hh)).trans ?_
    exact (run_bind (run_setO hh _)).trans rfl
  · simp at hb; subst hb; omega
theorem WL.rangeS {t : TypeId} {m : Operand} {s : List UInt8} (hs : St ok0 w0 w Γ Λ) (ht : P.underlying t = some .string) (hm : ρ.ev m = bstr s)
    (K : ∀ r w', St ok0 w0 w' Γ (sit r s :: Λ) → WL P N ops Q rest (putE ρ d (.pointer (some ⟨r, 0, none⟩))) w')
    (hg : wantedE ops ρ ⟨d, .range t m, ty, pos, aft, gd⟩ = true := by rfl) (hd : fits N d = true := by rfl) :
    WL P N ops Q (⟨d, .range t m, ty, pos, aft, gd⟩ :: rest) ρ w :=
  WL.value hg hd (v := .pointer (some ⟨w.heap.size, 0, none⟩)) (w' := w.alloc (.stringIter ⟨s.toArray⟩ 0)) (by
    show (do pure (Next.value (← Instr.range t (ρ.ev m))) : Sem Next).run P w = _
    rw [hm]
    refine exec_v ?_
    unfold Instr.range bstr
    exact (run_bind (run_und ht w)).trans rfl) (K _ _ (hs.new (below_alloc w _) (bs := [w.heap.size]) (by simp) (by simp [size_alloc]) fun _ _ _ _ => ⟨rfl, heap_new w _⟩))
theorem WL.nextS {it : Operand} {r : Nat} {s : List UInt8} (hs : St ok0 w0 w Γ Λ) (i : Nat) (hi : Λ[i]? = some (sit r s)) (hx : ρ.ev it = .pointer (some ⟨r, 0, none⟩))
    (K1 : s = [] → WL P N ops Q rest (putE ρ d (.tuple #[.bool false])) w)
    (K2 : s ≠ [] → ∀ u v w', St ok0 w0 w' Γ (Λ.set i (junk r)) → WL P N ops Q rest (putE ρ d (.tuple #[.bool true, u, v])) w')
    (hg : wantedE ops ρ ⟨d, .next it true, ty, pos, aft, gd⟩ = true := by rfl) (hd : fits N d = true := by rfl) :
    WL P N ops Q (⟨d, .next it true, ty, pos, aft, gd⟩ :: rest) ρ w := by
  obtain ⟨ok, bs, ho, hA, hn, hbs, hput⟩ := hs.split i hi
  obtain ⟨rfl, hh⟩ := ho
  have hlt := lt_of_some hh
  have hget : (getObj r).run P w = .ok (.stringIter ⟨s.toArray⟩ 0) w := by simp [getObj, Sem.run, hh]
  cases s with
  | nil =>
    exact WL.value hg hd (v := .tuple #[.bool false]) (w' := w) (by
      show (do pure (Next.value (← Instr.next (ρ.ev it) true ty)) : Sem Next).run P w = _
      rw [hx]
      refine exec_v ?_
      unfold Instr.next
      exact (run_bind hget).trans rfl) (K1 rfl)
  | cons b l =>
    generalize hdc : Utf8.decode ⟨(b :: l).toArray⟩ 0 = cw
    have hset : ∀ o', (setObj r o').run P w = .ok () (setBlock w r o') := fun o' => by simp [setObj, Sem.run, hh, setBlock]
    obtain ⟨o1, o2, o3⟩ := off_setBlock (w := w) (g := r) (.stringIter ⟨(b :: l).toArray⟩ (0 + cw.2)) hlt
    refine WL.value hg hd (v := .tuple #[.bool true, goInt 0, .int .i32 cw.1]) (w' := setBlock w r (.stringIter ⟨(b :: l).toArray⟩ (0 + cw.2))) (by
      show (do pure (Next.value (← Instr.next (ρ.ev it) true ty)) : Sem Next).run P w = _
      rw [hx]
      refine exec_v ?_
      unfold Instr.next
      refine (run_bind hget).trans ?_
      have hp : 0 < (⟨(b :: l).toArray⟩ : ByteArray).size := Nat.succ_pos _
      simp only [if_pos hp, hdc]
      exact (run_bind (hset _)).trans rfl) (K2 (by simp) _ _ _ (hput _ [r] _ o1 (by simp) (fun b' hb' => ⟨.inl hb', ?_⟩) fun ok' hm' => ⟨rfl, ?_⟩))
    · rw [o3]; exact (hbs b' hb').2.2
    · rw [o3]; exact hlt
end
end Go.Proofs.YtbbeobiampbddaaL
set_option linter.unusedVariables false
set_option linter.unusedSimpArgs false
set_option maxRecDepth 20000
namespace Go.Proofs.Ytbbeobiampbddaa
open Go Go.RowKit Go.Proofs.YtbbeobiampbddaaL
abbrev rcells (r : fold_Register) : List Value := [.bool r.Set, .int .i64 r.Tag, .int .i64 r.Client, .int .i64 r.Seq, .int .i64 r.N, bstr r.S]
def fcells (y : fold_Field) (v : Value) : List Value := [bstr y.Name, .bool y.Register.Set, .int .i64 y.Register.Tag, .int .i64 y.Register.Client, .int .i64 y.Register.Seq, .int .i64 y.Register.N, bstr y.Register.S, .bool y.HasMax, .int .i64 y.Max, .int .i64 y.Sum, v, .bool y.Flag]
abbrev ecells (e : api_Effect) : List Value := [.int .i64 e.Kind, bstr e.Object, bstr e.Field, .int .i64 e.N, bstr e.S]
theorem regR (ok : Nat → Prop) (w : World) (r : fold_Register) : t_fold_Register.R ok w r (rcells r) := ⟨[.bool r.Set], _, rfl, rfl, ⟨[.int .i64 r.Tag], _, rfl, rfl, ⟨[.int .i64 r.Client], _, rfl, rfl, ⟨[.int .i64 r.Seq], _, rfl, rfl, ⟨[.int .i64 r.N], [bstr r.S], rfl, rfl, rfl⟩⟩⟩⟩⟩
theorem fieldR (ok : Nat → Prop) (w : World) (y : fold_Field) (v : Value) (h : (tSlice tStr).V ok w y.Elems v) : t_fold_Field.R ok w y (fcells y v) :=
  ⟨[bstr y.Name], _, rfl, rfl, ⟨rcells y.Register, [.bool y.HasMax, .int .i64 y.Max, .int .i64 y.Sum, v, .bool y.Flag], rfl, regR ok w y.Register, ⟨[.bool y.HasMax], _, rfl, rfl, ⟨[.int .i64 y.Max], _, rfl, rfl, ⟨[.int .i64 y.Sum], _, rfl, rfl, ⟨[v], [.bool y.Flag], rfl, R_one h, rfl⟩⟩⟩⟩⟩⟩
def FKf : FK fold_Field where
  n := 12
  E := 9
  fc := fcells
  fe := fold_Field.Elems
  nm := fold_Field.Name
  inj := by
    intro x v x' v' h
    unfold fcells at h
    simp only [List.cons.injEq] at h
    exact h.2.2.2.2.2.2.2.2.2.2.1
def FinO (g : Nat) (x1 : fold_B) (k f : List UInt8) (fs : List fold_Field) (O : LObj) : Prop :=
  (∃ h : Hole fold_Field, O = allo (holeL FKf g h) ∧ cont h.all = x1 ∧ h.k = k ∧ f = h.y.Name ∧ (∀ e ∈ h.f1, f ≠ e.1.Name) ∧ ∀ q ∈ h.b1, q.1 ≠ k) ∨
  (∃ C, O = bldc FKf C g x1 ∧ fs.find? (fun q => f == q.Name) = none)
theorem fold_with_at (x : fold_B) (k : List UInt8) : ∃ fs, (fold_with x k).lookup k = some fs := by
  unfold fold_with
  cases h : x.lookup k with
  | some fs => exact ⟨fs, by simpa using h⟩
  | none =>
    simp only [Option.isNone_none, if_true]
    refine ⟨[], ?_⟩
    induction x with
    | nil => simp
    | cons a x ih =>
      rw [List.lookup_cons] at h
      rw [List.cons_append, List.lookup_cons]
      cases hk : k == a.1 with
      | false => rw [hk] at h; exact ih h
      | true => rw [hk] at h; cases h
theorem fold_apply.calls {ok : Nat → Prop} {F : Base} {w0 : World} {x : fold_B} {u : api_Update} {g : Nat} {vu : Value} {r : fold_B} (hf : fold_apply u x = some r) (hs : St ok F w0 [vl t_api_Update u vu] [bldo FKf g x]) :
    Calls Try.prog 47 #[.map (some g), vu] w0 fun e w' => ∃ v, e = .returned v ∧ ∃ y : Unit, v = .tuple #[] ∧ St ok F w' [] [bldo FKf g r] := by
  unfold fold_apply at hf
  obtain ⟨cs, hl, rfl⟩ := hs.aggv (n := 4) 0 rfl rfl rfl
  obtain ⟨a, c, rfl⟩ := open_api_Update hs 0 rfl
  refine calls_of_W (fn := Try.f47) (N := 110) Try.func47 rfl Try.ntmps47 rfl ?_
  refine W.seqK fun K1 hK1 => ?_
  refine W.region ?_
  refine WL.box (vs := [.int .i64 u.Client, .int .i64 u.Seq, .int .i64 u.Tag, .slice a u.Effects.length c]) hs rfl rfl (fun g3 w hs => ?_)
  refine WL.nil ?_
  refine hK1 _ _ ?_
  have hs := hs.front 1 rfl
  refine W.seqK fun K2 hK2 => ?_
  refine W.region ?_
  refine WL.fieldAddr (m := 3) rfl FA75_3 rfl ?_
  refine WL.loadF (z := u.Effects) F_api_Update_Effects hs 1 rfl 0 rfl rfl TI30 (.inr rfl) rfl rfl (fun v hs => ?_)
  obtain ⟨a2, c2, rfl⟩ := hs.slice 0 rfl
  refine WL.len (v := .slice a2 u.Effects.length c2) rfl (len_slice UN30) ?_
  refine WL.move (v := .int .i64 0) rfl ?_
  refine WL.nil ?_
  refine hK2 _ _ ?_
  refine W.block ?_
  refine W.loop hf (fun s ρ w => match s with | (i, x) => ρ 0 = .map (some g) ∧ ρ 3 = .pointer (some ⟨g3, 0, none⟩) ∧ ρ 10 = .slice a2 u.Effects.length c2 ∧ ρ 11 = .int .i64 (u.Effects.length : Int) ∧ ρ 12 = .int .i64 i ∧ St ok F w [vl (tSlice t_api_Effect) u.Effects (.slice a2 u.Effects.length c2), vl t_api_Update u (.agg [.int .i64 u.Client, .int .i64 u.Seq, .int .i64 u.Tag, .slice a u.Effects.length c].toArray)] [bldo FKf g x, blk g3 75 [.int .i64 u.Client, .int .i64 u.Seq, .int .i64 u.Tag, .slice a u.Effects.length c]]) ⟨rfl, rfl, rfl, rfl, rfl, hs⟩ ?_
  intro s ρ w o hI hf hbb
  obtain ⟨i, x⟩ := s
  obtain ⟨h0, h3, h10, h11, h12, hs⟩ := hI
  unfold fold_apply.l1 at hf
  refine W.seqK fun K3 hK3 => ?_
  refine W.region ?_
  refine WL.bin (v := .bool (decide (i < (u.Effects.length : Int)))) h12 h11 (ib_lss _ _ _) ?_
  refine WL.nil ?_
  refine hK3 _ _ ?_
  refine W.seqK fun K4 hK4 => ?_
  rcases iteE hf with ⟨hc, hf⟩ | ⟨hc, hf⟩
  · refine W.cond_true (bool_tr rfl hc) ?_
    refine W.skip ?_
    refine hK4 _ _ ?_
    obtain ⟨e, he, hf⟩ := bindE hf
    obtain ⟨x', hx', hf⟩ := bindE hf
    refine W.seqK fun K5 hK5 => ?_
    have Jend : ∀ (ρ : Env) (w : World), ρ 0 = .map (some g) → ρ 3 = .pointer (some ⟨g3, 0, none⟩) → ρ 10 = .slice a2 u.Effects.length c2 → ρ 11 = .int .i64 (u.Effects.length : Int) → ρ 12 = .int .i64 i →
        St ok F w [vl (tSlice t_api_Effect) u.Effects (.slice a2 u.Effects.length c2), vl t_api_Update u (.agg [.int .i64 u.Client, .int .i64 u.Seq, .int .i64 u.Tag, .slice a u.Effects.length c].toArray)] [bldo FKf g x', blk g3 75 [.int .i64 u.Client, .int .i64 u.Seq, .int .i64 u.Tag, .slice a u.Effects.length c]] → K5 ρ w := by
      intro ρ w h0 h3 h10 h11 h12 hs
      refine hK5 _ _ ?_
      refine W.region ?_
      obtain ⟨j, ej, hf⟩ := letE hf
      refine WL.bin (v := .int .i64 j) h12 rfl (ib_as ej (ib_add _ _ _)) ?_
      refine WL.move (v := .int .i64 j) rfl ?_
      refine WL.nil ?_
      exact ⟨_, (Option.some.inj hf).symm, h0, h3, h10, h11, rfl, hs⟩
    unfold fold_eff at hx'
    obtain ⟨y', hy', hx'⟩ := bindE hx'
    have hx' := Option.some.inj hx'
    refine W.block ?_
    refine W.seqK fun K6 hK6 => ?_
    refine W.region ?_
    refine WL.indexAddr hs 0 rfl UN30 TI72 h10 h12 he (fun ad hs => ?_)
    refine WL.loadP hs 0 rfl TI72 (.inl rfl) rfl (fun v hs => ?_)
    obtain ⟨es, hl5, rfl⟩ := hs.aggv (n := 5) 0 rfl rfl rfl
    obtain rfl := open_api_Effect hs 0 rfl
    refine WL.alloc hs ZV72 (fun g5 w hs => ?_)
    refine WL.storeAll (vs := ecells e) hs 0 rfl TI72 rfl rfl rfl rfl (ones_of rfl) rfl (fun w hs => ?_)
    refine WL.nil ?_
    refine hK6 _ _ ?_
    have hs := (hs.front 1 rfl).pick [2, 3]
    have hs : St ok F w [vl (tSlice t_api_Effect) u.Effects (.slice a2 u.Effects.length c2), vl t_api_Update u (.agg [.int .i64 u.Client, .int .i64 u.Seq, .int .i64 u.Tag, .slice a u.Effects.length c].toArray)] [bldo FKf g x, blk g5 72 (ecells e), blk g3 75 [.int .i64 u.Client, .int .i64 u.Seq, .int .i64 u.Tag, .slice a u.Effects.length c]] := hs
    refine W.seqK fun K7 hK7 => ?_
    obtain ⟨fs, hfs⟩ := fold_with_at x e.Object
    have Jin : ∀ (C : List (BE fold_Field) → Prop) (ρ : Env) (w : World), ρ 0 = .map (some g) → ρ 3 = .pointer (some ⟨g3, 0, none⟩) → ρ 5 = .pointer (some ⟨g5, 0, none⟩) → ρ 10 = .slice a2 u.Effects.length c2 → ρ 11 = .int .i64 (u.Effects.length : Int) → ρ 12 = .int .i64 i →
        St ok F w [vl (tSlice t_api_Effect) u.Effects (.slice a2 u.Effects.length c2), vl t_api_Update u (.agg [.int .i64 u.Client, .int .i64 u.Seq, .int .i64 u.Tag, .slice a u.Effects.length c].toArray)] [bldc FKf C g (fold_with x e.Object), blk g5 72 (ecells e), blk g3 75 [.int .i64 u.Client, .int .i64 u.Seq, .int .i64 u.Tag, .slice a u.Effects.length c]] → K7 ρ w := by
      intro C ρ w h0 h3 h5 h10 h11 h12 hs
      refine hK7 _ _ ?_
      refine W.seqK fun K9 hK9 => ?_
      have core : ∀ (O : LObj) (y0 : fold_Field) (a3 : Option Addr) (n3 c3 g6 : Nat) (ρ : Env) (w : World), fold_at (fold_with x e.Object) e.Object e.Field = y0 → FinO g (fold_with x e.Object) e.Object e.Field fs O →
          ρ 0 = .map (some g) → ρ 3 = .pointer (some ⟨g3, 0, none⟩) → ρ 5 = .pointer (some ⟨g5, 0, none⟩) → ρ 6 = .pointer (some ⟨g6, 0, none⟩) → ρ 10 = .slice a2 u.Effects.length c2 → ρ 11 = .int .i64 (u.Effects.length : Int) → ρ 12 = .int .i64 i →
          St ok F w [vl (tSlice t_api_Effect) u.Effects (.slice a2 u.Effects.length c2), vl t_api_Update u (.agg [.int .i64 u.Client, .int .i64 u.Seq, .int .i64 u.Tag, .slice a u.Effects.length c].toArray)]
            [own tStr 9 (.slice a3 n3 c3) y0.Elems, O, blk g6 61 (fcells y0 (.slice a3 n3 c3)), blk g5 72 (ecells e), blk g3 75 [.int .i64 u.Client, .int .i64 u.Seq, .int .i64 u.Tag, .slice a u.Effects.length c]] → K9 ρ w := by
        intro O y0 a3 n3 c3 g6 ρ w hat hO h0 h3 h5 h6 h10 h11 h12 hs
        rw [hat] at hy'
        obtain ⟨y1, ey1⟩ : ∃ y1 : fold_Field, y1 = { y0 with Name := e.Field } := ⟨_, rfl⟩
        rw [← ey1] at hy'
        have eE : y0.Elems = y1.Elems := by rw [ey1]
        have eN : y1.Name = e.Field := by rw [ey1]
        have eS : setAt (fcells y0 (.slice a3 n3 c3)) 0 [bstr e.Field] = fcells y1 (.slice a3 n3 c3) := by rw [ey1]; rfl
        rw [eE] at hs
        refine hK9 _ _ ?_
        refine W.seqK fun K10 hK10 => ?_
        refine W.region ?_
        refine WL.fieldAddr (m := 2) h5 FA72_2 rfl ?_
        refine WL.load1 (v := bstr e.Field) hs 3 rfl TI9 rfl rfl ?_
        refine WL.fieldAddr (m := 0) h6 FA61_0 rfl ?_
        refine WL.store (vs := [bstr e.Field]) (cs' := fcells y1 (.slice a3 n3 c3)) hs 2 rfl TI9 rfl rfl rfl rfl (ones_of rfl) (Nat.le_of_ble_eq_true rfl) eS (fun w hs => ?_)
        refine WL.nil ?_
        refine hK10 _ _ ?_
        clear ey1 eE eS hat
        refine W.seqK fun K11 hK11 => ?_
        -- put back
        have Jset : ∀ (y' : fold_Field) (a4 : Option Addr) (n4 c4 : Nat) (ρ : Env) (w : World), fold_upd u e y1 = some y' → y'.Name = e.Field →
            ρ 0 = .map (some g) → ρ 3 = .pointer (some ⟨g3, 0, none⟩) → ρ 5 = .pointer (some ⟨g5, 0, none⟩) → ρ 6 = .pointer (some ⟨g6, 0, none⟩) → ρ 10 = .slice a2 u.Effects.length c2 → ρ 11 = .int .i64 (u.Effects.length : Int) → ρ 12 = .int .i64 i →
            St ok F w [vl (tSlice t_api_Effect) u.Effects (.slice a2 u.Effects.length c2), vl t_api_Update u (.agg [.int .i64 u.Client, .int .i64 u.Seq, .int .i64 u.Tag, .slice a u.Effects.length c].toArray)]
              [own tStr 9 (.slice a4 n4 c4) y'.Elems, O, blk g6 61 (fcells y' (.slice a4 n4 c4)), blk g5 72 (ecells e), blk g3 75 [.int .i64 u.Client, .int .i64 u.Seq, .int .i64 u.Tag, .slice a u.Effects.length c]] → K11 ρ w := by
          intro y2 a4 n4 c4 ρ w hup hn h0 h3 h5 h6 h10 h11 h12 hs
          rw [hup] at hy'
          have hy' := Option.some.inj hy'
          subst hy'
          refine hK11 _ _ ?_
          refine W.region ?_
          refine WL.move (v := .map (some g)) h0 ?_
          refine WL.fieldAddr (m := 1) h5 FA72_1 rfl ?_
          refine WL.load1 (v := bstr e.Object) hs 3 rfl TI9 rfl rfl ?_
          have hones : ∀ u ∈ FKf.fc y2 (.slice a4 n4 c4), u.oneCell' = true := ones_of rfl
          rcases hO with ⟨h, rfl, hc1, hk, hfy, hf1, hb1⟩ | ⟨C, rfl, hnone⟩
          · have hs := hs.front 1 rfl
            refine WL.holeLook FKf (h := h) hs (kkStr UN9) UN91 rfl (by rw [hk]; rfl) ZR100 (by rw [hk]; exact hb1) ?_
            refine WL.fieldAddr (m := 2) h5 FA72_2 rfl ?_
            refine WL.load1 (v := bstr e.Field) hs 3 rfl TI9 rfl rfl ?_
            refine WL.loadN (vs := fcells y2 (.slice a4 n4 c4)) hs 2 rfl TI61 h6 rfl rfl ?_
            have hs := hs.front 1 rfl
            refine WL.bldGive (K := FKf) (h := h) (y' := y2) (v' := .slice a4 n4 c4) hs (kkStr UN9) UN100 rfl (by show _ = bstr h.y.Name; rw [← hfy]; rfl) rfl (hn.trans hfy) rfl hones (by rw [hk]; exact hb1) (fun q hq => by show h.y.Name ≠ _; rw [← hfy]; exact hf1 q hq) (fun w hs => ?_)
            refine WL.nil ?_
            have hcont := hole_cont (K := FKf) (h := h) (y' := y2) (v' := .slice a4 n4 c4) hc1 (fs := fs) (by rw [hk]; exact hfs) (hn.trans hfy) (by rw [hk]; exact hb1) (fun q hq => by show h.y.Name ≠ _; rw [← hfy]; exact hf1 q hq)
            rw [hcont] at hs
            refine Jend _ _ h0 h3 h10 h11 h12 ?_
            rw [← hx']
            have e1 : fold_set (fold_with x e.Object) e.Object y2 = mset (fold_with x e.Object) h.k (fput FKf.nm y2 fs) := by
              unfold fold_set
              rw [hfs, hk]
              rfl
            rw [e1]
            exact (hs.mask [true, false, false, true]).bldWeak
          · have hs := hs.front 1 rfl
            refine WL.bldLook FKf (k := e.Object) hs (kkStr UN9) UN91 rfl rfl ZR100 (fun hno hs => ?_) (fun fs2 gi hfs2 hs => ?_)
            · rw [hfs] at hno; cases hno
            · rw [hfs] at hfs2
              have hfs2 := Option.some.inj hfs2
              subst hfs2
              refine WL.fieldAddr (m := 2) h5 FA72_2 rfl ?_
              refine WL.load1 (v := bstr e.Field) hs 3 rfl TI9 rfl rfl ?_
              refine WL.loadN (vs := fcells y2 (.slice a4 n4 c4)) hs 2 rfl TI61 h6 rfl rfl ?_
              have hs := hs.front 1 rfl
              refine WL.bldAdd (K := FKf) (k := e.Object) (y' := y2) (v' := .slice a4 n4 c4) hs (kkStr UN9) UN100 rfl (by show _ = bstr y2.Name; rw [hn]; rfl) rfl rfl hones hfs (by rw [show (fun q => FKf.nm y2 == FKf.nm q) = (fun q : fold_Field => e.Field == q.Name) from funext fun q => by show (y2.Name == q.Name) = _; rw [hn]]; exact hnone) (fun w hs => ?_)
              refine WL.nil ?_
              refine Jend _ _ h0 h3 h10 h11 h12 ?_
              rw [← hx']
              have e1 : fold_set (fold_with x e.Object) e.Object y2 = mset (fold_with x e.Object) e.Object (fput FKf.nm y2 fs) := by
                unfold fold_set
                rw [hfs]
                rfl
              rw [e1]
              exact (hs.mask [true, false, false, true]).bldWeak
        refine W.seqK fun K12 hK12 => ?_
        refine W.region ?_
        refine WL.fieldAddr (m := 0) h5 FA72_0 rfl ?_
        refine WL.load1 (v := .int .i64 e.Kind) hs 3 rfl TI3 rfl rfl ?_
        refine WL.nil ?_
        refine hK12 _ _ ?_
        refine W.block ?_
        have hup := hy'
        unfold fold_upd at hup
        refine W.seqK fun K13 hK13 => ?_
        refine W.region ?_
        refine WL.bin (v := .bool (e.Kind == 1)) rfl rfl (ib_eql _ _ _) ?_
        refine WL.assign (v := .bool (e.Kind == 1)) rfl ?_
        refine WL.nil ?_
        refine hK13 _ _ ?_
        rcases iteE hup with ⟨hk1, hup⟩ | ⟨hk1, hup⟩
        · refine W.cond_true (bool_tr rfl hk1) ?_
          obtain ⟨b, hb, hup⟩ := bindE hup
          refine W.seqK fun K14 hK14 => ?_
          refine W.region ?_
          refine WL.loadAll hs 4 rfl TI75 h3 rfl ?_
          refine WL.fieldAddr (m := 1) h6 FA61_1 rfl ?_
          refine WL.loadN (vs := rcells y1.Register) hs 2 rfl TI58 rfl rfl rfl ?_
          refine WL.call (vs := [.agg [.int .i64 u.Client, .int .i64 u.Seq, .int .i64 u.Tag, .slice a u.Effects.length c].toArray, .agg (rcells y1.Register).toArray]) hs FN57 ⟨rfl, rfl, trivial⟩ (fun ok hA => fold_newer.calls (x1 := u) (x5 := y1.Register) hb (hA.get 1 rfl) (V_agg (regR ok _ _) rfl)) ?_
          rintro _ w hs
          refine WL.nil ?_
          refine hK14 _ _ ?_
          cases b with
          | true =>
            refine W.cond_true rfl ?_
            refine W.region ?_
            refine WL.fieldAddr (m := 2) h3 FA75_2 rfl ?_
            refine WL.load1 (v := .int .i64 u.Tag) hs 4 rfl TI3 rfl rfl ?_
            refine WL.fieldAddr (m := 0) h3 FA75_0 rfl ?_
            refine WL.load1 (v := .int .i64 u.Client) hs 4 rfl TI3 rfl rfl ?_
            refine WL.fieldAddr (m := 1) h3 FA75_1 rfl ?_
            refine WL.load1 (v := .int .i64 u.Seq) hs 4 rfl TI3 rfl rfl ?_
            refine WL.fieldAddr (m := 3) h5 FA72_3 rfl ?_
            refine WL.load1 (v := .int .i64 e.N) hs 3 rfl TI2 rfl rfl ?_
            refine WL.fieldAddr (m := 4) h5 FA72_4 rfl ?_
            refine WL.load1 (v := bstr e.S) hs 3 rfl TI9 rfl rfl ?_
            refine WL.build (vs := [(0, .bool true), (1, .int .i64 u.Tag), (2, .int .i64 u.Client), (3, .int .i64 u.Seq), (4, .int .i64 e.N), (5, bstr e.S)]) (cs := rcells ⟨true, u.Tag, u.Client, u.Seq, e.N, e.S⟩) ⟨⟨rfl, rfl⟩, ⟨rfl, rfl⟩, ⟨rfl, rfl⟩, ⟨rfl, rfl⟩, ⟨rfl, rfl⟩, ⟨rfl, rfl⟩, trivial⟩ (bld PL58 rfl) ?_
            refine WL.fieldAddr (m := 1) h6 FA61_1 rfl ?_
            refine WL.store (vs := rcells ⟨true, u.Tag, u.Client, u.Seq, e.N, e.S⟩) (cs' := fcells { y1 with Register := ⟨true, u.Tag, u.Client, u.Seq, e.N, e.S⟩ } (.slice a3 n3 c3)) hs 2 rfl TI58 rfl rfl rfl rfl (ones_of rfl) (Nat.le_of_ble_eq_true rfl) rfl (fun w hs => ?_)
            refine WL.nil ?_
            have hup := Option.some.inj hup
            subst hup
            exact Jset _ a3 n3 c3 _ _ hy' eN h0 h3 h5 h6 h10 h11 h12 hs
          | false =>
            refine W.cond_false rfl ?_
            refine W.skip ?_
            have hup := Option.some.inj hup
            subst hup
            exact Jset _ a3 n3 c3 _ _ hy' eN h0 h3 h5 h6 h10 h11 h12 hs
        · refine W.cond_false (bool_tr rfl hk1) ?_
          refine W.seqK fun K15 hK15 => ?_
          refine W.region ?_
          refine WL.bin (v := .bool (e.Kind == 2)) rfl rfl (ib_eql _ _ _) ?_
          refine WL.assign (v := .bool (e.Kind == 2)) rfl ?_
          refine WL.nil ?_
          refine hK15 _ _ ?_
          rcases iteE hup with ⟨hk2, hup⟩ | ⟨hk2, hup⟩
          · refine W.cond_true (bool_tr rfl hk2) ?_
            refine W.seqK fun K16 hK16 => ?_
            have J16 : ∀ (ρ : Env) (w : World), some { y1 with HasMax := true, Max := e.N } = some y' → ρ 66 = .bool true → ρ 0 = .map (some g) → ρ 3 = .pointer (some ⟨g3, 0, none⟩) → ρ 5 = .pointer (some ⟨g5, 0, none⟩) → ρ 6 = .pointer (some ⟨g6, 0, none⟩) → ρ 10 = .slice a2 u.Effects.length c2 → ρ 11 = .int .i64 (u.Effects.length : Int) → ρ 12 = .int .i64 i →
                St ok F w [vl (tSlice t_api_Effect) u.Effects (.slice a2 u.Effects.length c2), vl t_api_Update u (.agg [.int .i64 u.Client, .int .i64 u.Seq, .int .i64 u.Tag, .slice a u.Effects.length c].toArray)] [own tStr 9 (.slice a3 n3 c3) y1.Elems, O, blk g6 61 (fcells y1 (.slice a3 n3 c3)), blk g5 72 (ecells e), blk g3 75 [.int .i64 u.Client, .int .i64 u.Seq, .int .i64 u.Tag, .slice a u.Effects.length c]] → K16 ρ w := by
              intro ρ w hup h66 h0 h3 h5 h6 h10 h11 h12 hs
              refine hK16 _ _ ?_
              refine W.cond_true h66 ?_
              have hs := hs.front 2 rfl
              refine W.any (by kernel_rfl) 4 2 [true, true, true, true, false, false] rfl rfl (poAt [pv (.pointer (some ⟨g5, 3, none⟩)), pv (.int .i64 e.N), pv (.pointer (some ⟨g6, 7, none⟩)), pw (blk g6 61 (fcells y1 (.slice a3 n3 c3))) (blk g6 61 (fcells { y1 with HasMax := true } (.slice a3 n3 c3)))])
                (Λ := [own tStr 9 (.slice a3 n3 c3) y1.Elems, O, blk g5 72 (ecells e), blk g3 75 [.int .i64 u.Client, .int .i64 u.Seq, .int .i64 u.Tag, .slice a u.Effects.length c]]) hs (by kernel_rfl) (by kernel_rfl) (by kernel_rfl) ⟨⟨⟨⟨trivial, ?_⟩, ?_⟩, ?_⟩, ?_⟩ ?_
              · intro ρ w Γx Λx hs hu hp
                refine WL.fieldAddr (m := 3) ((hu 5 rfl).trans h5) FA72_3 rfl ?_
                exact WL.nil ⟨rfl, _, rfl, rfl, hs.cutG 0 0⟩
              · intro ρ w Γx Λx hs hu hp
                have e1 : ρ 67 = .pointer (some ⟨g5, 3, none⟩) := (hp 0 rfl).1
                refine WL.load1 (v := .int .i64 e.N) hs (Λx.length + 2) (getApp rfl) TI2 e1 rfl ?_
                exact WL.nil ⟨rfl, _, rfl, rfl, hs.cutG 0 0⟩
              · intro ρ w Γx Λx hs hu hp
                refine WL.fieldAddr (m := 7) ((hu 6 rfl).trans h6) FA61_2 rfl ?_
                exact WL.nil ⟨rfl, _, rfl, rfl, hs.cutG 0 0⟩
              · intro ρ w Γx Λx hs hu hp
                have e1 : ρ 69 = .pointer (some ⟨g6, 7, none⟩) := (hp 2 rfl).1
                refine WL.store (vs := [.bool true]) (cs' := fcells { y1 with HasMax := true } (.slice a3 n3 c3)) hs (Λx.length + 0) (getApp rfl) TI4 e1 rfl rfl rfl (ones_of rfl) (Nat.le_of_ble_eq_true rfl) rfl (fun w hs => ?_)
                exact WL.nil ⟨rfl, _, rfl, trivial, hs.backP.cutG 0 0⟩
              · intro ρ w hs hu hp
                obtain ⟨⟨⟨⟨_, hp0⟩, hp1⟩, hp2⟩, hp3⟩ := hp
                have hs : St ok F w [vl (tSlice t_api_Effect) u.Effects (.slice a2 u.Effects.length c2), vl t_api_Update u (.agg [.int .i64 u.Client, .int .i64 u.Seq, .int .i64 u.Tag, .slice a u.Effects.length c].toArray)] [blk g6 61 (fcells { y1 with HasMax := true } (.slice a3 n3 c3)), own tStr 9 (.slice a3 n3 c3) y1.Elems, O, blk g5 72 (ecells e), blk g3 75 [.int .i64 u.Client, .int .i64 u.Seq, .int .i64 u.Tag, .slice a u.Effects.length c]] := hs
                have e1 : ρ 68 = .int .i64 e.N := hp1
                refine WA.step [4] (by kernel_rfl) (by simp) ⟨?_, trivial⟩
                refine WL.fieldAddr (m := 8) ((hu 6 rfl).trans h6) FA61_3 rfl ?_
                refine WL.nil ⟨rfl, _, rfl, ?_⟩
                refine WA.step [5] (by kernel_rfl) (by simp) ⟨?_, trivial⟩
                refine WL.store (vs := [.int .i64 e.N]) (cs' := fcells { y1 with HasMax := true, Max := e.N } (.slice a3 n3 c3)) hs 0 rfl TI2 rfl e1 rfl rfl (ones_of rfl) (Nat.le_of_ble_eq_true rfl) rfl (fun w hs => ?_)
                refine WL.nil ⟨rfl, _, rfl, ?_⟩
                refine WA.done (by kernel_rfl) ?_
                have hup := Option.some.inj hup
                subst hup
                exact Jset _ a3 n3 c3 _ _ hy' eN ((hu 0 rfl).trans h0) ((hu 3 rfl).trans h3) ((hu 5 rfl).trans h5) ((hu 6 rfl).trans h6) ((hu 10 rfl).trans h10) ((hu 11 rfl).trans h11) ((hu 12 rfl).trans h12) ((hs.front 2 rfl).front 2 rfl)
            refine W.region ?_
            refine WL.fieldAddr (m := 7) h6 FA61_2 rfl ?_
            refine WL.load1 (v := .bool y1.HasMax) hs 2 rfl TI4 rfl rfl ?_
            refine WL.not rfl ?_
            refine WL.move (v := .bool (!y1.HasMax)) rfl ?_
            rcases iteE hup with ⟨hm, hup⟩ | ⟨hm, hup⟩
            · refine WL.pass ((wanted_of rfl rfl (bool_tr rfl hm)).trans rfl) rfl ?_
              refine WL.pass ((wanted_of rfl rfl (bool_tr rfl hm)).trans rfl) rfl ?_
              refine WL.pass ((wanted_of rfl rfl (bool_tr rfl hm)).trans rfl) rfl ?_
              refine WL.pass ((wanted_of rfl rfl (bool_tr rfl hm)).trans rfl) rfl ?_
              refine WL.pass ((wanted_of rfl rfl (bool_tr rfl hm)).trans rfl) rfl ?_
              refine WL.pickT (v := .bool true) (bool_tr rfl hm) rfl ?_
              refine WL.nil ?_
              exact J16 _ _ hup rfl h0 h3 h5 h6 h10 h11 h12 hs
            · refine WL.fieldAddr (m := 8) h6 FA61_3 rfl ?_ (hg := (wanted_of rfl rfl (bool_tr rfl hm)).trans rfl)
              refine WL.load1 (v := .int .i64 y1.Max) hs 2 rfl TI2 rfl rfl ?_ (hg := (wanted_of rfl rfl (bool_tr rfl hm)).trans rfl)
              refine WL.fieldAddr (m := 3) h5 FA72_3 rfl ?_ (hg := (wanted_of rfl rfl (bool_tr rfl hm)).trans rfl)
              refine WL.load1 (v := .int .i64 e.N) hs 3 rfl TI2 rfl rfl ?_ (hg := (wanted_of rfl rfl (bool_tr rfl hm)).trans rfl)
              refine WL.bin (v := .bool (decide (y1.Max < e.N))) rfl rfl (ib_lss _ _ _) ?_ (hg := (wanted_of rfl rfl (bool_tr rfl hm)).trans rfl)
              refine WL.pickF (v := .bool (decide (y1.Max < e.N))) (bool_tr rfl hm) rfl ?_
              refine WL.nil ?_
              rcases iteE hup with ⟨hm2, hup⟩ | ⟨hm2, hup⟩
              · exact J16 _ _ hup (bool_tr rfl hm2) h0 h3 h5 h6 h10 h11 h12 hs
              · refine hK16 _ _ ?_
                refine W.cond_false (bool_tr rfl hm2) ?_
                refine W.skip ?_
                have hup := Option.some.inj hup
                subst hup
                exact Jset _ a3 n3 c3 _ _ hy' eN h0 h3 h5 h6 h10 h11 h12 hs
          · refine W.cond_false (bool_tr rfl hk2) ?_
            refine W.seqK fun K17 hK17 => ?_
            refine W.region ?_
            refine WL.bin (v := .bool (e.Kind == 3)) rfl rfl (ib_eql _ _ _) ?_
            refine WL.assign (v := .bool (e.Kind == 3)) rfl ?_
            refine WL.nil ?_
            refine hK17 _ _ ?_
            rcases iteE hup with ⟨hk3, hup⟩ | ⟨hk3, hup⟩
            · refine W.cond_true (bool_tr rfl hk3) ?_
              refine W.region ?_
              refine WL.fieldAddr (m := 9) h6 FA61_4 rfl ?_
              refine WL.load1 (v := .int .i64 y1.Sum) hs 2 rfl TI2 rfl rfl ?_
              refine WL.fieldAddr (m := 3) h5 FA72_3 rfl ?_
              refine WL.load1 (v := .int .i64 e.N) hs 3 rfl TI2 rfl rfl ?_
              refine WL.bin (v := .int .i64 (IntKind.i64.wrap (y1.Sum + e.N))) rfl rfl (ib_add _ _ _) ?_
              refine WL.fieldAddr (m := 9) h6 FA61_4 rfl ?_
              refine WL.store (vs := [.int .i64 (IntKind.i64.wrap (y1.Sum + e.N))]) (cs' := fcells { y1 with Sum := IntKind.i64.wrap (y1.Sum + e.N) } (.slice a3 n3 c3)) hs 2 rfl TI2 rfl rfl rfl rfl (ones_of rfl) (Nat.le_of_ble_eq_true rfl) rfl (fun w hs => ?_)
              refine WL.nil ?_
              have hup := Option.some.inj hup
              subst hup
              exact Jset _ a3 n3 c3 _ _ hy' eN h0 h3 h5 h6 h10 h11 h12 hs
            · refine W.cond_false (bool_tr rfl hk3) ?_
              refine W.seqK fun K18 hK18 => ?_
              refine W.region ?_
              refine WL.bin (v := .bool (e.Kind == 4)) rfl rfl (ib_eql _ _ _) ?_
              refine WL.assign (v := .bool (e.Kind == 4)) rfl ?_
              refine WL.nil ?_
              refine hK18 _ _ ?_
              rcases iteE hup with ⟨hk4, hup⟩ | ⟨hk4, hup⟩
              · refine W.cond_true (bool_tr rfl hk4) ?_
                obtain ⟨l, hlO, hup⟩ := bindE hup
                unfold insO at hlO
                obtain ⟨⟨hasc, hlen⟩, hlO⟩ := guardE hlO
                have hlO := Option.some.inj hlO
                have hup := Option.some.inj hup
                subst hup
                have hns := insS_pos y1.Elems e.S
                refine W.seqK fun K19 hK19 => ?_
                refine W.region ?_
                refine WL.fieldAddr (m := 10) h6 FA61_5 rfl ?_
                refine WL.load1 (v := .slice a3 n3 c3) hs 2 rfl TI59 rfl rfl ?_
                refine WL.fieldAddr (m := 4) h5 FA72_4 rfl ?_
                refine WL.load1 (v := bstr e.S) hs 3 rfl TI9 rfl rfl ?_
                refine WL.callR (vs := [.slice a3 n3 c3, bstr e.S]) (R := fun v w' => v = .tuple ([.int .i64 (posS y1.Elems e.S : Nat), .bool (decide (posS y1.Elems e.S < y1.Elems.length ∧ y1.Elems.getD (posS y1.Elems e.S) e.S = e.S))] : List Value).toArray ∧ St ok F w' [vl (tSlice t_api_Effect) u.Effects (.slice a2 u.Effects.length c2), vl t_api_Update u (.agg [.int .i64 u.Client, .int .i64 u.Seq, .int .i64 u.Tag, .slice a u.Effects.length c].toArray)] [own tStr 9 (.slice a3 n3 c3) y1.Elems, O, blk g6 61 (fcells y1 (.slice a3 n3 c3)), blk g5 72 (ecells e), blk g3 75 [.int .i64 u.Client, .int .i64 u.Seq, .int .i64 u.Tag, .slice a u.Effects.length c]])
                  FN58 ⟨rfl, rfl, trivial⟩ ((bsearch_own lay_bs (s := e.S) hs 0 rfl hasc (by omega)).mono (by rintro e' w' ⟨rfl, q, rfl⟩; exact ⟨_, rfl, rfl, hs.drewN q⟩)) ?_
                rintro _ w ⟨rfl, hs⟩
                refine WL.move rfl ?_
                refine WL.extract rfl rfl ?_
                refine WL.extract rfl rfl ?_
                refine WL.assign (v := .int .i64 (posS y1.Elems e.S : Nat)) rfl ?_
                refine WL.assign (v := .bool (decide (posS y1.Elems e.S < y1.Elems.length ∧ y1.Elems.getD (posS y1.Elems e.S) e.S = e.S))) rfl ?_
                refine WL.nil ?_
                refine hK19 _ _ ?_
                refine W.seqK fun K20 hK20 => ?_
                refine W.region ?_
                refine WL.move (v := .bool (decide (posS y1.Elems e.S < y1.Elems.length ∧ y1.Elems.getD (posS y1.Elems e.S) e.S = e.S))) rfl ?_
                refine WL.not rfl ?_
                refine WL.nil ?_
                refine hK20 _ _ ?_
                by_cases hfd : posS y1.Elems e.S < y1.Elems.length ∧ y1.Elems.getD (posS y1.Elems e.S) e.S = e.S
                · rw [if_pos hfd, hlO] at hns
                  refine W.cond_false (bool_tr rfl (by rw [decide_eq_true hfd]; rfl)) ?_
                  refine W.skip ?_
                  exact Jset _ a3 n3 c3 _ _ hy' eN h0 h3 h5 h6 h10 h11 h12 (by rw [hns]; exact hs)
                · rw [if_neg hfd, hlO] at hns
                  refine W.cond_true (bool_tr rfl (by rw [decide_eq_false hfd]; rfl)) ?_
                  refine W.region ?_
                  refine WL.fieldAddr (m := 10) h6 FA61_5 rfl ?_
                  refine WL.load1 (v := .slice a3 n3 c3) hs 2 rfl TI59 rfl rfl ?_
                  refine WL.move (v := .int .i64 (posS y1.Elems e.S : Nat)) rfl ?_
                  refine WL.fieldAddr (m := 4) h5 FA72_4 rfl ?_
                  refine WL.load1 (v := bstr e.S) hs 3 rfl TI9 rfl rfl ?_
                  refine WL.buildSlice (n := 1) (vs := [(0, bstr e.S)]) (cs := [bstr e.S]) hs ⟨⟨rfl, rfl⟩, trivial⟩ (bls PS59 (by decide) rfl) (fun gl w hs => ?_)
                  refine WL.callR (vs := [.slice a3 n3 c3, .int .i64 (posS y1.Elems e.S : Nat), .slice (some ⟨gl, 0, none⟩) 1 1]) (R := fun v w' => St ok F w' [vl (tSlice t_api_Effect) u.Effects (.slice a2 u.Effects.length c2), vl t_api_Update u (.agg [.int .i64 u.Client, .int .i64 u.Seq, .int .i64 u.Tag, .slice a u.Effects.length c].toArray)] [own tStr 9 v l, O, blk g6 61 (fcells y1 (.slice a3 n3 c3)), blk g5 72 (ecells e), blk g3 75 [.int .i64 u.Client, .int .i64 u.Seq, .int .i64 u.Tag, .slice a u.Effects.length c]])
                    FN59 ⟨rfl, rfl, rfl, trivial⟩ ((insert_own lay_ins rfl (s := e.S) (k := posS y1.Elems e.S) hs 0 rfl (posS_le _ _) (by omega)).mono (by rintro e' w' ⟨v', rfl, hs'⟩; refine ⟨v', rfl, ?_⟩; rw [hns]; exact hs')) ?_
                  rintro v w hs
                  obtain ⟨a4, n4, c4, rfl⟩ := hs.ownv3 0 rfl
                  refine WL.fieldAddr (m := 10) h6 FA61_5 rfl ?_
                  refine WL.store (vs := [.slice a4 n4 c4]) (cs' := fcells { y1 with Elems := l } (.slice a4 n4 c4)) hs 2 rfl TI59 rfl rfl rfl rfl (ones_of rfl) (Nat.le_of_ble_eq_true rfl) rfl (fun w hs => ?_)
                  refine WL.nil ?_
                  exact Jset _ a4 n4 c4 _ _ hy' eN h0 h3 h5 h6 h10 h11 h12 hs
              · refine W.cond_false (bool_tr rfl hk4) ?_
                refine W.seqK fun K21 hK21 => ?_
                refine W.region ?_
                refine WL.bin (v := .bool (e.Kind == 5)) rfl rfl (ib_eql _ _ _) ?_
                refine WL.assign (v := .bool (e.Kind == 5)) rfl ?_
                refine WL.nil ?_
                refine hK21 _ _ ?_
                rcases iteE hup with ⟨hk5, hup⟩ | ⟨hk5, hup⟩
                · refine W.cond_true (bool_tr rfl hk5) ?_
                  refine W.region ?_
                  refine WL.fieldAddr (m := 11) h6 FA61_6 rfl ?_
                  refine WL.store (vs := [.bool true]) (cs' := fcells { y1 with Flag := true } (.slice a3 n3 c3)) hs 2 rfl TI4 rfl rfl rfl rfl (ones_of rfl) (Nat.le_of_ble_eq_true rfl) rfl (fun w hs => ?_)
                  refine WL.nil ?_
                  have hup := Option.some.inj hup
                  subst hup
                  exact Jset _ a3 n3 c3 _ _ hy' eN h0 h3 h5 h6 h10 h11 h12 hs
                · refine W.cond_false (bool_tr rfl hk5) ?_
                  refine W.skip ?_
                  have hup := Option.some.inj hup
                  subst hup
                  exact Jset _ a3 n3 c3 _ _ hy' eN h0 h3 h5 h6 h10 h11 h12 hs
      refine W.region ?_
      refine WL.move (v := .map (some g)) h0 ?_
      refine WL.fieldAddr (m := 1) h5 FA72_1 rfl ?_
      refine WL.load1 (v := bstr e.Object) hs 1 rfl TI9 rfl rfl ?_
      refine WL.bldLook FKf (k := e.Object) hs (kkStr UN9) UN91 rfl rfl ZR100 (fun hno hs => ?_) (fun fs2 gi hfs2 hs => ?_)
      · rw [hfs] at hno; cases hno
      · rw [hfs] at hfs2
        have hfs2 := Option.some.inj hfs2
        subst hfs2
        refine WL.fieldAddr (m := 2) h5 FA72_2 rfl ?_
        refine WL.load1 (v := bstr e.Field) hs 1 rfl TI9 rfl rfl ?_
        refine WL.bldTake (K := FKf) (k := e.Object) (f := e.Field) (z := fcells fold_zero (.slice none 0 0)) hs (kkStr UN9) UN100 rfl rfl ZR61 rfl (ones_of rfl) hfs (fun hn hs => ?_) (fun h hy hx hk hgi hfe hf1 hb1 hs => ?_)
        · have hs := hs.ownNil tStr 9
          refine WL.alloc hs ZV61 (fun g6 w hs => ?_)
          refine WL.storeAll (vs := fcells fold_zero (.slice none 0 0)) hs 0 rfl TI61 rfl rfl rfl rfl (ones_of rfl) rfl (fun w hs => ?_)
          refine WL.nil ?_
          refine core _ fold_zero none 0 0 g6 _ _ ?_ (.inr ⟨_, rfl, hn⟩) h0 h3 h5 rfl h10 h11 h12 ((hs.front 2 rfl).front 2 rfl)
          unfold fold_at
          rw [hfs]
          show (fs.find? _).getD _ = _
          have hn' : fs.find? (fun q => e.Field == q.Name) = none := hn
          rw [hn']
          rfl
        · obtain ⟨a3, n3, c3, hv⟩ := hs.ownv3 0 rfl
          rw [hv] at hs ⊢
          refine WL.alloc hs ZV61 (fun g6 w hs => ?_)
          refine WL.storeAll (vs := fcells h.y (.slice a3 n3 c3)) hs 0 rfl TI61 rfl rfl rfl rfl (ones_of rfl) rfl (fun w hs => ?_)
          refine WL.nil ?_
          refine core _ h.y a3 n3 c3 g6 _ _ ?_ (.inl ⟨h, rfl, hx, hk, hfe, hf1, hb1⟩) h0 h3 h5 rfl h10 h11 h12 ((hs.front 2 rfl).front 2 rfl)
          unfold fold_at
          rw [hfs]
          show (fs.find? _).getD _ = _
          have hy2 : fs.find? (fun q => e.Field == q.Name) = some h.y := hy
          rw [hy2]
          rfl
    refine W.seqK fun K8 hK8 => ?_
    refine W.region ?_
    refine WL.move (v := .map (some g)) h0 ?_
    refine WL.fieldAddr (m := 1) rfl FA72_1 rfl ?_
    refine WL.load1 (v := bstr e.Object) hs 1 rfl TI9 rfl rfl ?_
    refine WL.bldLook FKf (k := e.Object) hs (kkStr UN9) UN91 rfl rfl ZR100 (fun hno hs => ?_) (fun fs2 gi hfs2 hs => ?_)
    · refine WL.nilEqM UN100 rfl ?_
      refine WL.nil ?_
      refine hK8 _ _ ?_
      refine W.cond_true rfl ?_
      refine W.region ?_
      refine WL.move (v := .map (some g)) h0 ?_
      refine WL.fieldAddr (m := 1) rfl FA72_1 rfl ?_
      refine WL.load1 (v := bstr e.Object) hs 1 rfl TI9 rfl rfl ?_
      refine WL.makeMap bstr (tRaw FKf.n) hs (fun gi w hs => ?_)
      refine WL.bldPut (K := FKf) (k := e.Object) hs (kkStr UN9) UN91 rfl rfl rfl hno (fun w hs => ?_)
      refine WL.nil ?_
      refine Jin (At e.Object gi) _ _ h0 h3 rfl h10 h11 h12 ?_
      have e1 : fold_with x e.Object = x ++ [(e.Object, [])] := by
        unfold fold_with
        rw [hno]
        rfl
      rw [e1]
      exact hs
    · refine WL.nilEqM UN100 rfl ?_
      refine WL.nil ?_
      refine hK8 _ _ ?_
      refine W.cond_false rfl ?_
      refine W.skip ?_
      refine Jin (At e.Object gi) _ _ h0 h3 rfl h10 h11 h12 ?_
      have e1 : fold_with x e.Object = x := by
        unfold fold_with
        rw [hfs2]
        rfl
      rw [e1]
      exact hs
  · refine W.cond_false (bool_tr rfl hc) ?_
    refine W.exit ?_
    have hr := Option.some.inj hf; subst hr
    have hr := hbb _ rfl; subst hr
    exact ⟨_, resOk_none rfl, (), rfl, (hs.mask [true]).pick []⟩
theorem fold_load.calls {ok : Nat → Prop} {w0 : World} {t : fold_Store} {vt : Value} {r : fold_B} (hf : fold_load t = some r) (i0 : (vl t_fold_Store t vt).holds ok w0) :
    Calls Try.prog 51 #[vt] w0 fun e w' => ∃ v, e = .returned v ∧ ∃ g : Nat, v = .map (some g) ∧ St ok (bz w0) w' [] [bldo FKf g r] := by
  unfold fold_load at hf
  have hs : St ok (bz w0) w0 [vl t_fold_Store t vt] [] := St.init (All.cons i0 All.nil)
  clear i0
  obtain ⟨cs, hl, rfl⟩ := hs.aggv (n := 1) 0 rfl rfl rfl
  refine calls_of_W (fn := Try.f51) (N := 40) Try.func51 rfl Try.ntmps51 rfl ?_
  refine W.seqK fun K1 hK1 => ?_
  refine W.region ?_
  refine WL.box (vs := cs) hs rfl rfl (fun g1 w hs => ?_)
  refine WL.assign (v := .map none) rfl ?_
  refine WL.nil ?_
  refine hK1 _ _ ?_
  refine W.seqK fun K2 hK2 => ?_
  refine W.region ?_
  refine WL.makeMap bstr tCell hs (fun g w hs => ?_)
  refine WL.assign (v := .map (some g)) rfl ?_
  refine WL.nil ?_
  refine hK2 _ _ ?_
  have hs := St.bldClose (K := FKf) (g := g) (b := []) (C := fun _ => True) hs trivial rfl
  refine W.seqK fun K3 hK3 => ?_
  have Jret : ∀ (ρ : Env) (w : World), ρ 3 = .map (some g) → St ok (bz w0) w [vl (tSlice t_fold_Object) t.Objects (.slice none 0 0)] [bldo FKf g r] ∨ St ok (bz w0) w [] [bldo FKf g r] → K3 ρ w := by
    intro ρ w h3 hs
    have hs : St ok (bz w0) w [] [bldo FKf g r] := hs.elim (fun h => h.pick []) id
    refine hK3 _ _ ?_
    refine W.seqK fun K4 hK4 => ?_
    refine W.region ?_
    refine WL.move (v := .map (some g)) h3 ?_
    refine WL.assign (v := .map (some g)) rfl ?_
    refine WL.nil ?_
    refine hK4 _ _ ?_
    refine W.ret ?_
    exact ⟨_, resOk_one rfl rfl, g, rfl, hs⟩
  refine W.seqK fun K4 hK4 => ?_
  refine W.region ?_
  refine WL.fieldAddr (m := 0) rfl FA50_0 rfl ?_
  refine WL.loadF (z := t.Objects) F_fold_Store_Objects hs 1 rfl 0 rfl rfl TI48 (.inr rfl) rfl rfl (fun v hs => ?_)
  obtain ⟨a2, c2, rfl⟩ := hs.slice 0 rfl
  refine WL.len (v := .slice a2 t.Objects.length c2) rfl (len_slice UN48) ?_
  refine WL.move (v := .int .i64 0) rfl ?_
  refine WL.nil ?_
  refine hK4 _ _ ?_
  refine W.block ?_
  refine W.loop (σ := Int × fold_B) hf (fun s ρ w => match s with | (i, x) => ρ 3 = .map (some g) ∧ ρ 11 = .slice a2 t.Objects.length c2 ∧ ρ 12 = .int .i64 (t.Objects.length : Int) ∧ ρ 13 = .int .i64 i ∧ St ok (bz w0) w [vl (tSlice t_fold_Object) t.Objects (.slice a2 t.Objects.length c2)] [bldo FKf g x]) ⟨rfl, rfl, rfl, rfl, (hs.mask [true]).pick [0]⟩ ?_
  intro s ρ w o hI hf hbb
  obtain ⟨i, x⟩ := s
  obtain ⟨h3, h11, h12, h13, hs⟩ := hI
  unfold fold_load.l2 at hf
  refine W.seqK fun K5 hK5 => ?_
  refine W.region ?_
  refine WL.bin (v := .bool (decide (i < (t.Objects.length : Int)))) h13 h12 (ib_lss _ _ _) ?_
  refine WL.nil ?_
  refine hK5 _ _ ?_
  refine W.seqK fun K6 hK6 => ?_
  rcases iteE hf with ⟨hc, hf⟩ | ⟨hc, hf⟩
  · refine W.cond_true (bool_tr rfl hc) ?_
    refine W.skip ?_
    refine hK6 _ _ ?_
    obtain ⟨ob, hob, hf⟩ := bindE hf
    obtain ⟨fs, hfs, hf⟩ := bindE hf
    refine W.seqK fun K7 hK7 => ?_
    have Jend : ∀ (ρ : Env) (w : World), ρ 3 = .map (some g) → ρ 11 = .slice a2 t.Objects.length c2 → ρ 12 = .int .i64 (t.Objects.length : Int) → ρ 13 = .int .i64 i → St ok (bz w0) w [vl (tSlice t_fold_Object) t.Objects (.slice a2 t.Objects.length c2)] [bldo FKf g (mset x ob.Name fs)] → K7 ρ w := by
      intro ρ w h3 h11 h12 h13 hs
      refine hK7 _ _ ?_
      refine W.region ?_
      obtain ⟨j, ej, hf⟩ := letE hf
      refine WL.bin (v := .int .i64 j) h13 rfl (ib_as ej (ib_add _ _ _)) ?_
      refine WL.move (v := .int .i64 j) rfl ?_
      refine WL.nil ?_
      exact ⟨_, (Option.some.inj hf).symm, h3, h11, h12, rfl, hs⟩
    refine W.block ?_
    refine W.seqK fun K8 hK8 => ?_
    refine W.region ?_
    refine WL.indexAddr hs 0 rfl UN48 TI65 h11 h13 hob (fun ad hs => ?_)
    refine WL.loadP hs 0 rfl TI65 (.inl rfl) rfl (fun v hs => ?_)
    obtain ⟨os, hlo, rfl⟩ := hs.aggv (n := 2) 0 rfl rfl rfl
    obtain ⟨a3, c3, rfl⟩ := open_fold_Object hs 0 rfl
    refine WL.alloc hs ZV65 (fun g5 w hs => ?_)
    refine WL.storeAll (vs := [bstr ob.Name, .slice a3 ob.Fields.length c3]) hs 0 rfl TI65 rfl rfl rfl rfl (ones_of rfl) rfl (fun w hs => ?_)
    refine WL.nil ?_
    refine hK8 _ _ ?_
    refine W.seqK fun K9 hK9 => ?_
    refine W.region ?_
    refine WL.makeMap bstr (tRaw FKf.n) hs (fun gi w hs => ?_)
    refine WL.assign (v := .map (some gi)) rfl ?_
    refine WL.nil ?_
    refine hK9 _ _ ?_
    have hs := St.innClose (K := FKf) (gi := gi) (fs := []) (l := []) hs rfl
    refine W.seqK fun K10 hK10 => ?_
    have Jput : ∀ (ρ : Env) (w : World), ρ 3 = .map (some g) → ρ 5 = .pointer (some ⟨g5, 0, none⟩) → ρ 6 = .map (some gi) → ρ 11 = .slice a2 t.Objects.length c2 → ρ 12 = .int .i64 (t.Objects.length : Int) → ρ 13 = .int .i64 i →
        St ok (bz w0) w [vl (tSlice t_fold_Object) t.Objects (.slice a2 t.Objects.length c2)] [inno FKf gi fs, bldo FKf g x, blk g5 65 [bstr ob.Name, .slice a3 ob.Fields.length c3]] → K10 ρ w := by
      intro ρ w h3 h5 h6 h11 h12 h13 hs
      refine hK10 _ _ ?_
      refine W.region ?_
      refine WL.move (v := .map (some g)) h3 ?_
      refine WL.fieldAddr (m := 0) h5 FA65_0 rfl ?_
      refine WL.load1 (v := bstr ob.Name) hs 2 rfl TI9 rfl rfl ?_
      refine WL.move (v := .map (some gi)) h6 ?_
      refine WL.bldAttach FKf (k := ob.Name) hs (kkStr UN9) UN91 rfl rfl rfl (fun w hs => ?_)
      refine WL.nil ?_
      exact Jend _ _ h3 h11 h12 h13 (hs.mask [true])
    refine W.seqK fun K11 hK11 => ?_
    refine W.region ?_
    refine WL.fieldAddr (m := 1) rfl FA65_1 rfl ?_
    refine WL.loadF (z := ob.Fields) F_fold_Object_Fields hs 1 rfl 0 rfl rfl TI63 (.inr rfl) rfl rfl (fun v hs => ?_)
    obtain ⟨a4, c4, rfl⟩ := hs.slice 0 rfl
    refine WL.len (v := .slice a4 ob.Fields.length c4) rfl (len_slice UN63) ?_
    refine WL.move (v := .int .i64 0) rfl ?_
    refine WL.nil ?_
    refine hK11 _ _ ?_
    refine W.block ?_
    have hs := (hs.front 2 rfl).pick [0, 3]
    have hs := hs.front 1 rfl
    refine W.loop (σ := Int × List fold_Field) hfs (fun s ρ w => match s with | (k, fs) => ρ 3 = .map (some g) ∧ ρ 5 = .pointer (some ⟨g5, 0, none⟩) ∧ ρ 6 = .map (some gi) ∧ ρ 11 = .slice a2 t.Objects.length c2 ∧ ρ 12 = .int .i64 (t.Objects.length : Int) ∧ ρ 13 = .int .i64 i ∧ ρ 19 = .slice a4 ob.Fields.length c4 ∧ ρ 20 = .int .i64 (ob.Fields.length : Int) ∧ ρ 21 = .int .i64 k ∧ St ok (bz w0) w [vl (tSlice t_fold_Field) ob.Fields (.slice a4 ob.Fields.length c4), vl (tSlice t_fold_Object) t.Objects (.slice a2 t.Objects.length c2)] [inno FKf gi fs, bldo FKf g x, blk g5 65 [bstr ob.Name, .slice a3 ob.Fields.length c3]]) ⟨h3, rfl, rfl, h11, h12, h13, rfl, rfl, rfl, hs⟩ ?_
    intro s ρ w o2 hI hf2 hbb2
    obtain ⟨k, fs2⟩ := s
    obtain ⟨h3, h5, h6, h11, h12, h13, h19, h20, h21, hs⟩ := hI
    unfold fold_load.l1 at hf2
    refine W.seqK fun K12 hK12 => ?_
    refine W.region ?_
    refine WL.bin (v := .bool (decide (k < (ob.Fields.length : Int)))) h21 h20 (ib_lss _ _ _) ?_
    refine WL.nil ?_
    refine hK12 _ _ ?_
    refine W.seqK fun K13 hK13 => ?_
    rcases iteE hf2 with ⟨hc2, hf2⟩ | ⟨hc2, hf2⟩
    · refine W.cond_true (bool_tr rfl hc2) ?_
      refine W.skip ?_
      refine hK13 _ _ ?_
      obtain ⟨f, hfk, hf2⟩ := bindE hf2
      obtain ⟨l, hcl, hf2⟩ := bindE hf2
      refine W.seqK fun K14 hK14 => ?_
      refine W.block ?_
      refine W.seqK fun K15 hK15 => ?_
      refine W.region ?_
      refine WL.indexAddr hs 0 rfl UN63 TI61 h19 h21 hfk (fun ad hs => ?_)
      refine WL.loadP hs 0 rfl TI61 (.inl rfl) rfl (fun v hs => ?_)
      obtain ⟨ds, hld, rfl⟩ := hs.aggv (n := 12) 0 rfl rfl rfl
      obtain ⟨a6, c6, rfl⟩ := open_fold_Field hs 0 rfl
      have hs := hs.add (it := vl (tSlice tStr) f.Elems (.slice a6 f.Elems.length c6)) fun ok hA => V_fld F_fold_Field_Elems (hA.get 0 rfl) rfl rfl rfl
      refine WL.alloc hs ZV61 (fun g8 w hs => ?_)
      refine WL.storeAll (vs := fcells f (.slice a6 f.Elems.length c6)) hs 0 rfl TI61 rfl rfl rfl rfl (ones_of rfl) rfl (fun w hs => ?_)
      refine WL.nil ?_
      refine hK15 _ _ ?_
      refine W.seqK fun K16 hK16 => ?_
      refine W.region ?_
      refine WL.fieldAddr (m := 10) rfl FA61_5 rfl ?_
      refine WL.load1 (v := .slice a6 f.Elems.length c6) hs 0 rfl TI59 rfl rfl ?_
      refine WL.call (vs := [.slice a6 f.Elems.length c6]) hs FN50 ⟨rfl, trivial⟩ (fun ok hA => slices_Clone_string.calls (x1 := f.Elems) hcl (hA.get 0 rfl)) ?_
      rintro ⟨a7, n7, c7⟩ w hs
      refine WL.fieldAddr (m := 10) rfl FA61_5 rfl ?_
      refine WL.store (vs := [.slice a7 n7 c7]) (cs' := fcells { f with Elems := l } (.slice a7 n7 c7)) hs 1 rfl TI59 rfl rfl rfl rfl (ones_of rfl) (Nat.le_of_ble_eq_true rfl) rfl (fun w hs => ?_)
      refine WL.nil ?_
      refine hK16 _ _ ?_
      refine W.region ?_
      refine WL.move (v := .map (some gi)) h6 ?_
      refine WL.fieldAddr (m := 0) rfl FA61_0 rfl ?_
      refine WL.load1 (v := bstr f.Name) hs 1 rfl TI9 rfl rfl ?_
      refine WL.loadN (vs := fcells { f with Elems := l } (.slice a7 n7 c7)) hs 1 rfl TI61 rfl rfl rfl ?_
      have hs := (hs.front 2 rfl).front 1 rfl
      refine WL.innPut FKf (y := { f with Elems := l }) (v := .slice a7 n7 c7) hs (kkStr UN9) UN100 rfl rfl rfl rfl (ones_of rfl) (fun w hs => ?_)
      refine WL.nil ?_
      refine hK14 _ _ ?_
      refine W.region ?_
      obtain ⟨j, ej, hf2⟩ := letE hf2
      refine WL.bin (v := .int .i64 j) h21 rfl (ib_as ej (ib_add _ _ _)) ?_
      refine WL.move (v := .int .i64 j) rfl ?_
      refine WL.nil ?_
      exact ⟨_, (Option.some.inj hf2).symm, h3, h5, h6, h11, h12, h13, h19, h20, rfl, (hs.mask [true, false, true, true]).pick [3, 4]⟩
    · refine W.cond_false (bool_tr rfl hc2) ?_
      refine W.exit ?_
      have hr := Option.some.inj hf2; subst hr
      have hr := hbb2 _ rfl; subst hr
      exact Jput _ _ h3 h5 h6 h11 h12 h13 (hs.pick [1])
  · refine W.cond_false (bool_tr rfl hc) ?_
    refine W.exit ?_
    have hr := Option.some.inj hf; subst hr
    have hr := hbb _ rfl; subst hr
    exact Jret _ _ h3 (.inr (hs.pick []))
theorem fold_store.calls {ok : Nat → Prop} {w0 : World} {x : fold_F} {g : Nat} {r : fold_Store} (hf : fold_store x = some r) (i0 : (vl (tMap bstr (tMap bstr t_fold_Field)) x (.map (some g))).holds ok w0) :
    Calls Try.prog 48 #[.map (some g)] w0 fun e w' => ∃ v, e = .returned v ∧ ∃ y : List Value, v = .agg y.toArray ∧ St ok (bz w0) w' [vl t_fold_Store r (.agg y.toArray)] [] := by
  unfold fold_store at hf
  obtain ⟨ns, hns, hf⟩ := bindE hf
  obtain ⟨ol, hol, hf⟩ := bindE hf
  have hf := Option.some.inj hf
  subst hf
  have hs : St ok (bz w0) w0 [vl (tMap bstr (tMap bstr t_fold_Field)) x (.map (some g))] [] := St.init (All.cons i0 All.nil)
  clear i0
  refine calls_of_W (fn := Try.f48) (N := 48) Try.func48 rfl Try.ntmps48 rfl ?_
  refine W.seqK fun K1 hK1 => ?_
  refine W.region ?_
  refine WL.alloc hs ZV50 (fun g2 w hs => ?_)
  refine WL.nil ?_
  refine hK1 _ _ ?_
  refine W.seqK fun K2 hK2 => ?_
  refine W.region ?_
  refine WL.alloc hs ZV50 (fun g3 w hs => ?_)
  refine WL.nil ?_
  refine hK2 _ _ ?_
  refine W.seqK fun K3 hK3 => ?_
  have hs := hs.ownNil t_fold_Object 65
  have Jret : ∀ (a : Option Addr) (n c : Nat) (ρ : Env) (w : World), ρ 2 = .pointer (some ⟨g2, 0, none⟩) → ρ 3 = .pointer (some ⟨g3, 0, none⟩) → St ok (bz w0) w [] [own t_fold_Object 65 (.slice a n c) ol, blk g3 50 [.slice a n c], blk g2 50 [.slice none 0 0]] → K3 ρ w := by
    intro a n c ρ w h2 h3 hs
    refine hK3 _ _ ?_
    refine W.seqK fun K4 hK4 => ?_
    refine W.region ?_
    refine WL.loadN (vs := [.slice a n c]) hs 1 rfl TI50 h3 rfl rfl ?_
    refine WL.storeAll (vs := [.slice a n c]) hs 2 rfl TI50 h2 rfl rfl rfl (ones_of rfl) rfl (fun w hs => ?_)
    refine WL.nil ?_
    refine hK4 _ _ ?_
    refine W.ret ?_
    obtain rfl := hs.ownLen 0 rfl
    have hs2 := hs.freezeOwn 0 rfl
    have hs3 := hs2.add (it := vl t_fold_Store ⟨ol⟩ (.agg [.slice a ol.length c].toArray)) fun ok hA => V_agg (R_one (hA.get 0 rfl)) rfl
    exact ⟨_, resOk_one rfl (res_all hs 2 rfl TI50 h2 rfl), [.slice a ol.length c], rfl, (hs3.mask []).pick [0]⟩
  refine W.seqK fun K4 hK4 => ?_
  refine W.region ?_
  refine WL.move (v := .map (some g)) rfl ?_
  refine WL.sortedKeys sk_B UN9 hs 0 rfl rfl hns (fun cl v w hs => ?_)
  obtain ⟨a1, c1, rfl⟩ := hs.ownv 0 rfl
  have hs := hs.freezeOwn 0 rfl
  refine WL.len (v := .slice a1 ns.length c1) rfl (len_slice UN59) ?_
  refine WL.move (v := .int .i64 0) rfl ?_
  refine WL.nil ?_
  refine hK4 _ _ ?_
  refine W.block ?_
  refine W.loop (σ := Int × List fold_Object) hol (fun s ρ w => match s with | (i, out) => ∃ (a : Option Addr), ∃ (n : Nat), ∃ (c : Nat), ρ 0 = .map (some g) ∧ ρ 2 = .pointer (some ⟨g2, 0, none⟩) ∧ ρ 3 = .pointer (some ⟨g3, 0, none⟩) ∧ ρ 11 = .slice a1 ns.length c1 ∧ ρ 12 = .int .i64 (ns.length : Int) ∧ ρ 13 = .int .i64 i ∧ St ok (bz w0) w [vl (tSlice tStr) ns (.slice a1 ns.length c1), vl (tMap bstr (tMap bstr t_fold_Field)) x (.map (some g))] [own t_fold_Object 65 (.slice a n c) out, blk g3 50 [.slice a n c], blk g2 50 [.slice none 0 0]]) ⟨none, 0, 0, rfl, rfl, rfl, rfl, rfl, rfl, hs⟩ ?_
  intro s ρ w o hI hf hbb
  obtain ⟨i, out⟩ := s
  obtain ⟨a, n, c, h0, h2, h3, h11, h12, h13, hs⟩ := hI
  unfold fold_store.l2 at hf
  refine W.seqK fun K5 hK5 => ?_
  refine W.region ?_
  refine WL.bin (v := .bool (decide (i < (ns.length : Int)))) h13 h12 (ib_lss _ _ _) ?_
  refine WL.nil ?_
  refine hK5 _ _ ?_
  refine W.seqK fun K6 hK6 => ?_
  rcases iteE hf with ⟨hc, hf⟩ | ⟨hc, hf⟩
  · refine W.cond_true (bool_tr rfl hc) ?_
    refine W.skip ?_
    refine hK6 _ _ ?_
    obtain ⟨nm, hnm, hf⟩ := bindE hf
    obtain ⟨fs, hfs, hf⟩ := bindE hf
    obtain ⟨l, hl, hf⟩ := bindE hf
    obtain ⟨out', hout, hf⟩ := bindE hf
    refine W.seqK fun K7 hK7 => ?_
    have Jend : ∀ (a : Option Addr) (n c : Nat) (ρ : Env) (w : World), ρ 0 = .map (some g) → ρ 2 = .pointer (some ⟨g2, 0, none⟩) → ρ 3 = .pointer (some ⟨g3, 0, none⟩) → ρ 11 = .slice a1 ns.length c1 → ρ 12 = .int .i64 (ns.length : Int) → ρ 13 = .int .i64 i → St ok (bz w0) w [vl (tSlice tStr) ns (.slice a1 ns.length c1), vl (tMap bstr (tMap bstr t_fold_Field)) x (.map (some g))] [own t_fold_Object 65 (.slice a n c) out', blk g3 50 [.slice a n c], blk g2 50 [.slice none 0 0]] → K7 ρ w := by
      intro a n c ρ w h0 h2 h3 h11 h12 h13 hs
      refine hK7 _ _ ?_
      refine W.region ?_
      obtain ⟨j, ej, hf⟩ := letE hf
      refine WL.bin (v := .int .i64 j) h13 rfl (ib_as ej (ib_add _ _ _)) ?_
      refine WL.move (v := .int .i64 j) rfl ?_
      refine WL.nil ?_
      exact ⟨_, (Option.some.inj hf).symm, a, n, c, h0, h2, h3, h11, h12, rfl, hs⟩
    refine W.block ?_
    refine W.seqK fun K8 hK8 => ?_
    refine W.region ?_
    refine WL.indexAddr hs 0 rfl UN59 TI9 h11 h13 hnm (fun ad hs => ?_)
    refine WL.loadP hs 0 rfl TI9 (.inr rfl) rfl (fun v hs => ?_)
    obtain rfl := hs.str 0 rfl
    refine WL.assign (v := bstr nm) rfl ?_
    refine WL.nil ?_
    refine hK8 _ _ ?_
    have hs := hs.pick [2, 3]
    refine W.seqK fun K9 hK9 => ?_
    refine W.region ?_
    refine WL.move (v := bstr nm) rfl ?_
    refine WL.build (vs := [(0, bstr nm)]) (cs := [bstr nm, .slice none 0 0]) ⟨⟨rfl, rfl⟩, trivial⟩ (bld PL65 rfl) ?_
    refine WL.alloc hs ZV65 (fun g6 w hs => ?_)
    refine WL.storeAll (vs := [bstr nm, .slice none 0 0]) hs 0 rfl TI65 rfl rfl rfl rfl (ones_of rfl) rfl (fun w hs => ?_)
    refine WL.nil ?_
    refine hK9 _ _ ?_
    have hs := hs.ownNil t_fold_Field 61
    refine W.seqK fun K10 hK10 => ?_
    have Jobj : ∀ (a4 : Option Addr) (n4 c4 : Nat) (ρ : Env) (w : World), ρ 0 = .map (some g) → ρ 2 = .pointer (some ⟨g2, 0, none⟩) → ρ 3 = .pointer (some ⟨g3, 0, none⟩) → ρ 6 = .pointer (some ⟨g6, 0, none⟩) → ρ 11 = .slice a1 ns.length c1 → ρ 12 = .int .i64 (ns.length : Int) → ρ 13 = .int .i64 i →
        St ok (bz w0) w [vl (tSlice tStr) ns (.slice a1 ns.length c1), vl (tMap bstr (tMap bstr t_fold_Field)) x (.map (some g))] [own t_fold_Field 61 (.slice a4 n4 c4) l, blk g6 65 [bstr nm, .slice a4 n4 c4], own t_fold_Object 65 (.slice a n c) out, blk g3 50 [.slice a n c], blk g2 50 [.slice none 0 0]] → K10 ρ w := by
      intro a4 n4 c4 ρ w h0 h2 h3 h6 h11 h12 h13 hs
      refine hK10 _ _ ?_
      refine W.region ?_
      refine WL.fieldAddr (m := 0) h3 FA50_0 rfl ?_
      refine WL.load1 (v := .slice a n c) hs 3 rfl TI48 rfl rfl ?_
      refine WL.loadN (vs := [bstr nm, .slice a4 n4 c4]) hs 1 rfl TI65 h6 rfl rfl ?_
      refine WL.buildSlice (n := 1) (vs := [(0, .agg ([bstr nm, .slice a4 n4 c4] : List Value).toArray)]) (cs := [bstr nm, .slice a4 n4 c4]) hs ⟨⟨rfl, rfl⟩, trivial⟩ (bls PS48 (by decide) rfl) (fun g9 w hs => ?_)
      obtain rfl := hs.ownLen 1 rfl
      have hs := hs.freezeOwn 1 rfl
      obtain ⟨hb1, he1⟩ := appE hout
      refine WL.append (ys := [(⟨nm, l⟩ : fold_Object)]) (zs := out') hs 2 rfl 0 rfl UN48 EI65 rfl rfl (fun ok hA => (Cells.one (T := t_fold_Object) (show t_fold_Object.R ok _ (⟨nm, l⟩ : fold_Object) _ from ⟨[bstr nm], [.slice a4 l.length c4], rfl, rfl, (R_one (hA.get 0 rfl))⟩))) hb1 (by omega) he1 (fun v w hs => ?_)
      obtain ⟨a5, n5, c5, rfl⟩ := hs.ownv3 2 rfl
      refine WL.fieldAddr (m := 0) h3 FA50_0 rfl ?_
      refine WL.storeAll (vs := [.slice a5 n5 c5]) hs 3 rfl TI48 rfl rfl rfl rfl (ones_of rfl) rfl (fun w hs => ?_)
      refine WL.nil ?_
      exact Jend a5 n5 c5 _ _ h0 h2 h3 h11 h12 h13 ((hs.mask [false, false, true, true, true]).pick [1, 2])
    refine W.seqK fun K11 hK11 => ?_
    refine W.region ?_
    refine WL.move (v := .map (some g)) h0 ?_
    refine WL.move (v := bstr nm) rfl ?_
    refine WL.lookupT (V := tMap bstr t_fold_Field) (z0 := []) (y := (x.lookup nm).getD []) hs 1 rfl (kkStr UN9) UN91 rfl rfl ZR100 (fun _ _ => tMap_V.2 (.inl ⟨rfl, rfl⟩)) rfl (fun mv hs => ?_)
    refine WL.sortedKeys sk_F UN9 hs 0 rfl rfl hfs (fun cl v w hs => ?_)
    obtain ⟨a7, c7, rfl⟩ := hs.ownv 0 rfl
    have hs := hs.freezeOwn 0 rfl
    refine WL.len (v := .slice a7 fs.length c7) rfl (len_slice UN59) ?_
    refine WL.move (v := .int .i64 0) rfl ?_
    refine WL.nil ?_
    refine hK11 _ _ ?_
    refine W.block ?_
    refine W.loop (σ := Int × List fold_Field) hl (fun s ρ w => match s with | (k, l) => ∃ (a4 : Option Addr), ∃ (n4 : Nat), ∃ (c4 : Nat), ρ 0 = .map (some g) ∧ ρ 2 = .pointer (some ⟨g2, 0, none⟩) ∧ ρ 3 = .pointer (some ⟨g3, 0, none⟩) ∧ ρ 5 = bstr nm ∧ ρ 6 = .pointer (some ⟨g6, 0, none⟩) ∧ ρ 11 = .slice a1 ns.length c1 ∧ ρ 12 = .int .i64 (ns.length : Int) ∧ ρ 13 = .int .i64 i ∧ ρ 23 = .slice a7 fs.length c7 ∧ ρ 24 = .int .i64 (fs.length : Int) ∧ ρ 25 = .int .i64 k ∧ St ok (bz w0) w [vl (tSlice tStr) fs (.slice a7 fs.length c7), vl (tSlice tStr) ns (.slice a1 ns.length c1), vl (tMap bstr (tMap bstr t_fold_Field)) x (.map (some g))] [own t_fold_Field 61 (.slice a4 n4 c4) l, blk g6 65 [bstr nm, .slice a4 n4 c4], own t_fold_Object 65 (.slice a n c) out, blk g3 50 [.slice a n c], blk g2 50 [.slice none 0 0]]) ⟨none, 0, 0, h0, h2, h3, rfl, rfl, h11, h12, h13, rfl, rfl, rfl, hs.pick [0, 2, 3]⟩ ?_
    intro s ρ w o2 hI hf2 hbb2
    obtain ⟨k, l2⟩ := s
    obtain ⟨a4, n4, c4, h0, h2, h3, h5, h6, h11, h12, h13, h23, h24, h25, hs⟩ := hI
    unfold fold_store.l1 at hf2
    refine W.seqK fun K12 hK12 => ?_
    refine W.region ?_
    refine WL.bin (v := .bool (decide (k < (fs.length : Int)))) h25 h24 (ib_lss _ _ _) ?_
    refine WL.nil ?_
    refine hK12 _ _ ?_
    refine W.seqK fun K13 hK13 => ?_
    rcases iteE hf2 with ⟨hc2, hf2⟩ | ⟨hc2, hf2⟩
    · refine W.cond_true (bool_tr rfl hc2) ?_
      refine W.skip ?_
      refine hK13 _ _ ?_
      obtain ⟨fm, hfm, hf2⟩ := bindE hf2
      obtain ⟨l3, hl3, hf2⟩ := bindE hf2
      refine W.seqK fun K14 hK14 => ?_
      refine W.block ?_
      refine W.seqK fun K15 hK15 => ?_
      refine W.region ?_
      refine WL.indexAddr hs 0 rfl UN59 TI9 h23 h25 hfm (fun ad hs => ?_)
      refine WL.loadP hs 0 rfl TI9 (.inr rfl) rfl (fun v hs => ?_)
      obtain rfl := hs.str 0 rfl
      refine WL.assign (v := bstr fm) rfl ?_
      refine WL.nil ?_
      refine hK15 _ _ ?_
      have hs := hs.pick [2, 3, 4]
      refine W.region ?_
      refine WL.fieldAddr (m := 1) h6 FA65_1 rfl ?_
      refine WL.load1 (v := .slice a4 n4 c4) hs 1 rfl TI63 rfl rfl ?_
      refine WL.move (v := .map (some g)) h0 ?_
      refine WL.move (v := bstr nm) h5 ?_
      refine WL.lookupT (V := tMap bstr t_fold_Field) (z0 := []) (y := (x.lookup nm).getD []) hs 2 rfl (kkStr UN9) UN91 rfl rfl ZR100 (fun _ _ => tMap_V.2 (.inl ⟨rfl, rfl⟩)) rfl (fun mv2 hs => ?_)
      refine WL.move (v := bstr fm) rfl ?_
      refine WL.lookupT (V := t_fold_Field) (z0 := fold_zero) (y := (((x.lookup nm).getD []).lookup fm).getD fold_zero) hs 0 rfl (kkStr UN9) UN100 rfl rfl ZR61 (fun ok w => V_agg (cs := fcells fold_zero (.slice none 0 0)) (fieldR ok w fold_zero (.slice none 0 0) V_nil) rfl) rfl (fun fv hs => ?_)
      obtain ⟨ds, hld, rfl⟩ := hs.aggv (n := 12) 0 rfl rfl rfl
      obtain ⟨a6, c6, rfl⟩ := open_fold_Field hs 0 rfl
      refine WL.buildSlice (n := 1) (vs := [(0, .agg (fcells ((((x.lookup nm).getD []).lookup fm).getD fold_zero) (.slice a6 ((((x.lookup nm).getD []).lookup fm).getD fold_zero).Elems.length c6)).toArray)]) (cs := fcells ((((x.lookup nm).getD []).lookup fm).getD fold_zero) (.slice a6 ((((x.lookup nm).getD []).lookup fm).getD fold_zero).Elems.length c6)) hs ⟨⟨rfl, rfl⟩, trivial⟩ (bls PS63 (by decide) rfl) (fun g9 w hs => ?_)
      obtain ⟨hb1, he1⟩ := appE hl3
      refine WL.append (ys := [(((x.lookup nm).getD []).lookup fm).getD fold_zero]) (zs := l3) hs 1 rfl 0 rfl UN63 EI61 rfl rfl (fun ok hA => Cells.one (T := t_fold_Field) (R_agg (hA.get 0 rfl) rfl)) hb1 (by omega) he1 (fun v w hs => ?_)
      obtain ⟨a8, n8, c8, rfl⟩ := hs.ownv3 1 rfl
      refine WL.fieldAddr (m := 1) h6 FA65_1 rfl ?_
      refine WL.store (vs := [.slice a8 n8 c8]) (cs' := [bstr nm, .slice a8 n8 c8]) hs 2 rfl TI63 rfl rfl rfl rfl (ones_of rfl) (Nat.le_of_ble_eq_true rfl) rfl (fun w hs => ?_)
      refine WL.nil ?_
      refine hK14 _ _ ?_
      refine W.region ?_
      obtain ⟨j, ej, hf2⟩ := letE hf2
      refine WL.bin (v := .int .i64 j) h25 rfl (ib_as ej (ib_add _ _ _)) ?_
      refine WL.move (v := .int .i64 j) rfl ?_
      refine WL.nil ?_
      exact ⟨_, (Option.some.inj hf2).symm, a8, n8, c8, h0, h2, h3, h5, h6, h11, h12, h13, h23, h24, rfl, (hs.mask [false, true, true, true, true, true]).pick [2, 3, 4]⟩
    · refine W.cond_false (bool_tr rfl hc2) ?_
      refine W.exit ?_
      have hr := Option.some.inj hf2; subst hr
      have hr := hbb2 _ rfl; subst hr
      exact Jobj a4 n4 c4 _ _ h0 h2 h3 h6 h11 h12 h13 (hs.pick [1, 2])
  · refine W.cond_false (bool_tr rfl hc) ?_
    refine W.exit ?_
    have hr := Option.some.inj hf; subst hr
    have hr := hbb _ rfl; subst hr
    exact Jret a n c _ _ h2 h3 (hs.pick [])
theorem St.bFreeze {ok : Nat → Prop} {F : Base} {w : World} {Γ : List It} {Λ : List LObj} {g : Nat} {x : fold_B} (hs : St ok F w Γ (bldo FKf g x :: Λ)) : St ok F w (vl (tMap bstr (tMap bstr t_fold_Field)) (fold_frz x) (.map (some g)) :: Γ) Λ :=
  St.bldFreeze FKf (T := t_fold_Field) (fun ok w y v h => fieldR ok w y v h) rfl hs
theorem fold_Apply.calls {ok : Nat → Prop} {w0 : World} {x1 : fold_Store} {x2 : api_Update} {v1 v2 : Value} {r : fold_Store} (hf : fold_Apply x1 x2 = some r) (i0 : (vl t_fold_Store x1 v1).holds ok w0) (i1 : (vl t_api_Update x2 v2).holds ok w0) :
    Calls Try.prog 35 #[v1, v2] w0 fun e w' => ∃ v, e = .returned v ∧ ∃ y : List Value, v = .agg y.toArray ∧ St ok (bz w0) w' [vl t_fold_Store r (.agg y.toArray)] [] := by
  unfold fold_Apply at hf
  obtain ⟨b, hb, hf⟩ := bindE hf
  obtain ⟨b', hb', hf⟩ := bindE hf
  have hs : St ok (bz w0) w0 [vl t_fold_Store x1 v1, vl t_api_Update x2 v2] [] := St.init (All.cons i0 (All.cons i1 All.nil))
  clear i0 i1
  obtain ⟨cs, hl, rfl⟩ := hs.aggv (n := 1) 0 rfl rfl rfl
  obtain ⟨ds, hld, rfl⟩ := hs.aggv (n := 4) 1 rfl rfl rfl
  refine calls_of_W (fn := Try.f35) (N := 13) Try.func35 rfl Try.ntmps35 rfl ?_
  refine W.seqK fun K1 hK1 => ?_
  refine W.region ?_
  refine WL.box (vs := cs) hs rfl rfl (fun g2 w hs => ?_)
  refine WL.box (vs := ds) hs rfl rfl (fun g3 w hs => ?_)
  refine WL.alloc hs ZV50 (fun g4 w hs => ?_)
  refine WL.nil ?_
  refine hK1 _ _ ?_
  refine W.seqK fun K2 hK2 => ?_
  refine W.region ?_
  refine WL.loadAll hs 2 rfl TI50 rfl hl ?_
  refine WL.call (vs := [.agg cs.toArray]) hs FN51 ⟨rfl, trivial⟩ (fun ok hA => fold_load.calls hb (hA.get 0 rfl)) ?_
  rintro g w hs
  refine WL.assign (v := .map (some g)) rfl ?_
  refine WL.nil ?_
  refine hK2 _ _ ?_
  refine W.seqK fun K3 hK3 => ?_
  refine W.region ?_
  refine WL.move (v := .map (some g)) rfl ?_
  refine WL.loadAll hs 2 rfl TI75 rfl hld ?_
  have hs := hs.pick [1]
  refine WL.callO (vs := [.map (some g), .agg ds.toArray]) [bldo FKf g b] hs FN47 ⟨rfl, rfl, trivial⟩ (fun ok F hA => fold_apply.calls hb' hA) ?_
  rintro _ w hs
  refine WL.nil ?_
  refine hK3 _ _ ?_
  refine W.seqK fun K4 hK4 => ?_
  refine W.region ?_
  refine WL.move (v := .map (some g)) rfl ?_
  have hs := St.bFreeze hs
  refine WL.call (vs := [.map (some g)]) hs FN48 ⟨rfl, trivial⟩ (fun ok hA => fold_store.calls hf (hA.get 0 rfl)) ?_
  rintro y w hs
  have hly := hs.agglen (n := 1) 0 rfl rfl rfl
  refine WL.storeAll (vs := y) hs 0 rfl TI50 rfl rfl rfl hly (hs.ones 0 rfl rfl) rfl (fun w hs => ?_)
  refine WL.nil ?_
  refine hK4 _ _ ?_
  refine W.ret ?_
  exact ⟨_, resOk_one rfl (res_all hs 0 rfl TI50 rfl hly), y, rfl, (hs.mask []).pick [0]⟩
theorem update_empty.calls {ok : Nat → Prop} {w0 : World} {x1 : List UInt8} {r : Bool} (hf : update_empty x1 = some r) :
    Calls Try.prog 84 #[bstr x1] w0 fun e w' => ∃ v, e = .returned v ∧ ∃ y : Unit, v = .bool r ∧ St ok (bz w0) w' [] [] := by
  unfold update_empty at hf
  have hr := Option.some.inj hf; subst hr
  refine calls_of_W (fn := Try.f84) (N := 7) Try.func84 rfl Try.ntmps84 rfl ?_
  have hs : St ok (bz w0) w0 [] [] := St.init All.nil
  refine W.seqK fun K1 hK1 => ?_
  refine W.region ?_
  refine WL.assign (v := .bool false) rfl ?_
  refine WL.nil ?_
  refine hK1 _ _ ?_
  refine W.seqK fun K2 hK2 => ?_
  refine W.seqK fun K3 hK3 => ?_
  refine W.region ?_
  refine WL.move (v := bstr x1) rfl ?_
  refine WL.rangeS hs UN9 rfl (fun r w hs => ?_)
  refine WL.nil ?_
  refine hK3 _ _ ?_
  refine W.block ?_
  have hl : loopO (fun _ : Unit => some (.inr () : Unit ⊕ Unit)) () = some () := by
    rw [loopO_iff]
    exact ⟨1, rfl⟩
  refine W.loop hl (fun _ ρ w => ρ 4 = .pointer (some ⟨r, 0, none⟩) ∧ St ok (bz w0) w [] [sit r x1]) ⟨rfl, hs⟩ ?_
  intro _ ρ w o hI _ _
  obtain ⟨h4, hs⟩ := hI
  refine W.seqK fun K4 hK4 => ?_
  refine W.region ?_
  refine WL.nextS hs 0 rfl h4 (fun hn => ?_) (fun hn u v w hs => ?_)
  · refine WL.extract (v := .bool false) rfl rfl ?_
    refine WL.nil ?_
    refine hK4 _ _ ?_
    refine W.seqK fun K5 hK5 => ?_
    refine W.cond_false rfl ?_
    refine W.exit ?_
    refine hK2 _ _ ?_
    refine W.seqK fun K6 hK6 => ?_
    refine W.region ?_
    refine WL.assign (v := .bool true) rfl ?_
    refine WL.nil ?_
    refine hK6 _ _ ?_
    refine W.ret ?_
    exact ⟨.bool true, resOk_one rfl rfl, (), by rw [hn]; rfl, hs.mask [false]⟩
  · refine WL.extract (v := .bool true) rfl rfl ?_
    refine WL.nil ?_
    refine hK4 _ _ ?_
    refine W.seqK fun K5 hK5 => ?_
    refine W.cond_true rfl ?_
    refine W.skip ?_
    refine hK5 _ _ ?_
    refine W.block ?_
    refine W.seqK fun K6 hK6 => ?_
    refine W.region ?_
    refine WL.assign (v := .bool false) rfl ?_
    refine WL.nil ?_
    refine hK6 _ _ ?_
    refine W.ret ?_
    exact ⟨.bool false, resOk_one rfl rfl, (), by rw [decide_eq_false hn], hs.mask [false]⟩
end Go.Proofs.Ytbbeobiampbddaa
set_option linter.unusedVariables false
set_option linter.unusedSimpArgs false
namespace Go.Proofs.Ytbbeobiampbddaa
open Go Go.RowKit Go.Proofs.YtbbeobiampbddaaL
noncomputable def eslaw00_Update.j1 (x1 : Int) (x2 : Int) (x22 : List api_Effect) : Option api_Update :=
  some (⟨x1, x2, 0, x22⟩ : api_Update)
noncomputable def eslaw00_Update.l1 (x3 : Int) : (Int × (List api_Effect)) → Option ((Int × (List api_Effect)) ⊕ (List api_Effect)) := fun (x30, x31) =>
  ((eslaw00_Digit x3 3 9).bind fun x38 =>
  (if (decide (x30 ≤ x38)) then ((eslaw00_Index x3 1099511627776).bind fun x41 =>
  (letV (IntKind.i64.wrap (x30 + 1)) fun x42 =>
  (if x42 ≠ 0 then (letV (IntKind.i64.wrap (Int.tdiv x41 x42)) fun x43 =>
  ((eslaw00_Effect x43 false).bind fun x45 =>
  ((app 64 x31 [x45]).bind fun x74 =>
  (letV (IntKind.i64.wrap (x30 + 1)) fun x79 =>
  some (.inl (x79, x74)))))) else none))) else some (.inr x31)))
noncomputable def eslaw00_Update (x1 : Int) (x2 : Int) (x3 : Int) : Option api_Update :=
  ((eslaw00_Digit x3 3 8).bind fun x10 =>
  (if (x10 == 0) then ((eslaw00_Digit x3 16 4).bind fun x13 =>
  ((eslaw00_Effect x3 true).bind fun x15 =>
  some (⟨x1, x2, x13, [x15]⟩ : api_Update))) else ((loopO (eslaw00_Update.l1 x3) (0, [])).bind fun x80 => eslaw00_Update.j1 x1 x2 x80)))

noncomputable def eslaw00_Updates.j1  (x8 : List api_Update) : Option (List api_Update) :=
  some x8
noncomputable def eslaw00_Updates.j2 (x20 : Int) (x27 : List api_Update) : Option (((List api_Update) × Int) ⊕ (List api_Update)) :=
  (letV (IntKind.i64.wrap (x20 + 1)) fun x32 =>
  some (.inl (x27, x32)))
noncomputable def eslaw00_Updates.j3 (x41 : Int) (x51 : List api_Update) (x55 : Int) : Option (((List api_Update) × Int × Int) ⊕ (List api_Update)) :=
  (letV (IntKind.i64.wrap (x41 + 1)) fun x57 =>
  some (.inl (x51, x55, x57)))
noncomputable def eslaw00_Updates.j4 (x1 : List Int) (x20 : Int) (x36 : List api_Update) (x40 : Int) (x41 : Int) (x60 : Bool) : Option (((List api_Update) × Int × Int) ⊕ (List api_Update)) :=
  (if x60 then (letV (IntKind.i64.wrap (x40 + 1)) fun x64 =>
  (letV (IntKind.i64.wrap (101 + x20)) fun x65 =>
  ((idx x1 x41).bind fun x66 =>
  ((eslaw00_Index x66 1099511627776).bind fun x69 =>
  (letV (IntKind.i64.wrap (Int.tdiv x69 3)) fun x70 =>
  ((eslaw00_Update x65 x64 x70).bind fun x71 =>
  ((app 48 x36 [(⟨x71.Client, x71.Seq, x71.Tag, x71.Effects⟩ : api_Update)]).bind fun x76 =>
  eslaw00_Updates.j3 x41 x76 x64))))))) else eslaw00_Updates.j3 x41 x36 x40)
noncomputable def eslaw00_Updates.j5 (x1 : List Int) (x20 : Int) (x36 : List api_Update) (x40 : Int) (x41 : Int) (x46 : Bool) : Option (((List api_Update) × Int × Int) ⊕ (List api_Update)) :=
  (if x46 then ((idx x1 x41).bind fun x81 =>
  ((eslaw00_Digit x81 3 0).bind fun x84 =>
  (if (x84 == x20) then eslaw00_Updates.j4 x1 x20 x36 x40 x41 (decide (x40 < 8)) else eslaw00_Updates.j4 x1 x20 x36 x40 x41 false))) else some (.inr x36))
noncomputable def eslaw00_Updates.l1 (x1 : List Int) (x20 : Int) : ((List api_Update) × Int × Int) → Option (((List api_Update) × Int × Int) ⊕ (List api_Update)) := fun (x36, x40, x41) =>
  (if (decide (x41 < (x1.length : Int))) then eslaw00_Updates.j5 x1 x20 x36 x40 x41 (decide (x41 < 24)) else eslaw00_Updates.j5 x1 x20 x36 x40 x41 false)
noncomputable def eslaw00_Updates.l2 (x1 : List Int) : ((List api_Update) × Int) → Option (((List api_Update) × Int) ⊕ (List api_Update)) := fun (x16, x20) =>
  (if (decide (x20 < 3)) then ((loopO (eslaw00_Updates.l1 x1 x20) (x16, 0, 0)).bind fun x87 => eslaw00_Updates.j2 x20 x87) else some (.inr x16))
noncomputable def eslaw00_Updates (x1 : List Int) : Option (List api_Update) :=
  ((loopO (eslaw00_Updates.l2 x1) ([], 0)).bind fun x88 => eslaw00_Updates.j1 x88)

noncomputable def fold_Fold.l1 (x1 : List api_Update) : (Int × fold_B) → Option ((Int × fold_B) ⊕ fold_B) := fun (i, x) =>
  if decide (i < (x1.length : Int)) then ((idx x1 i).bind fun u => (fold_apply u x).bind fun x' => letV (IntKind.i64.wrap (i + 1)) fun j => some (.inl (j, x'))) else some (.inr x)
noncomputable def fold_Fold (x1 : List api_Update) : Option fold_Store := (loopO (fold_Fold.l1 x1) (0, [])).bind fun b => fold_store (fold_frz b)

noncomputable def eslaw00_Some.j1  (x9 : List api_Update) : Option (List api_Update) :=
  some x9
noncomputable def eslaw00_Some.j2 (x21 : Int) (x28 : List api_Update) : Option (((List api_Update) × Int) ⊕ (List api_Update)) :=
  (letV (IntKind.i64.wrap (x21 + 1)) fun x33 =>
  some (.inl (x28, x33)))
noncomputable def eslaw00_Some.l1 (x1 : List api_Update) (x4 : Int) : ((List api_Update) × Int) → Option (((List api_Update) × Int) ⊕ (List api_Update)) := fun (x17, x21) =>
  (if (decide (x21 < (x1.length : Int))) then ((idx x1 x21).bind fun x35 =>
  ((idx x1 x21).bind fun x39 =>
  (letV (IntKind.i64.wrap (x39.Client - 101)) fun x43 =>
  ((eslaw00_Digit x4 9 x43).bind fun x44 =>
  (if (decide (x35.Seq ≤ x44)) then ((idx x1 x21).bind fun x86 =>
  ((app 48 x17 [x86]).bind fun x92 =>
  eslaw00_Some.j2 x21 x92)) else eslaw00_Some.j2 x21 x17))))) else some (.inr x17))
noncomputable def eslaw00_Some (x1 : List api_Update) (x4 : Int) : Option (List api_Update) :=
  ((loopO (eslaw00_Some.l1 x1 x4) ([], 0)).bind fun x97 => eslaw00_Some.j1 x97)

noncomputable def esref39_Visible.j1  (x10 : List history_Value) : Option (List history_Value) :=
  some x10
noncomputable def esref39_Visible.j2 (x22 : Int) (x32 : List history_Value) : Option (((List history_Value) × Int) ⊕ (List history_Value)) :=
  (letV (IntKind.i64.wrap (x22 + 1)) fun x37 =>
  some (.inl (x32, x37)))
noncomputable def esref39_Visible.l1 (x42 : fold_Object) : ((List history_Value) × Int) → Option (((List history_Value) × Int) ⊕ (List history_Value)) := fun (x50, x54) =>
  (if (decide (x54 < ((x42.Fields).length : Int))) then ((idx x42.Fields x54).bind fun x67 =>
  ((app 16 [] x67.Elems).bind fun x85 =>
  ((app 120 x50 [(⟨x42.Name, x67.Name, x67.Register.Set, x67.Register.N, x67.Register.S, x67.HasMax, x67.Max, x67.Sum, x85, x67.Flag⟩ : history_Value)]).bind fun x165 =>
  (letV (IntKind.i64.wrap (x54 + 1)) fun x170 =>
  some (.inl (x165, x170)))))) else some (.inr x50))
noncomputable def esref39_Visible.l2 (x1 : fold_Store) : ((List history_Value) × Int) → Option (((List history_Value) × Int) ⊕ (List history_Value)) := fun (x18, x22) =>
  (if (decide (x22 < ((x1.Objects).length : Int))) then ((idx x1.Objects x22).bind fun x42 =>
  ((loopO (esref39_Visible.l1 x42) (x18, 0)).bind fun x171 => esref39_Visible.j2 x22 x171)) else some (.inr x18))
noncomputable def esref39_Visible (x1 : fold_Store) : Option (List history_Value) :=
  ((loopO (esref39_Visible.l2 x1) ([], 0)).bind fun x172 => esref39_Visible.j1 x172)

noncomputable def esref32_Find.j1 (x5 : List UInt8) (x11 : List UInt8) (x12 : List fold_Field) : Option fold_Object :=
  some (⟨x5, []⟩ : fold_Object)
noncomputable def esref32_Find.l1 (x1 : fold_Store) (x5 : List UInt8) : (Int × (List UInt8) × (List fold_Field)) → Option ((Int × (List UInt8) × (List fold_Field)) ⊕ (((List UInt8) × (List fold_Field)) ⊕ fold_Object)) := fun (x19, x20, x21) =>
  (if (decide (x19 < ((x1.Objects).length : Int))) then ((idx x1.Objects x19).bind fun x36 =>
  (if (x36.Name == x5) then ((idx x1.Objects x19).bind fun x45 =>
  some (.inr (.inr x45))) else (letV (IntKind.i64.wrap (x19 + 1)) fun x50 =>
  some (.inl (x50, x20, x21))))) else some (.inr (.inl (x20, x21))))
noncomputable def esref32_Find (x1 : fold_Store) (x5 : List UInt8) : Option fold_Object :=
  ((loopO (esref32_Find.l1 x1 x5) (0, [], [])).bind fun b => match b with | .inl (x51, x52) => esref32_Find.j1 x5 x51 x52 | .inr x53 => some x53)

noncomputable def esref32_FieldOf.j1 (x5 : List UInt8) (x11 : fold_Field) : Option fold_Field :=
  some (⟨x5, (⟨false, 0, 0, 0, 0, []⟩ : fold_Register), false, 0, 0, [], false⟩ : fold_Field)
noncomputable def esref32_FieldOf.l1 (x1 : fold_Object) (x5 : List UInt8) : (Int × fold_Field) → Option ((Int × fold_Field) ⊕ (fold_Field ⊕ fold_Field)) := fun (x18, x19) =>
  (if (decide (x18 < ((x1.Fields).length : Int))) then ((idx x1.Fields x18).bind fun x34 =>
  (if (x34.Name == x5) then ((idx x1.Fields x18).bind fun x43 =>
  some (.inr (.inr x43))) else (letV (IntKind.i64.wrap (x18 + 1)) fun x48 =>
  some (.inl (x48, x19))))) else some (.inr (.inl x19)))
noncomputable def esref32_FieldOf (x1 : fold_Object) (x5 : List UInt8) : Option fold_Field :=
  ((loopO (esref32_FieldOf.l1 x1 x5) (0, (⟨[], (⟨false, 0, 0, 0, 0, []⟩ : fold_Register), false, 0, 0, [], false⟩ : fold_Field))).bind fun b => match b with | .inl x49 => esref32_FieldOf.j1 x5 x49 | .inr x50 => some x50)

noncomputable def eslaw38_HistoryVisible.j1   : Option Bool :=
  ((eslaw38_awake).bind fun x63 =>
  some x63)
noncomputable def eslaw38_HistoryVisible.j2 (x66 : Int) (x125 : Bool) : Option ((Int) ⊕ (Unit ⊕ Bool)) :=
  (if x125 then some (.inr (.inr false)) else (letV (IntKind.i64.wrap (x66 + 1)) fun x129 =>
  some (.inl x129)))
noncomputable def eslaw38_HistoryVisible.l1 (x14 : fold_Store) (x31 : List history_Value) : Int → Option ((Int) ⊕ (Unit ⊕ Bool)) := fun x66 =>
  (if (decide (x66 < (x31.length : Int))) then ((idx x31 x66).bind fun x73 =>
  ((esref32_Find x14 x73.Object).bind fun x77 =>
  ((idx x31 x66).bind fun x80 =>
  ((esref32_FieldOf x77 x80.Field).bind fun x84 =>
  ((idx x31 x66).bind fun x130 =>
  (if (x130.Set != x84.Register.Set) then eslaw38_HistoryVisible.j2 x66 true else ((idx x31 x66).bind fun x213 =>
  (if (x213.Sum != x84.Sum) then eslaw38_HistoryVisible.j2 x66 true else ((idx x31 x66).bind fun x296 =>
  ((esref32_EqualStrings x296.Elems x84.Elems).bind fun x305 =>
  eslaw38_HistoryVisible.j2 x66 (!x305))))))))))) else some (.inr (.inl ())))
noncomputable def eslaw38_HistoryVisible.j3 (x14 : fold_Store) (x31 : List history_Value) (x55 : Bool) : Option Bool :=
  (if x55 then some false else ((loopO (eslaw38_HistoryVisible.l1 x14 x31) 0).bind fun b => match b with | .inl _ => eslaw38_HistoryVisible.j1 | .inr x393 => some x393))
noncomputable def eslaw38_HistoryVisible (x1 : List Int) (x4 : List Int) (x7 : Int) : Option Bool :=
  ((eslaw00_Updates x1).bind fun x10 =>
  ((fold_Fold x10).bind fun x14 =>
  ((eslaw00_Updates x4).bind fun x17 =>
  ((eslaw00_Some x17 x7).bind fun x21 =>
  ((fold_Fold x21).bind fun x25 =>
  ((history_Visible x14).bind fun x31 =>
  ((history_Visible x25).bind fun x35 =>
  ((esref39_Visible x14).bind fun x394 =>
  ((esref39_SameValues x31 x394).bind fun x398 =>
  (if (!x398) then eslaw38_HistoryVisible.j3 x14 x31 true else ((history_SameValues x31 x35).bind fun x400 =>
  ((esref39_SameValues x31 x35).bind fun x401 =>
  (if (x400 != x401) then eslaw38_HistoryVisible.j3 x14 x31 true else ((history_SameValues x31 x31).bind fun x403 =>
  eslaw38_HistoryVisible.j3 x14 x31 (!x403)))))))))))))))

end Go.Proofs.Ytbbeobiampbddaa
set_option linter.unusedVariables false
set_option linter.unusedSimpArgs false
namespace Go.Proofs.Ytbbeobiampbddaa
open Go Go.RowKit Go.Proofs.YtbbeobiampbddaaL
set_option maxRecDepth 20000
theorem EI75 : EI Try.prog 75 (.agg #[.int .i64 0, .int .i64 0, .int .i64 0, .slice none 0 0]) 4 48 := ⟨by kernel_rfl, rfl, by decide⟩
theorem FN27 : FN Try.prog 27 := fun _ _ => by kernel_rfl
theorem FN28 : FN Try.prog 28 := fun _ _ => by kernel_rfl
theorem FN29 : FN Try.prog 29 := fun _ _ => by kernel_rfl
theorem FN31 : FN Try.prog 31 := fun _ _ => by kernel_rfl
theorem FN32 : FN Try.prog 32 := fun _ _ => by kernel_rfl
theorem FN33 : FN Try.prog 33 := fun _ _ => by kernel_rfl
theorem FN49 : FN Try.prog 49 := fun _ _ => by kernel_rfl
theorem PL61 : PL Try.prog 61 [(0, 1), (1, 6), (7, 1), (8, 1), (9, 1), (10, 1), (11, 1)] [.string ⟨#[]⟩, .bool false, .int .i64 0, .int .i64 0, .int .i64 0, .int .i64 0, .string ⟨#[]⟩, .bool false, .int .i64 0, .int .i64 0, .slice none 0 0, .bool false] := ⟨⟨_, Try.underlying61, fun _ => by kernel_rfl⟩, .agg #[.string ⟨#[]⟩, .bool false, .int .i64 0, .int .i64 0, .int .i64 0, .int .i64 0, .string ⟨#[]⟩, .bool false, .int .i64 0, .int .i64 0, .slice none 0 0, .bool false], fun _ => by kernel_rfl, rfl⟩
theorem PS53 : PS Try.prog 53 75 4 [.int .i64 0, .int .i64 0, .int .i64 0, .slice none 0 0] := ⟨by kernel_rfl, fun _ => by kernel_rfl, .agg #[.int .i64 0, .int .i64 0, .int .i64 0, .slice none 0 0], fun _ => by kernel_rfl, rfl⟩
theorem UN53 : Try.prog.underlying 53 = some (.slice 75) := by kernel_rfl

end Go.Proofs.Ytbbeobiampbddaa
set_option linter.unusedVariables false
set_option linter.unusedSimpArgs false
namespace Go.Proofs.Ytbbeobiampbddaa
open Go Go.RowKit Go.Proofs.YtbbeobiampbddaaL
set_option maxRecDepth 20000
theorem fold_Fold.calls {ok : Nat → Prop} {w0 : World} {x1 : List api_Update} {a2 : Option Addr} {c3 : Nat} {r : fold_Store} (hf : fold_Fold x1 = some r) (i0 : (vl (tSlice t_api_Update) x1 (.slice a2 x1.length c3)).holds ok w0) :
    Calls Try.prog 27 #[.slice a2 x1.length c3] w0 fun e w' => ∃ v, e = .returned v ∧ ∃ y : List Value, v = .agg y.toArray ∧ St ok (bz w0) w' [vl t_fold_Store r (.agg y.toArray)] [] := by
  unfold fold_Fold at hf
  obtain ⟨b, hb, hf⟩ := bindE hf
  have hs : St ok (bz w0) w0 [vl (tSlice t_api_Update) x1 (.slice a2 x1.length c3)] [] := St.init (All.cons i0 All.nil)
  clear i0
  refine calls_of_W (fn := Try.f27) (N := 19) Try.func27 rfl Try.ntmps27 rfl ?_
  refine W.seqK fun K1 hK1 => ?_
  refine W.region ?_
  refine WL.alloc hs ZV50 (fun g2 w hs => ?_)
  refine WL.nil ?_
  refine hK1 _ _ ?_
  refine W.seqK fun K2 hK2 => ?_
  refine W.region ?_
  refine WL.makeMap bstr tCell hs (fun g w hs => ?_)
  refine WL.assign (v := .map (some g)) rfl ?_
  refine WL.nil ?_
  refine hK2 _ _ ?_
  have hs := St.bldClose (K := FKf) (g := g) (b := []) (C := fun _ => True) hs trivial rfl
  refine W.seqK fun K3 hK3 => ?_
  have Jret : ∀ (ρ : Env) (w : World), ρ 2 = .pointer (some ⟨g2, 0, none⟩) → ρ 3 = .map (some g) → St ok (bz w0) w [] [bldo FKf g b, blk g2 50 [.slice none 0 0]] → K3 ρ w := by
    intro ρ w h2 h3 hs
    refine hK3 _ _ ?_
    refine W.seqK fun K4 hK4 => ?_
    refine W.region ?_
    refine WL.move (v := .map (some g)) h3 ?_
    have hs := St.bFreeze hs
    refine WL.call (vs := [.map (some g)]) hs FN48 ⟨rfl, trivial⟩ (fun ok hA => fold_store.calls hf (hA.get 0 rfl)) ?_
    rintro y w hs
    have hly := hs.agglen (n := 1) 0 rfl rfl rfl
    refine WL.storeAll (vs := y) hs 0 rfl TI50 h2 rfl rfl hly (hs.ones 0 rfl rfl) rfl (fun w hs => ?_)
    refine WL.nil ?_
    refine hK4 _ _ ?_
    refine W.ret ?_
    exact ⟨_, resOk_one rfl (res_all hs 0 rfl TI50 h2 hly), y, rfl, (hs.mask []).pick [0]⟩
  refine W.seqK fun K4 hK4 => ?_
  refine W.region ?_
  refine WL.move (v := .slice a2 x1.length c3) rfl ?_
  refine WL.len (v := .slice a2 x1.length c3) rfl (len_slice UN53) ?_
  refine WL.move (v := .int .i64 0) rfl ?_
  refine WL.nil ?_
  refine hK4 _ _ ?_
  refine W.block ?_
  refine W.loop (σ := Int × fold_B) hb (fun s ρ w => match s with | (i, x) => ρ 2 = .pointer (some ⟨g2, 0, none⟩) ∧ ρ 3 = .map (some g) ∧ ρ 7 = .slice a2 x1.length c3 ∧ ρ 8 = .int .i64 (x1.length : Int) ∧ ρ 9 = .int .i64 i ∧ St ok (bz w0) w [vl (tSlice t_api_Update) x1 (.slice a2 x1.length c3)] [bldo FKf g x, blk g2 50 [.slice none 0 0]]) ⟨rfl, rfl, rfl, rfl, rfl, hs⟩ ?_
  intro s ρ w o hI hf2 hbb
  obtain ⟨i, x⟩ := s
  obtain ⟨h2, h3, h7, h8, h9, hs⟩ := hI
  unfold fold_Fold.l1 at hf2
  refine W.seqK fun K5 hK5 => ?_
  refine W.region ?_
  refine WL.bin (v := .bool (decide (i < (x1.length : Int)))) h9 h8 (ib_lss _ _ _) ?_
  refine WL.nil ?_
  refine hK5 _ _ ?_
  refine W.seqK fun K6 hK6 => ?_
  rcases iteE hf2 with ⟨hc, hf2⟩ | ⟨hc, hf2⟩
  · refine W.cond_true (bool_tr rfl hc) ?_
    refine W.skip ?_
    refine hK6 _ _ ?_
    obtain ⟨u, hu, hf2⟩ := bindE hf2
    obtain ⟨x', hx', hf2⟩ := bindE hf2
    refine W.seqK fun K7 hK7 => ?_
    refine W.block ?_
    refine W.seqK fun K8 hK8 => ?_
    refine W.region ?_
    refine WL.indexAddr hs 0 rfl UN53 TI75 h7 h9 hu (fun ad hs => ?_)
    refine WL.loadP hs 0 rfl TI75 (.inl rfl) rfl (fun v hs => ?_)
    obtain ⟨ds, hld, rfl⟩ := hs.aggv (n := 4) 0 rfl rfl rfl
    refine WL.alloc hs ZV75 (fun g5 w hs => ?_)
    refine WL.storeAll (vs := ds) hs 0 rfl TI75 rfl rfl rfl hld (hs.ones 0 rfl rfl) rfl (fun w hs => ?_)
    refine WL.nil ?_
    refine hK8 _ _ ?_
    refine W.region ?_
    refine WL.move (v := .map (some g)) h3 ?_
    refine WL.loadAll hs 0 rfl TI75 rfl hld ?_
    have hs := (hs.front 1 rfl).pick [0, 2]
    have hs1 := hs.pick [0]
    refine WL.callR (vs := [.map (some g), .agg ds.toArray]) (R := fun v w' => St ok (bz w0) w' [vl (tSlice t_api_Update) x1 (.slice a2 x1.length c3)] [bldo FKf g x', blk g5 75 ds, blk g2 50 [.slice none 0 0]]) FN47 ⟨rfl, rfl, trivial⟩ ?_ ?_
    · obtain ⟨ok2, bs2, hA, hput⟩ := St.callO (Λ := [bldo FKf g x]) hs
      refine (fold_apply.calls (ok := ok2) hx' (hA.pick [0])).mono ?_
      rintro e' w' ⟨v, rfl, _, rfl, hs'⟩
      exact ⟨_, rfl, (hput w' _ _ hs').pick [1]⟩
    rintro _ w hs
    refine WL.nil ?_
    refine hK7 _ _ ?_
    refine W.region ?_
    obtain ⟨j, ej, hf2⟩ := letE hf2
    refine WL.bin (v := .int .i64 j) h9 rfl (ib_as ej (ib_add _ _ _)) ?_
    refine WL.move (v := .int .i64 j) rfl ?_
    refine WL.nil ?_
    exact ⟨_, (Option.some.inj hf2).symm, h2, h3, h7, h8, rfl, hs.mask [true, false, true]⟩
  · refine W.cond_false (bool_tr rfl hc) ?_
    refine W.exit ?_
    have hr := Option.some.inj hf2; subst hr
    have hr := hbb _ rfl; subst hr
    exact Jret _ _ h2 h3 (hs.pick [])

end Go.Proofs.Ytbbeobiampbddaa
set_option linter.unusedVariables false
set_option linter.unusedSimpArgs false
set_option linter.unnecessarySimpa false
namespace Go.Proofs.YtbbeobiampbddaaL
open Go Go.RowKit
section
variable {P : Program} {N : Nat} {ops : Array Oper} {Q : QE} {ρ : Env} {w : World} {w0 : Base} {rest : List Oper} {d : Option Tmp} {ty : TypeId} {pos : String} {aft : Array Edge} {gd : Option (Nat × Bool)} {ok0 : Nat → Prop} {Γ : List It} {Λ : List LObj}

def OwnAtF (sz off : Nat) (v : Value) (i : Int) (ad : Addr) : Prop := ∃ g n c, v = .slice (some ⟨g, 0, none⟩) n c ∧ ad = ⟨g, i.toNat * sz + off, none⟩
theorem OwnAt.f {sz : Nat} {v : Value} {i : Int} {ad : Addr} (h : OwnAt sz v i ad) : OwnAtF sz 0 v i ad := h
theorem WL.fieldAddrO {sz o1 : Nat} {v : Value} {i : Int} {ad : Addr} {T : TypeId} {x : Operand} {j off o2 : Nat} (hat : OwnAtF sz o1 v i ad) (hx : ρ.ev x = .pointer (some ad)) (hf : FA P T j off) (ho : o1 + off = o2)
    (K : ∀ ad', OwnAtF sz o2 v i ad' → WL P N ops Q rest (putE ρ d (.pointer (some ad'))) w)
    (hg : wantedE ops ρ ⟨d, .fieldAddr T x j, ty, pos, aft, gd⟩ = true := by rfl) (hd : fits N d = true := by rfl) :
    WL P N ops Q (⟨d, .fieldAddr T x j, ty, pos, aft, gd⟩ :: rest) ρ w := by
  obtain ⟨g, n, c, rfl, rfl⟩ := hat
  exact WL.fieldAddr hx hf rfl (K _ ⟨g, n, c, rfl, by rw [Nat.add_assoc, ho]⟩) hg hd
theorem WL.loadOF {α β : Type} {A : Ty α} {F : Ty β} {off : Nat} {get : α → β} {set : α → β → α} (hf : Fld A F off get set) {xs : List α} {y : α} {t E : TypeId} {x : Operand} {v : Value} {i : Int} {ad : Addr} (hs : St ok0 w0 w Γ Λ) (m : Nat) (hm : Λ[m]? = some (own A E v xs))
    (ht : TI P t F.agg F.sz) (h1 : F.agg = true ∨ F.sz = 1) (hat : OwnAtF A.sz off v i ad) (hi : idx xs i = some y) (hx : ρ.ev x = .pointer (some ad)) {z : β} (hz : get y = z) (K : ∀ u, St ok0 w0 w (vl F z u :: Γ) Λ → WL P N ops Q rest (putE ρ d u) w)
    (hg : wantedE ops ρ ⟨d, .load t x, ty, pos, aft, gd⟩ = true := by rfl) (hd : fits N d = true := by rfl) :
    WL P N ops Q (⟨d, .load t x, ty, pos, aft, gd⟩ :: rest) ρ w := by
  subst hz
  obtain ⟨h0, hlt, h2⟩ := idx_some hi
  obtain ⟨g, n, c, rfl, rfl⟩ := hat
  obtain ⟨hB, bss, hN, hltb, hO, hA⟩ := hs
  obtain ⟨l1, bs, l2, rfl, hl, ho, hput⟩ := Own.split m hO hm
  obtain ⟨g', c', cur, e, hb, hg', hc, hmx, hsz, hC⟩ := own_some ho (by omega)
  cases e
  have hR := hf.get_ (hC.2 _ _ h2)
  generalize hvs : ((((cur.toList.take (xs.length * A.sz)).drop (i.toNat * A.sz)).take A.sz).drop off).take F.sz = vs at hR
  have hlen := F.len hR
  have hcell : ∀ k u, vs[k]? = some u → w.cell? ⟨g, i.toNat * A.sz + off + k, none⟩ = some u := by
    intro k u hu
    rw [← hvs, List.getElem?_take] at hu
    split at hu
    · rw [List.getElem?_drop, List.getElem?_take] at hu
      split at hu
      · rw [List.getElem?_drop, List.getElem?_take] at hu
        split at hu
        · simp only [World.cell?, hg']
          rw [Nat.add_assoc]
          simpa using hu
        · cases hu
      · cases hu
    · cases hu
  have hload : (loadVar t ⟨g, i.toNat * A.sz + off, none⟩).run P w = .ok (bif F.agg then .agg vs.toArray else vs.getD 0 undef) w := by
    rcases hag : F.agg with _ | _
    · have hsz1 := h1.resolve_left (by simp [hag])
      rw [hag] at ht
      match vs, hlen, hcell with
      | [], hl, _ => simp [hsz1] at hl
      | c :: cs', hl, hc => exact run_loadVar1 ht (hc 0 c rfl)
    · rw [hag] at ht
      exact run_loadVarN ht hlen hcell
  exact WL.load_ hx hload (K _ ⟨hB, _, hN, hltb, hO, fun it hit => by
    rcases List.mem_cons.1 hit with rfl | hit
    · exact V_one hR
    · exact hA it hit⟩) hg hd
theorem setAt_in (cs vs : List Value) (p off sz : Nat) (h1 : off + vs.length ≤ sz) (h2 : p + sz ≤ cs.length) :
    setAt cs (p + off) vs = setAt cs p (((cs.drop p).take sz).take off ++ vs ++ ((cs.drop p).take sz).drop (off + vs.length)) := by
  have hl : (((cs.drop p).take sz).take off ++ vs ++ ((cs.drop p).take sz).drop (off + vs.length)).length = sz := by
    simp only [List.length_append, List.length_take, List.length_drop]
    omega
  rw [setAt_eq _ _ _ (by omega), setAt_eq _ _ _ (by omega), hl]
  rw [List.take_take, Nat.min_eq_left (by omega), List.drop_take, List.drop_drop]
  have e1 : cs.take (p + off) = cs.take p ++ (cs.drop p).take off := by rw [List.take_add]
  have e2 : cs.drop (p + off + vs.length) = (cs.drop (p + (off + vs.length))).take (sz - (off + vs.length)) ++ cs.drop (p + sz) := by
    have := (List.take_append_drop (sz - (off + vs.length)) (cs.drop (p + (off + vs.length)))).symm
    rw [List.drop_drop, show p + (off + vs.length) + (sz - (off + vs.length)) = p + sz by omega] at this
    rw [Nat.add_assoc]
    exact this
  rw [e1, e2]
  simp only [List.append_assoc]
theorem WL.storeOF {α β : Type} {A : Ty α} {F : Ty β} {off : Nat} {get : α → β} {set : α → β → α} (hf : Fld A F off get set) {xs zs : List α} {yo : α} {z : β} {t E : TypeId} {a x : Operand} {v u : Value} {i : Int} {ad : Addr} {vs : List Value} {agg : Bool} (hs : St ok0 w0 w Γ Λ) (m : Nat) (hm : Λ[m]? = some (own A E v xs))
    (ht : TI P t agg F.sz) (hat : OwnAtF A.sz off v i ad) (hi : idx xs i = some yo) (ha : ρ.ev a = .pointer (some ad)) (hx : ρ.ev x = u) (hu : u.cells = vs.toArray) (hR : ∀ ok, All ok w Γ → F.R ok w z vs) (hz : xs.set i.toNat (set yo z) = zs)
    (K : ∀ w', St ok0 w0 w' Γ (Λ.set m (own A E v zs)) → WL P N ops Q rest (putE ρ d undef) w')
    (hg : wantedE ops ρ ⟨d, .store t a x, ty, pos, aft, gd⟩ = true := by rfl) (hd : fits N d = true := by rfl) :
    WL P N ops Q (⟨d, .store t a x, ty, pos, aft, gd⟩ :: rest) ρ w := by
  obtain ⟨h0, hlt, h2⟩ := idx_some hi
  obtain ⟨g, n, c, rfl, rfl⟩ := hat
  obtain ⟨ok, bs, ho, hA, hn, hbs, hput⟩ := hs.split m hm
  obtain ⟨g', c', cur, e, hb, hg', hc, hmx, hsz, hC⟩ := own_some ho (by omega)
  cases e
  have hy := hR ok hA
  have hl := F.len hy
  have hle := hf.le
  have hbd : (i.toNat + 1) * A.sz ≤ xs.length * A.sz := Nat.mul_le_mul_right _ hlt
  rw [Nat.add_mul, Nat.one_mul] at hbd
  have hcur : xs.length * A.sz ≤ cur.size := by rw [hsz]; exact Nat.mul_le_mul_right _ hc
  have hrun := run_storeVar (P := P) ht (g := g) (j := i.toNat * A.sz + off) (cs := cur.toList) (T := E) (by simpa using hg') hu hl (F.one hy) (by rw [Array.length_toList]; omega)
  refine WL.unit hg hd (w' := setCells w g (i.toNat * A.sz + off) vs) (by
    show (do Instr.storeAt t (ρ.ev a) (ρ.ev x); pure Next.skip : Sem Next).run P w = _
    rw [ha, hx]
    exact exec_u ((run_bind (by rfl)).trans hrun)) (K _ ?_)
  have hnew := setCells_heap hg' (i.toNat * A.sz + off) vs
  refine hput _ [g] _ (by rw [hb]; exact off_setCells g vs w _) (by simp) (fun b hb' => ?_) fun ok' hm' => ?_
  · simp only [List.mem_singleton] at hb'
    subst hb'
    exact ⟨.inl (by rw [hb]; simp), lt_of_some hnew⟩
  · have hel := hC.2 _ _ h2
    have hnewR := hf.set_ hel hy
    have hC2 := (hC.set hnewR i.toNat hlt).move hm'
    rw [hz] at hC2
    have hzl : zs.length = xs.length := by rw [← hz, List.length_set]
    have hcl : (cur.toList.take (xs.length * A.sz)).length = xs.length * A.sz := by rw [List.length_take, Array.length_toList (xs := cur)]; omega
    have eq := setAt_in (cur.toList.take (xs.length * A.sz)) vs (i.toNat * A.sz) off A.sz (by omega) (by rw [hcl]; exact hbd)
    have hin : i.toNat * A.sz + off + vs.length ≤ xs.length * A.sz := by omega
    rw [hl] at eq
    rw [← eq] at hC2
    refine .inr ⟨by show 0 < c; omega, _, by simp [Value.ownBlock], ⟨hC2.1, .inr ⟨g, c, _, by rw [hzl], Nat.zero_le _, hnew, by rw [hzl]; exact hc, hmx, by simp [setAt_length, hsz], ?_⟩⟩, hC2⟩
    rw [hzl, List.toList_toArray, setAt_take _ _ _ _ hin]
end
end Go.Proofs.YtbbeobiampbddaaL
set_option linter.unusedVariables false
set_option linter.unusedSimpArgs false
set_option linter.unnecessarySimpa false
namespace Go.Proofs.YtbbeobiampbddaaL
open Go Go.RowKit

def takenIn (tk : Nat → List Nat) (m : Nat) (listed : Array Bool) (i : Nat) : Bool := (List.range m).any fun k => listed.getD k false && (tk k).contains i
def anyTakes (tk : Nat → List Nat) (m i : Nat) : Bool := (List.range m).any fun k => (tk k).contains i
def nodupB : List Nat → Bool
  | [] => true
  | x :: l => !l.contains x && nodupB l
def takeOk (l : List Oper) (m : Nat) (tk : Nat → List Nat) : Bool :=
  (List.range m).all fun i => nodupB (tk i) && ((tk i).all fun j => reach l l.length i j && Nat.blt j i) && (List.range m).all fun k => Nat.beq k i || (tk i).all fun j => !(tk k).contains j
def tkAt (l : List (List Nat)) (i : Nat) : List Nat := l.getD i []
theorem nodupB_iff : ∀ {l : List Nat}, nodupB l = true → l.Nodup
  | [], _ => by simp
  | x :: l, h => by
    simp only [nodupB, Bool.and_eq_true, Bool.not_eq_true'] at h
    refine List.nodup_cons.2 ⟨fun hm => ?_, nodupB_iff h.2⟩
    have : l.contains x = true := by simpa using hm
    rw [this] at h; cases h.1
theorem takenIn_iff {tk : Nat → List Nat} {m : Nat} {listed : Array Bool} {i : Nat} : takenIn tk m listed i = true ↔ ∃ k, k < m ∧ listed.getD k false = true ∧ i ∈ tk k := by
  unfold takenIn
  simp only [List.any_eq_true, List.mem_range, Bool.and_eq_true, List.contains_iff_mem]
theorem taken_all {tk : Nat → List Nat} {m : Nat} {listed : Array Bool} {i : Nat} (h : ∀ k, k < m → listed.getD k false = true) : takenIn tk m listed i = anyTakes tk m i := by
  rw [Bool.eq_iff_iff, takenIn_iff]
  unfold anyTakes
  simp only [List.any_eq_true, List.mem_range, List.contains_iff_mem]
  exact ⟨fun ⟨k, h1, _, h2⟩ => ⟨k, h1, h2⟩, fun ⟨k, h1, h2⟩ => ⟨k, h1, h k h1, h2⟩⟩
section
variable {l : List Oper} {m : Nat} {tk : Nat → List Nat}
theorem takeOk_at (h : takeOk l m tk = true) {i : Nat} (hi : i < m) (j : Nat) (hj : j ∈ tk i) : reach l l.length i j = true ∧ j < i ∧ j < m := by
  simp only [takeOk, List.all_eq_true, List.mem_range, Bool.and_eq_true] at h
  have h1 := (h i hi).1.2 j hj
  have h2 : j < i := by have := h1.2; simp [Nat.blt] at this; omega
  exact ⟨h1.1, h2, by omega⟩
theorem takeOk_nodup (h : takeOk l m tk = true) {i : Nat} (hi : i < m) : (tk i).Nodup := by
  simp only [takeOk, List.all_eq_true, List.mem_range, Bool.and_eq_true] at h
  exact nodupB_iff (h i hi).1.1
theorem takeOk_one (h : takeOk l m tk = true) {k i j : Nat} (hk : k < m) (hi : i < m) (hkt : j ∈ tk k) (hit : j ∈ tk i) : k = i := by
  simp only [takeOk, List.all_eq_true, List.mem_range, Bool.and_eq_true, Bool.or_eq_true] at h
  rcases (h i hi).2 k hk with h1 | h1
  · exact Nat.eq_of_beq_eq_true h1
  · have := h1 j hit
    have h2 : (tk k).contains j = true := by simpa using hkt
    rw [h2] at this; cases this
end
theorem flatMapC {α β : Type _} {f g : α → List β} : ∀ {l : List α}, (∀ x ∈ l, f x = g x) → l.flatMap f = l.flatMap g
  | [], _ => rfl
  | x :: l, h => by rw [List.flatMap_cons, List.flatMap_cons, h x (by simp), flatMapC fun y hy => h y (by simp [hy])]
theorem catTo_takes {α : Type _} {m : Nat} : ∀ (f : Nat → List α) (js : List Nat), js.Nodup → (∀ j ∈ js, j < m) → (catTo f m).Perm (js.flatMap f ++ catTo (fun j => if j ∈ js then [] else f j) m)
  | f, [], _, _ => by
    rw [catTo_congr (f := fun j => if j ∈ ([] : List Nat) then [] else f j) (g := f) fun j _ => if_neg (by simp)]
    exact .refl _
  | f, i :: js, hn, hm => by
    have hn' := List.nodup_cons.1 hn
    have h1 := catTo_take f (m := m) (i := i) (hm i (by simp))
    have h2 := catTo_takes (fun j => if j = i then [] else f j) js hn'.2 fun j hj => hm j (by simp [hj])
    have e1 : js.flatMap (fun j => if j = i then [] else f j) = js.flatMap f := flatMapC fun j hj => if_neg fun (e : j = i) => hn'.1 (e ▸ hj)
    have e2 : catTo (fun j => if j ∈ js then [] else if j = i then [] else f j) m = catTo (fun j => if j ∈ i :: js then [] else f j) m := catTo_congr fun j _ => by
      by_cases a : j ∈ js
      · rw [if_pos a, if_pos (by simp [a])]
      · by_cases b : j = i
        · rw [if_neg a, if_pos b, if_pos (by simp [b])]
        · rw [if_neg a, if_neg b, if_neg (by simp [a, b])]
    rw [e1, e2] at h2
    rw [List.flatMap_cons, List.append_assoc]
    exact h1.trans (h2.append_left (f i))
section
variable {P : Program} {N : Nat} {Q : QE} {ρ ρ0 : Env} {w w1 : World} {w0 : Base} {l : List Oper} {ok0 : Nat → Prop} {Γ : List It} {Λ : List LObj}
end
end Go.Proofs.YtbbeobiampbddaaL
set_option linter.unusedVariables false
set_option linter.unusedSimpArgs false
namespace Go.Proofs.YtbbeobiampbddaaL
open Go
def po (R : Addr → Prop) : PO := ⟨fun _ v => ∃ ad, v = .pointer (some ad) ∧ R ad, fun _ => [], fun _ => [], [], []⟩
end Go.Proofs.YtbbeobiampbddaaL
