/- What the row leans on, as few texts. -/
import Derived.Test.YtlbcfjblpopcnaaQFU1
import Derived.Test.YtlbcfjblpopcnaaQFU0
set_option linter.unusedVariables false
set_option linter.unusedSimpArgs false
namespace Go.Proofs.YtlbcfjblpopcnaaL
open Go Go.RowKit
section
variable {P : Program} {N : Nat} {Q : QE} {ρ : Env} {w w' : World} {w0 : Base} {ok0 : Nat → Prop} {Γ : List It} {Λ : List LObj}
variable {d : Option Tmp} {ty : TypeId} {pos : String} {aft : Array Edge} {gd : Option (Nat × Bool)} {ops : Array Oper} {rest : List Oper}
theorem St.drewN (hs : St ok0 w0 w Γ Λ) (q : Nat) : St ok0 w0 (w.drewN q) Γ Λ := hs.below ⟨rfl, rfl, rfl, Nat.le_refl _, fun _ _ => rfl⟩
theorem mapEq_run {T K V : TypeId} {a : Option Nat} (hT : P.underlying T = some (.map K V)) (w : World) : (Op.equal T (.map a) (.map none)).run P w = .ok a.isNone w := by
  show (Op.equalIn 10000 T (.map a) (.map none)).run P w = _
  unfold Op.equalIn
  refine (run_bind (run_und hT w)).trans ?_
  cases a <;> rfl
theorem WL.nilEqM {T K V T' : TypeId} {x : Operand} {a : Option Nat} (hT : P.underlying T = some (.map K V)) (hx : ρ.ev x = .map a)
    (K : WL P N ops Q rest (putE ρ d (.bool a.isNone)) w)
    (hg : wantedE ops ρ ⟨d, .binOp .eql T x (.const (.map none)) T', ty, pos, aft, gd⟩ = true := by rfl) (hd : fits N d = true := by rfl) :
    WL P N ops Q (⟨d, .binOp .eql T x (.const (.map none)) T', ty, pos, aft, gd⟩ :: rest) ρ w :=
  WL.value hg hd (v := .bool a.isNone) (w' := w) (by
    show (do pure (Next.value (← (do eqGuard .eql T x (.const (.map none)) (ρ.ev x) (.map none); binOp .eql T (ρ.ev x) (.map none)))) : Sem Next).run P w = _
    rw [hx]
    refine exec_v ((run_bind (x := ()) (w' := w) (by unfold eqGuard; rfl)).trans ?_)
    show (do pure (Value.bool (← Op.equal T (.map a) (.map none))) : Sem Value).run P w = _
    exact (run_bind (mapEq_run hT w)).trans rfl) K
theorem WL.callR {f : FuncId} {args : List Operand} {ats : Array TypeId} {vs : List Value} {R : Value → World → Prop} (hf : FN P f) (ha : Evs ρ args vs)
    (hc : Calls P f vs.toArray w fun e w' => ∃ v, e = .returned v ∧ R v w')
    (K : ∀ v w', R v w' → WL P N ops Q rest (putE ρ d v) w')
    (hg : wantedE ops ρ ⟨d, .call { callee := .value (.func f), args := args.toArray, argTypes := ats }, ty, pos, aft, gd⟩ = true := by rfl) (hd : fits N d = true := by rfl) :
    WL P N ops Q (⟨d, .call { callee := .value (.func f), args := args.toArray, argTypes := ats }, ty, pos, aft, gd⟩ :: rest) ρ w := by
  refine WL.enter (R := R) hg hd (w' := w) (f := f) (args := vs.toArray) ?_ hc K
  show (invoke (.fn (.func f) #[]) (#[] ++ args.toArray.map ρ.ev)).run P w = _
  rw [List.map_toArray, ha.map]
  simpa [invoke] using hf vs.toArray w
theorem St.bldWeak {φ : Type} {K : FK φ} {C : List (BE φ) → Prop} {g : Nat} {x : List (List UInt8 × List φ)} (hs : St ok0 w0 w Γ (bldc K C g x :: Λ)) : St ok0 w0 w Γ (bldo K g x :: Λ) := by
  obtain ⟨b, ⟨_, hc⟩, h⟩ := hs.bldOpen
  exact St.bldClose (K := K) h trivial hc
theorem WL.holeLook {φ : Type} (K : FK φ) {h : Hole φ} {g : Nat} {t kt et : TypeId} {m xo : Operand} (hs : St ok0 w0 w Γ (allo (holeL K g h) :: Λ)) (hk : KK P kt bstr) (ht : P.underlying t = some (.map kt et)) (hm : ρ.ev m = .map (some g)) (hx : ρ.ev xo = bstr h.k) (hz : ∀ w, (zeroValue et).run P w = .ok (.map none) w)
    (hb : ∀ q ∈ h.b1, q.1 ≠ h.k)
    (K1 : WL P N ops Q rest (putE ρ d (.map (some h.gi))) w)
    (hg : wantedE ops ρ ⟨d, .lookup t m xo false, ty, pos, aft, gd⟩ = true := by rfl) (hd : fits N d = true := by rfl) :
    WL P N ops Q (⟨d, .lookup t m xo false, ty, pos, aft, gd⟩ :: rest) ρ w := by
  have h1 : St ok0 w0 w Γ (mapo bstr tCell g (outL h.all) :: (mapo bstr (tRaw K.n) h.gi (ents K (h.f1 ++ (h.y, h.v) :: h.f2)) :: (owns K (h.f1 ++ h.f2) ++ restL K (h.b1 ++ h.b2)) ++ Λ)) := hs.allOpen
  refine WL.lookup (V := tCell) (z0 := Value.map none) h1 0 rfl hk ht hm hx hz (fun _ _ => tCell_V.2 ⟨rfl, rfl⟩) rfl (fun v h3 => ?_) hg hd
  have hv := h3.cellv 0 rfl
  have ha : (outL h.all).lookup h.k = some (Value.map (some h.gi)) := at_hole hb
  rw [ha] at hv
  rw [hv]
  exact K1
end
end Go.Proofs.YtlbcfjblpopcnaaL
set_option linter.unusedVariables false
set_option linter.unusedSimpArgs false
namespace Go.Proofs.YtlbcfjblpopcnaaL
open Go Go.RowKit
section
variable {w : World} {w0 : Base} {ok0 : Nat → Prop} {Γ : List It} {Λ : List LObj}
theorem St.drop1 {o : LObj} (hs : St ok0 w0 w Γ (o :: Λ)) : St ok0 w0 w Γ Λ := by
  obtain ⟨hB, bss, hN, hlt, hO, hA⟩ := hs
  match bss, hO with
  | [], h => exact h.elim
  | bs :: b2, ⟨_, h2⟩ =>
    have hsub : b2.flatten.Sublist (bs :: b2).flatten := by rw [List.flatten_cons]; exact List.sublist_append_right _ _
    have hm : ∀ b, reg ok0 w0 (bs :: b2).flatten b → b < w.heap.size → w.heap[b]? = w.heap[b]? ∧ reg ok0 w0 b2.flatten b := fun b hr _ => ⟨rfl, hr.1, fun h => hr.2 (hsub.subset h)⟩
    exact ⟨hB, b2, hN.sublist hsub, fun b hb => hlt b (hsub.subset hb), h2.move hm fun _ _ => rfl, hA.move hm⟩
theorem St.dropL {R : List LObj} (hs : St ok0 w0 w Γ (R ++ Λ)) : St ok0 w0 w Γ Λ := hs.allClose.drop1
end
section
variable {φ : Type} (K : FK φ)
def inno (gi : Nat) (fs : List φ) : LObj where
  H := fun ok bs w => ∃ l : List (φ × Value), l.map (·.1) = fs ∧ (allo (inL K ([], gi, l))).H ok bs w
  fn := by
    rintro ok ok' bs bs' w ⟨l, _, bss, rfl, _, h⟩ ⟨l', _, bss', rfl, _, h'⟩
    have hfp : ∀ (o : BE φ), ∀ p ∈ inP K o, ∀ (ok : Nat → Prop) (bs : List Nat) (w : World), p.1.H ok bs w → bs = p.2 := by
      intro o p hp ok bs w hh
      unfold inP at hp
      rcases List.mem_cons.1 hp with rfl | hp
      · exact hh.1
      · obtain ⟨e, _, rfl⟩ := List.mem_map.1 hp
        exact own_fp hh
    have e1 := Own.eqs (hfp ([], gi, l)) h
    have e2 := Own.eqs (hfp ([], gi, l')) h'
    have m1 := Own.mem h
    have m2 := Own.mem h'
    have key := inP_fps (ok := ok) (ok' := ok') (w := w) K [([], gi, l)] [([], gi, l')] rfl (fun o ho => by
      simp at ho; subst ho
      exact m1 _ (List.mem_cons_self ..)) (fun o ho => by
      simp at ho; subst ho
      exact m2 _ (List.mem_cons_self ..))
    simp only [List.flatMap_cons, List.flatMap_nil, List.append_nil] at key
    rw [e1, e2, key]
  lt := by
    rintro ok bs w ⟨l, _, h⟩ k hk
    exact (allo _).lt h k hk
  move := by
    rintro ok ok' bs w w' ⟨l, hl, h⟩ hk hm
    exact ⟨l, hl, (allo _).move h hk hm⟩
variable {w : World} {w0 : Base} {ok0 : Nat → Prop} {Γ : List It} {Λ : List LObj} {g gi : Nat} {fs : List φ} {x : List (List UInt8 × List φ)} {C : List (BE φ) → Prop}
theorem inL_eq (k : List UInt8) (gi : Nat) (l : List (φ × Value)) : inL K (k, gi, l) = mapo bstr (tRaw K.n) gi (ents K l) :: owns K l := by
  unfold inL inP ents owns
  rw [List.map_cons, List.map_map]
  rfl
theorem St.innOpen (hs : St ok0 w0 w Γ (inno K gi fs :: Λ)) : ∃ l : List (φ × Value), l.map (·.1) = fs ∧ St ok0 w0 w Γ (mapo bstr (tRaw K.n) gi (ents K l) :: (owns K l ++ Λ)) := by
  obtain ⟨hB, bss, hN, hlt, hO, hA⟩ := hs
  match bss, hO with
  | [], h => exact h.elim
  | bs :: bss, ⟨⟨l, hl, h1⟩, h2⟩ =>
    have h3 : St ok0 w0 w Γ (allo (inL K ([], gi, l)) :: Λ) := ⟨hB, bs :: bss, hN, hlt, ⟨h1, h2⟩, hA⟩
    have h4 := h3.allOpen
    rw [inL_eq] at h4
    exact ⟨l, hl, h4⟩
theorem St.innClose {l : List (φ × Value)} (hs : St ok0 w0 w Γ (mapo bstr (tRaw K.n) gi (ents K l) :: (owns K l ++ Λ))) (hl : l.map (·.1) = fs) : St ok0 w0 w Γ (inno K gi fs :: Λ) := by
  have h1 : St ok0 w0 w Γ (inL K ([], gi, l) ++ Λ) := by rw [inL_eq]; exact hs
  obtain ⟨hB, bss, hN, hlt, hO, hA⟩ := h1.allClose
  match bss, hO with
  | [], h => exact h.elim
  | bs :: bss, ⟨h1, h2⟩ => exact ⟨hB, bs :: bss, hN, hlt, ⟨⟨l, hl, h1⟩, h2⟩, hA⟩
theorem owns_perm (f1 f2 : List (φ × Value)) (y : φ) (v : Value) : (owns K (f1 ++ (y, v) :: f2)).Perm (own tStr K.E v (K.fe y) :: owns K (f1 ++ f2)) := by
  unfold owns
  rw [List.map_append, List.map_cons, List.map_append]
  exact List.perm_middle
variable {P : Program} {N : Nat} {Q : QE} {ρ : Env} {d : Option Tmp} {ty : TypeId} {pos : String} {aft : Array Edge} {gd : Option (Nat × Bool)} {ops : Array Oper} {rest : List Oper}
theorem WL.innPut {t kt et : TypeId} {m xo u : Operand} {y : φ} {v : Value} (hs : St ok0 w0 w Γ (own tStr K.E v (K.fe y) :: inno K gi fs :: Λ)) (hk : KK P kt bstr) (ht : P.underlying t = some (.map kt et)) (hm : ρ.ev m = .map (some gi)) (hx : ρ.ev xo = bstr (K.nm y))
    (hu : ρ.ev u = .agg (K.fc y v).toArray) (h1 : (K.fc y v).length = K.n) (h2 : ∀ u ∈ K.fc y v, u.oneCell' = true)
    (K1 : ∀ w', St ok0 w0 w' Γ (inno K gi (fput K.nm y fs) :: Λ) → WL P N ops Q rest (putE ρ d undef) w')
    (hg : wantedE ops ρ ⟨d, .mapUpdate t m xo u, ty, pos, aft, gd⟩ = true := by rfl) (hd : fits N d = true := by rfl) :
    WL P N ops Q (⟨d, .mapUpdate t m xo u, ty, pos, aft, gd⟩ :: rest) ρ w := by
  obtain ⟨l, hl, h3⟩ := (hs.perm (List.Perm.swap _ _ _)).innOpen
  cases hf : fs.find? (fun q => K.nm y == K.nm q) with
  | none =>
    rw [← hl] at hf
    have e6 : ents K l ++ [(K.nm y, K.fc y v)] = ents K (l ++ [(y, v)]) := by
      unfold ents
      rw [List.map_append]
      rfl
    refine WL.mapUpdate (V := tRaw K.n) (y := K.fc y v) h3 0 rfl hk ht hm hx hu (fun _ _ => tRaw_V.2 ⟨rfl, h1, h2⟩) ((mset_none (ents_none K hf)).trans e6) (fun w' h5 => ?_) hg hd
    have h6 : St ok0 w0 w' Γ (mapo bstr (tRaw K.n) gi (ents K (l ++ [(y, v)])) :: (owns K l ++ (own tStr K.E v (K.fe y) :: Λ))) := h5
    refine K1 w' (St.innClose (K := K) (l := l ++ [(y, v)]) (h6.perm (List.Perm.cons _ ?_)) ?_)
    · have e9 : owns K (l ++ [(y, v)]) = owns K l ++ [own tStr K.E v (K.fe y)] := by
        unfold owns
        rw [List.map_append]
        rfl
      rw [e9, List.append_assoc]
      exact .refl _
    · rw [List.map_append, ← hl, fput_none hf]
      rfl
  | some y0 =>
    rw [← hl] at hf
    obtain ⟨f1, v0, f2, rfl, q1, q2, q3⟩ := ents_at K hf
    have q3' : ∀ e ∈ f1, K.nm y0 ≠ K.nm e.1 := fun e he => by rw [← q1]; exact q3 e he
    refine WL.mapUpdate (V := tRaw K.n) (y := K.fc y v) h3 0 rfl hk ht hm hx hu (l' := ents K (f1 ++ (y, v) :: f2)) (fun _ _ => tRaw_V.2 ⟨rfl, h1, h2⟩) (by rw [q1]; exact mset_ents K q1 q3') (fun w' h5 => ?_) hg hd
    have h6 : St ok0 w0 w' Γ (mapo bstr (tRaw K.n) gi (ents K (f1 ++ (y, v) :: f2)) :: (owns K (f1 ++ (y0, v0) :: f2) ++ (own tStr K.E v (K.fe y) :: Λ))) := h5
    have h7 : St ok0 w0 w' Γ (own tStr K.E v0 (K.fe y0) :: (mapo bstr (tRaw K.n) gi (ents K (f1 ++ (y, v) :: f2)) :: (owns K (f1 ++ f2) ++ (own tStr K.E v (K.fe y) :: Λ)))) := h6.perm (by
      refine (List.Perm.cons _ ((owns_perm K f1 f2 y0 v0).append_right _)).trans ?_
      exact List.Perm.swap _ _ _)
    refine K1 w' (St.innClose (K := K) (l := f1 ++ (y, v) :: f2) (h7.drop1.perm (List.Perm.cons _ ?_)) ?_)
    · refine List.perm_middle.trans ?_
      exact ((owns_perm K f1 f2 y v).symm).append_right Λ
    · rw [List.map_append, List.map_cons, ← hl, List.map_append, List.map_cons, fput_at q1 (fun e he => by
        obtain ⟨q, hq, rfl⟩ := List.mem_map.1 he
        exact q3' q hq)]
theorem mset_out {b1 b2 : List (BE φ)} {k : List UInt8} {gi gi' : Nat} {l l' : List (φ × Value)} (hb : ∀ q ∈ b1, q.1 ≠ k) : mset (outL (b1 ++ (k, gi, l) :: b2)) k (Value.map (some gi')) = outL (b1 ++ (k, gi', l') :: b2) := by
  unfold outL
  induction b1 with
  | nil => rw [List.nil_append, List.nil_append, List.map_cons, List.map_cons, mset, if_pos (by simp)]
  | cons q b1 ih =>
    rw [List.cons_append, List.cons_append, List.map_cons, List.map_cons, mset]
    have : (k == q.1) = false := by
      rw [beq_eq_false_iff_ne]
      exact fun e => hb q (by simp) e.symm
    rw [this, if_neg (by simp), ih fun r hr => hb r (by simp [hr])]
theorem WL.bldAttach {t kt et : TypeId} {m xo u : Operand} {k : List UInt8} (hs : St ok0 w0 w Γ (inno K gi fs :: bldc K C g x :: Λ)) (hk : KK P kt bstr) (ht : P.underlying t = some (.map kt et)) (hm : ρ.ev m = .map (some g)) (hx : ρ.ev xo = bstr k) (hu : ρ.ev u = .map (some gi))
    (K1 : ∀ w', St ok0 w0 w' Γ (bldo K g (mset x k fs) :: Λ) → WL P N ops Q rest (putE ρ d undef) w')
    (hg : wantedE ops ρ ⟨d, .mapUpdate t m xo u, ty, pos, aft, gd⟩ = true := by rfl) (hd : fits N d = true := by rfl) :
    WL P N ops Q (⟨d, .mapUpdate t m xo u, ty, pos, aft, gd⟩ :: rest) ρ w := by
  obtain ⟨b, ⟨hC, hc⟩, h1⟩ := (hs.perm (List.Perm.swap _ _ _)).bldOpen
  subst hc
  have h2 : St ok0 w0 w Γ (mapo bstr tCell g (outL b) :: (restL K b ++ (inno K gi fs :: Λ))) := h1
  have fin : ∀ (b' : List (BE φ)) (l : List (φ × Value)) (w' : World), l.map (·.1) = fs → cont b' = mset (cont b) k fs → mset (outL b) k (Value.map (some gi)) = outL b' → St ok0 w0 w' Γ (bldL K g b' ++ Λ) → St ok0 w0 w' Γ (bldo K g (mset (cont b) k fs) :: Λ) :=
    fun b' l w' _ h1 _ h2 => St.bldClose (K := K) (b := b') h2 trivial h1
  cases hl : (cont b).lookup k with
  | none =>
    refine WL.mapUpdate (V := tCell) (y := Value.map (some gi)) h2 0 rfl hk ht hm hx hu (fun _ _ => tCell_V.2 ⟨rfl, rfl⟩) (mset_none (cont_none hl)) (fun w' h3 => ?_) hg hd
    have h4 : St ok0 w0 w' Γ (mapo bstr tCell g (outL b ++ [(k, Value.map (some gi))]) :: (restL K b ++ (inno K gi fs :: Λ))) := h3
    have h5 : St ok0 w0 w' Γ (inno K gi fs :: (mapo bstr tCell g (outL b ++ [(k, Value.map (some gi))]) :: (restL K b ++ Λ))) := h4.perm (by
      refine (List.Perm.cons _ List.perm_middle).trans ?_
      exact List.Perm.swap _ _ _)
    obtain ⟨l, hl2, h6⟩ := h5.innOpen
    refine K1 w' (fin (b ++ [(k, gi, l)]) l w' hl2 ?_ ?_ ?_)
    · unfold cont at hl ⊢
      rw [mset_none hl, List.map_append, ← hl2]
      rfl
    · rw [mset_none (cont_none hl)]
      unfold outL
      rw [List.map_append]
      rfl
    · have e1 : bldL K g (b ++ [(k, gi, l)]) = mapo bstr tCell g (outL b ++ [(k, Value.map (some gi))]) :: (restL K b ++ (mapo bstr (tRaw K.n) gi (ents K l) :: owns K l)) := by
        rw [bldL_eq]
        unfold outL restL
        rw [List.map_append, List.flatMap_append, List.map_append]
        congr 2
        have := inL_eq K k gi l
        unfold inL at this
        simp only [List.flatMap_cons, List.flatMap_nil, List.append_nil]
        exact this
      rw [e1]
      refine h6.perm ?_
      rw [List.cons_append, List.append_assoc]
      refine List.Perm.trans ?_ (List.Perm.cons _ (List.perm_append_comm_assoc _ _ _))
      exact (List.perm_middle (l₁ := mapo bstr (tRaw K.n) gi (ents K l) :: owns K l))
  | some fs0 =>
    obtain ⟨b1, o, b2, rfl, e1, e2, e3, e4⟩ := cont_at hl
    obtain ⟨k0, gi0, l0⟩ := o
    simp only at e1 e2 e3
    subst e1
    refine WL.mapUpdate (V := tCell) (y := Value.map (some gi)) h2 0 rfl hk ht hm hx hu (fun _ _ => tCell_V.2 ⟨rfl, rfl⟩) (mset_out (l' := []) e4) (fun w' h3 => ?_) hg hd
    have h4 : St ok0 w0 w' Γ (mapo bstr tCell g (outL (b1 ++ (k0, gi, []) :: b2)) :: (restL K (b1 ++ (k0, gi0, l0) :: b2) ++ (inno K gi fs :: Λ))) := h3
    have h5 : St ok0 w0 w' Γ (inL K (k0, gi0, l0) ++ (inno K gi fs :: (mapo bstr tCell g (outL (b1 ++ (k0, gi, []) :: b2)) :: (restL K (b1 ++ b2) ++ Λ)))) := h4.perm (by
      refine (List.Perm.cons _ ((restL_perm K b1 b2 (k0, gi0, l0)).append_right _)).trans ?_
      rw [List.append_assoc]
      refine (List.perm_middle.symm).trans ?_
      refine List.Perm.append_left _ ?_
      refine (List.Perm.cons _ List.perm_middle).trans ?_
      exact List.Perm.swap _ _ _)
    obtain ⟨l, hl2, h6⟩ := h5.dropL.innOpen
    refine K1 w' (fin (b1 ++ (k0, gi, l) :: b2) l w' hl2 ?_ ?_ ?_)
    · rw [cont_mset (l := l0) e4, hl2, show cont (b1 ++ (k0, gi, l0) :: b2) = cont (b1 ++ (k0, gi0, l0) :: b2) by unfold cont; simp]
    · exact mset_out e4
    · have e5 : outL (b1 ++ (k0, gi, []) :: b2) = outL (b1 ++ (k0, gi, l) :: b2) := by
        unfold outL
        simp
      rw [e5] at h6
      refine h6.perm ?_
      rw [bldL_eq, List.cons_append]
      have p1 := (restL_perm K b1 b2 (k0, gi, l)).append_right Λ
      rw [inL_eq, List.cons_append, List.cons_append, List.append_assoc] at p1
      refine List.Perm.trans ?_ (List.Perm.cons _ p1.symm)
      refine List.Perm.trans ?_ (List.Perm.swap _ _ _)
      refine List.Perm.cons _ ?_
      exact List.perm_middle
end
end Go.Proofs.YtlbcfjblpopcnaaL
set_option linter.unusedVariables false
set_option linter.unusedSimpArgs false
set_option linter.unusedSectionVars false
namespace Go.Proofs.YtlbcfjblpopcnaaL
open Go Go.RowKit
open Go.ChangeMaps (setBlock)
section
variable {κ β : Type} [BEq κ] [LawfulBEq κ] {kv : κ → Value} {V : Ty β} {ok : Nat → Prop} {w : World}
end
section
variable {P : Program} {N : Nat} {Q : QE} {ρ : Env} {w : World} {w0 : Base} {ok0 : Nat → Prop} {Γ : List It} {Λ : List LObj}
variable {d : Option Tmp} {ty : TypeId} {pos : String} {aft : Array Edge} {gd : Option (Nat × Bool)} {ops : Array Oper} {rest : List Oper}
variable {κ β : Type} [BEq κ] [LawfulBEq κ] {kv : κ → Value} {V : Ty β}
end
end Go.Proofs.YtlbcfjblpopcnaaL
set_option linter.unusedVariables false
set_option linter.unusedSimpArgs false
set_option maxRecDepth 20000
namespace Go.Proofs.Ytlbcfjblpopcnaa
open Go Go.RowKit Go.Proofs.YtlbcfjblpopcnaaL
abbrev rcells (r : fold_Register) : List Value := [.bool r.Set, .int .i64 r.Tag, .int .i64 r.Client, .int .i64 r.Seq, .int .i64 r.N, bstr r.S]
def fcells (y : fold_Field) (v : Value) : List Value := [bstr y.Name, .bool y.Register.Set, .int .i64 y.Register.Tag, .int .i64 y.Register.Client, .int .i64 y.Register.Seq, .int .i64 y.Register.N, bstr y.Register.S, .bool y.HasMax, .int .i64 y.Max, .int .i64 y.Sum, v, .bool y.Flag]
abbrev ecells (e : api_Effect) : List Value := [.int .i64 e.Kind, bstr e.Object, bstr e.Field, .int .i64 e.N, bstr e.S]
theorem regR (ok : Nat → Prop) (w : World) (r : fold_Register) : t_fold_Register.R ok w r (rcells r) := ⟨[.bool r.Set], _, rfl, rfl, ⟨[.int .i64 r.Tag], _, rfl, rfl, ⟨[.int .i64 r.Client], _, rfl, rfl, ⟨[.int .i64 r.Seq], _, rfl, rfl, ⟨[.int .i64 r.N], [bstr r.S], rfl, rfl, rfl⟩⟩⟩⟩⟩
theorem fieldR (ok : Nat → Prop) (w : World) (y : fold_Field) (v : Value) (h : (tSlice tStr).V ok w y.Elems v) : t_fold_Field.R ok w y (fcells y v) :=
  ⟨[bstr y.Name], _, rfl, rfl, ⟨rcells y.Register, [.bool y.HasMax, .int .i64 y.Max, .int .i64 y.Sum, v, .bool y.Flag], rfl, regR ok w y.Register, ⟨[.bool y.HasMax], _, rfl, rfl, ⟨[.int .i64 y.Max], _, rfl, rfl, ⟨[.int .i64 y.Sum], _, rfl, rfl, ⟨[v], [.bool y.Flag], rfl, R_one h, rfl⟩⟩⟩⟩⟩⟩
def FKf : FK fold_Field where
  n := 12
  E := 9
  fc := fcells
  fe := fold_Field.Elems
  nm := fold_Field.Name
  inj := by
    intro x v x' v' h
    unfold fcells at h
    simp only [List.cons.injEq] at h
    exact h.2.2.2.2.2.2.2.2.2.2.1
def FinO (g : Nat) (x1 : fold_B) (k f : List UInt8) (fs : List fold_Field) (O : LObj) : Prop :=
  (∃ h : Hole fold_Field, O = allo (holeL FKf g h) ∧ cont h.all = x1 ∧ h.k = k ∧ f = h.y.Name ∧ (∀ e ∈ h.f1, f ≠ e.1.Name) ∧ ∀ q ∈ h.b1, q.1 ≠ k) ∨
  (∃ C, O = bldc FKf C g x1 ∧ fs.find? (fun q => f == q.Name) = none)
theorem fold_with_at (x : fold_B) (k : List UInt8) : ∃ fs, (fold_with x k).lookup k = some fs := by
  unfold fold_with
  cases h : x.lookup k with
  | some fs => exact ⟨fs, by simpa using h⟩
  | none =>
    simp only [Option.isNone_none, if_true]
    refine ⟨[], ?_⟩
    induction x with
    | nil => simp
    | cons a x ih =>
      rw [List.lookup_cons] at h
      rw [List.cons_append, List.lookup_cons]
      cases hk : k == a.1 with
      | false => rw [hk] at h; exact ih h
      | true => rw [hk] at h; cases h
theorem fold_apply.calls {ok : Nat → Prop} {F : Base} {w0 : World} {x : fold_B} {u : api_Update} {g : Nat} {vu : Value} {r : fold_B} (hf : fold_apply u x = some r) (hs : St ok F w0 [vl t_api_Update u vu] [bldo FKf g x]) :
    Calls Try.prog 37 #[.map (some g), vu] w0 fun e w' => ∃ v, e = .returned v ∧ ∃ y : Unit, v = .tuple #[] ∧ St ok F w' [] [bldo FKf g r] := by
  unfold fold_apply at hf
  obtain ⟨cs, hl, rfl⟩ := hs.aggv (n := 4) 0 rfl rfl rfl
  obtain ⟨a, c, rfl⟩ := open_api_Update hs 0 rfl
  refine calls_of_W (fn := Try.f37) (N := 110) Try.func37 rfl Try.ntmps37 rfl ?_
  refine W.seqK fun K1 hK1 => ?_
  refine W.region ?_
  refine WL.box (vs := [.int .i64 u.Client, .int .i64 u.Seq, .int .i64 u.Tag, .slice a u.Effects.length c]) hs rfl rfl (fun g3 w hs => ?_)
  refine WL.nil ?_
  refine hK1 _ _ ?_
  have hs := hs.front 1 rfl
  refine W.seqK fun K2 hK2 => ?_
  refine W.region ?_
  refine WL.fieldAddr (m := 3) rfl FA41_3 rfl ?_
  refine WL.loadF (z := u.Effects) F_api_Update_Effects hs 1 rfl 0 rfl rfl TI39 (.inr rfl) rfl rfl (fun v hs => ?_)
  obtain ⟨a2, c2, rfl⟩ := hs.slice 0 rfl
  refine WL.len (v := .slice a2 u.Effects.length c2) rfl (len_slice UN39) ?_
  refine WL.move (v := .int .i64 0) rfl ?_
  refine WL.nil ?_
  refine hK2 _ _ ?_
  refine W.block ?_
  refine W.loop hf (fun s ρ w => match s with | (i, x) => ρ 0 = .map (some g) ∧ ρ 3 = .pointer (some ⟨g3, 0, none⟩) ∧ ρ 10 = .slice a2 u.Effects.length c2 ∧ ρ 11 = .int .i64 (u.Effects.length : Int) ∧ ρ 12 = .int .i64 i ∧ St ok F w [vl (tSlice t_api_Effect) u.Effects (.slice a2 u.Effects.length c2), vl t_api_Update u (.agg [.int .i64 u.Client, .int .i64 u.Seq, .int .i64 u.Tag, .slice a u.Effects.length c].toArray)] [bldo FKf g x, blk g3 41 [.int .i64 u.Client, .int .i64 u.Seq, .int .i64 u.Tag, .slice a u.Effects.length c]]) ⟨rfl, rfl, rfl, rfl, rfl, hs⟩ ?_
  intro s ρ w o hI hf hbb
  obtain ⟨i, x⟩ := s
  obtain ⟨h0, h3, h10, h11, h12, hs⟩ := hI
  unfold fold_apply.l1 at hf
  refine W.seqK fun K3 hK3 => ?_
  refine W.region ?_
  refine WL.bin (v := .bool (decide (i < (u.Effects.length : Int)))) h12 h11 (ib_lss _ _ _) ?_
  refine WL.nil ?_
  refine hK3 _ _ ?_
  refine W.seqK fun K4 hK4 => ?_
  rcases iteE hf with ⟨hc, hf⟩ | ⟨hc, hf⟩
  · refine W.cond_true (bool_tr rfl hc) ?_
    refine W.skip ?_
    refine hK4 _ _ ?_
    obtain ⟨e, he, hf⟩ := bindE hf
    obtain ⟨x', hx', hf⟩ := bindE hf
    refine W.seqK fun K5 hK5 => ?_
    have Jend : ∀ (ρ : Env) (w : World), ρ 0 = .map (some g) → ρ 3 = .pointer (some ⟨g3, 0, none⟩) → ρ 10 = .slice a2 u.Effects.length c2 → ρ 11 = .int .i64 (u.Effects.length : Int) → ρ 12 = .int .i64 i →
        St ok F w [vl (tSlice t_api_Effect) u.Effects (.slice a2 u.Effects.length c2), vl t_api_Update u (.agg [.int .i64 u.Client, .int .i64 u.Seq, .int .i64 u.Tag, .slice a u.Effects.length c].toArray)] [bldo FKf g x', blk g3 41 [.int .i64 u.Client, .int .i64 u.Seq, .int .i64 u.Tag, .slice a u.Effects.length c]] → K5 ρ w := by
      intro ρ w h0 h3 h10 h11 h12 hs
      refine hK5 _ _ ?_
      refine W.region ?_
      obtain ⟨j, ej, hf⟩ := letE hf
      refine WL.bin (v := .int .i64 j) h12 rfl (ib_as ej (ib_add _ _ _)) ?_
      refine WL.move (v := .int .i64 j) rfl ?_
      refine WL.nil ?_
      exact ⟨_, (Option.some.inj hf).symm, h0, h3, h10, h11, rfl, hs⟩
    unfold fold_eff at hx'
    obtain ⟨y', hy', hx'⟩ := bindE hx'
    have hx' := Option.some.inj hx'
    refine W.block ?_
    refine W.seqK fun K6 hK6 => ?_
    refine W.region ?_
    refine WL.indexAddr hs 0 rfl UN39 TI67 h10 h12 he (fun ad hs => ?_)
    refine WL.loadP hs 0 rfl TI67 (.inl rfl) rfl (fun v hs => ?_)
    obtain ⟨es, hl5, rfl⟩ := hs.aggv (n := 5) 0 rfl rfl rfl
    obtain rfl := open_api_Effect hs 0 rfl
    refine WL.alloc hs ZV67 (fun g5 w hs => ?_)
    refine WL.storeAll (vs := ecells e) hs 0 rfl TI67 rfl rfl rfl rfl (ones_of rfl) rfl (fun w hs => ?_)
    refine WL.nil ?_
    refine hK6 _ _ ?_
    have hs := (hs.front 1 rfl).pick [2, 3]
    have hs : St ok F w [vl (tSlice t_api_Effect) u.Effects (.slice a2 u.Effects.length c2), vl t_api_Update u (.agg [.int .i64 u.Client, .int .i64 u.Seq, .int .i64 u.Tag, .slice a u.Effects.length c].toArray)] [bldo FKf g x, blk g5 67 (ecells e), blk g3 41 [.int .i64 u.Client, .int .i64 u.Seq, .int .i64 u.Tag, .slice a u.Effects.length c]] := hs
    refine W.seqK fun K7 hK7 => ?_
    obtain ⟨fs, hfs⟩ := fold_with_at x e.Object
    have Jin : ∀ (C : List (BE fold_Field) → Prop) (ρ : Env) (w : World), ρ 0 = .map (some g) → ρ 3 = .pointer (some ⟨g3, 0, none⟩) → ρ 5 = .pointer (some ⟨g5, 0, none⟩) → ρ 10 = .slice a2 u.Effects.length c2 → ρ 11 = .int .i64 (u.Effects.length : Int) → ρ 12 = .int .i64 i →
        St ok F w [vl (tSlice t_api_Effect) u.Effects (.slice a2 u.Effects.length c2), vl t_api_Update u (.agg [.int .i64 u.Client, .int .i64 u.Seq, .int .i64 u.Tag, .slice a u.Effects.length c].toArray)] [bldc FKf C g (fold_with x e.Object), blk g5 67 (ecells e), blk g3 41 [.int .i64 u.Client, .int .i64 u.Seq, .int .i64 u.Tag, .slice a u.Effects.length c]] → K7 ρ w := by
      intro C ρ w h0 h3 h5 h10 h11 h12 hs
      refine hK7 _ _ ?_
      refine W.seqK fun K9 hK9 => ?_
      have core : ∀ (O : LObj) (y0 : fold_Field) (a3 : Option Addr) (n3 c3 g6 : Nat) (ρ : Env) (w : World), fold_at (fold_with x e.Object) e.Object e.Field = y0 → FinO g (fold_with x e.Object) e.Object e.Field fs O →
          ρ 0 = .map (some g) → ρ 3 = .pointer (some ⟨g3, 0, none⟩) → ρ 5 = .pointer (some ⟨g5, 0, none⟩) → ρ 6 = .pointer (some ⟨g6, 0, none⟩) → ρ 10 = .slice a2 u.Effects.length c2 → ρ 11 = .int .i64 (u.Effects.length : Int) → ρ 12 = .int .i64 i →
          St ok F w [vl (tSlice t_api_Effect) u.Effects (.slice a2 u.Effects.length c2), vl t_api_Update u (.agg [.int .i64 u.Client, .int .i64 u.Seq, .int .i64 u.Tag, .slice a u.Effects.length c].toArray)]
            [own tStr 9 (.slice a3 n3 c3) y0.Elems, O, blk g6 57 (fcells y0 (.slice a3 n3 c3)), blk g5 67 (ecells e), blk g3 41 [.int .i64 u.Client, .int .i64 u.Seq, .int .i64 u.Tag, .slice a u.Effects.length c]] → K9 ρ w := by
        intro O y0 a3 n3 c3 g6 ρ w hat hO h0 h3 h5 h6 h10 h11 h12 hs
        rw [hat] at hy'
        obtain ⟨y1, ey1⟩ : ∃ y1 : fold_Field, y1 = { y0 with Name := e.Field } := ⟨_, rfl⟩
        rw [← ey1] at hy'
        have eE : y0.Elems = y1.Elems := by rw [ey1]
        have eN : y1.Name = e.Field := by rw [ey1]
        have eS : setAt (fcells y0 (.slice a3 n3 c3)) 0 [bstr e.Field] = fcells y1 (.slice a3 n3 c3) := by rw [ey1]; rfl
        rw [eE] at hs
        refine hK9 _ _ ?_
        refine W.seqK fun K10 hK10 => ?_
        refine W.region ?_
        refine WL.fieldAddr (m := 2) h5 FA67_2 rfl ?_
        refine WL.load1 (v := bstr e.Field) hs 3 rfl TI9 rfl rfl ?_
        refine WL.fieldAddr (m := 0) h6 FA57_0 rfl ?_
        refine WL.store (vs := [bstr e.Field]) (cs' := fcells y1 (.slice a3 n3 c3)) hs 2 rfl TI9 rfl rfl rfl rfl (ones_of rfl) (Nat.le_of_ble_eq_true rfl) eS (fun w hs => ?_)
        refine WL.nil ?_
        refine hK10 _ _ ?_
        clear ey1 eE eS hat
        refine W.seqK fun K11 hK11 => ?_
        -- put back
        have Jset : ∀ (y' : fold_Field) (a4 : Option Addr) (n4 c4 : Nat) (ρ : Env) (w : World), fold_upd u e y1 = some y' → y'.Name = e.Field →
            ρ 0 = .map (some g) → ρ 3 = .pointer (some ⟨g3, 0, none⟩) → ρ 5 = .pointer (some ⟨g5, 0, none⟩) → ρ 6 = .pointer (some ⟨g6, 0, none⟩) → ρ 10 = .slice a2 u.Effects.length c2 → ρ 11 = .int .i64 (u.Effects.length : Int) → ρ 12 = .int .i64 i →
            St ok F w [vl (tSlice t_api_Effect) u.Effects (.slice a2 u.Effects.length c2), vl t_api_Update u (.agg [.int .i64 u.Client, .int .i64 u.Seq, .int .i64 u.Tag, .slice a u.Effects.length c].toArray)]
              [own tStr 9 (.slice a4 n4 c4) y'.Elems, O, blk g6 57 (fcells y' (.slice a4 n4 c4)), blk g5 67 (ecells e), blk g3 41 [.int .i64 u.Client, .int .i64 u.Seq, .int .i64 u.Tag, .slice a u.Effects.length c]] → K11 ρ w := by
          intro y2 a4 n4 c4 ρ w hup hn h0 h3 h5 h6 h10 h11 h12 hs
          rw [hup] at hy'
          have hy' := Option.some.inj hy'
          subst hy'
          refine hK11 _ _ ?_
          refine W.region ?_
          refine WL.move (v := .map (some g)) h0 ?_
          refine WL.fieldAddr (m := 1) h5 FA67_1 rfl ?_
          refine WL.load1 (v := bstr e.Object) hs 3 rfl TI9 rfl rfl ?_
          have hones : ∀ u ∈ FKf.fc y2 (.slice a4 n4 c4), u.oneCell' = true := ones_of rfl
          rcases hO with ⟨h, rfl, hc1, hk, hfy, hf1, hb1⟩ | ⟨C, rfl, hnone⟩
          · have hs := hs.front 1 rfl
            refine WL.holeLook FKf (h := h) hs (kkStr UN9) UN69 rfl (by rw [hk]; rfl) ZR92 (by rw [hk]; exact hb1) ?_
            refine WL.fieldAddr (m := 2) h5 FA67_2 rfl ?_
            refine WL.load1 (v := bstr e.Field) hs 3 rfl TI9 rfl rfl ?_
            refine WL.loadN (vs := fcells y2 (.slice a4 n4 c4)) hs 2 rfl TI57 h6 rfl rfl ?_
            have hs := hs.front 1 rfl
            refine WL.bldGive (K := FKf) (h := h) (y' := y2) (v' := .slice a4 n4 c4) hs (kkStr UN9) UN92 rfl (by show _ = bstr h.y.Name; rw [← hfy]; rfl) rfl (hn.trans hfy) rfl hones (by rw [hk]; exact hb1) (fun q hq => by show h.y.Name ≠ _; rw [← hfy]; exact hf1 q hq) (fun w hs => ?_)
            refine WL.nil ?_
            have hcont := hole_cont (K := FKf) (h := h) (y' := y2) (v' := .slice a4 n4 c4) hc1 (fs := fs) (by rw [hk]; exact hfs) (hn.trans hfy) (by rw [hk]; exact hb1) (fun q hq => by show h.y.Name ≠ _; rw [← hfy]; exact hf1 q hq)
            rw [hcont] at hs
            refine Jend _ _ h0 h3 h10 h11 h12 ?_
            rw [← hx']
            have e1 : fold_set (fold_with x e.Object) e.Object y2 = mset (fold_with x e.Object) h.k (fput FKf.nm y2 fs) := by
              unfold fold_set
              rw [hfs, hk]
              rfl
            rw [e1]
            exact (hs.mask [true, false, false, true]).bldWeak
          · have hs := hs.front 1 rfl
            refine WL.bldLook FKf (k := e.Object) hs (kkStr UN9) UN69 rfl rfl ZR92 (fun hno hs => ?_) (fun fs2 gi hfs2 hs => ?_)
            · rw [hfs] at hno; cases hno
            · rw [hfs] at hfs2
              have hfs2 := Option.some.inj hfs2
              subst hfs2
              refine WL.fieldAddr (m := 2) h5 FA67_2 rfl ?_
              refine WL.load1 (v := bstr e.Field) hs 3 rfl TI9 rfl rfl ?_
              refine WL.loadN (vs := fcells y2 (.slice a4 n4 c4)) hs 2 rfl TI57 h6 rfl rfl ?_
              have hs := hs.front 1 rfl
              refine WL.bldAdd (K := FKf) (k := e.Object) (y' := y2) (v' := .slice a4 n4 c4) hs (kkStr UN9) UN92 rfl (by show _ = bstr y2.Name; rw [hn]; rfl) rfl rfl hones hfs (by rw [show (fun q => FKf.nm y2 == FKf.nm q) = (fun q : fold_Field => e.Field == q.Name) from funext fun q => by show (y2.Name == q.Name) = _; rw [hn]]; exact hnone) (fun w hs => ?_)
              refine WL.nil ?_
              refine Jend _ _ h0 h3 h10 h11 h12 ?_
              rw [← hx']
              have e1 : fold_set (fold_with x e.Object) e.Object y2 = mset (fold_with x e.Object) e.Object (fput FKf.nm y2 fs) := by
                unfold fold_set
                rw [hfs]
                rfl
              rw [e1]
              exact (hs.mask [true, false, false, true]).bldWeak
        refine W.seqK fun K12 hK12 => ?_
        refine W.region ?_
        refine WL.fieldAddr (m := 0) h5 FA67_0 rfl ?_
        refine WL.load1 (v := .int .i64 e.Kind) hs 3 rfl TI3 rfl rfl ?_
        refine WL.nil ?_
        refine hK12 _ _ ?_
        refine W.block ?_
        have hup := hy'
        unfold fold_upd at hup
        refine W.seqK fun K13 hK13 => ?_
        refine W.region ?_
        refine WL.bin (v := .bool (e.Kind == 1)) rfl rfl (ib_eql _ _ _) ?_
        refine WL.assign (v := .bool (e.Kind == 1)) rfl ?_
        refine WL.nil ?_
        refine hK13 _ _ ?_
        rcases iteE hup with ⟨hk1, hup⟩ | ⟨hk1, hup⟩
        · refine W.cond_true (bool_tr rfl hk1) ?_
          obtain ⟨b, hb, hup⟩ := bindE hup
          refine W.seqK fun K14 hK14 => ?_
          refine W.region ?_
          refine WL.loadAll hs 4 rfl TI41 h3 rfl ?_
          refine WL.fieldAddr (m := 1) h6 FA57_1 rfl ?_
          refine WL.loadN (vs := rcells y1.Register) hs 2 rfl TI54 rfl rfl rfl ?_
          refine WL.call (vs := [.agg [.int .i64 u.Client, .int .i64 u.Seq, .int .i64 u.Tag, .slice a u.Effects.length c].toArray, .agg (rcells y1.Register).toArray]) hs FN57 ⟨rfl, rfl, trivial⟩ (fun ok hA => fold_newer.calls (x1 := u) (x5 := y1.Register) hb (hA.get 1 rfl) (V_agg (regR ok _ _) rfl)) ?_
          rintro _ w hs
          refine WL.nil ?_
          refine hK14 _ _ ?_
          cases b with
          | true =>
            refine W.cond_true rfl ?_
            refine W.region ?_
            refine WL.fieldAddr (m := 2) h3 FA41_2 rfl ?_
            refine WL.load1 (v := .int .i64 u.Tag) hs 4 rfl TI3 rfl rfl ?_
            refine WL.fieldAddr (m := 0) h3 FA41_0 rfl ?_
            refine WL.load1 (v := .int .i64 u.Client) hs 4 rfl TI3 rfl rfl ?_
            refine WL.fieldAddr (m := 1) h3 FA41_1 rfl ?_
            refine WL.load1 (v := .int .i64 u.Seq) hs 4 rfl TI3 rfl rfl ?_
            refine WL.fieldAddr (m := 3) h5 FA67_3 rfl ?_
            refine WL.load1 (v := .int .i64 e.N) hs 3 rfl TI2 rfl rfl ?_
            refine WL.fieldAddr (m := 4) h5 FA67_4 rfl ?_
            refine WL.load1 (v := bstr e.S) hs 3 rfl TI9 rfl rfl ?_
            refine WL.build (vs := [(0, .bool true), (1, .int .i64 u.Tag), (2, .int .i64 u.Client), (3, .int .i64 u.Seq), (4, .int .i64 e.N), (5, bstr e.S)]) (cs := rcells ⟨true, u.Tag, u.Client, u.Seq, e.N, e.S⟩) ⟨⟨rfl, rfl⟩, ⟨rfl, rfl⟩, ⟨rfl, rfl⟩, ⟨rfl, rfl⟩, ⟨rfl, rfl⟩, ⟨rfl, rfl⟩, trivial⟩ (bld PL54 rfl) ?_
            refine WL.fieldAddr (m := 1) h6 FA57_1 rfl ?_
            refine WL.store (vs := rcells ⟨true, u.Tag, u.Client, u.Seq, e.N, e.S⟩) (cs' := fcells { y1 with Register := ⟨true, u.Tag, u.Client, u.Seq, e.N, e.S⟩ } (.slice a3 n3 c3)) hs 2 rfl TI54 rfl rfl rfl rfl (ones_of rfl) (Nat.le_of_ble_eq_true rfl) rfl (fun w hs => ?_)
            refine WL.nil ?_
            have hup := Option.some.inj hup
            subst hup
            exact Jset _ a3 n3 c3 _ _ hy' eN h0 h3 h5 h6 h10 h11 h12 hs
          | false =>
            refine W.cond_false rfl ?_
            refine W.skip ?_
            have hup := Option.some.inj hup
            subst hup
            exact Jset _ a3 n3 c3 _ _ hy' eN h0 h3 h5 h6 h10 h11 h12 hs
        · refine W.cond_false (bool_tr rfl hk1) ?_
          refine W.seqK fun K15 hK15 => ?_
          refine W.region ?_
          refine WL.bin (v := .bool (e.Kind == 2)) rfl rfl (ib_eql _ _ _) ?_
          refine WL.assign (v := .bool (e.Kind == 2)) rfl ?_
          refine WL.nil ?_
          refine hK15 _ _ ?_
          rcases iteE hup with ⟨hk2, hup⟩ | ⟨hk2, hup⟩
          · refine W.cond_true (bool_tr rfl hk2) ?_
            refine W.seqK fun K16 hK16 => ?_
            have J16 : ∀ (ρ : Env) (w : World), some { y1 with HasMax := true, Max := e.N } = some y' → ρ 66 = .bool true → ρ 0 = .map (some g) → ρ 3 = .pointer (some ⟨g3, 0, none⟩) → ρ 5 = .pointer (some ⟨g5, 0, none⟩) → ρ 6 = .pointer (some ⟨g6, 0, none⟩) → ρ 10 = .slice a2 u.Effects.length c2 → ρ 11 = .int .i64 (u.Effects.length : Int) → ρ 12 = .int .i64 i →
                St ok F w [vl (tSlice t_api_Effect) u.Effects (.slice a2 u.Effects.length c2), vl t_api_Update u (.agg [.int .i64 u.Client, .int .i64 u.Seq, .int .i64 u.Tag, .slice a u.Effects.length c].toArray)] [own tStr 9 (.slice a3 n3 c3) y1.Elems, O, blk g6 57 (fcells y1 (.slice a3 n3 c3)), blk g5 67 (ecells e), blk g3 41 [.int .i64 u.Client, .int .i64 u.Seq, .int .i64 u.Tag, .slice a u.Effects.length c]] → K16 ρ w := by
              intro ρ w hup h66 h0 h3 h5 h6 h10 h11 h12 hs
              refine hK16 _ _ ?_
              refine W.cond_true h66 ?_
              have hs := hs.front 2 rfl
              refine W.any (by kernel_rfl) 4 2 [true, true, true, true, false, false] rfl rfl (poAt [pv (.pointer (some ⟨g5, 3, none⟩)), pv (.int .i64 e.N), pv (.pointer (some ⟨g6, 7, none⟩)), pw (blk g6 57 (fcells y1 (.slice a3 n3 c3))) (blk g6 57 (fcells { y1 with HasMax := true } (.slice a3 n3 c3)))])
                (Λ := [own tStr 9 (.slice a3 n3 c3) y1.Elems, O, blk g5 67 (ecells e), blk g3 41 [.int .i64 u.Client, .int .i64 u.Seq, .int .i64 u.Tag, .slice a u.Effects.length c]]) hs (by kernel_rfl) (by kernel_rfl) (by kernel_rfl) ⟨⟨⟨⟨trivial, ?_⟩, ?_⟩, ?_⟩, ?_⟩ ?_
              · intro ρ w Γx Λx hs hu hp
                refine WL.fieldAddr (m := 3) ((hu 5 rfl).trans h5) FA67_3 rfl ?_
                exact WL.nil ⟨rfl, _, rfl, rfl, hs.cutG 0 0⟩
              · intro ρ w Γx Λx hs hu hp
                have e1 : ρ 67 = .pointer (some ⟨g5, 3, none⟩) := (hp 0 rfl).1
                refine WL.load1 (v := .int .i64 e.N) hs (Λx.length + 2) (getApp rfl) TI2 e1 rfl ?_
                exact WL.nil ⟨rfl, _, rfl, rfl, hs.cutG 0 0⟩
              · intro ρ w Γx Λx hs hu hp
                refine WL.fieldAddr (m := 7) ((hu 6 rfl).trans h6) FA57_2 rfl ?_
                exact WL.nil ⟨rfl, _, rfl, rfl, hs.cutG 0 0⟩
              · intro ρ w Γx Λx hs hu hp
                have e1 : ρ 69 = .pointer (some ⟨g6, 7, none⟩) := (hp 2 rfl).1
                refine WL.store (vs := [.bool true]) (cs' := fcells { y1 with HasMax := true } (.slice a3 n3 c3)) hs (Λx.length + 0) (getApp rfl) TI4 e1 rfl rfl rfl (ones_of rfl) (Nat.le_of_ble_eq_true rfl) rfl (fun w hs => ?_)
                exact WL.nil ⟨rfl, _, rfl, trivial, hs.backP.cutG 0 0⟩
              · intro ρ w hs hu hp
                obtain ⟨⟨⟨⟨_, hp0⟩, hp1⟩, hp2⟩, hp3⟩ := hp
                have hs : St ok F w [vl (tSlice t_api_Effect) u.Effects (.slice a2 u.Effects.length c2), vl t_api_Update u (.agg [.int .i64 u.Client, .int .i64 u.Seq, .int .i64 u.Tag, .slice a u.Effects.length c].toArray)] [blk g6 57 (fcells { y1 with HasMax := true } (.slice a3 n3 c3)), own tStr 9 (.slice a3 n3 c3) y1.Elems, O, blk g5 67 (ecells e), blk g3 41 [.int .i64 u.Client, .int .i64 u.Seq, .int .i64 u.Tag, .slice a u.Effects.length c]] := hs
                have e1 : ρ 68 = .int .i64 e.N := hp1
                refine WA.step [4] (by kernel_rfl) (by simp) ⟨?_, trivial⟩
                refine WL.fieldAddr (m := 8) ((hu 6 rfl).trans h6) FA57_3 rfl ?_
                refine WL.nil ⟨rfl, _, rfl, ?_⟩
                refine WA.step [5] (by kernel_rfl) (by simp) ⟨?_, trivial⟩
                refine WL.store (vs := [.int .i64 e.N]) (cs' := fcells { y1 with HasMax := true, Max := e.N } (.slice a3 n3 c3)) hs 0 rfl TI2 rfl e1 rfl rfl (ones_of rfl) (Nat.le_of_ble_eq_true rfl) rfl (fun w hs => ?_)
                refine WL.nil ⟨rfl, _, rfl, ?_⟩
                refine WA.done (by kernel_rfl) ?_
                have hup := Option.some.inj hup
                subst hup
                exact Jset _ a3 n3 c3 _ _ hy' eN ((hu 0 rfl).trans h0) ((hu 3 rfl).trans h3) ((hu 5 rfl).trans h5) ((hu 6 rfl).trans h6) ((hu 10 rfl).trans h10) ((hu 11 rfl).trans h11) ((hu 12 rfl).trans h12) ((hs.front 2 rfl).front 2 rfl)
            refine W.region ?_
            refine WL.fieldAddr (m := 7) h6 FA57_2 rfl ?_
            refine WL.load1 (v := .bool y1.HasMax) hs 2 rfl TI4 rfl rfl ?_
            refine WL.not rfl ?_
            refine WL.move (v := .bool (!y1.HasMax)) rfl ?_
            rcases iteE hup with ⟨hm, hup⟩ | ⟨hm, hup⟩
            · refine WL.pass ((wanted_of rfl rfl (bool_tr rfl hm)).trans rfl) rfl ?_
              refine WL.pass ((wanted_of rfl rfl (bool_tr rfl hm)).trans rfl) rfl ?_
              refine WL.pass ((wanted_of rfl rfl (bool_tr rfl hm)).trans rfl) rfl ?_
              refine WL.pass ((wanted_of rfl rfl (bool_tr rfl hm)).trans rfl) rfl ?_
              refine WL.pass ((wanted_of rfl rfl (bool_tr rfl hm)).trans rfl) rfl ?_
              refine WL.pickT (v := .bool true) (bool_tr rfl hm) rfl ?_
              refine WL.nil ?_
              exact J16 _ _ hup rfl h0 h3 h5 h6 h10 h11 h12 hs
            · refine WL.fieldAddr (m := 8) h6 FA57_3 rfl ?_ (hg := (wanted_of rfl rfl (bool_tr rfl hm)).trans rfl)
              refine WL.load1 (v := .int .i64 y1.Max) hs 2 rfl TI2 rfl rfl ?_ (hg := (wanted_of rfl rfl (bool_tr rfl hm)).trans rfl)
              refine WL.fieldAddr (m := 3) h5 FA67_3 rfl ?_ (hg := (wanted_of rfl rfl (bool_tr rfl hm)).trans rfl)
              refine WL.load1 (v := .int .i64 e.N) hs 3 rfl TI2 rfl rfl ?_ (hg := (wanted_of rfl rfl (bool_tr rfl hm)).trans rfl)
              refine WL.bin (v := .bool (decide (y1.Max < e.N))) rfl rfl (ib_lss _ _ _) ?_ (hg := (wanted_of rfl rfl (bool_tr rfl hm)).trans rfl)
              refine WL.pickF (v := .bool (decide (y1.Max < e.N))) (bool_tr rfl hm) rfl ?_
              refine WL.nil ?_
              rcases iteE hup with ⟨hm2, hup⟩ | ⟨hm2, hup⟩
              · exact J16 _ _ hup (bool_tr rfl hm2) h0 h3 h5 h6 h10 h11 h12 hs
              · refine hK16 _ _ ?_
                refine W.cond_false (bool_tr rfl hm2) ?_
                refine W.skip ?_
                have hup := Option.some.inj hup
                subst hup
                exact Jset _ a3 n3 c3 _ _ hy' eN h0 h3 h5 h6 h10 h11 h12 hs
          · refine W.cond_false (bool_tr rfl hk2) ?_
            refine W.seqK fun K17 hK17 => ?_
            refine W.region ?_
            refine WL.bin (v := .bool (e.Kind == 3)) rfl rfl (ib_eql _ _ _) ?_
            refine WL.assign (v := .bool (e.Kind == 3)) rfl ?_
            refine WL.nil ?_
            refine hK17 _ _ ?_
            rcases iteE hup with ⟨hk3, hup⟩ | ⟨hk3, hup⟩
            · refine W.cond_true (bool_tr rfl hk3) ?_
              refine W.region ?_
              refine WL.fieldAddr (m := 9) h6 FA57_4 rfl ?_
              refine WL.load1 (v := .int .i64 y1.Sum) hs 2 rfl TI2 rfl rfl ?_
              refine WL.fieldAddr (m := 3) h5 FA67_3 rfl ?_
              refine WL.load1 (v := .int .i64 e.N) hs 3 rfl TI2 rfl rfl ?_
              refine WL.bin (v := .int .i64 (IntKind.i64.wrap (y1.Sum + e.N))) rfl rfl (ib_add _ _ _) ?_
              refine WL.fieldAddr (m := 9) h6 FA57_4 rfl ?_
              refine WL.store (vs := [.int .i64 (IntKind.i64.wrap (y1.Sum + e.N))]) (cs' := fcells { y1 with Sum := IntKind.i64.wrap (y1.Sum + e.N) } (.slice a3 n3 c3)) hs 2 rfl TI2 rfl rfl rfl rfl (ones_of rfl) (Nat.le_of_ble_eq_true rfl) rfl (fun w hs => ?_)
              refine WL.nil ?_
              have hup := Option.some.inj hup
              subst hup
              exact Jset _ a3 n3 c3 _ _ hy' eN h0 h3 h5 h6 h10 h11 h12 hs
            · refine W.cond_false (bool_tr rfl hk3) ?_
              refine W.seqK fun K18 hK18 => ?_
              refine W.region ?_
              refine WL.bin (v := .bool (e.Kind == 4)) rfl rfl (ib_eql _ _ _) ?_
              refine WL.assign (v := .bool (e.Kind == 4)) rfl ?_
              refine WL.nil ?_
              refine hK18 _ _ ?_
              rcases iteE hup with ⟨hk4, hup⟩ | ⟨hk4, hup⟩
              · refine W.cond_true (bool_tr rfl hk4) ?_
                obtain ⟨l, hlO, hup⟩ := bindE hup
                unfold insO at hlO
                obtain ⟨⟨hasc, hlen⟩, hlO⟩ := guardE hlO
                have hlO := Option.some.inj hlO
                have hup := Option.some.inj hup
                subst hup
                have hns := insS_pos y1.Elems e.S
                refine W.seqK fun K19 hK19 => ?_
                refine W.region ?_
                refine WL.fieldAddr (m := 10) h6 FA57_5 rfl ?_
                refine WL.load1 (v := .slice a3 n3 c3) hs 2 rfl TI55 rfl rfl ?_
                refine WL.fieldAddr (m := 4) h5 FA67_4 rfl ?_
                refine WL.load1 (v := bstr e.S) hs 3 rfl TI9 rfl rfl ?_
                refine WL.callR (vs := [.slice a3 n3 c3, bstr e.S]) (R := fun v w' => v = .tuple ([.int .i64 (posS y1.Elems e.S : Nat), .bool (decide (posS y1.Elems e.S < y1.Elems.length ∧ y1.Elems.getD (posS y1.Elems e.S) e.S = e.S))] : List Value).toArray ∧ St ok F w' [vl (tSlice t_api_Effect) u.Effects (.slice a2 u.Effects.length c2), vl t_api_Update u (.agg [.int .i64 u.Client, .int .i64 u.Seq, .int .i64 u.Tag, .slice a u.Effects.length c].toArray)] [own tStr 9 (.slice a3 n3 c3) y1.Elems, O, blk g6 57 (fcells y1 (.slice a3 n3 c3)), blk g5 67 (ecells e), blk g3 41 [.int .i64 u.Client, .int .i64 u.Seq, .int .i64 u.Tag, .slice a u.Effects.length c]])
                  FN58 ⟨rfl, rfl, trivial⟩ ((bsearch_own lay_bs (s := e.S) hs 0 rfl hasc (by omega)).mono (by rintro e' w' ⟨rfl, q, rfl⟩; exact ⟨_, rfl, rfl, hs.drewN q⟩)) ?_
                rintro _ w ⟨rfl, hs⟩
                refine WL.move rfl ?_
                refine WL.extract rfl rfl ?_
                refine WL.extract rfl rfl ?_
                refine WL.assign (v := .int .i64 (posS y1.Elems e.S : Nat)) rfl ?_
                refine WL.assign (v := .bool (decide (posS y1.Elems e.S < y1.Elems.length ∧ y1.Elems.getD (posS y1.Elems e.S) e.S = e.S))) rfl ?_
                refine WL.nil ?_
                refine hK19 _ _ ?_
                refine W.seqK fun K20 hK20 => ?_
                refine W.region ?_
                refine WL.move (v := .bool (decide (posS y1.Elems e.S < y1.Elems.length ∧ y1.Elems.getD (posS y1.Elems e.S) e.S = e.S))) rfl ?_
                refine WL.not rfl ?_
                refine WL.nil ?_
                refine hK20 _ _ ?_
                by_cases hfd : posS y1.Elems e.S < y1.Elems.length ∧ y1.Elems.getD (posS y1.Elems e.S) e.S = e.S
                · rw [if_pos hfd, hlO] at hns
                  refine W.cond_false (bool_tr rfl (by rw [decide_eq_true hfd]; rfl)) ?_
                  refine W.skip ?_
                  exact Jset _ a3 n3 c3 _ _ hy' eN h0 h3 h5 h6 h10 h11 h12 (by rw [hns]; exact hs)
                · rw [if_neg hfd, hlO] at hns
                  refine W.cond_true (bool_tr rfl (by rw [decide_eq_false hfd]; rfl)) ?_
                  refine W.region ?_
                  refine WL.fieldAddr (m := 10) h6 FA57_5 rfl ?_
                  refine WL.load1 (v := .slice a3 n3 c3) hs 2 rfl TI55 rfl rfl ?_
                  refine WL.move (v := .int .i64 (posS y1.Elems e.S : Nat)) rfl ?_
                  refine WL.fieldAddr (m := 4) h5 FA67_4 rfl ?_
                  refine WL.load1 (v := bstr e.S) hs 3 rfl TI9 rfl rfl ?_
                  refine WL.buildSlice (n := 1) (vs := [(0, bstr e.S)]) (cs := [bstr e.S]) hs ⟨⟨rfl, rfl⟩, trivial⟩ (bls PS55 (by decide) rfl) (fun gl w hs => ?_)
                  refine WL.callR (vs := [.slice a3 n3 c3, .int .i64 (posS y1.Elems e.S : Nat), .slice (some ⟨gl, 0, none⟩) 1 1]) (R := fun v w' => St ok F w' [vl (tSlice t_api_Effect) u.Effects (.slice a2 u.Effects.length c2), vl t_api_Update u (.agg [.int .i64 u.Client, .int .i64 u.Seq, .int .i64 u.Tag, .slice a u.Effects.length c].toArray)] [own tStr 9 v l, O, blk g6 57 (fcells y1 (.slice a3 n3 c3)), blk g5 67 (ecells e), blk g3 41 [.int .i64 u.Client, .int .i64 u.Seq, .int .i64 u.Tag, .slice a u.Effects.length c]])
                    FN59 ⟨rfl, rfl, rfl, trivial⟩ ((insert_own lay_ins rfl (s := e.S) (k := posS y1.Elems e.S) hs 0 rfl (posS_le _ _) (by omega)).mono (by rintro e' w' ⟨v', rfl, hs'⟩; refine ⟨v', rfl, ?_⟩; rw [hns]; exact hs')) ?_
                  rintro v w hs
                  obtain ⟨a4, n4, c4, rfl⟩ := hs.ownv3 0 rfl
                  refine WL.fieldAddr (m := 10) h6 FA57_5 rfl ?_
                  refine WL.store (vs := [.slice a4 n4 c4]) (cs' := fcells { y1 with Elems := l } (.slice a4 n4 c4)) hs 2 rfl TI55 rfl rfl rfl rfl (ones_of rfl) (Nat.le_of_ble_eq_true rfl) rfl (fun w hs => ?_)
                  refine WL.nil ?_
                  exact Jset _ a4 n4 c4 _ _ hy' eN h0 h3 h5 h6 h10 h11 h12 hs
              · refine W.cond_false (bool_tr rfl hk4) ?_
                refine W.seqK fun K21 hK21 => ?_
                refine W.region ?_
                refine WL.bin (v := .bool (e.Kind == 5)) rfl rfl (ib_eql _ _ _) ?_
                refine WL.assign (v := .bool (e.Kind == 5)) rfl ?_
                refine WL.nil ?_
                refine hK21 _ _ ?_
                rcases iteE hup with ⟨hk5, hup⟩ | ⟨hk5, hup⟩
                · refine W.cond_true (bool_tr rfl hk5) ?_
                  refine W.region ?_
                  refine WL.fieldAddr (m := 11) h6 FA57_6 rfl ?_
                  refine WL.store (vs := [.bool true]) (cs' := fcells { y1 with Flag := true } (.slice a3 n3 c3)) hs 2 rfl TI4 rfl rfl rfl rfl (ones_of rfl) (Nat.le_of_ble_eq_true rfl) rfl (fun w hs => ?_)
                  refine WL.nil ?_
                  have hup := Option.some.inj hup
                  subst hup
                  exact Jset _ a3 n3 c3 _ _ hy' eN h0 h3 h5 h6 h10 h11 h12 hs
                · refine W.cond_false (bool_tr rfl hk5) ?_
                  refine W.skip ?_
                  have hup := Option.some.inj hup
                  subst hup
                  exact Jset _ a3 n3 c3 _ _ hy' eN h0 h3 h5 h6 h10 h11 h12 hs
      refine W.region ?_
      refine WL.move (v := .map (some g)) h0 ?_
      refine WL.fieldAddr (m := 1) h5 FA67_1 rfl ?_
      refine WL.load1 (v := bstr e.Object) hs 1 rfl TI9 rfl rfl ?_
      refine WL.bldLook FKf (k := e.Object) hs (kkStr UN9) UN69 rfl rfl ZR92 (fun hno hs => ?_) (fun fs2 gi hfs2 hs => ?_)
      · rw [hfs] at hno; cases hno
      · rw [hfs] at hfs2
        have hfs2 := Option.some.inj hfs2
        subst hfs2
        refine WL.fieldAddr (m := 2) h5 FA67_2 rfl ?_
        refine WL.load1 (v := bstr e.Field) hs 1 rfl TI9 rfl rfl ?_
        refine WL.bldTake (K := FKf) (k := e.Object) (f := e.Field) (z := fcells fold_zero (.slice none 0 0)) hs (kkStr UN9) UN92 rfl rfl ZR57 rfl (ones_of rfl) hfs (fun hn hs => ?_) (fun h hy hx hk hgi hfe hf1 hb1 hs => ?_)
        · have hs := hs.ownNil tStr 9
          refine WL.alloc hs ZV57 (fun g6 w hs => ?_)
          refine WL.storeAll (vs := fcells fold_zero (.slice none 0 0)) hs 0 rfl TI57 rfl rfl rfl rfl (ones_of rfl) rfl (fun w hs => ?_)
          refine WL.nil ?_
          refine core _ fold_zero none 0 0 g6 _ _ ?_ (.inr ⟨_, rfl, hn⟩) h0 h3 h5 rfl h10 h11 h12 ((hs.front 2 rfl).front 2 rfl)
          unfold fold_at
          rw [hfs]
          show (fs.find? _).getD _ = _
          have hn' : fs.find? (fun q => e.Field == q.Name) = none := hn
          rw [hn']
          rfl
        · obtain ⟨a3, n3, c3, hv⟩ := hs.ownv3 0 rfl
          rw [hv] at hs ⊢
          refine WL.alloc hs ZV57 (fun g6 w hs => ?_)
          refine WL.storeAll (vs := fcells h.y (.slice a3 n3 c3)) hs 0 rfl TI57 rfl rfl rfl rfl (ones_of rfl) rfl (fun w hs => ?_)
          refine WL.nil ?_
          refine core _ h.y a3 n3 c3 g6 _ _ ?_ (.inl ⟨h, rfl, hx, hk, hfe, hf1, hb1⟩) h0 h3 h5 rfl h10 h11 h12 ((hs.front 2 rfl).front 2 rfl)
          unfold fold_at
          rw [hfs]
          show (fs.find? _).getD _ = _
          have hy2 : fs.find? (fun q => e.Field == q.Name) = some h.y := hy
          rw [hy2]
          rfl
    refine W.seqK fun K8 hK8 => ?_
    refine W.region ?_
    refine WL.move (v := .map (some g)) h0 ?_
    refine WL.fieldAddr (m := 1) rfl FA67_1 rfl ?_
    refine WL.load1 (v := bstr e.Object) hs 1 rfl TI9 rfl rfl ?_
    refine WL.bldLook FKf (k := e.Object) hs (kkStr UN9) UN69 rfl rfl ZR92 (fun hno hs => ?_) (fun fs2 gi hfs2 hs => ?_)
    · refine WL.nilEqM UN92 rfl ?_
      refine WL.nil ?_
      refine hK8 _ _ ?_
      refine W.cond_true rfl ?_
      refine W.region ?_
      refine WL.move (v := .map (some g)) h0 ?_
      refine WL.fieldAddr (m := 1) rfl FA67_1 rfl ?_
      refine WL.load1 (v := bstr e.Object) hs 1 rfl TI9 rfl rfl ?_
      refine WL.makeMap bstr (tRaw FKf.n) hs (fun gi w hs => ?_)
      refine WL.bldPut (K := FKf) (k := e.Object) hs (kkStr UN9) UN69 rfl rfl rfl hno (fun w hs => ?_)
      refine WL.nil ?_
      refine Jin (At e.Object gi) _ _ h0 h3 rfl h10 h11 h12 ?_
      have e1 : fold_with x e.Object = x ++ [(e.Object, [])] := by
        unfold fold_with
        rw [hno]
        rfl
      rw [e1]
      exact hs
    · refine WL.nilEqM UN92 rfl ?_
      refine WL.nil ?_
      refine hK8 _ _ ?_
      refine W.cond_false rfl ?_
      refine W.skip ?_
      refine Jin (At e.Object gi) _ _ h0 h3 rfl h10 h11 h12 ?_
      have e1 : fold_with x e.Object = x := by
        unfold fold_with
        rw [hfs2]
        rfl
      rw [e1]
      exact hs
  · refine W.cond_false (bool_tr rfl hc) ?_
    refine W.exit ?_
    have hr := Option.some.inj hf; subst hr
    have hr := hbb _ rfl; subst hr
    exact ⟨_, resOk_none rfl, (), rfl, (hs.mask [true]).pick []⟩
theorem fold_load.calls {ok : Nat → Prop} {w0 : World} {t : fold_Store} {vt : Value} {r : fold_B} (hf : fold_load t = some r) (i0 : (vl t_fold_Store t vt).holds ok w0) :
    Calls Try.prog 49 #[vt] w0 fun e w' => ∃ v, e = .returned v ∧ ∃ g : Nat, v = .map (some g) ∧ St ok (bz w0) w' [] [bldo FKf g r] := by
  unfold fold_load at hf
  have hs : St ok (bz w0) w0 [vl t_fold_Store t vt] [] := St.init (All.cons i0 All.nil)
  clear i0
  obtain ⟨cs, hl, rfl⟩ := hs.aggv (n := 1) 0 rfl rfl rfl
  refine calls_of_W (fn := Try.f49) (N := 40) Try.func49 rfl Try.ntmps49 rfl ?_
  refine W.seqK fun K1 hK1 => ?_
  refine W.region ?_
  refine WL.box (vs := cs) hs rfl rfl (fun g1 w hs => ?_)
  refine WL.assign (v := .map none) rfl ?_
  refine WL.nil ?_
  refine hK1 _ _ ?_
  refine W.seqK fun K2 hK2 => ?_
  refine W.region ?_
  refine WL.makeMap bstr tCell hs (fun g w hs => ?_)
  refine WL.assign (v := .map (some g)) rfl ?_
  refine WL.nil ?_
  refine hK2 _ _ ?_
  have hs := St.bldClose (K := FKf) (g := g) (b := []) (C := fun _ => True) hs trivial rfl
  refine W.seqK fun K3 hK3 => ?_
  have Jret : ∀ (ρ : Env) (w : World), ρ 3 = .map (some g) → St ok (bz w0) w [vl (tSlice t_fold_Object) t.Objects (.slice none 0 0)] [bldo FKf g r] ∨ St ok (bz w0) w [] [bldo FKf g r] → K3 ρ w := by
    intro ρ w h3 hs
    have hs : St ok (bz w0) w [] [bldo FKf g r] := hs.elim (fun h => h.pick []) id
    refine hK3 _ _ ?_
    refine W.seqK fun K4 hK4 => ?_
    refine W.region ?_
    refine WL.move (v := .map (some g)) h3 ?_
    refine WL.assign (v := .map (some g)) rfl ?_
    refine WL.nil ?_
    refine hK4 _ _ ?_
    refine W.ret ?_
    exact ⟨_, resOk_one rfl rfl, g, rfl, hs⟩
  refine W.seqK fun K4 hK4 => ?_
  refine W.region ?_
  refine WL.fieldAddr (m := 0) rfl FA29_0 rfl ?_
  refine WL.loadF (z := t.Objects) F_fold_Store_Objects hs 1 rfl 0 rfl rfl TI27 (.inr rfl) rfl rfl (fun v hs => ?_)
  obtain ⟨a2, c2, rfl⟩ := hs.slice 0 rfl
  refine WL.len (v := .slice a2 t.Objects.length c2) rfl (len_slice UN27) ?_
  refine WL.move (v := .int .i64 0) rfl ?_
  refine WL.nil ?_
  refine hK4 _ _ ?_
  refine W.block ?_
  refine W.loop (σ := Int × fold_B) hf (fun s ρ w => match s with | (i, x) => ρ 3 = .map (some g) ∧ ρ 11 = .slice a2 t.Objects.length c2 ∧ ρ 12 = .int .i64 (t.Objects.length : Int) ∧ ρ 13 = .int .i64 i ∧ St ok (bz w0) w [vl (tSlice t_fold_Object) t.Objects (.slice a2 t.Objects.length c2)] [bldo FKf g x]) ⟨rfl, rfl, rfl, rfl, (hs.mask [true]).pick [0]⟩ ?_
  intro s ρ w o hI hf hbb
  obtain ⟨i, x⟩ := s
  obtain ⟨h3, h11, h12, h13, hs⟩ := hI
  unfold fold_load.l2 at hf
  refine W.seqK fun K5 hK5 => ?_
  refine W.region ?_
  refine WL.bin (v := .bool (decide (i < (t.Objects.length : Int)))) h13 h12 (ib_lss _ _ _) ?_
  refine WL.nil ?_
  refine hK5 _ _ ?_
  refine W.seqK fun K6 hK6 => ?_
  rcases iteE hf with ⟨hc, hf⟩ | ⟨hc, hf⟩
  · refine W.cond_true (bool_tr rfl hc) ?_
    refine W.skip ?_
    refine hK6 _ _ ?_
    obtain ⟨ob, hob, hf⟩ := bindE hf
    obtain ⟨fs, hfs, hf⟩ := bindE hf
    refine W.seqK fun K7 hK7 => ?_
    have Jend : ∀ (ρ : Env) (w : World), ρ 3 = .map (some g) → ρ 11 = .slice a2 t.Objects.length c2 → ρ 12 = .int .i64 (t.Objects.length : Int) → ρ 13 = .int .i64 i → St ok (bz w0) w [vl (tSlice t_fold_Object) t.Objects (.slice a2 t.Objects.length c2)] [bldo FKf g (mset x ob.Name fs)] → K7 ρ w := by
      intro ρ w h3 h11 h12 h13 hs
      refine hK7 _ _ ?_
      refine W.region ?_
      obtain ⟨j, ej, hf⟩ := letE hf
      refine WL.bin (v := .int .i64 j) h13 rfl (ib_as ej (ib_add _ _ _)) ?_
      refine WL.move (v := .int .i64 j) rfl ?_
      refine WL.nil ?_
      exact ⟨_, (Option.some.inj hf).symm, h3, h11, h12, rfl, hs⟩
    refine W.block ?_
    refine W.seqK fun K8 hK8 => ?_
    refine W.region ?_
    refine WL.indexAddr hs 0 rfl UN27 TI51 h11 h13 hob (fun ad hs => ?_)
    refine WL.loadP hs 0 rfl TI51 (.inl rfl) rfl (fun v hs => ?_)
    obtain ⟨os, hlo, rfl⟩ := hs.aggv (n := 2) 0 rfl rfl rfl
    obtain ⟨a3, c3, rfl⟩ := open_fold_Object hs 0 rfl
    refine WL.alloc hs ZV51 (fun g5 w hs => ?_)
    refine WL.storeAll (vs := [bstr ob.Name, .slice a3 ob.Fields.length c3]) hs 0 rfl TI51 rfl rfl rfl rfl (ones_of rfl) rfl (fun w hs => ?_)
    refine WL.nil ?_
    refine hK8 _ _ ?_
    refine W.seqK fun K9 hK9 => ?_
    refine W.region ?_
    refine WL.makeMap bstr (tRaw FKf.n) hs (fun gi w hs => ?_)
    refine WL.assign (v := .map (some gi)) rfl ?_
    refine WL.nil ?_
    refine hK9 _ _ ?_
    have hs := St.innClose (K := FKf) (gi := gi) (fs := []) (l := []) hs rfl
    refine W.seqK fun K10 hK10 => ?_
    have Jput : ∀ (ρ : Env) (w : World), ρ 3 = .map (some g) → ρ 5 = .pointer (some ⟨g5, 0, none⟩) → ρ 6 = .map (some gi) → ρ 11 = .slice a2 t.Objects.length c2 → ρ 12 = .int .i64 (t.Objects.length : Int) → ρ 13 = .int .i64 i →
        St ok (bz w0) w [vl (tSlice t_fold_Object) t.Objects (.slice a2 t.Objects.length c2)] [inno FKf gi fs, bldo FKf g x, blk g5 51 [bstr ob.Name, .slice a3 ob.Fields.length c3]] → K10 ρ w := by
      intro ρ w h3 h5 h6 h11 h12 h13 hs
      refine hK10 _ _ ?_
      refine W.region ?_
      refine WL.move (v := .map (some g)) h3 ?_
      refine WL.fieldAddr (m := 0) h5 FA51_0 rfl ?_
      refine WL.load1 (v := bstr ob.Name) hs 2 rfl TI9 rfl rfl ?_
      refine WL.move (v := .map (some gi)) h6 ?_
      refine WL.bldAttach FKf (k := ob.Name) hs (kkStr UN9) UN69 rfl rfl rfl (fun w hs => ?_)
      refine WL.nil ?_
      exact Jend _ _ h3 h11 h12 h13 (hs.mask [true])
    refine W.seqK fun K11 hK11 => ?_
    refine W.region ?_
    refine WL.fieldAddr (m := 1) rfl FA51_1 rfl ?_
    refine WL.loadF (z := ob.Fields) F_fold_Object_Fields hs 1 rfl 0 rfl rfl TI49 (.inr rfl) rfl rfl (fun v hs => ?_)
    obtain ⟨a4, c4, rfl⟩ := hs.slice 0 rfl
    refine WL.len (v := .slice a4 ob.Fields.length c4) rfl (len_slice UN49) ?_
    refine WL.move (v := .int .i64 0) rfl ?_
    refine WL.nil ?_
    refine hK11 _ _ ?_
    refine W.block ?_
    have hs := (hs.front 2 rfl).pick [0, 3]
    have hs := hs.front 1 rfl
    refine W.loop (σ := Int × List fold_Field) hfs (fun s ρ w => match s with | (k, fs) => ρ 3 = .map (some g) ∧ ρ 5 = .pointer (some ⟨g5, 0, none⟩) ∧ ρ 6 = .map (some gi) ∧ ρ 11 = .slice a2 t.Objects.length c2 ∧ ρ 12 = .int .i64 (t.Objects.length : Int) ∧ ρ 13 = .int .i64 i ∧ ρ 19 = .slice a4 ob.Fields.length c4 ∧ ρ 20 = .int .i64 (ob.Fields.length : Int) ∧ ρ 21 = .int .i64 k ∧ St ok (bz w0) w [vl (tSlice t_fold_Field) ob.Fields (.slice a4 ob.Fields.length c4), vl (tSlice t_fold_Object) t.Objects (.slice a2 t.Objects.length c2)] [inno FKf gi fs, bldo FKf g x, blk g5 51 [bstr ob.Name, .slice a3 ob.Fields.length c3]]) ⟨h3, rfl, rfl, h11, h12, h13, rfl, rfl, rfl, hs⟩ ?_
    intro s ρ w o2 hI hf2 hbb2
    obtain ⟨k, fs2⟩ := s
    obtain ⟨h3, h5, h6, h11, h12, h13, h19, h20, h21, hs⟩ := hI
    unfold fold_load.l1 at hf2
    refine W.seqK fun K12 hK12 => ?_
    refine W.region ?_
    refine WL.bin (v := .bool (decide (k < (ob.Fields.length : Int)))) h21 h20 (ib_lss _ _ _) ?_
    refine WL.nil ?_
    refine hK12 _ _ ?_
    refine W.seqK fun K13 hK13 => ?_
    rcases iteE hf2 with ⟨hc2, hf2⟩ | ⟨hc2, hf2⟩
    · refine W.cond_true (bool_tr rfl hc2) ?_
      refine W.skip ?_
      refine hK13 _ _ ?_
      obtain ⟨f, hfk, hf2⟩ := bindE hf2
      obtain ⟨l, hcl, hf2⟩ := bindE hf2
      refine W.seqK fun K14 hK14 => ?_
      refine W.block ?_
      refine W.seqK fun K15 hK15 => ?_
      refine W.region ?_
      refine WL.indexAddr hs 0 rfl UN49 TI57 h19 h21 hfk (fun ad hs => ?_)
      refine WL.loadP hs 0 rfl TI57 (.inl rfl) rfl (fun v hs => ?_)
      obtain ⟨ds, hld, rfl⟩ := hs.aggv (n := 12) 0 rfl rfl rfl
      obtain ⟨a6, c6, rfl⟩ := open_fold_Field hs 0 rfl
      have hs := hs.add (it := vl (tSlice tStr) f.Elems (.slice a6 f.Elems.length c6)) fun ok hA => V_fld F_fold_Field_Elems (hA.get 0 rfl) rfl rfl rfl
      refine WL.alloc hs ZV57 (fun g8 w hs => ?_)
      refine WL.storeAll (vs := fcells f (.slice a6 f.Elems.length c6)) hs 0 rfl TI57 rfl rfl rfl rfl (ones_of rfl) rfl (fun w hs => ?_)
      refine WL.nil ?_
      refine hK15 _ _ ?_
      refine W.seqK fun K16 hK16 => ?_
      refine W.region ?_
      refine WL.fieldAddr (m := 10) rfl FA57_5 rfl ?_
      refine WL.load1 (v := .slice a6 f.Elems.length c6) hs 0 rfl TI55 rfl rfl ?_
      refine WL.call (vs := [.slice a6 f.Elems.length c6]) hs FN55 ⟨rfl, trivial⟩ (fun ok hA => slices_Clone_string.calls (x1 := f.Elems) hcl (hA.get 0 rfl)) ?_
      rintro ⟨a7, n7, c7⟩ w hs
      refine WL.fieldAddr (m := 10) rfl FA57_5 rfl ?_
      refine WL.store (vs := [.slice a7 n7 c7]) (cs' := fcells { f with Elems := l } (.slice a7 n7 c7)) hs 1 rfl TI55 rfl rfl rfl rfl (ones_of rfl) (Nat.le_of_ble_eq_true rfl) rfl (fun w hs => ?_)
      refine WL.nil ?_
      refine hK16 _ _ ?_
      refine W.region ?_
      refine WL.move (v := .map (some gi)) h6 ?_
      refine WL.fieldAddr (m := 0) rfl FA57_0 rfl ?_
      refine WL.load1 (v := bstr f.Name) hs 1 rfl TI9 rfl rfl ?_
      refine WL.loadN (vs := fcells { f with Elems := l } (.slice a7 n7 c7)) hs 1 rfl TI57 rfl rfl rfl ?_
      have hs := (hs.front 2 rfl).front 1 rfl
      refine WL.innPut FKf (y := { f with Elems := l }) (v := .slice a7 n7 c7) hs (kkStr UN9) UN92 rfl rfl rfl rfl (ones_of rfl) (fun w hs => ?_)
      refine WL.nil ?_
      refine hK14 _ _ ?_
      refine W.region ?_
      obtain ⟨j, ej, hf2⟩ := letE hf2
      refine WL.bin (v := .int .i64 j) h21 rfl (ib_as ej (ib_add _ _ _)) ?_
      refine WL.move (v := .int .i64 j) rfl ?_
      refine WL.nil ?_
      exact ⟨_, (Option.some.inj hf2).symm, h3, h5, h6, h11, h12, h13, h19, h20, rfl, (hs.mask [true, false, true, true]).pick [3, 4]⟩
    · refine W.cond_false (bool_tr rfl hc2) ?_
      refine W.exit ?_
      have hr := Option.some.inj hf2; subst hr
      have hr := hbb2 _ rfl; subst hr
      exact Jput _ _ h3 h5 h6 h11 h12 h13 (hs.pick [1])
  · refine W.cond_false (bool_tr rfl hc) ?_
    refine W.exit ?_
    have hr := Option.some.inj hf; subst hr
    have hr := hbb _ rfl; subst hr
    exact Jret _ _ h3 (.inr (hs.pick []))
theorem fold_store.calls {ok : Nat → Prop} {w0 : World} {x : fold_F} {g : Nat} {r : fold_Store} (hf : fold_store x = some r) (i0 : (vl (tMap bstr (tMap bstr t_fold_Field)) x (.map (some g))).holds ok w0) :
    Calls Try.prog 38 #[.map (some g)] w0 fun e w' => ∃ v, e = .returned v ∧ ∃ y : List Value, v = .agg y.toArray ∧ St ok (bz w0) w' [vl t_fold_Store r (.agg y.toArray)] [] := by
  unfold fold_store at hf
  obtain ⟨ns, hns, hf⟩ := bindE hf
  obtain ⟨ol, hol, hf⟩ := bindE hf
  have hf := Option.some.inj hf
  subst hf
  have hs : St ok (bz w0) w0 [vl (tMap bstr (tMap bstr t_fold_Field)) x (.map (some g))] [] := St.init (All.cons i0 All.nil)
  clear i0
  refine calls_of_W (fn := Try.f38) (N := 48) Try.func38 rfl Try.ntmps38 rfl ?_
  refine W.seqK fun K1 hK1 => ?_
  refine W.region ?_
  refine WL.alloc hs ZV29 (fun g2 w hs => ?_)
  refine WL.nil ?_
  refine hK1 _ _ ?_
  refine W.seqK fun K2 hK2 => ?_
  refine W.region ?_
  refine WL.alloc hs ZV29 (fun g3 w hs => ?_)
  refine WL.nil ?_
  refine hK2 _ _ ?_
  refine W.seqK fun K3 hK3 => ?_
  have hs := hs.ownNil t_fold_Object 51
  have Jret : ∀ (a : Option Addr) (n c : Nat) (ρ : Env) (w : World), ρ 2 = .pointer (some ⟨g2, 0, none⟩) → ρ 3 = .pointer (some ⟨g3, 0, none⟩) → St ok (bz w0) w [] [own t_fold_Object 51 (.slice a n c) ol, blk g3 29 [.slice a n c], blk g2 29 [.slice none 0 0]] → K3 ρ w := by
    intro a n c ρ w h2 h3 hs
    refine hK3 _ _ ?_
    refine W.seqK fun K4 hK4 => ?_
    refine W.region ?_
    refine WL.loadN (vs := [.slice a n c]) hs 1 rfl TI29 h3 rfl rfl ?_
    refine WL.storeAll (vs := [.slice a n c]) hs 2 rfl TI29 h2 rfl rfl rfl (ones_of rfl) rfl (fun w hs => ?_)
    refine WL.nil ?_
    refine hK4 _ _ ?_
    refine W.ret ?_
    obtain rfl := hs.ownLen 0 rfl
    have hs2 := hs.freezeOwn 0 rfl
    have hs3 := hs2.add (it := vl t_fold_Store ⟨ol⟩ (.agg [.slice a ol.length c].toArray)) fun ok hA => V_agg (R_one (hA.get 0 rfl)) rfl
    exact ⟨_, resOk_one rfl (res_all hs 2 rfl TI29 h2 rfl), [.slice a ol.length c], rfl, (hs3.mask []).pick [0]⟩
  refine W.seqK fun K4 hK4 => ?_
  refine W.region ?_
  refine WL.move (v := .map (some g)) rfl ?_
  refine WL.sortedKeys sk_B UN9 hs 0 rfl rfl hns (fun cl v w hs => ?_)
  obtain ⟨a1, c1, rfl⟩ := hs.ownv 0 rfl
  have hs := hs.freezeOwn 0 rfl
  refine WL.len (v := .slice a1 ns.length c1) rfl (len_slice UN55) ?_
  refine WL.move (v := .int .i64 0) rfl ?_
  refine WL.nil ?_
  refine hK4 _ _ ?_
  refine W.block ?_
  refine W.loop (σ := Int × List fold_Object) hol (fun s ρ w => match s with | (i, out) => ∃ (a : Option Addr), ∃ (n : Nat), ∃ (c : Nat), ρ 0 = .map (some g) ∧ ρ 2 = .pointer (some ⟨g2, 0, none⟩) ∧ ρ 3 = .pointer (some ⟨g3, 0, none⟩) ∧ ρ 11 = .slice a1 ns.length c1 ∧ ρ 12 = .int .i64 (ns.length : Int) ∧ ρ 13 = .int .i64 i ∧ St ok (bz w0) w [vl (tSlice tStr) ns (.slice a1 ns.length c1), vl (tMap bstr (tMap bstr t_fold_Field)) x (.map (some g))] [own t_fold_Object 51 (.slice a n c) out, blk g3 29 [.slice a n c], blk g2 29 [.slice none 0 0]]) ⟨none, 0, 0, rfl, rfl, rfl, rfl, rfl, rfl, hs⟩ ?_
  intro s ρ w o hI hf hbb
  obtain ⟨i, out⟩ := s
  obtain ⟨a, n, c, h0, h2, h3, h11, h12, h13, hs⟩ := hI
  unfold fold_store.l2 at hf
  refine W.seqK fun K5 hK5 => ?_
  refine W.region ?_
  refine WL.bin (v := .bool (decide (i < (ns.length : Int)))) h13 h12 (ib_lss _ _ _) ?_
  refine WL.nil ?_
  refine hK5 _ _ ?_
  refine W.seqK fun K6 hK6 => ?_
  rcases iteE hf with ⟨hc, hf⟩ | ⟨hc, hf⟩
  · refine W.cond_true (bool_tr rfl hc) ?_
    refine W.skip ?_
    refine hK6 _ _ ?_
    obtain ⟨nm, hnm, hf⟩ := bindE hf
    obtain ⟨fs, hfs, hf⟩ := bindE hf
    obtain ⟨l, hl, hf⟩ := bindE hf
    obtain ⟨out', hout, hf⟩ := bindE hf
    refine W.seqK fun K7 hK7 => ?_
    have Jend : ∀ (a : Option Addr) (n c : Nat) (ρ : Env) (w : World), ρ 0 = .map (some g) → ρ 2 = .pointer (some ⟨g2, 0, none⟩) → ρ 3 = .pointer (some ⟨g3, 0, none⟩) → ρ 11 = .slice a1 ns.length c1 → ρ 12 = .int .i64 (ns.length : Int) → ρ 13 = .int .i64 i → St ok (bz w0) w [vl (tSlice tStr) ns (.slice a1 ns.length c1), vl (tMap bstr (tMap bstr t_fold_Field)) x (.map (some g))] [own t_fold_Object 51 (.slice a n c) out', blk g3 29 [.slice a n c], blk g2 29 [.slice none 0 0]] → K7 ρ w := by
      intro a n c ρ w h0 h2 h3 h11 h12 h13 hs
      refine hK7 _ _ ?_
      refine W.region ?_
      obtain ⟨j, ej, hf⟩ := letE hf
      refine WL.bin (v := .int .i64 j) h13 rfl (ib_as ej (ib_add _ _ _)) ?_
      refine WL.move (v := .int .i64 j) rfl ?_
      refine WL.nil ?_
      exact ⟨_, (Option.some.inj hf).symm, a, n, c, h0, h2, h3, h11, h12, rfl, hs⟩
    refine W.block ?_
    refine W.seqK fun K8 hK8 => ?_
    refine W.region ?_
    refine WL.indexAddr hs 0 rfl UN55 TI9 h11 h13 hnm (fun ad hs => ?_)
    refine WL.loadP hs 0 rfl TI9 (.inr rfl) rfl (fun v hs => ?_)
    obtain rfl := hs.str 0 rfl
    refine WL.assign (v := bstr nm) rfl ?_
    refine WL.nil ?_
    refine hK8 _ _ ?_
    have hs := hs.pick [2, 3]
    refine W.seqK fun K9 hK9 => ?_
    refine W.region ?_
    refine WL.move (v := bstr nm) rfl ?_
    refine WL.build (vs := [(0, bstr nm)]) (cs := [bstr nm, .slice none 0 0]) ⟨⟨rfl, rfl⟩, trivial⟩ (bld PL51 rfl) ?_
    refine WL.alloc hs ZV51 (fun g6 w hs => ?_)
    refine WL.storeAll (vs := [bstr nm, .slice none 0 0]) hs 0 rfl TI51 rfl rfl rfl rfl (ones_of rfl) rfl (fun w hs => ?_)
    refine WL.nil ?_
    refine hK9 _ _ ?_
    have hs := hs.ownNil t_fold_Field 57
    refine W.seqK fun K10 hK10 => ?_
    have Jobj : ∀ (a4 : Option Addr) (n4 c4 : Nat) (ρ : Env) (w : World), ρ 0 = .map (some g) → ρ 2 = .pointer (some ⟨g2, 0, none⟩) → ρ 3 = .pointer (some ⟨g3, 0, none⟩) → ρ 6 = .pointer (some ⟨g6, 0, none⟩) → ρ 11 = .slice a1 ns.length c1 → ρ 12 = .int .i64 (ns.length : Int) → ρ 13 = .int .i64 i →
        St ok (bz w0) w [vl (tSlice tStr) ns (.slice a1 ns.length c1), vl (tMap bstr (tMap bstr t_fold_Field)) x (.map (some g))] [own t_fold_Field 57 (.slice a4 n4 c4) l, blk g6 51 [bstr nm, .slice a4 n4 c4], own t_fold_Object 51 (.slice a n c) out, blk g3 29 [.slice a n c], blk g2 29 [.slice none 0 0]] → K10 ρ w := by
      intro a4 n4 c4 ρ w h0 h2 h3 h6 h11 h12 h13 hs
      refine hK10 _ _ ?_
      refine W.region ?_
      refine WL.fieldAddr (m := 0) h3 FA29_0 rfl ?_
      refine WL.load1 (v := .slice a n c) hs 3 rfl TI27 rfl rfl ?_
      refine WL.loadN (vs := [bstr nm, .slice a4 n4 c4]) hs 1 rfl TI51 h6 rfl rfl ?_
      refine WL.buildSlice (n := 1) (vs := [(0, .agg ([bstr nm, .slice a4 n4 c4] : List Value).toArray)]) (cs := [bstr nm, .slice a4 n4 c4]) hs ⟨⟨rfl, rfl⟩, trivial⟩ (bls PS27 (by decide) rfl) (fun g9 w hs => ?_)
      obtain rfl := hs.ownLen 1 rfl
      have hs := hs.freezeOwn 1 rfl
      obtain ⟨hb1, he1⟩ := appE hout
      refine WL.append (ys := [(⟨nm, l⟩ : fold_Object)]) (zs := out') hs 2 rfl 0 rfl UN27 EI51 rfl rfl (fun ok hA => (Cells.one (T := t_fold_Object) (show t_fold_Object.R ok _ (⟨nm, l⟩ : fold_Object) _ from ⟨[bstr nm], [.slice a4 l.length c4], rfl, rfl, (R_one (hA.get 0 rfl))⟩))) hb1 (by omega) he1 (fun v w hs => ?_)
      obtain ⟨a5, n5, c5, rfl⟩ := hs.ownv3 2 rfl
      refine WL.fieldAddr (m := 0) h3 FA29_0 rfl ?_
      refine WL.storeAll (vs := [.slice a5 n5 c5]) hs 3 rfl TI27 rfl rfl rfl rfl (ones_of rfl) rfl (fun w hs => ?_)
      refine WL.nil ?_
      exact Jend a5 n5 c5 _ _ h0 h2 h3 h11 h12 h13 ((hs.mask [false, false, true, true, true]).pick [1, 2])
    refine W.seqK fun K11 hK11 => ?_
    refine W.region ?_
    refine WL.move (v := .map (some g)) h0 ?_
    refine WL.move (v := bstr nm) rfl ?_
    refine WL.lookupT (V := tMap bstr t_fold_Field) (z0 := []) (y := (x.lookup nm).getD []) hs 1 rfl (kkStr UN9) UN69 rfl rfl ZR92 (fun _ _ => tMap_V.2 (.inl ⟨rfl, rfl⟩)) rfl (fun mv hs => ?_)
    refine WL.sortedKeys sk_F UN9 hs 0 rfl rfl hfs (fun cl v w hs => ?_)
    obtain ⟨a7, c7, rfl⟩ := hs.ownv 0 rfl
    have hs := hs.freezeOwn 0 rfl
    refine WL.len (v := .slice a7 fs.length c7) rfl (len_slice UN55) ?_
    refine WL.move (v := .int .i64 0) rfl ?_
    refine WL.nil ?_
    refine hK11 _ _ ?_
    refine W.block ?_
    refine W.loop (σ := Int × List fold_Field) hl (fun s ρ w => match s with | (k, l) => ∃ (a4 : Option Addr), ∃ (n4 : Nat), ∃ (c4 : Nat), ρ 0 = .map (some g) ∧ ρ 2 = .pointer (some ⟨g2, 0, none⟩) ∧ ρ 3 = .pointer (some ⟨g3, 0, none⟩) ∧ ρ 5 = bstr nm ∧ ρ 6 = .pointer (some ⟨g6, 0, none⟩) ∧ ρ 11 = .slice a1 ns.length c1 ∧ ρ 12 = .int .i64 (ns.length : Int) ∧ ρ 13 = .int .i64 i ∧ ρ 23 = .slice a7 fs.length c7 ∧ ρ 24 = .int .i64 (fs.length : Int) ∧ ρ 25 = .int .i64 k ∧ St ok (bz w0) w [vl (tSlice tStr) fs (.slice a7 fs.length c7), vl (tSlice tStr) ns (.slice a1 ns.length c1), vl (tMap bstr (tMap bstr t_fold_Field)) x (.map (some g))] [own t_fold_Field 57 (.slice a4 n4 c4) l, blk g6 51 [bstr nm, .slice a4 n4 c4], own t_fold_Object 51 (.slice a n c) out, blk g3 29 [.slice a n c], blk g2 29 [.slice none 0 0]]) ⟨none, 0, 0, h0, h2, h3, rfl, rfl, h11, h12, h13, rfl, rfl, rfl, hs.pick [0, 2, 3]⟩ ?_
    intro s ρ w o2 hI hf2 hbb2
    obtain ⟨k, l2⟩ := s
    obtain ⟨a4, n4, c4, h0, h2, h3, h5, h6, h11, h12, h13, h23, h24, h25, hs⟩ := hI
    unfold fold_store.l1 at hf2
    refine W.seqK fun K12 hK12 => ?_
    refine W.region ?_
    refine WL.bin (v := .bool (decide (k < (fs.length : Int)))) h25 h24 (ib_lss _ _ _) ?_
    refine WL.nil ?_
    refine hK12 _ _ ?_
    refine W.seqK fun K13 hK13 => ?_
    rcases iteE hf2 with ⟨hc2, hf2⟩ | ⟨hc2, hf2⟩
    · refine W.cond_true (bool_tr rfl hc2) ?_
      refine W.skip ?_
      refine hK13 _ _ ?_
      obtain ⟨fm, hfm, hf2⟩ := bindE hf2
      obtain ⟨l3, hl3, hf2⟩ := bindE hf2
      refine W.seqK fun K14 hK14 => ?_
      refine W.block ?_
      refine W.seqK fun K15 hK15 => ?_
      refine W.region ?_
      refine WL.indexAddr hs 0 rfl UN55 TI9 h23 h25 hfm (fun ad hs => ?_)
      refine WL.loadP hs 0 rfl TI9 (.inr rfl) rfl (fun v hs => ?_)
      obtain rfl := hs.str 0 rfl
      refine WL.assign (v := bstr fm) rfl ?_
      refine WL.nil ?_
      refine hK15 _ _ ?_
      have hs := hs.pick [2, 3, 4]
      refine W.region ?_
      refine WL.fieldAddr (m := 1) h6 FA51_1 rfl ?_
      refine WL.load1 (v := .slice a4 n4 c4) hs 1 rfl TI49 rfl rfl ?_
      refine WL.move (v := .map (some g)) h0 ?_
      refine WL.move (v := bstr nm) h5 ?_
      refine WL.lookupT (V := tMap bstr t_fold_Field) (z0 := []) (y := (x.lookup nm).getD []) hs 2 rfl (kkStr UN9) UN69 rfl rfl ZR92 (fun _ _ => tMap_V.2 (.inl ⟨rfl, rfl⟩)) rfl (fun mv2 hs => ?_)
      refine WL.move (v := bstr fm) rfl ?_
      refine WL.lookupT (V := t_fold_Field) (z0 := fold_zero) (y := (((x.lookup nm).getD []).lookup fm).getD fold_zero) hs 0 rfl (kkStr UN9) UN92 rfl rfl ZR57 (fun ok w => V_agg (cs := fcells fold_zero (.slice none 0 0)) (fieldR ok w fold_zero (.slice none 0 0) V_nil) rfl) rfl (fun fv hs => ?_)
      obtain ⟨ds, hld, rfl⟩ := hs.aggv (n := 12) 0 rfl rfl rfl
      obtain ⟨a6, c6, rfl⟩ := open_fold_Field hs 0 rfl
      refine WL.buildSlice (n := 1) (vs := [(0, .agg (fcells ((((x.lookup nm).getD []).lookup fm).getD fold_zero) (.slice a6 ((((x.lookup nm).getD []).lookup fm).getD fold_zero).Elems.length c6)).toArray)]) (cs := fcells ((((x.lookup nm).getD []).lookup fm).getD fold_zero) (.slice a6 ((((x.lookup nm).getD []).lookup fm).getD fold_zero).Elems.length c6)) hs ⟨⟨rfl, rfl⟩, trivial⟩ (bls PS49 (by decide) rfl) (fun g9 w hs => ?_)
      obtain ⟨hb1, he1⟩ := appE hl3
      refine WL.append (ys := [(((x.lookup nm).getD []).lookup fm).getD fold_zero]) (zs := l3) hs 1 rfl 0 rfl UN49 EI57 rfl rfl (fun ok hA => Cells.one (T := t_fold_Field) (R_agg (hA.get 0 rfl) rfl)) hb1 (by omega) he1 (fun v w hs => ?_)
      obtain ⟨a8, n8, c8, rfl⟩ := hs.ownv3 1 rfl
      refine WL.fieldAddr (m := 1) h6 FA51_1 rfl ?_
      refine WL.store (vs := [.slice a8 n8 c8]) (cs' := [bstr nm, .slice a8 n8 c8]) hs 2 rfl TI49 rfl rfl rfl rfl (ones_of rfl) (Nat.le_of_ble_eq_true rfl) rfl (fun w hs => ?_)
      refine WL.nil ?_
      refine hK14 _ _ ?_
      refine W.region ?_
      obtain ⟨j, ej, hf2⟩ := letE hf2
      refine WL.bin (v := .int .i64 j) h25 rfl (ib_as ej (ib_add _ _ _)) ?_
      refine WL.move (v := .int .i64 j) rfl ?_
      refine WL.nil ?_
      exact ⟨_, (Option.some.inj hf2).symm, a8, n8, c8, h0, h2, h3, h5, h6, h11, h12, h13, h23, h24, rfl, (hs.mask [false, true, true, true, true, true]).pick [2, 3, 4]⟩
    · refine W.cond_false (bool_tr rfl hc2) ?_
      refine W.exit ?_
      have hr := Option.some.inj hf2; subst hr
      have hr := hbb2 _ rfl; subst hr
      exact Jobj a4 n4 c4 _ _ h0 h2 h3 h6 h11 h12 h13 (hs.pick [1, 2])
  · refine W.cond_false (bool_tr rfl hc) ?_
    refine W.exit ?_
    have hr := Option.some.inj hf; subst hr
    have hr := hbb _ rfl; subst hr
    exact Jret a n c _ _ h2 h3 (hs.pick [])
theorem St.bFreeze {ok : Nat → Prop} {F : Base} {w : World} {Γ : List It} {Λ : List LObj} {g : Nat} {x : fold_B} (hs : St ok F w Γ (bldo FKf g x :: Λ)) : St ok F w (vl (tMap bstr (tMap bstr t_fold_Field)) (fold_frz x) (.map (some g)) :: Γ) Λ :=
  St.bldFreeze FKf (T := t_fold_Field) (fun ok w y v h => fieldR ok w y v h) rfl hs
theorem fold_Apply.calls {ok : Nat → Prop} {w0 : World} {x1 : fold_Store} {x2 : api_Update} {v1 v2 : Value} {r : fold_Store} (hf : fold_Apply x1 x2 = some r) (i0 : (vl t_fold_Store x1 v1).holds ok w0) (i1 : (vl t_api_Update x2 v2).holds ok w0) :
    Calls Try.prog 22 #[v1, v2] w0 fun e w' => ∃ v, e = .returned v ∧ ∃ y : List Value, v = .agg y.toArray ∧ St ok (bz w0) w' [vl t_fold_Store r (.agg y.toArray)] [] := by
  unfold fold_Apply at hf
  obtain ⟨b, hb, hf⟩ := bindE hf
  obtain ⟨b', hb', hf⟩ := bindE hf
  have hs : St ok (bz w0) w0 [vl t_fold_Store x1 v1, vl t_api_Update x2 v2] [] := St.init (All.cons i0 (All.cons i1 All.nil))
  clear i0 i1
  obtain ⟨cs, hl, rfl⟩ := hs.aggv (n := 1) 0 rfl rfl rfl
  obtain ⟨ds, hld, rfl⟩ := hs.aggv (n := 4) 1 rfl rfl rfl
  refine calls_of_W (fn := Try.f22) (N := 13) Try.func22 rfl Try.ntmps22 rfl ?_
  refine W.seqK fun K1 hK1 => ?_
  refine W.region ?_
  refine WL.box (vs := cs) hs rfl rfl (fun g2 w hs => ?_)
  refine WL.box (vs := ds) hs rfl rfl (fun g3 w hs => ?_)
  refine WL.alloc hs ZV29 (fun g4 w hs => ?_)
  refine WL.nil ?_
  refine hK1 _ _ ?_
  refine W.seqK fun K2 hK2 => ?_
  refine W.region ?_
  refine WL.loadAll hs 2 rfl TI29 rfl hl ?_
  refine WL.call (vs := [.agg cs.toArray]) hs FN49 ⟨rfl, trivial⟩ (fun ok hA => fold_load.calls hb (hA.get 0 rfl)) ?_
  rintro g w hs
  refine WL.assign (v := .map (some g)) rfl ?_
  refine WL.nil ?_
  refine hK2 _ _ ?_
  refine W.seqK fun K3 hK3 => ?_
  refine W.region ?_
  refine WL.move (v := .map (some g)) rfl ?_
  refine WL.loadAll hs 2 rfl TI41 rfl hld ?_
  have hs := hs.pick [1]
  refine WL.callO (vs := [.map (some g), .agg ds.toArray]) [bldo FKf g b] hs FN37 ⟨rfl, rfl, trivial⟩ (fun ok F hA => fold_apply.calls hb' hA) ?_
  rintro _ w hs
  refine WL.nil ?_
  refine hK3 _ _ ?_
  refine W.seqK fun K4 hK4 => ?_
  refine W.region ?_
  refine WL.move (v := .map (some g)) rfl ?_
  have hs := St.bFreeze hs
  refine WL.call (vs := [.map (some g)]) hs FN38 ⟨rfl, trivial⟩ (fun ok hA => fold_store.calls hf (hA.get 0 rfl)) ?_
  rintro y w hs
  have hly := hs.agglen (n := 1) 0 rfl rfl rfl
  refine WL.storeAll (vs := y) hs 0 rfl TI29 rfl rfl rfl hly (hs.ones 0 rfl rfl) rfl (fun w hs => ?_)
  refine WL.nil ?_
  refine hK4 _ _ ?_
  refine W.ret ?_
  exact ⟨_, resOk_one rfl (res_all hs 0 rfl TI29 rfl hly), y, rfl, (hs.mask []).pick [0]⟩
theorem fold_Fold.calls {ok : Nat → Prop} {w0 : World} {x1 : List api_Update} {a2 : Option Addr} {c3 : Nat} {r : fold_Store} (hf : fold_Fold x1 = some r) (i0 : (vl (tSlice t_api_Update) x1 (.slice a2 x1.length c3)).holds ok w0) :
    Calls Try.prog 13 #[.slice a2 x1.length c3] w0 fun e w' => ∃ v, e = .returned v ∧ ∃ y : List Value, v = .agg y.toArray ∧ St ok (bz w0) w' [vl t_fold_Store r (.agg y.toArray)] [] := by
  unfold fold_Fold at hf
  obtain ⟨b, hb, hf⟩ := bindE hf
  have hs : St ok (bz w0) w0 [vl (tSlice t_api_Update) x1 (.slice a2 x1.length c3)] [] := St.init (All.cons i0 All.nil)
  clear i0
  refine calls_of_W (fn := Try.f13) (N := 19) Try.func13 rfl Try.ntmps13 rfl ?_
  refine W.seqK fun K1 hK1 => ?_
  refine W.region ?_
  refine WL.alloc hs ZV29 (fun g2 w hs => ?_)
  refine WL.nil ?_
  refine hK1 _ _ ?_
  refine W.seqK fun K2 hK2 => ?_
  refine W.region ?_
  refine WL.makeMap bstr tCell hs (fun g w hs => ?_)
  refine WL.assign (v := .map (some g)) rfl ?_
  refine WL.nil ?_
  refine hK2 _ _ ?_
  have hs := St.bldClose (K := FKf) (g := g) (b := []) (C := fun _ => True) hs trivial rfl
  refine W.seqK fun K3 hK3 => ?_
  have Jret : ∀ (ρ : Env) (w : World), ρ 2 = .pointer (some ⟨g2, 0, none⟩) → ρ 3 = .map (some g) → St ok (bz w0) w [] [bldo FKf g b, blk g2 29 [.slice none 0 0]] → K3 ρ w := by
    intro ρ w h2 h3 hs
    refine hK3 _ _ ?_
    refine W.seqK fun K4 hK4 => ?_
    refine W.region ?_
    refine WL.move (v := .map (some g)) h3 ?_
    have hs := St.bFreeze hs
    refine WL.call (vs := [.map (some g)]) hs FN38 ⟨rfl, trivial⟩ (fun ok hA => fold_store.calls hf (hA.get 0 rfl)) ?_
    rintro y w hs
    have hly := hs.agglen (n := 1) 0 rfl rfl rfl
    refine WL.storeAll (vs := y) hs 0 rfl TI29 h2 rfl rfl hly (hs.ones 0 rfl rfl) rfl (fun w hs => ?_)
    refine WL.nil ?_
    refine hK4 _ _ ?_
    refine W.ret ?_
    exact ⟨_, resOk_one rfl (res_all hs 0 rfl TI29 h2 hly), y, rfl, (hs.mask []).pick [0]⟩
  refine W.seqK fun K4 hK4 => ?_
  refine W.region ?_
  refine WL.move (v := .slice a2 x1.length c3) rfl ?_
  refine WL.len (v := .slice a2 x1.length c3) rfl (len_slice UN23) ?_
  refine WL.move (v := .int .i64 0) rfl ?_
  refine WL.nil ?_
  refine hK4 _ _ ?_
  refine W.block ?_
  refine W.loop (σ := Int × fold_B) hb (fun s ρ w => match s with | (i, x) => ρ 2 = .pointer (some ⟨g2, 0, none⟩) ∧ ρ 3 = .map (some g) ∧ ρ 7 = .slice a2 x1.length c3 ∧ ρ 8 = .int .i64 (x1.length : Int) ∧ ρ 9 = .int .i64 i ∧ St ok (bz w0) w [vl (tSlice t_api_Update) x1 (.slice a2 x1.length c3)] [bldo FKf g x, blk g2 29 [.slice none 0 0]]) ⟨rfl, rfl, rfl, rfl, rfl, hs⟩ ?_
  intro s ρ w o hI hf2 hbb
  obtain ⟨i, x⟩ := s
  obtain ⟨h2, h3, h7, h8, h9, hs⟩ := hI
  unfold fold_Fold.l1 at hf2
  refine W.seqK fun K5 hK5 => ?_
  refine W.region ?_
  refine WL.bin (v := .bool (decide (i < (x1.length : Int)))) h9 h8 (ib_lss _ _ _) ?_
  refine WL.nil ?_
  refine hK5 _ _ ?_
  refine W.seqK fun K6 hK6 => ?_
  rcases iteE hf2 with ⟨hc, hf2⟩ | ⟨hc, hf2⟩
  · refine W.cond_true (bool_tr rfl hc) ?_
    refine W.skip ?_
    refine hK6 _ _ ?_
    obtain ⟨u, hu, hf2⟩ := bindE hf2
    obtain ⟨x', hx', hf2⟩ := bindE hf2
    refine W.seqK fun K7 hK7 => ?_
    refine W.block ?_
    refine W.seqK fun K8 hK8 => ?_
    refine W.region ?_
    refine WL.indexAddr hs 0 rfl UN23 TI41 h7 h9 hu (fun ad hs => ?_)
    refine WL.loadP hs 0 rfl TI41 (.inl rfl) rfl (fun v hs => ?_)
    obtain ⟨ds, hld, rfl⟩ := hs.aggv (n := 4) 0 rfl rfl rfl
    refine WL.alloc hs ZV41 (fun g5 w hs => ?_)
    refine WL.storeAll (vs := ds) hs 0 rfl TI41 rfl rfl rfl hld (hs.ones 0 rfl rfl) rfl (fun w hs => ?_)
    refine WL.nil ?_
    refine hK8 _ _ ?_
    refine W.region ?_
    refine WL.move (v := .map (some g)) h3 ?_
    refine WL.loadAll hs 0 rfl TI41 rfl hld ?_
    have hs := (hs.front 1 rfl).pick [0, 2]
    have hs1 := hs.pick [0]
    refine WL.callR (vs := [.map (some g), .agg ds.toArray]) (R := fun v w' => St ok (bz w0) w' [vl (tSlice t_api_Update) x1 (.slice a2 x1.length c3)] [bldo FKf g x', blk g5 41 ds, blk g2 29 [.slice none 0 0]]) FN37 ⟨rfl, rfl, trivial⟩ ?_ ?_
    · obtain ⟨ok2, bs2, hA, hput⟩ := St.callO (Λ := [bldo FKf g x]) hs
      refine (fold_apply.calls (ok := ok2) hx' (hA.pick [0])).mono ?_
      rintro e' w' ⟨v, rfl, _, rfl, hs'⟩
      exact ⟨_, rfl, (hput w' _ _ hs').pick [1]⟩
    rintro _ w hs
    refine WL.nil ?_
    refine hK7 _ _ ?_
    refine W.region ?_
    obtain ⟨j, ej, hf2⟩ := letE hf2
    refine WL.bin (v := .int .i64 j) h9 rfl (ib_as ej (ib_add _ _ _)) ?_
    refine WL.move (v := .int .i64 j) rfl ?_
    refine WL.nil ?_
    exact ⟨_, (Option.some.inj hf2).symm, h2, h3, h7, h8, rfl, hs.mask [true, false, true]⟩
  · refine W.cond_false (bool_tr rfl hc) ?_
    refine W.exit ?_
    have hr := Option.some.inj hf2; subst hr
    have hr := hbb _ rfl; subst hr
    exact Jret _ _ h2 h3 (hs.pick [])
theorem fold_Find.calls {ok : Nat → Prop} {w0 : World} {x1 : fold_Store} {x2 : List UInt8} {v1 : Value} {r : fold_Object} (hf : fold_Find x1 x2 = some r) (i0 : (vl t_fold_Store x1 v1).holds ok w0) :
    Calls Try.prog 27 #[v1, bstr x2] w0 fun e w' => ∃ v, e = .returned v ∧ ∃ y : List Value, v = .agg y.toArray ∧ St ok (bz w0) w' [vl t_fold_Object r (.agg y.toArray)] [] := by
  unfold fold_Find at hf
  obtain ⟨b, hb, hf⟩ := bindE hf
  have hs : St ok (bz w0) w0 [vl t_fold_Store x1 v1] [] := St.init (All.cons i0 All.nil)
  clear i0
  obtain ⟨cs, hl, rfl⟩ := hs.aggv (n := 1) 0 rfl rfl rfl
  refine calls_of_W (fn := Try.f27) (N := 29) Try.func27 rfl Try.ntmps27 rfl ?_
  refine W.seqK fun K1 hK1 => ?_
  refine W.region ?_
  refine WL.box (vs := cs) hs rfl rfl (fun g2 w hs => ?_)
  refine WL.alloc hs ZV51 (fun g4 w hs => ?_)
  refine WL.nil ?_
  refine hK1 _ _ ?_
  refine W.seqK fun K2 hK2 => ?_
  have Jnone : ∀ (ρ : Env) (w : World), some (⟨x2, []⟩ : fold_Object) = some r → ρ 1 = bstr x2 → ρ 4 = .pointer (some ⟨g4, 0, none⟩) → St ok (bz w0) w [] [blk g4 51 [bstr [], .slice none 0 0]] → K2 ρ w := by
    intro ρ w hr h1 h4 hs
    have hr := Option.some.inj hr
    subst hr
    refine hK2 _ _ ?_
    refine W.seqK fun K3 hK3 => ?_
    refine W.region ?_
    refine WL.move (v := bstr x2) h1 ?_
    refine WL.build (vs := [(0, bstr x2)]) (cs := [bstr x2, .slice none 0 0]) ⟨⟨rfl, rfl⟩, trivial⟩ (bld PL51 rfl) ?_
    refine WL.storeAll (vs := [bstr x2, .slice none 0 0]) hs 0 rfl TI51 h4 rfl rfl rfl (ones_of rfl) rfl (fun w hs => ?_)
    refine WL.nil ?_
    refine hK3 _ _ ?_
    refine W.ret ?_
    have hs3 := hs.add (it := vl t_fold_Object ⟨x2, []⟩ (.agg [bstr x2, .slice none 0 0].toArray)) fun ok hA => V_agg (show t_fold_Object.R ok _ (⟨x2, []⟩ : fold_Object) _ from ⟨[bstr x2], [.slice none 0 0], rfl, rfl, R_nil⟩) rfl
    exact ⟨_, resOk_one rfl (res_all hs 0 rfl TI51 h4 rfl), [bstr x2, .slice none 0 0], rfl, (hs3.mask []).pick [0]⟩
  refine W.seqK fun K3 hK3 => ?_
  refine W.region ?_
  refine WL.fieldAddr (m := 0) rfl FA29_0 rfl ?_
  refine WL.loadF (z := x1.Objects) F_fold_Store_Objects hs 1 rfl 0 rfl rfl TI27 (.inr rfl) rfl rfl (fun v hs => ?_)
  obtain ⟨a2, c2, rfl⟩ := hs.slice 0 rfl
  refine WL.len (v := .slice a2 x1.Objects.length c2) rfl (len_slice UN27) ?_
  refine WL.move (v := .int .i64 0) rfl ?_
  refine WL.nil ?_
  refine hK3 _ _ ?_
  refine W.block ?_
  refine W.loop (σ := Int) hb (fun i ρ w => ρ 1 = bstr x2 ∧ ρ 4 = .pointer (some ⟨g4, 0, none⟩) ∧ ρ 8 = .slice a2 x1.Objects.length c2 ∧ ρ 9 = .int .i64 (x1.Objects.length : Int) ∧ ρ 10 = .int .i64 i ∧ St ok (bz w0) w [vl (tSlice t_fold_Object) x1.Objects (.slice a2 x1.Objects.length c2)] [blk g4 51 [bstr [], .slice none 0 0]]) ⟨rfl, rfl, rfl, rfl, rfl, (hs.mask [true]).pick [0]⟩ ?_
  intro i ρ w o hI hf2 hbb
  obtain ⟨h1, h4, h8, h9, h10, hs⟩ := hI
  unfold fold_Find.l1 at hf2
  refine W.seqK fun K5 hK5 => ?_
  refine W.region ?_
  refine WL.bin (v := .bool (decide (i < (x1.Objects.length : Int)))) h10 h9 (ib_lss _ _ _) ?_
  refine WL.nil ?_
  refine hK5 _ _ ?_
  refine W.seqK fun K6 hK6 => ?_
  rcases iteE hf2 with ⟨hc, hf2⟩ | ⟨hc, hf2⟩
  · refine W.cond_true (bool_tr rfl hc) ?_
    refine W.skip ?_
    refine hK6 _ _ ?_
    obtain ⟨ob, hob, hf2⟩ := bindE hf2
    refine W.seqK fun K7 hK7 => ?_
    refine W.block ?_
    refine W.seqK fun K8 hK8 => ?_
    refine W.region ?_
    refine WL.indexAddr hs 0 rfl UN27 TI51 h8 h10 hob (fun ad hs => ?_)
    refine WL.loadP hs 0 rfl TI51 (.inl rfl) rfl (fun v hs => ?_)
    obtain ⟨os, hlo, rfl⟩ := hs.aggv (n := 2) 0 rfl rfl rfl
    obtain ⟨a3, c3, rfl⟩ := open_fold_Object hs 0 rfl
    refine WL.alloc hs ZV51 (fun g6 w hs => ?_)
    refine WL.storeAll (vs := [bstr ob.Name, .slice a3 ob.Fields.length c3]) hs 0 rfl TI51 rfl rfl rfl rfl (ones_of rfl) rfl (fun w hs => ?_)
    refine WL.nil ?_
    refine hK8 _ _ ?_
    refine W.seqK fun K9 hK9 => ?_
    refine W.region ?_
    refine WL.fieldAddr (m := 0) rfl FA51_0 rfl ?_
    refine WL.load1 (v := bstr ob.Name) hs 0 rfl TI9 rfl rfl ?_
    refine WL.move (v := bstr x2) h1 ?_
    refine WL.binS (v := .bool (ob.Name == x2)) rfl rfl (sb_eql _ _) ?_
    refine WL.nil ?_
    refine hK9 _ _ ?_
    rcases iteE hf2 with ⟨hc2, hf2⟩ | ⟨hc2, hf2⟩
    · obtain ⟨bb, hbl, hf2⟩ := bindE hf2
      obtain ⟨t, ht, hf2⟩ := bindE hf2
      obtain ⟨ro, hro, hf2⟩ := bindE hf2
      refine W.cond_true (bool_tr rfl hc2) ?_
      refine W.seqK fun K10 hK10 => ?_
      refine W.region ?_
      refine WL.loadN (vs := [bstr ob.Name, .slice a3 ob.Fields.length c3]) hs 0 rfl TI51 rfl rfl rfl ?_
      refine WL.buildSlice (n := 1) (vs := [(0, .agg ([bstr ob.Name, .slice a3 ob.Fields.length c3] : List Value).toArray)]) (cs := [bstr ob.Name, .slice a3 ob.Fields.length c3]) hs ⟨⟨rfl, rfl⟩, trivial⟩ (bls PS27 (by decide) rfl) (fun g9 w hs => ?_)
      have hs := hs.ownLit 0 rfl (A := t_fold_Object) (xs := [ob]) (fun ok hA => Cells.one (T := t_fold_Object) (R_agg (hA.get 0 rfl) rfl)) (show 1 ≤ maxLen by decide)
      have hs := hs.freezeOwn 0 rfl
      have hs := hs.add (it := vl t_fold_Store ⟨[ob]⟩ (.agg [.slice (some ⟨g9, 0, none⟩) 1 1].toArray)) fun ok hA => V_agg (R_one (hA.get 0 rfl)) rfl
      refine WL.build (vs := [(0, .slice (some ⟨g9, 0, none⟩) 1 1)]) (cs := [.slice (some ⟨g9, 0, none⟩) 1 1]) ⟨⟨rfl, rfl⟩, trivial⟩ (bld PL29 rfl) ?_
      refine WL.call (vs := [.agg [.slice (some ⟨g9, 0, none⟩) 1 1].toArray]) hs FN49 ⟨rfl, trivial⟩ (fun ok hA => fold_load.calls hbl (hA.get 0 rfl)) ?_
      rintro g w hs
      have hs := St.bFreeze hs
      refine WL.call (vs := [.map (some g)]) hs FN38 ⟨rfl, trivial⟩ (fun ok hA => fold_store.calls ht (hA.get 0 rfl)) ?_
      rintro y w hs
      refine WL.fieldV (z := t.Objects) F_fold_Store_Objects hs 0 rfl rfl rfl FV29_0 TI27 (.inr rfl) rfl (fun v hs => ?_)
      obtain ⟨a5, c5, rfl⟩ := hs.slice 0 rfl
      refine WL.indexAddr hs 0 rfl UN27 TI51 rfl rfl hro (fun ad hs => ?_)
      refine WL.loadP hs 0 rfl TI51 (.inl rfl) rfl (fun v hs => ?_)
      obtain ⟨zs, hlz, rfl⟩ := hs.aggv (n := 2) 0 rfl rfl rfl
      refine WL.storeAll (vs := zs) hs 1 rfl TI51 h4 rfl rfl hlz (hs.ones 0 rfl rfl) rfl (fun w hs => ?_)
      refine WL.nil ?_
      refine hK10 _ _ ?_
      refine W.ret ?_
      have hr := Option.some.inj hf2; subst hr
      have hr := hbb _ rfl; subst hr
      have hr := Option.some.inj hf; subst hr
      exact ⟨_, resOk_one rfl (res_all hs 1 rfl TI51 h4 hlz), zs, rfl, (hs.mask []).pick [0]⟩
    · refine W.cond_false (bool_tr rfl hc2) ?_
      refine W.skip ?_
      refine hK7 _ _ ?_
      refine W.region ?_
      obtain ⟨j, ej, hf2⟩ := letE hf2
      refine WL.bin (v := .int .i64 j) h10 rfl (ib_as ej (ib_add _ _ _)) ?_
      refine WL.move (v := .int .i64 j) rfl ?_
      refine WL.nil ?_
      exact ⟨_, (Option.some.inj hf2).symm, h1, h4, h8, h9, rfl, (hs.mask [false, true]).pick [2]⟩
  · refine W.cond_false (bool_tr rfl hc) ?_
    refine W.exit ?_
    have hr := Option.some.inj hf2; subst hr
    have hr := hbb _ rfl; subst hr
    exact Jnone _ _ hf h1 h4 (hs.pick [])
end Go.Proofs.Ytlbcfjblpopcnaa
set_option linter.unusedVariables false
set_option linter.unusedSimpArgs false
set_option linter.unusedSectionVars false
namespace Go.Proofs.YtlbcfjblpopcnaaL
open Go Go.RowKit
section
variable {P : Program} {N : Nat} {Q : QE} {ρ : Env} {w : World} {w0 : Base} {ok0 : Nat → Prop} {Γ : List It} {Λ : List LObj}
variable {d : Option Tmp} {ty : TypeId} {pos : String} {aft : Array Edge} {gd : Option (Nat × Bool)} {ops : Array Oper} {rest : List Oper}
end
end Go.Proofs.YtlbcfjblpopcnaaL
set_option linter.unusedVariables false
set_option linter.unusedSimpArgs false
set_option linter.unusedSectionVars false
namespace Go.Proofs.YtlbcfjblpopcnaaL
open Go Go.RowKit
open Go.ChangeMaps (setBlock)
section
variable {P : Program} {N : Nat} {Q : QE} {ρ : Env} {w : World} {w0 : Base} {ok0 : Nat → Prop} {Γ : List It} {Λ : List LObj}
variable {d : Option Tmp} {ty : TypeId} {pos : String} {aft : Array Edge} {gd : Option (Nat × Bool)} {ops : Array Oper} {rest : List Oper}
theorem Cells.drop {α : Type} {A : Ty α} {ok : Nat → Prop} {xs : List α} {cs : List Value} (h : Cells A ok w xs cs) (l : Nat) (hl : l ≤ xs.length) : Cells A ok w (xs.drop l) (cs.drop (l * A.sz)) := by
  refine ⟨by rw [List.length_drop, List.length_drop, h.1, Nat.sub_mul], fun j x hx => ?_⟩
  rw [List.getElem?_drop] at hx
  have := h.2 (l + j) x hx
  rw [List.drop_drop, ← Nat.add_mul]
  exact this
def cpyN {α : Type} (xs : List α) (d l : Nat) : List α := xs.take d ++ (xs.drop l).take (Nat.min (xs.length - l) (xs.length - d)) ++ xs.drop (d + Nat.min (xs.length - l) (xs.length - d))
theorem cpyN_length {α : Type} (xs : List α) (d l : Nat) (hd : d ≤ xs.length) (hl : l ≤ xs.length) : (cpyN xs d l).length = xs.length := by
  unfold cpyN
  have : Nat.min (xs.length - l) (xs.length - d) = min (xs.length - l) (xs.length - d) := rfl
  simp only [List.length_append, List.length_take, List.length_drop]
  omega
theorem WL.copyV {α : Type} {A : Ty α} {T T2 E : TypeId} {agg : Bool} {x y : Operand} {a : Option Addr} {n c D L : Nat} {xs ys : List α} (hs : St ok0 w0 w Γ Λ) (i : Nat) (hi : Λ[i]? = some (own A E (.slice a n c) xs))
    (hT : P.underlying T = some (.slice E)) (hE : TI P E agg A.sz) (hx : ρ.ev x = cutv a D n c A.sz) (hy : ρ.ev y = cutv a L n c A.sz) (hD : D ≤ xs.length) (hL : L ≤ xs.length) (hc : cpyN xs D L = ys)
    (K : ∀ w', St ok0 w0 w' Γ (Λ.set i (own A E (.slice a n c) ys)) → WL P N ops Q rest (putE ρ d (.int .i64 ((Nat.min (xs.length - L) (xs.length - D) : Nat) : Int))) w')
    (hg : wantedE ops ρ ⟨d, .call { callee := .builtin .copy, args := #[x, y], argTypes := #[T, T2] }, ty, pos, aft, gd⟩ = true := by rfl) (hd : fits N d = true := by rfl) :
    WL P N ops Q (⟨d, .call { callee := .builtin .copy, args := #[x, y], argTypes := #[T, T2] }, ty, pos, aft, gd⟩ :: rest) ρ w := by
  obtain rfl := hs.ownLen i hi
  obtain ⟨ok, bs, ho, hA, hn, hbs, hput⟩ := hs.split i hi
  obtain ⟨m, hm⟩ : ∃ m, Nat.min (xs.length - L) (xs.length - D) = m := ⟨_, rfl⟩
  rw [hm] at K
  have hyl := cpyN_length xs D L hD hL
  rw [hc] at hyl
  unfold cpyN at hc
  rw [hm] at hc
  have hmin : Nat.min (xs.length - L) (xs.length - D) = m := hm
  have hm9 : m ≤ xs.length - L ∧ m ≤ xs.length - D := by rw [← hm]; exact ⟨Nat.min_le_left _ _, Nat.min_le_right _ _⟩
  rcases Nat.eq_zero_or_pos m with h0 | h0
  · subst h0
    have : ys = xs := by rw [← hc]; simp
    subst this
    have hsame : Λ.set i (own A E (.slice a ys.length c) ys) = Λ := by
      apply List.ext_getElem?
      intro k
      rw [List.getElem?_set]
      by_cases hk : i = k
      · subst hk
        rw [if_pos rfl, if_pos (List.getElem?_eq_some_iff.1 hi).1, hi]
      · rw [if_neg hk]
    refine WL.value hg hd (v := .int .i64 ((0 : Nat) : Int)) (w' := w) (exec_builtin fun cs => ?_) (K w (by rw [hsame]; exact hs))
    rw [List.map_toArray]
    refine exec_v ?_
    show (Builtin.copy_ #[T, T2] ty #[ρ.ev x, ρ.ev y]).run P w = _
    rw [hx, hy]
    unfold Builtin.copy_ cutv
    refine (run_bind (run_und hT w)).trans ?_
    simp only [Builtin.lenOf]
    refine (run_bind (run_pure P w _)).trans ?_
    rw [hmin]
    refine (run_bind (hE.size_ w)).trans ?_
    generalize (if c = D then a else Option.map (fun x => x.add (D * A.sz)) a) = a1
    generalize (if c = L then a else Option.map (fun x => x.add (L * A.sz)) a) = a2
    have h1 : (Builtin.firstCells A.sz 0 (.slice a2 (ys.length - L) (c - L))).run P w = .ok #[] w := by
      unfold Builtin.firstCells
      cases a2 with
      | none => rfl
      | some ad => rw [Nat.zero_mul]; rfl
    refine (run_bind h1).trans ?_
    cases a1 <;> rfl
  obtain ⟨g, c', cur, e, hb, hgh, hc', hmx, hsz, hC⟩ := own_some ho (by omega)
  cases e
  have hcD : c ≠ D := by omega
  have hcL : c ≠ L := by omega
  have hDm : D + m ≤ xs.length := by omega
  have hLm : L + m ≤ xs.length := by omega
  have hDs : D * A.sz + m * A.sz ≤ xs.length * A.sz := by rw [← Nat.add_mul]; exact Nat.mul_le_mul_right _ hDm
  have hLs : L * A.sz + m * A.sz ≤ xs.length * A.sz := by rw [← Nat.add_mul]; exact Nat.mul_le_mul_right _ hLm
  have hcur : xs.length * A.sz ≤ cur.size := by rw [hsz]; exact Nat.mul_le_mul_right _ hc'
  generalize hCC : cur.toList.take (xs.length * A.sz) = C at hC
  have hCl : C.length = xs.length * A.sz := hC.1
  have hmid : Cells A ok w ((xs.drop L).take m) ((C.drop (L * A.sz)).take (m * A.sz)) := (hC.drop L hL).take m (by rw [List.length_drop]; omega)
  generalize hvs : (C.drop (L * A.sz)).take (m * A.sz) = vs at hmid
  have hvl : vs.length = m * A.sz := by rw [← hvs, List.length_take, List.length_drop, hCl]; omega
  have hone : ∀ v ∈ vs, v.oneCell' = true := hmid.one_
  have hload : ∀ k u, vs[k]? = some u → w.cell? ⟨g, L * A.sz + 0 + k, none⟩ = some u := by
    intro k u hu
    have hk : k < m * A.sz := by rw [← hvl]; exact (List.getElem?_eq_some_iff.1 hu).1
    rw [← hvs, List.getElem?_take, if_pos hk, List.getElem?_drop, ← hCC, List.getElem?_take, if_pos (by omega)] at hu
    simp only [World.cell?, hgh, Nat.add_zero]
    simpa using hu
  have hl := run_loadCellsFrom (P := P) (w := w) g (L * A.sz) (m * A.sz) 0 #[] vs hvl hload
  have hst := run_storeCells (P := P) (g := g) (T := E) (D * A.sz) vs 0 w cur.toList hone (by simpa using hgh) (by rw [Nat.add_zero, hvl, Array.length_toList (xs := cur)]; omega)
  have hnew := setCells_heap hgh (D * A.sz) vs
  refine WL.value hg hd (v := .int .i64 ((m : Nat) : Int)) (w' := setCells w g (D * A.sz) vs) (exec_builtin fun cs => ?_) (K _ ?_)
  · rw [List.map_toArray]
    refine exec_v ?_
    show (Builtin.copy_ #[T, T2] ty #[ρ.ev x, ρ.ev y]).run P w = _
    rw [hx, hy]
    unfold Builtin.copy_ cutv
    rw [if_neg hcD, if_neg hcL]
    refine (run_bind (run_und hT w)).trans ?_
    simp only [Builtin.lenOf]
    refine (run_bind (run_pure P w _)).trans ?_
    rw [hmin]
    refine (run_bind (hE.size_ w)).trans ?_
    have h1 : (Builtin.firstCells A.sz m (.slice (Option.map (fun x : Addr => x.add (L * A.sz)) (some (⟨g, 0, none⟩ : Addr))) (xs.length - L) (c - L))).run P w = .ok vs.toArray w := by
      unfold Builtin.firstCells
      simp only [Option.map_some, addr_add, Nat.zero_add]
      unfold loadCells
      simpa using hl
    refine (run_bind h1).trans ?_
    simp only [Option.map_some, addr_add, Nat.zero_add]
    exact (run_bind hst).trans rfl
  · refine hput _ [g] _ (by rw [hb]; exact off_setCells g vs w _) (by simp) (fun b hb' => ?_) fun ok' hm' => ?_
    · simp at hb'; subst hb'
      refine ⟨.inl (by rw [hb]; simp), ?_⟩
      exact lt_of_some hnew
    · have hC' : Cells A ok' (setCells w g (D * A.sz) vs) xs C := hC.move hm'
      have hmid' : Cells A ok' (setCells w g (D * A.sz) vs) ((xs.drop L).take m) vs := hmid.move hm'
      have hall : Cells A ok' (setCells w g (D * A.sz) vs) ys (C.take (D * A.sz) ++ vs ++ C.drop ((D + m) * A.sz)) := by
        rw [← hc]
        exact ((hC'.take D (by omega)).app hmid').app (hC'.drop (D + m) hDm)
      have htk : (setAt cur.toList (D * A.sz) vs).take (xs.length * A.sz) = C.take (D * A.sz) ++ vs ++ C.drop ((D + m) * A.sz) := by
        rw [setAt_take _ _ _ _ (by rw [hvl]; exact hDs), hCC, setAt_eq _ _ _ (by rw [hvl, hCl]; exact hDs), hvl, Nat.add_mul]
      refine .inr ⟨by show 0 < c; omega, _, by simp [Value.ownBlock], ⟨hall.1, .inr ⟨g, c, _, by rw [hyl], Nat.zero_le _, hnew, by rw [hyl]; exact hc', hmx, by simp [setAt_length, hsz], ?_⟩⟩, hall⟩
      rw [hyl]
      simpa using htk
variable {κ β : Type} [BEq κ] [LawfulBEq κ] {kv : κ → Value} {V : Ty β}
end
end Go.Proofs.YtlbcfjblpopcnaaL
set_option linter.unusedVariables false
set_option linter.unusedSimpArgs false
set_option linter.unnecessarySimpa false
namespace Go.Proofs.YtlbcfjblpopcnaaL
open Go Go.RowKit
section
variable {P : Program} {N : Nat} {ops : Array Oper} {Q : QE} {ρ : Env} {w : World} {w0 : Base} {rest : List Oper} {d : Option Tmp} {ty : TypeId} {pos : String} {aft : Array Edge} {gd : Option (Nat × Bool)} {ok0 : Nat → Prop} {Γ : List It} {Λ : List LObj}

def OwnAtF (sz off : Nat) (v : Value) (i : Int) (ad : Addr) : Prop := ∃ g n c, v = .slice (some ⟨g, 0, none⟩) n c ∧ ad = ⟨g, i.toNat * sz + off, none⟩
theorem OwnAt.f {sz : Nat} {v : Value} {i : Int} {ad : Addr} (h : OwnAt sz v i ad) : OwnAtF sz 0 v i ad := h
theorem WL.fieldAddrO {sz o1 : Nat} {v : Value} {i : Int} {ad : Addr} {T : TypeId} {x : Operand} {j off o2 : Nat} (hat : OwnAtF sz o1 v i ad) (hx : ρ.ev x = .pointer (some ad)) (hf : FA P T j off) (ho : o1 + off = o2)
    (K : ∀ ad', OwnAtF sz o2 v i ad' → WL P N ops Q rest (putE ρ d (.pointer (some ad'))) w)
    (hg : wantedE ops ρ ⟨d, .fieldAddr T x j, ty, pos, aft, gd⟩ = true := by rfl) (hd : fits N d = true := by rfl) :
    WL P N ops Q (⟨d, .fieldAddr T x j, ty, pos, aft, gd⟩ :: rest) ρ w := by
  obtain ⟨g, n, c, rfl, rfl⟩ := hat
  exact WL.fieldAddr hx hf rfl (K _ ⟨g, n, c, rfl, by rw [Nat.add_assoc, ho]⟩) hg hd
theorem WL.loadOF {α β : Type} {A : Ty α} {F : Ty β} {off : Nat} {get : α → β} {set : α → β → α} (hf : Fld A F off get set) {xs : List α} {y : α} {t E : TypeId} {x : Operand} {v : Value} {i : Int} {ad : Addr} (hs : St ok0 w0 w Γ Λ) (m : Nat) (hm : Λ[m]? = some (own A E v xs))
    (ht : TI P t F.agg F.sz) (h1 : F.agg = true ∨ F.sz = 1) (hat : OwnAtF A.sz off v i ad) (hi : idx xs i = some y) (hx : ρ.ev x = .pointer (some ad)) {z : β} (hz : get y = z) (K : ∀ u, St ok0 w0 w (vl F z u :: Γ) Λ → WL P N ops Q rest (putE ρ d u) w)
    (hg : wantedE ops ρ ⟨d, .load t x, ty, pos, aft, gd⟩ = true := by rfl) (hd : fits N d = true := by rfl) :
    WL P N ops Q (⟨d, .load t x, ty, pos, aft, gd⟩ :: rest) ρ w := by
  subst hz
  obtain ⟨h0, hlt, h2⟩ := idx_some hi
  obtain ⟨g, n, c, rfl, rfl⟩ := hat
  obtain ⟨hB, bss, hN, hltb, hO, hA⟩ := hs
  obtain ⟨l1, bs, l2, rfl, hl, ho, hput⟩ := Own.split m hO hm
  obtain ⟨g', c', cur, e, hb, hg', hc, hmx, hsz, hC⟩ := own_some ho (by omega)
  cases e
  have hR := hf.get_ (hC.2 _ _ h2)
  generalize hvs : ((((cur.toList.take (xs.length * A.sz)).drop (i.toNat * A.sz)).take A.sz).drop off).take F.sz = vs at hR
  have hlen := F.len hR
  have hcell : ∀ k u, vs[k]? = some u → w.cell? ⟨g, i.toNat * A.sz + off + k, none⟩ = some u := by
    intro k u hu
    rw [← hvs, List.getElem?_take] at hu
    split at hu
    · rw [List.getElem?_drop, List.getElem?_take] at hu
      split at hu
      · rw [List.getElem?_drop, List.getElem?_take] at hu
        split at hu
        · simp only [World.cell?, hg']
          rw [Nat.add_assoc]
          simpa using hu
        · cases hu
      · cases hu
    · cases hu
  have hload : (loadVar t ⟨g, i.toNat * A.sz + off, none⟩).run P w = .ok (bif F.agg then .agg vs.toArray else vs.getD 0 undef) w := by
    rcases hag : F.agg with _ | _
    · have hsz1 := h1.resolve_left (by simp [hag])
      rw [hag] at ht
      match vs, hlen, hcell with
      | [], hl, _ => simp [hsz1] at hl
      | c :: cs', hl, hc => exact run_loadVar1 ht (hc 0 c rfl)
    · rw [hag] at ht
      exact run_loadVarN ht hlen hcell
  exact WL.load_ hx hload (K _ ⟨hB, _, hN, hltb, hO, fun it hit => by
    rcases List.mem_cons.1 hit with rfl | hit
    · exact V_one hR
    · exact hA it hit⟩) hg hd
theorem setAt_in (cs vs : List Value) (p off sz : Nat) (h1 : off + vs.length ≤ sz) (h2 : p + sz ≤ cs.length) :
    setAt cs (p + off) vs = setAt cs p (((cs.drop p).take sz).take off ++ vs ++ ((cs.drop p).take sz).drop (off + vs.length)) := by
  have hl : (((cs.drop p).take sz).take off ++ vs ++ ((cs.drop p).take sz).drop (off + vs.length)).length = sz := by
    simp only [List.length_append, List.length_take, List.length_drop]
    omega
  rw [setAt_eq _ _ _ (by omega), setAt_eq _ _ _ (by omega), hl]
  rw [List.take_take, Nat.min_eq_left (by omega), List.drop_take, List.drop_drop]
  have e1 : cs.take (p + off) = cs.take p ++ (cs.drop p).take off := by rw [List.take_add]
  have e2 : cs.drop (p + off + vs.length) = (cs.drop (p + (off + vs.length))).take (sz - (off + vs.length)) ++ cs.drop (p + sz) := by
    have := (List.take_append_drop (sz - (off + vs.length)) (cs.drop (p + (off + vs.length)))).symm
    rw [List.drop_drop, show p + (off + vs.length) + (sz - (off + vs.length)) = p + sz by omega] at this
    rw [Nat.add_assoc]
    exact this
  rw [e1, e2]
  simp only [List.append_assoc]
theorem WL.storeOF {α β : Type} {A : Ty α} {F : Ty β} {off : Nat} {get : α → β} {set : α → β → α} (hf : Fld A F off get set) {xs zs : List α} {yo : α} {z : β} {t E : TypeId} {a x : Operand} {v u : Value} {i : Int} {ad : Addr} {vs : List Value} {agg : Bool} (hs : St ok0 w0 w Γ Λ) (m : Nat) (hm : Λ[m]? = some (own A E v xs))
    (ht : TI P t agg F.sz) (hat : OwnAtF A.sz off v i ad) (hi : idx xs i = some yo) (ha : ρ.ev a = .pointer (some ad)) (hx : ρ.ev x = u) (hu : u.cells = vs.toArray) (hR : ∀ ok, All ok w Γ → F.R ok w z vs) (hz : xs.set i.toNat (set yo z) = zs)
    (K : ∀ w', St ok0 w0 w' Γ (Λ.set m (own A E v zs)) → WL P N ops Q rest (putE ρ d undef) w')
    (hg : wantedE ops ρ ⟨d, .store t a x, ty, pos, aft, gd⟩ = true := by rfl) (hd : fits N d = true := by rfl) :
    WL P N ops Q (⟨d, .store t a x, ty, pos, aft, gd⟩ :: rest) ρ w := by
  obtain ⟨h0, hlt, h2⟩ := idx_some hi
  obtain ⟨g, n, c, rfl, rfl⟩ := hat
  obtain ⟨ok, bs, ho, hA, hn, hbs, hput⟩ := hs.split m hm
  obtain ⟨g', c', cur, e, hb, hg', hc, hmx, hsz, hC⟩ := own_some ho (by omega)
  cases e
  have hy := hR ok hA
  have hl := F.len hy
  have hle := hf.le
  have hbd : (i.toNat + 1) * A.sz ≤ xs.length * A.sz := Nat.mul_le_mul_right _ hlt
  rw [Nat.add_mul, Nat.one_mul] at hbd
  have hcur : xs.length * A.sz ≤ cur.size := by rw [hsz]; exact Nat.mul_le_mul_right _ hc
  have hrun := run_storeVar (P := P) ht (g := g) (j := i.toNat * A.sz + off) (cs := cur.toList) (T := E) (by simpa using hg') hu hl (F.one hy) (by rw [Array.length_toList]; omega)
  refine WL.unit hg hd (w' := setCells w g (i.toNat * A.sz + off) vs) (by
    show (do Instr.storeAt t (ρ.ev a) (ρ.ev x); pure Next.skip : Sem Next).run P w = _
    rw [ha, hx]
    exact exec_u ((run_bind (by rfl)).trans hrun)) (K _ ?_)
  have hnew := setCells_heap hg' (i.toNat * A.sz + off) vs
  refine hput _ [g] _ (by rw [hb]; exact off_setCells g vs w _) (by simp) (fun b hb' => ?_) fun ok' hm' => ?_
  · simp only [List.mem_singleton] at hb'
    subst hb'
    exact ⟨.inl (by rw [hb]; simp), lt_of_some hnew⟩
  · have hel := hC.2 _ _ h2
    have hnewR := hf.set_ hel hy
    have hC2 := (hC.set hnewR i.toNat hlt).move hm'
    rw [hz] at hC2
    have hzl : zs.length = xs.length := by rw [← hz, List.length_set]
    have hcl : (cur.toList.take (xs.length * A.sz)).length = xs.length * A.sz := by rw [List.length_take, Array.length_toList (xs := cur)]; omega
    have eq := setAt_in (cur.toList.take (xs.length * A.sz)) vs (i.toNat * A.sz) off A.sz (by omega) (by rw [hcl]; exact hbd)
    have hin : i.toNat * A.sz + off + vs.length ≤ xs.length * A.sz := by omega
    rw [hl] at eq
    rw [← eq] at hC2
    refine .inr ⟨by show 0 < c; omega, _, by simp [Value.ownBlock], ⟨hC2.1, .inr ⟨g, c, _, by rw [hzl], Nat.zero_le _, hnew, by rw [hzl]; exact hc, hmx, by simp [setAt_length, hsz], ?_⟩⟩, hC2⟩
    rw [hzl, List.toList_toArray, setAt_take _ _ _ _ hin]
end
end Go.Proofs.YtlbcfjblpopcnaaL
set_option linter.unusedVariables false
set_option linter.unusedSimpArgs false
set_option linter.unusedSectionVars false
namespace Go.Proofs.YtlbcfjblpopcnaaL
open Go Go.RowKit
section
variable {w : World} {w0 : Base} {ok0 : Nat → Prop} {Γ : List It} {Λ : List LObj}
theorem St.ownConv {α β : Type} {A : Ty α} {B : Ty β} {E : TypeId} {xs : List α} {ys : List β} {v : Value} (hs : St ok0 w0 w Γ Λ) (i : Nat) (hi : Λ[i]? = some (own A E v xs)) (hz : A.sz = B.sz) (hl : xs.length = ys.length)
    (hc : ∀ (ok : Nat → Prop) (w : World) (cs : List Value), All ok w Γ → Cells A ok w xs cs → Cells B ok w ys cs) : St ok0 w0 w Γ (Λ.set i (own B E v ys)) := by
  obtain ⟨ok, bs, ho, hA, hn, hbs, hput⟩ := hs.split i hi
  refine hput _ bs w (Off.refl_ _ _) hn (fun b hb => ⟨.inl hb, (hbs b hb).2.2⟩) fun ok' hm => ?_
  have h' := (own A E v xs).move ho (fun _ _ => rfl) hm
  rcases h' with ⟨h0, e1, e2, e3⟩ | ⟨h0, cs, e1, e2, e3⟩
  · subst e2
    have : ys = [] := List.length_eq_zero_iff.1 hl.symm
    exact .inl ⟨h0, e1, this, e3⟩
  · refine .inr ⟨h0, cs, e1, ?_, hc ok' w cs (hA.move hm) e3⟩
    rw [← hz, ← hl]
    exact e2
abbrev tRO : Ty (List UInt8 × Value) := tPair tStr tCell
theorem tRO_R {ok : Nat → Prop} {w : World} {x : List UInt8 × Value} {cs : List Value} : tRO.R ok w x cs ↔ cs = [bstr x.1, x.2] ∧ x.2.oneCell' = true := by
  constructor
  · rintro ⟨c1, c2, rfl, h1, h2, h3⟩
    rw [h2]
    have : c1 = [bstr x.1] := h1
    rw [this]
    exact ⟨rfl, h3⟩
  · rintro ⟨rfl, h⟩
    exact ⟨[bstr x.1], [x.2], rfl, rfl, rfl, h⟩
theorem F_RO_1 : Fld tRO tStr 0 Prod.fst (fun x y => (y, x.2)) := Fld.fst _ _
theorem F_RO_2 : Fld tRO tCell 1 Prod.snd (fun x y => (x.1, y)) := Fld.snd Fld.self
variable {φ ψ : Type} {A : Ty φ} {EO EF : TypeId} {V : Value}
def robL (A : Ty φ) (EO EF : TypeId) (V : Value) (os : List (List UInt8 × Value × List φ)) : List LObj := own tRO EO V (os.map fun o => (o.1, o.2.1)) :: os.map fun o => own A EF o.2.1 o.2.2
theorem freezeAll : ∀ (os : List (List UInt8 × Value × List φ)) {Γ : List It} {o : LObj} {Λ : List LObj}, St ok0 w0 w Γ (o :: (os.map fun o => own A EF o.2.1 o.2.2) ++ Λ) →
    ∃ Γ', St ok0 w0 w Γ' (o :: Λ) ∧ (∀ it ∈ Γ, it ∈ Γ') ∧ ∀ q ∈ os, vl (tSlice A) q.2.2 q.2.1 ∈ Γ'
  | [], Γ, o, Λ, hs => ⟨Γ, hs, fun _ h => h, by simp⟩
  | q :: os, Γ, o, Λ, hs => by
    have h1 := hs.freezeOwn 1 (A := A) (E := EF) (xs := q.2.2) (v := q.2.1) rfl
    obtain ⟨Γ', h2, h3, h4⟩ := freezeAll os (Γ := vl (tSlice A) q.2.2 q.2.1 :: Γ) (o := o) (Λ := Λ) h1
    refine ⟨Γ', h2, fun it hi => h3 it (List.mem_cons_of_mem _ hi), fun p hp => ?_⟩
    rcases List.mem_cons.1 hp with rfl | hp
    · exact h3 _ (List.mem_cons_self ..)
    · exact h4 p hp
theorem cells_conv {T : Ty ψ} {mk : List UInt8 × Value × List φ → ψ} (hT : ∀ (ok : Nat → Prop) (w : World) (q : List UInt8 × Value × List φ), (tSlice A).V ok w q.2.2 q.2.1 → T.R ok w (mk q) [bstr q.1, q.2.1]) (hsz : T.sz = 2) {ok : Nat → Prop} {w : World} :
    ∀ (os : List (List UInt8 × Value × List φ)) (cs : List Value), (∀ q ∈ os, (tSlice A).V ok w q.2.2 q.2.1) → Cells tRO ok w (os.map fun o => (o.1, o.2.1)) cs → Cells T ok w (os.map mk) cs
  | [], cs, _, ⟨h1, h2⟩ => ⟨by simpa using h1, by simp⟩
  | q :: os, cs, h, hc => by
    have h0 := hc.1
    have e0 : tRO.sz = 2 := rfl
    rw [List.map_cons, List.length_cons, List.length_map, e0] at h0
    have a1 : Cells tRO ok w [(q.1, q.2.1)] (cs.take 2) := by
      have := hc.take 1 (by simp)
      rw [Nat.one_mul, e0] at this
      exact this
    have a2 : Cells tRO ok w (os.map fun o => (o.1, o.2.1)) (cs.drop 2) := by
      have := hc.drop 1 (by simp)
      rw [Nat.one_mul, e0] at this
      exact this
    have b2 := cells_conv hT hsz os (cs.drop 2) (fun p hp => h p (by simp [hp])) a2
    have b1 : Cells T ok w [mk q] (cs.take 2) := by
      have r := tRO_R.1 (a1.2 0 (q.1, q.2.1) rfl)
      have r1 := r.1
      have hl2 : (cs.take 2).length = 2 := by rw [List.length_take]; omega
      have : cs.take 2 = [bstr q.1, q.2.1] := by
        rw [e0, Nat.zero_mul, List.drop_zero, List.take_take] at r1
        exact r1
      rw [this]
      exact Cells.one (hT ok w q (h q (by simp)))
    have := b1.app b2
    rw [List.take_append_drop] at this
    exact this
theorem St.robFreeze {T : Ty ψ} {mk : List UInt8 × Value × List φ → ψ} (hT : ∀ (ok : Nat → Prop) (w : World) (q : List UInt8 × Value × List φ), (tSlice A).V ok w q.2.2 q.2.1 → T.R ok w (mk q) [bstr q.1, q.2.1]) (hsz : T.sz = 2)
    {os : List (List UInt8 × Value × List φ)} (hs : St ok0 w0 w Γ (robL A EO EF V os ++ Λ)) : St ok0 w0 w Γ (own T EO V (os.map mk) :: Λ) := by
  obtain ⟨Γ', h1, h2, h3⟩ := freezeAll os hs
  have h4 := h1.ownConv (B := T) (ys := os.map mk) 0 rfl (by rw [hsz]; rfl) (by rw [List.length_map, List.length_map]) fun ok w cs hA hc => cells_conv hT hsz os cs (fun q hq => hA _ (h3 q hq)) hc
  exact h4.sub h2
def innA (A : Ty φ) (EF : TypeId) (os : List (List UInt8 × Value × List φ)) : LObj := allo (os.map fun o => own A EF o.2.1 o.2.2)
def rawA (os : List (List UInt8 × Value × List φ)) : List (List UInt8 × Value) := os.map fun o => (o.1, o.2.1)
theorem St.rinNil (hs : St ok0 w0 w Γ Λ) (A : Ty φ) (EF : TypeId) : St ok0 w0 w Γ (innA A EF [] :: Λ) := St.allClose (R := []) hs
theorem St.rinAdd {p : Nat} {n : List UInt8} {v : Value} {xs : List φ} {os : List (List UInt8 × Value × List φ)} (hs : St ok0 w0 w Γ (own A EF v xs :: innA A EF os :: Λ)) : St ok0 w0 w Γ (innA A EF (os.take p ++ (n, v, xs) :: os.drop p) :: Λ) := by
  have h1 : St ok0 w0 w Γ (innA A EF os :: own A EF v xs :: Λ) := hs.perm (List.Perm.swap _ _ _)
  have h2 := St.allOpen h1
  refine St.allClose (R := (os.take p ++ (n, v, xs) :: os.drop p).map fun o => own A EF o.2.1 o.2.2) ?_
  refine h2.perm ?_
  rw [List.map_append, List.map_cons]
  have e : (os.map fun o => own A EF o.2.1 o.2.2) = (os.take p).map (fun o => own A EF o.2.1 o.2.2) ++ (os.drop p).map fun o => own A EF o.2.1 o.2.2 := by
    rw [← List.map_append, List.take_append_drop]
  rw [e]
  simp only [List.append_assoc, List.cons_append]
  refine List.Perm.append_left _ ?_
  exact List.perm_middle
theorem St.rinTake {p : Nat} {os : List (List UInt8 × Value × List φ)} (hs : St ok0 w0 w Γ (innA A EF os :: Λ)) (hp : p < os.length) : St ok0 w0 w Γ (own A EF os[p].2.1 os[p].2.2 :: innA A EF (os.take p ++ os.drop (p + 1)) :: Λ) := by
  have h2 := St.allOpen hs
  have h3 : St ok0 w0 w Γ (innA A EF (os.take p ++ os.drop (p + 1)) :: own A EF os[p].2.1 os[p].2.2 :: Λ) := by
    refine St.allClose (R := (os.take p ++ os.drop (p + 1)).map fun o => own A EF o.2.1 o.2.2) ?_
    refine h2.perm ?_
    have e : os = os.take p ++ os[p] :: os.drop (p + 1) := by rw [← List.drop_eq_getElem_cons hp, List.take_append_drop]
    conv => lhs; rw [e]
    rw [List.map_append, List.map_append, List.map_cons]
    simp only [List.append_assoc, List.cons_append]
    refine List.Perm.append_left _ ?_
    exact List.perm_middle.symm
  exact h3.perm (List.Perm.swap _ _ _)
theorem St.rinOpen {V : Value} {os : List (List UInt8 × Value × List φ)} (hs : St ok0 w0 w Γ (own tRO EO V (rawA os) :: innA A EF os :: Λ)) : St ok0 w0 w Γ (robL A EO EF V os ++ Λ) := by
  have h1 : St ok0 w0 w Γ (innA A EF os :: own tRO EO V (rawA os) :: Λ) := hs.perm (List.Perm.swap _ _ _)
  have h2 := St.allOpen h1
  exact h2.perm List.perm_middle
theorem St.rot {o : LObj} (hs : St ok0 w0 w Γ (o :: Λ)) : St ok0 w0 w Γ (Λ ++ [o]) := hs.perm (List.perm_append_singleton o Λ).symm
end
end Go.Proofs.YtlbcfjblpopcnaaL
set_option linter.unusedVariables false
set_option linter.unusedSimpArgs false
namespace Go.Proofs.YtlbcfjblpopcnaaL
open Go

theorem w64 {x : Int} (h1 : -9223372036854775808 ≤ x) (h2 : x ≤ 9223372036854775807) : IntKind.i64.wrap x = x := by
  simp only [IntKind.wrap, IntKind.bits, IntKind.signed]; simp; split <;> omega
theorem w64n {k : Nat} (h : k < 9223372036854775807) : IntKind.i64.wrap ((k : Int) + 1) = ((k + 1 : Nat) : Int) := by
  rw [w64 (by omega) (by omega)]; omega
theorem idx_nat {α : Type} {xs : List α} {k : Nat} (h : k < xs.length) : idx xs (k : Int) = some xs[k] := by
  unfold idx
  rw [if_pos (by omega)]
  simp [h]
theorem app_of {α : Type} {b : Nat} {xs ys : List α} (h : (xs.length + ys.length) * b ≤ 140737488355328) : app b xs ys = some (xs ++ ys) := if_pos h
theorem cut_of {α : Type} {xs : List α} {l h : Int} (h1 : 0 ≤ l) (h2 : l ≤ h) (h3 : h ≤ xs.length) : cut xs l h = some ((xs.take h.toNat).drop l.toNat) := if_pos ⟨h1, h2, h3⟩
theorem letV_of {α β : Type} (e : α) (f : α → Option β) : letV e f = f e := rfl
theorem loopO_up {σ β : Type} {step : σ → Option (σ ⊕ β)} (f : Nat → σ) (n : Nat) {b : β} (hs : ∀ k, k < n → step (f k) = some (.inl (f (k + 1)))) (he : step (f n) = some (.inr b)) : loopO step (f 0) = some b := by
  have : ∀ m k, k + m = n → loopO step (f k) = some b := by
    intro m
    induction m with
    | zero => intro k hk; have : k = n := by omega
              subst this; exact loopO_done he
    | succ m ih => intro k hk; rw [loopO_next (hs k (by omega))]; exact ih (k + 1) (by omega)
  exact this n 0 (by omega)
theorem loopO_inv {σ β : Type} {step : σ → Option (σ ⊕ β)} (I : Nat → σ → Prop) (n : Nat) {s0 : σ} {Q : β → Prop} (h0 : I 0 s0)
    (hs : ∀ k s, k < n → I k s → ∃ s', step s = some (.inl s') ∧ I (k + 1) s') (he : ∀ s, I n s → ∃ b, step s = some (.inr b) ∧ Q b) : ∃ b, loopO step s0 = some b ∧ Q b := by
  have : ∀ m k s, k + m = n → I k s → ∃ b, loopO step s = some b ∧ Q b := by
    intro m
    induction m with
    | zero =>
      intro k s hk hI
      have : k = n := by omega
      subst this
      obtain ⟨b, h1, h2⟩ := he s hI
      exact ⟨b, loopO_done h1, h2⟩
    | succ m ih =>
      intro k s hk hI
      obtain ⟨s', h1, h2⟩ := hs k s (by omega) hI
      rw [loopO_next h1]
      exact ih (k + 1) s' (by omega) h2
  exact this n 0 s0 (by omega) h0
theorem loopO_ex {σ β : Type} {step : σ → Option (σ ⊕ β)} (I : Nat → σ → Prop) (n : Nat) {s0 : σ} {Q : β → Prop} (h0 : I 0 s0)
    (hs : ∀ k s, k < n → I k s → (∃ s', step s = some (.inl s') ∧ I (k + 1) s') ∨ ∃ b, step s = some (.inr b) ∧ Q b) (he : ∀ s, I n s → ∃ b, step s = some (.inr b) ∧ Q b) : ∃ b, loopO step s0 = some b ∧ Q b := by
  have : ∀ m k s, k + m = n → I k s → ∃ b, loopO step s = some b ∧ Q b := by
    intro m
    induction m with
    | zero =>
      intro k s hk hI
      have : k = n := by omega
      subst this
      obtain ⟨b, h1, h2⟩ := he s hI
      exact ⟨b, loopO_done h1, h2⟩
    | succ m ih =>
      intro k s hk hI
      rcases hs k s (by omega) hI with ⟨s', h1, h2⟩ | ⟨b, h1, h2⟩
      · rw [loopO_next h1]
        exact ih (k + 1) s' (by omega) h2
      · exact ⟨b, loopO_done h1, h2⟩
  exact this n 0 s0 (by omega) h0
theorem take_snoc {α : Type} {xs : List α} {k : Nat} (h : k < xs.length) : xs.take (k + 1) = xs.take k ++ [xs[k]] := by
  rw [List.take_succ_eq_append_getElem h]
theorem mset_keys {κ β : Type} [BEq κ] [LawfulBEq κ] (k : κ) (y : β) : ∀ l : List (κ × β), (l.map (·.1)).Nodup → ((mset l k y).map (·.1)).Nodup ∧ ∀ x, x ∈ (mset l k y).map (·.1) → x = k ∨ x ∈ l.map (·.1)
  | [], _ => by simp [mset]
  | e :: l, h => by
    simp only [List.map_cons, List.nodup_cons] at h
    unfold mset
    by_cases hk : k == e.1
    · rw [if_pos hk]
      simp only [List.map_cons, List.nodup_cons]
      exact ⟨h, fun x hx => .inr hx⟩
    · rw [if_neg hk]
      obtain ⟨h1, h2⟩ := mset_keys k y l h.2
      simp only [List.map_cons, List.nodup_cons]
      refine ⟨⟨fun hm => ?_, h1⟩, fun x hx => ?_⟩
      · rcases h2 _ hm with h3 | h3
        · exact hk (by simp [h3])
        · exact h.1 h3
      · rcases List.mem_cons.1 hx with hx | hx
        · exact .inr (List.mem_cons.2 (.inl hx))
        · rcases h2 x hx with h3 | h3
          · exact .inl h3
          · exact .inr (List.mem_cons.2 (.inr h3))
theorem mset_length {κ β : Type} [BEq κ] (k : κ) (y : β) : ∀ l : List (κ × β), (mset l k y).length ≤ l.length + 1
  | [] => by simp [mset]
  | e :: l => by
    unfold mset
    split
    · simp
    · have := mset_length k y l
      simp only [List.length_cons]
      omega
theorem mset_lookup {κ β : Type} [BEq κ] [LawfulBEq κ] (k : κ) (y : β) (x : κ) : ∀ l : List (κ × β), (mset l k y).lookup x = if x == k then some y else l.lookup x
  | [] => by
    simp only [mset, List.lookup]
    cases h : x == k <;> simp
  | e :: l => by
    unfold mset
    by_cases hk : k == e.1
    · rw [if_pos hk]
      have he : k = e.1 := by simpa using hk
      simp only [List.lookup, ← he]
      cases h : x == k <;> simp
    · rw [if_neg hk]
      have ih := mset_lookup k y x l
      simp only [List.lookup]
      cases h : x == e.1 with
      | true =>
        have : (x == k) = false := by
          have hx : x = e.1 := by simpa using h
          rw [hx]
          cases h2 : e.1 == k with
          | false => rfl
          | true => have : e.1 = k := by simpa using h2
                    exact absurd (by simp [this]) hk
        simp [this]
      | false => simpa using ih
end Go.Proofs.YtlbcfjblpopcnaaL
set_option linter.unusedVariables false
set_option linter.unusedSimpArgs false
namespace Go.Proofs.YtlbcfjblpopcnaaL
open Go

def runL {α σ β : Type} (g : Nat → α → σ → Option (σ ⊕ β)) (fin : σ → Option β) : Nat → List α → σ → Option β
  | _, [], s => fin s
  | i, x :: xs, s => match g i x s with
    | none => none
    | some (.inl s') => runL g fin (i + 1) xs s'
    | some (.inr b) => some b
theorem loopO_runL {α σ τ β : Type} {step : τ → Option (τ ⊕ β)} (pack : Nat → σ → τ) (g : Nat → α → σ → Option (σ ⊕ β)) (fin : σ → Option β) (xs : List α)
    (hs : ∀ k (hk : k < xs.length) s, step (pack k s) = match g k xs[k] s with | none => none | some (.inl s') => some (.inl (pack (k + 1) s')) | some (.inr b) => some (.inr b))
    (he : ∀ s, step (pack xs.length s) = (fin s).map .inr) (s : σ) : loopO step (pack 0 s) = runL g fin 0 xs s := by
  have : ∀ m k s, k + m = xs.length → loopO step (pack k s) = runL g fin k (xs.drop k) s := by
    intro m
    induction m with
    | zero =>
      intro k s hk
      have hk : k = xs.length := by omega
      subst hk
      rw [List.drop_length, runL, loopO_unfold, he]
      cases fin s <;> rfl
    | succ m ih =>
      intro k s hk
      have hk' : k < xs.length := by omega
      rw [List.drop_eq_getElem_cons hk', runL, loopO_unfold, hs k hk']
      cases g k xs[k] s with
      | none => rfl
      | some o =>
        cases o with
        | inl s' => exact ih (k + 1) s' (by omega)
        | inr b => rfl
  have h := this xs.length 0 s (by omega)
  rwa [List.drop_zero] at h
theorem lt_of_len {k n : Nat} (h : k < n) : decide ((k : Int) < (n : Int)) = true := by simpa using h
theorem not_lt_len {n : Nat} : decide ((n : Int) < (n : Int)) = false := by simp
theorem wcast {k n : Nat} (hk : k < n) (h : n ≤ 4611686018427387904) : IntKind.i64.wrap ((k : Int) + 1) = ((k + 1 : Nat) : Int) := w64n (by omega)
end Go.Proofs.YtlbcfjblpopcnaaL
set_option linter.unusedVariables false
set_option linter.unusedSimpArgs false
namespace Go.Proofs.Ytlbcfjblpopcnaa
open Go Go.Proofs.YtlbcfjblpopcnaaL
section
variable {α : Type} (key : α → List UInt8)
abbrev SA (l : List α) : Prop := l.Pairwise fun a b => Op.bytesLess (key a) (key b) = true
def upd (k : List UInt8) (g : Option α → α) : List α → List α
  | [] => [g none]
  | a :: l => if Op.bytesLess (key a) k then a :: upd k g l else if key a == k then g (some a) :: l else g none :: a :: l
def get (l : List α) (k : List UInt8) : Option α := l.find? fun a => key a == k
variable {key}
theorem get_nil (k : List UInt8) : get key [] k = none := rfl
theorem get_cons (a : α) (l : List α) (k : List UInt8) : get key (a :: l) k = if key a = k then some a else get key l k := by
  unfold get
  rw [List.find?_cons]
  by_cases h : key a = k
  · rw [if_pos h, show (key a == k) = true by simp [h]]
  · rw [if_neg h, show (key a == k) = false by simp [h]]
theorem get_key {l : List α} {k : List UInt8} {a : α} (h : get key l k = some a) : key a = k := by
  unfold get at h
  simpa using List.find?_some h
theorem get_mem {l : List α} {k : List UInt8} {a : α} (h : get key l k = some a) : a ∈ l := List.mem_of_find?_eq_some h
theorem get_none_of {l : List α} {k : List UInt8} (h : ∀ a ∈ l, key a ≠ k) : get key l k = none := by
  unfold get
  rw [List.find?_eq_none]
  intro a ha
  simpa using h a ha
theorem get_some_iff {l : List α} {k : List UInt8} : (get key l k).isSome = true ↔ ∃ a ∈ l, key a = k := by
  unfold get
  rw [List.find?_isSome]
  simp
theorem SA_lt {a : α} {l : List α} (h : SA key (a :: l)) : ∀ b ∈ l, Op.bytesLess (key a) (key b) = true := (List.pairwise_cons.1 h).1
theorem SA_ne {a : α} {l : List α} (h : SA key (a :: l)) : ∀ b ∈ l, key b ≠ key a := fun b hb e => by
  have := SA_lt h b hb
  rw [e, bl_irrefl] at this
  cases this
theorem get_mem_self {l : List α} (h : SA key l) {a : α} (ha : a ∈ l) : get key l (key a) = some a := by
  induction l with
  | nil => simp at ha
  | cons b l ih =>
    rw [get_cons]
    rcases List.mem_cons.1 ha with rfl | ha
    · rw [if_pos rfl]
    · rw [if_neg (fun e => SA_ne h a ha e.symm), ih (List.pairwise_cons.1 h).2 ha]
theorem get_below {a : α} {l : List α} (h : SA key (a :: l)) {k : List UInt8} (hk : Op.bytesLess k (key a) = true) : get key (a :: l) k = none := get_none_of fun b hb => by
  rcases List.mem_cons.1 hb with rfl | hb
  · intro e; rw [e, bl_irrefl] at hk; cases hk
  · intro e
    have := bl_trans hk (SA_lt h b hb)
    rw [e, bl_irrefl] at this
    cases this
theorem get_upd {k : List UInt8} {g : Option α → α} (hg : ∀ o, (∀ a, o = some a → key a = k) → key (g o) = k) (k' : List UInt8) : ∀ {l : List α}, SA key l → get key (upd key k g l) k' = if k' = k then some (g (get key l k)) else get key l k'
  | [], _ => by
    unfold upd
    have e : key (g none) = k := hg none (by simp)
    rw [get_cons, e, get_nil]
    by_cases h : k' = k
    · rw [if_pos h.symm, if_pos h, get_nil]
    · rw [if_neg (fun e => h e.symm), if_neg h]
  | a :: l, hl => by
    have hl' := (List.pairwise_cons.1 hl).2
    unfold upd
    cases h1 : Op.bytesLess (key a) k with
    | true =>
      rw [if_pos rfl, get_cons, get_upd hg k' hl']
      have hne : key a ≠ k := fun e => by rw [e, bl_irrefl] at h1; cases h1
      by_cases h : k' = k
      · rw [if_neg (by rw [h]; exact hne), if_pos h, if_pos h, get_cons, if_neg hne]
      · rw [if_neg h, if_neg h, get_cons]
    | false =>
      rw [if_neg (by simp)]
      by_cases h2 : key a = k
      · rw [if_pos (by simp [h2]), get_cons, hg (some a) (by simp [h2]), get_cons, if_pos h2]
        by_cases h : k' = k
        · rw [if_pos h.symm, if_pos h]
        · rw [if_neg (fun e => h e.symm), if_neg h, get_cons, if_neg (by rw [h2]; exact fun e => h e.symm)]
      · rw [if_neg (by simpa using h2), get_cons, hg none (by simp)]
        have h3 : Op.bytesLess k (key a) = true := by
          cases h4 : Op.bytesLess k (key a) with
          | true => rfl
          | false => exact absurd (bl_tri h1 h4) h2
        by_cases h : k' = k
        · rw [if_pos h.symm, if_pos h, get_below hl h3]
        · rw [if_neg (fun e => h e.symm), if_neg h]
theorem mem_upd {k : List UInt8} {g : Option α → α} : ∀ {l : List α}, SA key l → ∀ x ∈ upd key k g l, x ∈ l ∨ x = g (get key l k)
  | [], _, x, hx => by
    unfold upd at hx
    simp at hx
    exact .inr hx
  | a :: l, hl, x, hx => by
    have hl' := (List.pairwise_cons.1 hl).2
    unfold upd at hx
    cases h1 : Op.bytesLess (key a) k with
    | true =>
      rw [h1, if_pos rfl] at hx
      have hne : key a ≠ k := fun e => by rw [e, bl_irrefl] at h1; cases h1
      rcases List.mem_cons.1 hx with rfl | hx
      · exact .inl (by simp)
      · rw [get_cons, if_neg hne]
        rcases mem_upd hl' x hx with h | h
        · exact .inl (by simp [h])
        · exact .inr h
    | false =>
      rw [h1, if_neg (by simp)] at hx
      by_cases h2 : key a = k
      · rw [if_pos (by simp [h2])] at hx
        rw [get_cons, if_pos h2]
        rcases List.mem_cons.1 hx with h | h
        · exact .inr h
        · exact .inl (by simp [h])
      · rw [if_neg (by simpa using h2)] at hx
        have h3 : Op.bytesLess k (key a) = true := by
          cases h4 : Op.bytesLess k (key a) with
          | true => rfl
          | false => exact absurd (bl_tri h1 h4) h2
        rw [get_below hl h3]
        rcases List.mem_cons.1 hx with h | h
        · exact .inr h
        · exact .inl h
theorem SA_upd {k : List UInt8} {g : Option α → α} (hg : ∀ o, (∀ a, o = some a → key a = k) → key (g o) = k) : ∀ {l : List α}, SA key l → SA key (upd key k g l)
  | [], _ => by unfold upd; exact List.pairwise_singleton _ _
  | a :: l, hl => by
    have hl' := (List.pairwise_cons.1 hl).2
    unfold upd
    cases h1 : Op.bytesLess (key a) k with
    | true =>
      rw [if_pos rfl]
      refine List.pairwise_cons.2 ⟨fun x hx => ?_, SA_upd hg hl'⟩
      rcases mem_upd hl' x hx with h | h
      · exact SA_lt hl x h
      · rw [h, hg _ fun b hb => get_key hb]; exact h1
    | false =>
      rw [if_neg (by simp)]
      by_cases h2 : key a = k
      · rw [if_pos (by simp [h2])]
        refine List.pairwise_cons.2 ⟨fun x hx => ?_, hl'⟩
        rw [hg (some a) (by simp [h2]), ← h2]
        exact SA_lt hl x hx
      · rw [if_neg (by simpa using h2)]
        have h3 : Op.bytesLess k (key a) = true := by
          cases h4 : Op.bytesLess k (key a) with
          | true => rfl
          | false => exact absurd (bl_tri h1 h4) h2
        refine List.pairwise_cons.2 ⟨fun x hx => ?_, hl⟩
        rw [hg none (by simp)]
        rcases List.mem_cons.1 hx with rfl | hx
        · exact h3
        · exact bl_trans h3 (SA_lt hl x hx)
theorem SA_ext : ∀ {l l' : List α}, SA key l → SA key l' → (∀ k, get key l k = get key l' k) → l = l'
  | [], [], _, _, _ => rfl
  | [], b :: l', _, _, h => by
    have := h (key b)
    rw [get_nil, get_cons, if_pos rfl] at this
    cases this
  | a :: l, [], _, _, h => by
    have := h (key a)
    rw [get_nil, get_cons, if_pos rfl] at this
    cases this
  | a :: l, b :: l', hl, hl', h => by
    have hab : key a = key b := by
      refine bl_tri ?_ ?_
      · cases hk : Op.bytesLess (key a) (key b) with
        | false => rfl
        | true =>
          have := h (key a)
          rw [get_below hl' hk, get_cons, if_pos rfl] at this
          cases this
      · cases hk : Op.bytesLess (key b) (key a) with
        | false => rfl
        | true =>
          have := h (key b)
          rw [get_below hl hk, get_cons, if_pos rfl] at this
          cases this
    have e1 : a = b := by
      have := h (key a)
      rw [get_cons, if_pos rfl, get_cons, if_pos hab.symm] at this
      exact Option.some.inj this
    subst e1
    have : l = l' := by
      refine SA_ext (List.pairwise_cons.1 hl).2 (List.pairwise_cons.1 hl').2 fun k => ?_
      by_cases hk : key a = k
      · rw [← hk, get_none_of (SA_ne hl), get_none_of (SA_ne hl')]
      · have := h k
        rw [get_cons, if_neg hk, get_cons, if_neg hk] at this
        exact this
    rw [this]
theorem upd_upd {k : List UInt8} {g g' : Option α → α} (hg : ∀ o, (∀ a, o = some a → key a = k) → key (g o) = k) (hg' : ∀ o, (∀ a, o = some a → key a = k) → key (g' o) = k) {l : List α} (hl : SA key l) :
    upd key k g (upd key k g' l) = upd key k (fun o => g (some (g' o))) l := by
  have hgg : ∀ o, (∀ a, o = some a → key a = k) → key (g (some (g' o))) = k := fun o ho => hg _ fun a ha => by
    have := Option.some.inj ha
    rw [← this]; exact hg' o ho
  refine SA_ext (SA_upd hg (SA_upd hg' hl)) (SA_upd hgg hl) fun q => ?_
  rw [get_upd hg q (SA_upd hg' hl), get_upd hgg q hl, get_upd hg' q hl, get_upd hg' k hl, if_pos rfl]
  by_cases h1 : q = k
  · rw [if_pos h1, if_pos h1]
  · rw [if_neg h1, if_neg h1, if_neg h1]
theorem upd_congr {k : List UInt8} {g g' : Option α → α} (hg : ∀ o, (∀ a, o = some a → key a = k) → key (g o) = k) {l : List α} (hl : SA key l) (h : g (get key l k) = g' (get key l k)) (hg' : ∀ o, (∀ a, o = some a → key a = k) → key (g' o) = k) : upd key k g l = upd key k g' l := by
  refine SA_ext (SA_upd hg hl) (SA_upd hg' hl) fun q => ?_
  rw [get_upd hg q hl, get_upd hg' q hl, h]
end
section
variable {β : Type}
theorem skeys_of {m : List (List UInt8 × β)} (h1 : ∀ x ∈ m, x.1.length ≤ 1000000) (h2 : m.length ≤ 1000000) : skeys m = some ((m.map (·.1)).mergeSort fun a b => decide (a ≤ b)) := by
  unfold skeys
  rw [if_pos ⟨fun x hx => Nat.le_trans (h1 x hx) (by decide), by omega⟩]
theorem sorted_asc {l : List (List UInt8)} (h : l.Nodup) : Asc (l.mergeSort fun a b => decide (a ≤ b)) := by
  have tr : ∀ a b c : List UInt8, (decide (a ≤ b)) = true → (decide (b ≤ c)) = true → (decide (a ≤ c)) = true := fun a b c h1 h2 => by simp only [decide_eq_true_eq] at *; exact List.le_trans h1 h2
  have to : ∀ a b : List UInt8, ((decide (a ≤ b)) || (decide (b ≤ a))) = true := fun a b => by simp only [Bool.or_eq_true, decide_eq_true_eq]; exact List.le_total a b
  have h1 := List.pairwise_mergeSort tr to l
  have h2 : (l.mergeSort fun a b => decide (a ≤ b)).Nodup := (List.mergeSort_perm l _).nodup_iff.2 h
  refine (h1.and h2).imp fun {a b} hab => ?_
  obtain ⟨h3, h4⟩ := hab
  rw [Go.Proofs.bytesLess_eq, decide_eq_true_eq]
  rw [decide_eq_true_eq] at h3
  refine Decidable.byContradiction fun h => ?_
  exact h4 (List.le_antisymm h3 h)
end
end Go.Proofs.Ytlbcfjblpopcnaa
set_option linter.unusedVariables false
set_option linter.unusedSimpArgs false
namespace Go.Proofs.Ytlbcfjblpopcnaa
open Go Go.Proofs.YtlbcfjblpopcnaaL
abbrev FN_ : fold_Field → List UInt8 := fold_Field.Name
abbrev ON_ : fold_Object → List UInt8 := fold_Object.Name
abbrev srtN (l : List (List UInt8)) : List (List UInt8) := l.mergeSort fun a b => decide (a ≤ b)
def canonF (fs : List fold_Field) : List fold_Field := (srtN (fs.map (·.Name))).map fun n => (get FN_ fs n).getD fold_zero
def canonB (x : fold_B) : List fold_Object := (srtN (x.map (·.1))).map fun n => ⟨n, canonF ((x.lookup n).getD [])⟩
theorem loop_app {γ δ : Type} {b : Nat} {ns : List γ} {step : (Int × List δ) → Option ((Int × List δ) ⊕ List δ)} (F : γ → δ)
    (hs : ∀ (k : Nat) (hk : k < ns.length) (out : List δ), step ((k : Int), out) = (app b out [F ns[k]]).bind fun out' => letV (IntKind.i64.wrap ((k : Int) + 1)) fun j => some (.inl (j, out')))
    (he : ∀ out : List δ, step ((ns.length : Int), out) = some (.inr out)) (hb : ns.length * b ≤ 140737488355328) (hn : ns.length ≤ 4611686018427387904) : loopO step (0, []) = some (ns.map F) := by
  have := loopO_up (step := step) (fun k => ((k : Int), (ns.take k).map F)) ns.length (b := ns.map F) (fun k hk => ?_) ?_
  · simpa using this
  · show step ((k : Int), (ns.take k).map F) = _
    rw [hs k hk, app_of (by
      have e : ((ns.take k).map F).length + [F ns[k]].length ≤ ns.length := by simp; omega
      exact Nat.le_trans (Nat.mul_le_mul_right b e) hb)]
    show letV _ _ = _
    rw [letV, wcast hk hn, take_snoc hk, List.map_append]
    rfl
  · show step ((ns.length : Int), (ns.take ns.length).map F) = _
    rw [he, List.take_length]
theorem get_map {α : Type} {key : α → List UInt8} {F : List UInt8 → α} : ∀ {ns : List (List UInt8)}, (∀ n ∈ ns, key (F n) = n) → ∀ k, get key (ns.map F) k = if k ∈ ns then some (F k) else none
  | [], _, k => by simp [get]
  | n :: ns, h, k => by
    rw [List.map_cons, get_cons, h n (by simp), get_map (fun m hm => h m (by simp [hm]))]
    by_cases hk : n = k
    · rw [if_pos hk, if_pos (by simp [hk]), hk]
    · rw [if_neg hk]
      by_cases hm : k ∈ ns
      · rw [if_pos hm, if_pos (by simp [hm])]
      · rw [if_neg hm, if_neg (by simp only [List.mem_cons, not_or]; exact ⟨fun e => hk e.symm, hm⟩)]
theorem SA_map {α : Type} {key : α → List UInt8} {F : List UInt8 → α} {ns : List (List UInt8)} (ha : Asc ns) (h : ∀ n ∈ ns, key (F n) = n) : SA key (ns.map F) := by
  refine List.pairwise_map.2 (ha.imp_of_mem fun {a b} ha hb hab => ?_)
  rw [h a ha, h b hb]
  exact hab
theorem mem_srt {l : List (List UInt8)} {k : List UInt8} : k ∈ srtN l ↔ k ∈ l := (List.mergeSort_perm l _).mem_iff
theorem get_names {fs : List fold_Field} {k : List UInt8} : k ∈ fs.map (·.Name) ↔ (get FN_ fs k).isSome = true := by
  rw [get_some_iff, List.mem_map]
theorem canonF_name (fs : List fold_Field) : ∀ n ∈ srtN (fs.map (·.Name)), FN_ ((get FN_ fs n).getD fold_zero) = n := by
  intro n hn
  rw [mem_srt, get_names] at hn
  cases h : get FN_ fs n with
  | none => rw [h] at hn; cases hn
  | some y => exact get_key h
theorem get_canonF (fs : List fold_Field) (k : List UInt8) : get FN_ (canonF fs) k = get FN_ fs k := by
  unfold canonF
  rw [get_map (canonF_name fs)]
  by_cases h : k ∈ srtN (fs.map (·.Name))
  · rw [if_pos h]
    rw [mem_srt, get_names] at h
    cases hg : get FN_ fs k with
    | none => rw [hg] at h; cases h
    | some y => rfl
  · rw [if_neg h]
    rw [mem_srt, get_names] at h
    cases hg : get FN_ fs k with
    | none => rfl
    | some y => rw [hg] at h; simp at h
theorem SA_canonF {fs : List fold_Field} (h : (fs.map (·.Name)).Nodup) : SA FN_ (canonF fs) := SA_map (sorted_asc h) (canonF_name fs)
theorem get_canonB (x : fold_B) (k : List UInt8) : get ON_ (canonB x) k = (x.lookup k).map fun fs => ⟨k, canonF fs⟩ := by
  unfold canonB
  rw [get_map (fun n _ => rfl)]
  have hm : k ∈ x.map (·.1) ↔ (x.lookup k).isSome = true := by
    induction x with
    | nil => simp
    | cons a x ih =>
      rw [List.map_cons, List.mem_cons, List.lookup_cons]
      cases hk : k == a.1 with
      | true => have : k = a.1 := by simpa using hk
                simp [this]
      | false =>
        have : k ≠ a.1 := by simpa using hk
        simp only [this, false_or]
        exact ih
  by_cases h : k ∈ srtN (x.map (·.1))
  · rw [if_pos h]
    rw [mem_srt, hm] at h
    cases hg : x.lookup k with
    | none => rw [hg] at h; cases h
    | some y => rfl
  · rw [if_neg h]
    rw [mem_srt, hm] at h
    cases hg : x.lookup k with
    | none => rfl
    | some y => rw [hg] at h; simp at h
theorem SA_canonB {x : fold_B} (h : (x.map (·.1)).Nodup) : SA ON_ (canonB x) := SA_map (sorted_asc h) (fun n _ => rfl)
structure GF (n : Nat) (y : fold_Field) : Prop where
  name : y.Name.length ≤ 1000
  asc : Asc y.Elems
  len : y.Elems.length ≤ n
  els : ∀ s ∈ y.Elems, s.length ≤ 1000
  reg : y.Register.S.length ≤ 1000
structure BI (n : Nat) (x : fold_B) : Prop where
  keys : (x.map (·.1)).Nodup
  len : x.length ≤ n
  name : ∀ o ∈ x, o.1.length ≤ 1000
  ne : ∀ o ∈ x, o.2 ≠ []
  names : ∀ o ∈ x, (o.2.map (·.Name)).Nodup
  flen : ∀ o ∈ x, o.2.length ≤ n
  good : ∀ o ∈ x, ∀ y ∈ o.2, GF n y
theorem lookup_mem {β : Type} {x : List (List UInt8 × β)} {k : List UInt8} {b : β} (h : x.lookup k = some b) : (k, b) ∈ x := by
  induction x with
  | nil => cases h
  | cons a x ih =>
    rw [List.lookup_cons] at h
    cases hk : k == a.1 with
    | true =>
      rw [hk] at h
      have e : k = a.1 := by simpa using hk
      have : a = (k, b) := by rw [e]; exact Prod.ext rfl (Option.some.inj h)
      rw [this]; simp
    | false => rw [hk] at h; exact List.mem_cons_of_mem _ (ih h)
theorem lookup_fields (fs : List fold_Field) (k : List UInt8) : (fs.map fun y => (y.Name, y)).lookup k = get FN_ fs k := by
  induction fs with
  | nil => rfl
  | cons a fs ih =>
    rw [List.map_cons, List.lookup_cons, get_cons]
    by_cases h : a.Name = k
    · rw [if_pos h, show (k == a.Name) = true by simp [h]]
    · rw [if_neg h, show (k == a.Name) = false by simpa using fun e => h e.symm]
      exact ih
theorem lookup_frz (x : fold_B) (k : List UInt8) : (fold_frz x).lookup k = (x.lookup k).map fun fs => fs.map fun y => (y.Name, y) := by
  induction x with
  | nil => rfl
  | cons a x ih =>
    unfold fold_frz at ih ⊢
    rw [List.map_cons, List.lookup_cons, List.lookup_cons]
    cases h : k == a.1 with
    | true => rfl
    | false => exact ih
theorem fold_store_eq {n : Nat} {x : fold_B} (h : BI n x) (hn : n ≤ 1000000) : fold_store (fold_frz x) = some ⟨canonB x⟩ := by
  unfold fold_store
  have e1 : skeys (fold_frz x) = some (srtN (x.map (·.1))) := by
    have e0 : (fold_frz x).map (·.1) = x.map (·.1) := by
      unfold fold_frz
      rw [List.map_map]
      rfl
    rw [skeys_of (m := fold_frz x), e0]
    · intro y hy
      unfold fold_frz at hy
      obtain ⟨o, ho, rfl⟩ := List.mem_map.1 hy
      have := h.name o ho
      show o.1.length ≤ _
      omega
    · have := h.len
      unfold fold_frz
      rw [List.length_map]
      omega
  rw [e1, Option.bind_some]
  have hlen : (srtN (x.map (·.1))).length ≤ n := by rw [List.length_mergeSort, List.length_map]; exact h.len
  rw [loop_app (b := 40) (ns := srtN (x.map (·.1))) (fun n => (⟨n, canonF ((x.lookup n).getD [])⟩ : fold_Object)) ?_ ?_ (by omega) (by omega)]
  · rfl
  · intro k hk out
    unfold fold_store.l2
    simp only [lt_of_len hk, if_true, idx_nat hk, Option.bind_some]
    have hmem : (srtN (x.map (·.1)))[k] ∈ x.map (·.1) := mem_srt.1 (List.getElem_mem hk)
    obtain ⟨nm, hnm⟩ : ∃ nm, nm = (srtN (x.map (·.1)))[k] := ⟨_, rfl⟩
    rw [← hnm] at hmem ⊢
    obtain ⟨o, ho, he⟩ := List.mem_map.1 hmem
    have hfs : ∃ fs, x.lookup nm = some fs := by
      cases hl : x.lookup nm with
      | some fs => exact ⟨fs, rfl⟩
      | none =>
        exfalso
        clear hnm hmem hk out h hlen e1 hn
        induction x with
        | nil => simp at ho
        | cons a x ih =>
          rw [List.lookup_cons] at hl
          cases hk : nm == a.1 with
          | true => rw [hk] at hl; cases hl
          | false =>
            rw [hk] at hl
            rcases List.mem_cons.1 ho with rfl | ho
            · rw [he] at hk; simp at hk
            · exact ih ho hl
    obtain ⟨fs, hfs⟩ := hfs
    have hm := lookup_mem hfs
    have hfl : fs.length ≤ n := h.flen _ hm
    rw [lookup_frz, hfs]
    show ((skeys (fs.map fun y => (y.Name, y))).bind _) = _
    have e2 : skeys (fs.map fun y => (y.Name, y)) = some (srtN (fs.map (·.Name))) := by
      rw [skeys_of]
      · rw [List.map_map]; rfl
      · intro y hy
        obtain ⟨z, hz, rfl⟩ := List.mem_map.1 hy
        have := (h.good _ hm z hz).name
        show z.Name.length ≤ _
        omega
      · rw [List.length_map]; omega
    rw [e2, Option.bind_some]
    have hl2 : (srtN (fs.map (·.Name))).length ≤ n := by rw [List.length_mergeSort, List.length_map]; exact hfl
    rw [loop_app (b := 128) (ns := srtN (fs.map (·.Name))) (fun n => (get FN_ fs n).getD fold_zero) ?_ ?_ (by omega) (by omega)]
    · rfl
    · intro k hk out
      unfold fold_store.l1
      simp only [lt_of_len hk, if_true, idx_nat hk, Option.bind_some]
      show ((app 128 out [(((fs.map fun y => (y.Name, y)).lookup _).getD fold_zero)]).bind _) = _
      rw [lookup_fields]
    · intro out
      unfold fold_store.l1
      simp only [not_lt_len, Bool.false_eq_true, if_false]
  · intro out
    unfold fold_store.l2
    simp only [not_lt_len, Bool.false_eq_true, if_false]
end Go.Proofs.Ytlbcfjblpopcnaa
set_option linter.unusedVariables false
set_option linter.unusedSimpArgs false
namespace Go.Proofs.Ytlbcfjblpopcnaa
open Go Go.Proofs.YtlbcfjblpopcnaaL
def newerS (u : api_Update) (r : fold_Register) : Bool := !r.Set || decide (r.Tag < u.Tag ∨ r.Tag = u.Tag ∧ (r.Client < u.Client ∨ r.Client = u.Client ∧ r.Seq < u.Seq))
theorem compare_eq (a b : Int) : cmp_Compare_int a b = some (cmpI a b) := by
  unfold cmp_Compare_int cmp_isNaN_int cmpI
  simp only [Option.bind_some, bne_self_eq_false, Bool.false_eq_true, if_false]
  by_cases h1 : a < b
  · simp [h1]
  · by_cases h2 : b < a <;> simp [h1, h2]
theorem or_eq (a b c : Int) : cmp_Or_int [a, b, c] = some (if a ≠ 0 then a else if b ≠ 0 then b else c) := by
  unfold cmp_Or_int
  have e : loopO (cmp_Or_int.l1 [a, b, c]) 0 = some (if a ≠ 0 then .inr a else if b ≠ 0 then .inr b else if c ≠ 0 then .inr c else .inl ()) := by
    by_cases ha : a = 0
    · rw [loopO_next (s' := 1) (by unfold cmp_Or_int.l1; simp [idx, ha, letV, w64])]
      by_cases hb : b = 0
      · rw [loopO_next (s' := 2) (by unfold cmp_Or_int.l1; simp [idx, hb, letV, w64])]
        by_cases hc : c = 0
        · rw [loopO_next (s' := 3) (by unfold cmp_Or_int.l1; simp [idx, hc, letV, w64]), loopO_done (b := .inl ()) (by unfold cmp_Or_int.l1; simp)]
          simp [ha, hb, hc]
        · rw [loopO_done (b := .inr c) (by unfold cmp_Or_int.l1; simp [idx, hc])]
          simp [ha, hb, hc]
      · rw [loopO_done (b := .inr b) (by unfold cmp_Or_int.l1; simp [idx, hb])]
        simp [ha, hb]
    · rw [loopO_done (b := .inr a) (by unfold cmp_Or_int.l1; simp [idx, ha])]
      simp [ha]
  rw [e, Option.bind_some]
  by_cases ha : a = 0
  · by_cases hb : b = 0
    · by_cases hc : c = 0
      · simp [ha, hb, hc, cmp_Or_int.j1]
      · simp [ha, hb, hc]
    · simp [ha, hb]
  · simp [ha]
theorem cmp_lex (a b c d e f : Int) : (0 < (if cmpI a b ≠ 0 then cmpI a b else if cmpI c d ≠ 0 then cmpI c d else cmpI e f)) ↔ (b < a ∨ b = a ∧ (d < c ∨ d = c ∧ f < e)) := by
  unfold cmpI
  grind
theorem newer_eq (u : api_Update) (r : fold_Register) : fold_newer u r = some (newerS u r) := by
  unfold fold_newer newerS
  cases r.Set with
  | false => rfl
  | true =>
    simp only [Bool.not_true, Bool.false_eq_true, if_false, compare_eq, Option.bind_some, or_eq, fold_newer.j1, Bool.false_or]
    congr 1
    rw [Bool.eq_iff_iff, decide_eq_true_eq, decide_eq_true_eq]
    exact cmp_lex _ _ _ _ _ _
def updF (u : api_Update) (e : api_Effect) (f : fold_Field) : fold_Field :=
  if e.Kind = 1 then (if newerS u f.Register then { f with Register := ⟨true, u.Tag, u.Client, u.Seq, e.N, e.S⟩ } else f) else
  if e.Kind = 2 then (if !f.HasMax || decide (f.Max < e.N) then { f with HasMax := true, Max := e.N } else f) else
  if e.Kind = 3 then { f with Sum := IntKind.i64.wrap (f.Sum + e.N) } else
  if e.Kind = 4 then { f with Elems := insS f.Elems e.S } else
  if e.Kind = 5 then { f with Flag := true } else f
theorem fold_upd_eq {n : Nat} {u : api_Update} {e : api_Effect} {f : fold_Field} (h : GF n f) (hn : n ≤ 1000000) : fold_upd u e f = some (updF u e f) := by
  unfold fold_upd updF
  by_cases h1 : e.Kind = 1
  · simp only [h1, beq_self_eq_true, if_true, newer_eq, Option.bind_some]
    cases newerS u f.Register <;> rfl
  · rw [if_neg (by simpa using h1), if_neg h1]
    by_cases h2 : e.Kind = 2
    · simp only [h2, beq_self_eq_true, if_true]
      cases f.HasMax with
      | false => rfl
      | true =>
        simp only [Bool.not_true, Bool.false_or, Bool.false_eq_true, if_false]
        cases decide (f.Max < e.N) <;> rfl
    · rw [if_neg (by simpa using h2), if_neg h2]
      by_cases h3 : e.Kind = 3
      · simp only [h3, beq_self_eq_true, if_true]
      · rw [if_neg (by simpa using h3), if_neg h3]
        by_cases h4 : e.Kind = 4
        · simp only [h4, beq_self_eq_true, if_true, insO]
          rw [if_pos ⟨h.asc, by have := h.len; omega⟩]
          rfl
        · rw [if_neg (by simpa using h4), if_neg h4]
          by_cases h5 : e.Kind = 5
          · simp only [h5, beq_self_eq_true, if_true]
          · rw [if_neg (by simpa using h5), if_neg h5]
theorem insS_mem : ∀ {l : List (List UInt8)} {s x : List UInt8}, x ∈ insS l s → x = s ∨ x ∈ l
  | [], s, x, h => by simp [insS] at h; exact .inl h
  | a :: l, s, x, h => by
    unfold insS at h
    split at h
    · rcases List.mem_cons.1 h with rfl | h
      · exact .inr (by simp)
      · rcases insS_mem h with h | h
        · exact .inl h
        · exact .inr (by simp [h])
    · split at h
      · exact .inr h
      · rcases List.mem_cons.1 h with rfl | h
        · exact .inl rfl
        · exact .inr h
theorem insS_asc : ∀ {l : List (List UInt8)} {s : List UInt8}, Asc l → Asc (insS l s)
  | [], s, _ => by unfold insS; exact List.pairwise_singleton _ _
  | a :: l, s, h => by
    have h1 := (List.pairwise_cons.1 h).1
    have h2 := (List.pairwise_cons.1 h).2
    unfold insS
    cases hc : Op.bytesLess a s with
    | true =>
      rw [if_pos rfl]
      refine List.pairwise_cons.2 ⟨fun x hx => ?_, insS_asc h2⟩
      rcases insS_mem hx with rfl | hx
      · exact hc
      · exact h1 x hx
    | false =>
      rw [if_neg (by simp)]
      by_cases he : a = s
      · rw [if_pos (by simp [he])]; exact h
      · rw [if_neg (by simpa using he)]
        have hs : Op.bytesLess s a = true := by
          cases hk : Op.bytesLess s a with
          | true => rfl
          | false => exact absurd (bl_tri hc hk) he
        refine List.pairwise_cons.2 ⟨fun x hx => ?_, h⟩
        rcases List.mem_cons.1 hx with rfl | hx
        · exact hs
        · exact bl_trans hs (h1 x hx)
theorem insS_length : ∀ (l : List (List UInt8)) (s : List UInt8), (insS l s).length ≤ l.length + 1
  | [], s => by simp [insS]
  | a :: l, s => by
    unfold insS
    have := insS_length l s
    split
    · simp only [List.length_cons]; omega
    · split <;> simp
theorem updF_name (u : api_Update) (e : api_Effect) (f : fold_Field) : (updF u e f).Name = f.Name := by
  unfold updF
  repeat' split
  all_goals rfl
structure EF (e : api_Effect) : Prop where
  obj : e.Object.length ≤ 1000
  fld : e.Field.length ≤ 1000
  str : e.S.length ≤ 1000
theorem GF.mono {n m : Nat} {y : fold_Field} (h : GF n y) (hm : n ≤ m) : GF m y := ⟨h.name, h.asc, Nat.le_trans h.len hm, h.els, h.reg⟩
theorem GF_upd {n : Nat} {u : api_Update} {e : api_Effect} {f : fold_Field} (h : GF n f) (he : EF e) : GF (n + 1) (updF u e f) := by
  have hm : GF (n + 1) f := h.mono (by omega)
  unfold updF
  split
  · split
    · exact ⟨hm.name, hm.asc, hm.len, hm.els, he.str⟩
    · exact hm
  · split
    · split
      · exact ⟨hm.name, hm.asc, hm.len, hm.els, hm.reg⟩
      · exact hm
    · split
      · exact ⟨hm.name, hm.asc, hm.len, hm.els, hm.reg⟩
      · split
        · refine ⟨hm.name, insS_asc h.asc, Nat.le_trans (insS_length _ _) (by have := h.len; omega), fun s hs => ?_, hm.reg⟩
          rcases insS_mem hs with rfl | hs
          · exact he.str
          · exact h.els s hs
        · split
          · exact ⟨hm.name, hm.asc, hm.len, hm.els, hm.reg⟩
          · exact hm
theorem GF_named {n : Nat} {f : fold_Field} (h : GF n f) {k : List UInt8} (hk : k.length ≤ 1000) : GF n { f with Name := k } := ⟨hk, h.asc, h.len, h.els, h.reg⟩
theorem GF_zero (n : Nat) : GF n fold_zero := ⟨by decide, List.Pairwise.nil, Nat.zero_le _, fun s hs => by simp [fold_zero] at hs, by decide⟩
def inObj (k f : List UInt8) (h : Option fold_Field → fold_Field) : Option fold_Object → fold_Object := fun o => ⟨k, upd FN_ f h ((o.map (·.Fields)).getD [])⟩
theorem inObj_key (k f : List UInt8) (h : Option fold_Field → fold_Field) : ∀ o, (∀ a, o = some a → ON_ a = k) → ON_ (inObj k f h o) = k := fun _ _ => rfl
def inFld (u : api_Update) (e : api_Effect) : Option fold_Field → fold_Field := fun y => updF u e { y.getD fold_zero with Name := e.Field }
theorem inFld_key (u : api_Update) (e : api_Effect) : ∀ o, (∀ a, o = some a → FN_ a = e.Field) → FN_ (inFld u e o) = e.Field := fun _ _ => updF_name _ _ _
def effT (u : api_Update) (objs : List fold_Object) (e : api_Effect) : List fold_Object := upd ON_ e.Object (inObj e.Object e.Field (inFld u e)) objs
theorem get_fput {y : fold_Field} {k : List UInt8} : ∀ {fs : List fold_Field}, get FN_ (fput fold_Field.Name y fs) k = if k = y.Name then some y else get FN_ fs k
  | [] => by
    unfold fput
    rw [get_cons, get_nil]
    by_cases h : y.Name = k
    · rw [if_pos h, if_pos h.symm]
    · rw [if_neg h, if_neg (fun e => h e.symm)]
  | a :: fs => by
    unfold fput
    by_cases h : y.Name = a.Name
    · rw [if_pos (by simp [h]), get_cons, get_cons]
      by_cases hk : y.Name = k
      · rw [if_pos hk, if_pos hk.symm]
      · rw [if_neg hk, if_neg (fun e => hk e.symm), if_neg (by show ¬ a.Name = k; rw [← h]; exact hk)]
    · rw [if_neg (by simpa using h), get_cons, get_cons, get_fput]
      by_cases hk : a.Name = k
      · rw [if_pos hk, if_neg (by rw [← hk]; exact fun e => h e.symm), if_pos hk]
      · rw [if_neg hk, if_neg hk]
theorem fput_mem {y z : fold_Field} : ∀ {fs : List fold_Field}, z ∈ fput fold_Field.Name y fs → z = y ∨ z ∈ fs
  | [], h => by simp [fput] at h; exact .inl h
  | a :: fs, h => by
    unfold fput at h
    split at h
    · rcases List.mem_cons.1 h with h | h
      · exact .inl h
      · exact .inr (by simp [h])
    · rcases List.mem_cons.1 h with h | h
      · exact .inr (by simp [h])
      · rcases fput_mem h with h | h
        · exact .inl h
        · exact .inr (by simp [h])
theorem fput_names {y : fold_Field} : ∀ {fs : List fold_Field}, (fs.map (·.Name)).Nodup → ((fput fold_Field.Name y fs).map (·.Name)).Nodup
  | [], _ => by simp [fput]
  | a :: fs, h => by
    rw [List.map_cons, List.nodup_cons] at h
    unfold fput
    by_cases hk : y.Name = a.Name
    · rw [if_pos (by simp [hk]), List.map_cons, List.nodup_cons, hk]
      exact h
    · rw [if_neg (by simpa using hk), List.map_cons, List.nodup_cons]
      refine ⟨fun hm => ?_, fput_names h.2⟩
      obtain ⟨z, hz, he⟩ := List.mem_map.1 hm
      rcases fput_mem hz with rfl | hz
      · exact hk he
      · exact h.1 (List.mem_map.2 ⟨z, hz, he⟩)
theorem fput_length {y : fold_Field} : ∀ fs : List fold_Field, (fput fold_Field.Name y fs).length ≤ fs.length + 1
  | [] => by simp [fput]
  | a :: fs => by
    unfold fput
    have := fput_length (y := y) fs
    split
    · simp
    · simp only [List.length_cons]; omega
theorem fput_ne {y : fold_Field} (fs : List fold_Field) : fput fold_Field.Name y fs ≠ [] := by
  cases fs with
  | nil => simp [fput]
  | cons a fs => unfold fput; split <;> simp
theorem with_lookup (x : fold_B) (k q : List UInt8) : (fold_with x k).lookup q = if q = k then some ((x.lookup k).getD []) else x.lookup q := by
  unfold fold_with
  cases h : x.lookup k with
  | some fs =>
    simp only [Option.isNone_some, Bool.false_eq_true, if_false, Option.getD_some]
    by_cases hq : q = k
    · rw [if_pos hq, hq, h]
    · rw [if_neg hq]
  | none =>
    simp only [Option.isNone_none, if_true, Option.getD_none]
    revert h
    induction x with
    | nil =>
      intro h
      rw [List.nil_append, List.lookup_cons]
      by_cases hq : q = k
      · rw [if_pos hq, show (q == k) = true by simp [hq]]
      · rw [if_neg hq, show (q == k) = false by simp [hq]]
    | cons a x ih =>
      intro h
      rw [List.lookup_cons] at h
      rw [List.cons_append, List.lookup_cons, List.lookup_cons]
      cases hk : k == a.1 with
      | true => rw [hk] at h; cases h
      | false =>
        rw [hk] at h
        cases hq : q == a.1 with
        | true =>
          have e1 : q = a.1 := by simpa using hq
          have e2 : q ≠ k := fun e => by rw [← e, hq] at hk; cases hk
          rw [if_neg e2]
        | false => exact ih h
theorem set_lookup (x : fold_B) (k q : List UInt8) (y : fold_Field) : (fold_set (fold_with x k) k y).lookup q = if q = k then some (fput fold_Field.Name y ((x.lookup k).getD [])) else x.lookup q := by
  unfold fold_set
  rw [mset_lookup, with_lookup, with_lookup, if_pos rfl]
  by_cases hq : q = k
  · simp [hq]
  · simp [hq]
theorem nodup_lookup {β : Type} : ∀ {x : List (List UInt8 × β)}, (x.map (·.1)).Nodup → ∀ o ∈ x, x.lookup o.1 = some o.2
  | [], _, o, h => by simp at h
  | a :: x, hn, o, h => by
    rw [List.map_cons, List.nodup_cons] at hn
    rw [List.lookup_cons]
    rcases List.mem_cons.1 h with rfl | h
    · simp
    · have : (o.1 == a.1) = false := by
        rw [beq_eq_false_iff_ne]
        exact fun e => hn.1 (List.mem_map.2 ⟨o, h, e⟩)
      rw [this]
      exact nodup_lookup hn.2 o h
theorem set_keys (x : fold_B) (k : List UInt8) (y : fold_Field) (h : (x.map (·.1)).Nodup) : ((fold_set (fold_with x k) k y).map (·.1)).Nodup := by
  have h2 : ((fold_with x k).map (·.1)).Nodup := by
    unfold fold_with
    cases hl : x.lookup k with
    | some fs => simpa using h
    | none =>
      simp only [Option.isNone_none, if_true, List.map_append, List.map_cons, List.map_nil]
      rw [List.nodup_append]
      refine ⟨h, by simp, fun a ha b hb e => ?_⟩
      simp at hb
      subst hb
      subst e
      obtain ⟨o, ho, he⟩ := List.mem_map.1 ha
      have := nodup_lookup h o ho
      rw [he, hl] at this
      cases this
  exact (mset_keys k _ _ h2).1
theorem set_length (x : fold_B) (k : List UInt8) (y : fold_Field) : (fold_set (fold_with x k) k y).length ≤ x.length + 1 := by
  unfold fold_set fold_with
  cases hl : x.lookup k with
  | none =>
    simp only [Option.isNone_none, if_true]
    have : ∀ (l : fold_B) (v : List fold_Field) (v' : List fold_Field), (mset (l ++ [(k, v)]) k v').length ≤ l.length + 1 := by
      intro l v v'
      induction l with
      | nil => simp [mset]
      | cons a l ih =>
        rw [List.cons_append, mset]
        split
        · simp
        · simp only [List.length_cons]; omega
    exact this x _ _
  | some fs =>
    simp only [Option.isNone_some, Bool.false_eq_true, if_false]
    exact mset_length _ _ _
theorem canon_set {x : fold_B} {k : List UInt8} {y : fold_Field} (hk : (x.map (·.1)).Nodup) (hn : ∀ o ∈ x, (o.2.map (·.Name)).Nodup) :
    canonB (fold_set (fold_with x k) k y) = upd ON_ k (inObj k y.Name fun _ => y) (canonB x) := by
  refine SA_ext (SA_canonB (set_keys x k y hk)) (SA_upd (inObj_key k y.Name fun _ => y) (SA_canonB hk)) fun q => ?_
  rw [get_upd (inObj_key k y.Name fun _ => y) q (SA_canonB hk), get_canonB, get_canonB, get_canonB, set_lookup]
  by_cases hq : q = k
  · rw [if_pos hq, if_pos hq, hq]
    show some (⟨k, canonF (fput fold_Field.Name y ((x.lookup k).getD []))⟩ : fold_Object) = some (⟨k, _⟩ : fold_Object)
    congr 2
    have hnn : (((x.lookup k).getD []).map (·.Name)).Nodup := by
      cases hl : x.lookup k with
      | none => simp
      | some fs => exact hn _ (lookup_mem hl)
    have e : (((x.lookup k).map fun fs => (⟨k, canonF fs⟩ : fold_Object)).map (·.Fields)).getD [] = canonF ((x.lookup k).getD []) := by
      cases x.lookup k with
      | none => simp [canonF, srtN]
      | some fs => rfl
    rw [e]
    refine SA_ext (SA_canonF (fput_names hnn)) (SA_upd (fun o _ => rfl) (SA_canonF hnn)) fun p => ?_
    rw [get_upd (fun o _ => rfl) p (SA_canonF hnn), get_canonF, get_canonF, get_fput]
  · rw [if_neg hq, if_neg hq]
theorem find_get {fs : List fold_Field} {f : List UInt8} : fs.find? (fun q => f == q.Name) = get FN_ fs f := by
  unfold get
  congr 1
  funext q
  rw [Bool.eq_iff_iff, beq_iff_eq, beq_iff_eq]
  exact eq_comm
theorem eff_eq {n : Nat} {u : api_Update} {x : fold_B} {e : api_Effect} (h : BI n x) (he : EF e) (hn : n ≤ 1000000) :
    ∃ x', fold_eff u x e = some x' ∧ BI (n + 1) x' ∧ canonB x' = effT u (canonB x) e := by
  unfold fold_eff
  have hat : fold_at (fold_with x e.Object) e.Object e.Field = (get FN_ ((x.lookup e.Object).getD []) e.Field).getD fold_zero := by
    unfold fold_at
    rw [with_lookup, if_pos rfl, Option.getD_some, find_get]
  rw [hat]
  obtain ⟨y0, hy0⟩ : ∃ y0, y0 = (get FN_ ((x.lookup e.Object).getD []) e.Field).getD fold_zero := ⟨_, rfl⟩
  rw [← hy0]
  have hg0 : GF n y0 := by
    rw [hy0]
    cases hl : x.lookup e.Object with
    | none => exact GF_zero n
    | some fs =>
      cases hg : get FN_ fs e.Field with
      | none => simp only [Option.getD_some, hg]; exact GF_zero n
      | some y => simp only [Option.getD_some, hg]; exact h.good _ (lookup_mem hl) y (get_mem hg)
  have hg1 : GF n { y0 with Name := e.Field } := GF_named hg0 he.fld
  rw [fold_upd_eq hg1 hn, Option.bind_some]
  obtain ⟨y1, hy1⟩ : ∃ y1, y1 = updF u e { y0 with Name := e.Field } := ⟨_, rfl⟩
  rw [← hy1]
  have hg2 : GF (n + 1) y1 := by rw [hy1]; exact GF_upd hg1 he
  have hn1 : y1.Name = e.Field := by rw [hy1, updF_name]
  refine ⟨_, rfl, ?_, ?_⟩
  · have hmem : ∀ o ∈ fold_set (fold_with x e.Object) e.Object y1, o = (e.Object, fput fold_Field.Name y1 ((x.lookup e.Object).getD [])) ∨ o ∈ x := by
      intro o ho
      have hl := nodup_lookup (set_keys x e.Object y1 h.keys) o ho
      rw [set_lookup] at hl
      by_cases hq : o.1 = e.Object
      · rw [if_pos hq] at hl
        exact .inl (Prod.ext hq (Option.some.inj hl).symm)
      · rw [if_neg hq] at hl
        exact .inr (lookup_mem hl)
    have hin : ∀ o, o = (e.Object, fput fold_Field.Name y1 ((x.lookup e.Object).getD [])) ∨ o ∈ x → o.1.length ≤ 1000 ∧ o.2 ≠ [] ∧ (o.2.map (·.Name)).Nodup ∧ o.2.length ≤ n + 1 ∧ ∀ y ∈ o.2, GF (n + 1) y := by
      rintro o (rfl | ho)
      · refine ⟨he.obj, fput_ne _, fput_names ?_, ?_, fun y hy => ?_⟩
        · cases hl : x.lookup e.Object with
          | none => simp
          | some fs => exact h.names _ (lookup_mem hl)
        · refine Nat.le_trans (fput_length _) ?_
          cases hl : x.lookup e.Object with
          | none => simp
          | some fs => have := h.flen _ (lookup_mem hl); simpa using this
        · rcases fput_mem hy with rfl | hy
          · exact hg2
          · cases hl : x.lookup e.Object with
            | none => rw [hl] at hy; simp at hy
            | some fs => rw [hl] at hy; exact (h.good _ (lookup_mem hl) y hy).mono (by omega)
      · exact ⟨h.name o ho, h.ne o ho, h.names o ho, by have := h.flen o ho; omega, fun y hy => (h.good o ho y hy).mono (by omega)⟩
    exact ⟨set_keys x e.Object y1 h.keys, Nat.le_trans (set_length _ _ _) (by have := h.len; omega), fun o ho => (hin o (hmem o ho)).1, fun o ho => (hin o (hmem o ho)).2.1, fun o ho => (hin o (hmem o ho)).2.2.1, fun o ho => (hin o (hmem o ho)).2.2.2.1, fun o ho => (hin o (hmem o ho)).2.2.2.2⟩
  · rw [canon_set h.keys h.names]
    unfold effT
    refine upd_congr (inObj_key _ _ _) (SA_canonB h.keys) ?_ (inObj_key _ _ _)
    rw [get_canonB]
    unfold inObj
    have e1 : (((x.lookup e.Object).map fun fs => (⟨e.Object, canonF fs⟩ : fold_Object)).map (·.Fields)).getD [] = canonF ((x.lookup e.Object).getD []) := by
      cases x.lookup e.Object with
      | none => simp [canonF, srtN]
      | some fs => rfl
    have hnn : (((x.lookup e.Object).getD []).map (·.Name)).Nodup := by
      cases hl : x.lookup e.Object with
      | none => simp
      | some fs => exact h.names _ (lookup_mem hl)
    simp only [e1]
    congr 1
    rw [hn1]
    refine upd_congr (g := fun _ => y1) (g' := inFld u e) (fun o _ => hn1) (SA_canonF hnn) ?_ (inFld_key u e)
    rw [get_canonF]
    unfold inFld
    rw [← hy0]
    exact hy1
end Go.Proofs.Ytlbcfjblpopcnaa
set_option linter.unusedVariables false
set_option linter.unusedSimpArgs false
namespace Go.Proofs.Ytlbcfjblpopcnaa
open Go Go.Proofs.YtlbcfjblpopcnaaL
section
variable {α : Type} {key : α → List UInt8}
structure Pos (key : α → List UInt8) (l : List α) (k : List UInt8) (p : Nat) : Prop where
  le : p ≤ l.length
  lt : ∀ i, i < p → (h : i < l.length) → Op.bytesLess (key l[i]) k = true
  ge : (h : p < l.length) → Op.bytesLess (key l[p]) k = false
theorem Pos.tail {a : α} {l : List α} {k : List UInt8} {p : Nat} (h : Pos key (a :: l) k (p + 1)) : Pos key l k p ∧ Op.bytesLess (key a) k = true :=
  ⟨⟨by have := h.le; rw [List.length_cons] at this; omega, fun i hi hl => h.lt (i + 1) (by omega) (by rw [List.length_cons]; omega), fun hl => h.ge (by rw [List.length_cons]; omega)⟩, h.lt 0 (by omega) (by simp)⟩
theorem upd_found {k : List UInt8} {g : Option α → α} : ∀ {l : List α} {p : Nat}, Pos key l k p → (hp : p < l.length) → key l[p] = k → upd key k g l = l.set p (g (some l[p]))
  | [], p, _, hp, _ => absurd hp (by simp)
  | a :: l, 0, h, hp, he => by
    have h0 := h.ge hp
    have h0 : Op.bytesLess (key a) k = false := h0
    have he : key a = k := he
    unfold upd
    rw [h0, if_neg (by simp), if_pos (by simp [he])]
    rfl
  | a :: l, p + 1, h, hp, he => by
    obtain ⟨h1, h2⟩ := h.tail
    unfold upd
    rw [if_pos h2, upd_found h1 (by rw [List.length_cons] at hp; omega) he]
    rfl
theorem upd_new {k : List UInt8} {g : Option α → α} : ∀ {l : List α} {p : Nat}, Pos key l k p → ((hp : p < l.length) → key l[p] ≠ k) → upd key k g l = l.take p ++ g none :: l.drop p
  | [], p, h, _ => by
    have : p = 0 := by have := h.le; simpa using this
    subst this
    rfl
  | a :: l, 0, h, hn => by
    have h0 : Op.bytesLess (key a) k = false := h.ge (by simp)
    have hn : key a ≠ k := hn (by simp)
    unfold upd
    rw [h0, if_neg (by simp), if_neg (by simpa using hn)]
    rfl
  | a :: l, p + 1, h, hn => by
    obtain ⟨h1, h2⟩ := h.tail
    unfold upd
    rw [if_pos h2, upd_new h1 fun hp => hn (by rw [List.length_cons]; omega)]
    rfl
theorem Pos.at_ {l : List α} {k : List UInt8} {p : Nat} (h : Pos key l k p) (hp : p < l.length) (he : key l[p] = k) : get key l k = some l[p] := by
  induction l generalizing p with
  | nil => exact absurd hp (by simp)
  | cons a l ih =>
    rw [get_cons]
    cases p with
    | zero => exact if_pos he
    | succ p =>
      obtain ⟨h1, h2⟩ := h.tail
      rw [if_neg (fun e => by rw [e, bl_irrefl] at h2; cases h2), ih h1 (by rw [List.length_cons] at hp; omega) he]
      rfl
theorem Pos.self {l : List α} (hs : SA key l) {p : Nat} (hp : p < l.length) : Pos key l (key l[p]) p :=
  ⟨by omega, fun i hi hl => List.pairwise_iff_getElem.1 hs i p hl hp hi, fun _ => bl_irrefl _⟩
end
def insT (objs : List fold_Object) (k f : List UInt8) : List fold_Object := upd ON_ k (inObj k f fun o => o.getD { fold_zero with Name := f }) objs
theorem insF_key (f : List UInt8) : ∀ o : Option fold_Field, (∀ a, o = some a → FN_ a = f) → FN_ (o.getD { fold_zero with Name := f }) = f := fun o h => by
  cases o with
  | none => rfl
  | some a => exact h a rfl
end Go.Proofs.Ytlbcfjblpopcnaa
set_option linter.unusedVariables false
set_option linter.unusedSimpArgs false
namespace Go.Proofs.Ytlbcfjblpopcnaa
open Go Go.Proofs.YtlbcfjblpopcnaaL
theorem ins_at {objs ms : List fold_Object} (hs : SA ON_ objs) {nm x2 : List UInt8} {xs ys : List fold_Field} {p : Nat} (hm : ms = upd ON_ nm (fun o => o.getD ⟨nm, []⟩) objs) (hp : p < ms.length) (he : ms[p] = ⟨nm, xs⟩)
    (hys : ys = upd FN_ x2 (fun o => o.getD { fold_zero with Name := x2 }) xs) : ms.take p ++ (⟨nm, ys⟩ : fold_Object) :: ms.drop (p + 1) = insT objs nm x2 := by
  have hk : ∀ o : Option fold_Object, (∀ a, o = some a → ON_ a = nm) → ON_ (o.getD ⟨nm, []⟩) = nm := fun o h => by
    cases o with
    | none => rfl
    | some a => exact h a rfl
  have h1 : insT objs nm x2 = upd ON_ nm (inObj nm x2 fun o => o.getD { fold_zero with Name := x2 }) ms := by
    rw [hm, upd_upd (inObj_key _ _ _) hk hs]
    refine upd_congr (inObj_key _ _ _) hs ?_ fun _ _ => rfl
    cases get ON_ objs nm with
    | none => rfl
    | some o => rfl
  have hsm : SA ON_ ms := by rw [hm]; exact SA_upd hk hs
  have h2 : Pos ON_ ms nm p := by
    have := Pos.self hsm hp
    rw [he] at this
    exact this
  rw [h1, upd_found h2 hp (by rw [he]), he]
  have e : (inObj nm x2 (fun o => o.getD { fold_zero with Name := x2 }) (some ⟨nm, xs⟩) : fold_Object) = ⟨nm, ys⟩ := by
    rw [hys]
    rfl
  rw [e, List.set_eq_take_append_cons_drop, if_pos hp]
end Go.Proofs.Ytlbcfjblpopcnaa
set_option linter.unusedVariables false
set_option linter.unusedSimpArgs false
set_option maxRecDepth 100000
set_option maxHeartbeats 4000000
namespace Go.Proofs.Ytlbcfjblpopcnaa
open Go Go.RowKit Go.Proofs.YtlbcfjblpopcnaaL
abbrev RO_ := List UInt8 × Value × List fold_Field
abbrev mkO (q : RO_) : fold_Object := ⟨q.1, q.2.2⟩
theorem esref32_Copy.callr {ok : Nat → Prop} {w0 : World} {x1 : fold_Store} {v2 : Value} {r : fold_Store} (hf : esref32_Copy x1 = some r) (i0 : (vl t_fold_Store x1 v2).holds ok w0) :
    Calls Try.prog 21 #[v2] w0 fun e w' => ∃ v, e = .returned v ∧ ∃ y : (Option Addr × Nat × Nat) × {os : List RO_ // os.map mkO = r.Objects}, v = .agg ([.slice y.1.1 y.1.2.1 y.1.2.2] : List Value).toArray ∧ St ok (bz w0) w' [] [own tRO 51 (.slice y.1.1 y.1.2.1 y.1.2.2) (rawA y.2.1), innA t_fold_Field 57 y.2.1] := by
  unfold esref32_Copy at hf
  refine calls_of_W (fn := Try.f21) (N := 61) Try.func21 rfl Try.ntmps21 rfl ?_
  have hs : St ok (bz w0) w0 [vl t_fold_Store x1 v2] [] := St.init (All.cons i0 All.nil)
  clear i0
  obtain ⟨cs3, hl4, rfl⟩ := hs.aggv (n := 1) 0 rfl rfl rfl
  refine W.seqK fun K5 hK5 => ?_
  refine W.region ?_
  refine WL.box (vs := cs3) hs rfl rfl (fun g6 w hs => ?_)
  refine WL.alloc hs ZV29 (fun g7 w hs => ?_)
  refine WL.nil ?_
  refine hK5 _ _ ?_
  refine W.seqK fun K8 hK8 => ?_
  refine W.region ?_
  refine WL.build (vs := []) (cs := [.slice none 0 0]) trivial (bld PL29 rfl) ?_
  refine WL.alloc hs ZV29 (fun g9 w hs => ?_)
  refine WL.storeAll (vs := [.slice none 0 0]) hs 0 rfl TI29 rfl rfl rfl rfl (ones_of rfl) rfl (fun w hs => ?_)
  refine WL.nil ?_
  refine hK8 _ _ ?_
  refine W.seqK fun K10 hK10 => ?_
  have hs := (hs.ownNil tRO 51).rinNil t_fold_Field 57
  have hs := hs.rot
  have Jk16 : ∀ (os12 : List RO_) (a13 : Option Addr) (c14 : Nat) (n15 : Nat) (ρ : Env) (w : World), ρ 2 = .pointer (some ⟨g7, 0, none⟩) → ρ 3 = .pointer (some ⟨g9, 0, none⟩) → St ok (bz w0) w [] [own tRO 51 (.slice a13 n15 c14) (rawA os12), blk g9 29 [.slice a13 n15 c14], blk g7 29 [.slice none 0 0], innA t_fold_Field 57 os12] → esref32_Copy.j1 (os12.map mkO) = some r → K10 ρ w := by
    intro os12 a13 c14 n15 ρ w h11_2 h11_3 hs hf
    refine hK10 _ _ ?_
    unfold esref32_Copy.j1 at hf
    refine W.seqK fun K17 hK17 => ?_
    refine W.region ?_
    refine WL.loadN (vs := [.slice a13 n15 c14]) hs 1 rfl TI29 h11_3 rfl rfl ?_
    refine WL.storeAll (vs := [.slice a13 n15 c14]) hs 2 rfl TI29 h11_2 rfl rfl rfl (ones_of rfl) rfl (fun w hs => ?_)
    refine WL.nil ?_
    refine hK17 _ _ ?_
    refine W.ret ?_
    have hr := Option.some.inj hf; subst hr
    exact ⟨_, resOk_one rfl (res_all hs 2 rfl TI29 h11_2 rfl), ((a13, n15, c14), ⟨os12, rfl⟩), rfl, (hs.mask [true, false, false, true]).pick []⟩
  refine W.seqK fun K18 hK18 => ?_
  refine W.region ?_
  refine WL.assign (v := .int .i64 0) rfl ?_
  refine WL.nil ?_
  refine hK18 _ _ ?_
  refine W.block ?_
  obtain ⟨bs25, hbs25, hfs25⟩ := bindE hf
  refine W.loop hbs25 (fun s ρ w => match s with | (x20, x21) => ∃ os21 : List RO_, x21 = os21.map mkO ∧ ∃ (a22 : Option Addr), ∃ (c23 : Nat), ∃ (n24 : Nat), ρ 1 = .pointer (some ⟨g6, 0, none⟩) ∧ ρ 2 = .pointer (some ⟨g7, 0, none⟩) ∧ ρ 3 = .pointer (some ⟨g9, 0, none⟩) ∧ ρ 4 = .int .i64 x20 ∧ St ok (bz w0) w [vl t_fold_Store x1 (.agg cs3.toArray)] [own tRO 51 (.slice a22 n24 c23) (rawA os21), blk g9 29 [.slice a22 n24 c23], blk g7 29 [.slice none 0 0], blk g6 29 cs3, innA t_fold_Field 57 os21]) ⟨[], rfl, none, 0, 0, rfl, rfl, rfl, rfl, (hs.mask [true, true, true, true, true]).pick [0]⟩ ?_
  intro s ρ w os25 hI hf hbbs25
  obtain ⟨x20, x21⟩ := s
  obtain ⟨os21, rfl, a22, c23, n24, h19_1, h19_2, h19_3, h19_4, hs⟩ := hI
  unfold esref32_Copy.l2 at hf
  refine W.seqK fun K26 hK26 => ?_
  refine W.seqK fun K27 hK27 => ?_
  refine W.region ?_
  refine WL.move (v := .int .i64 x20) h19_4 ?_
  refine WL.fieldAddr (m := 0) h19_1 FA29_0 rfl ?_
  refine WL.loadF (z := x1.Objects) F_fold_Store_Objects hs 3 rfl 0 rfl rfl TI27 (.inr rfl) rfl rfl (fun v28 hs => ?_)
  obtain ⟨a29, c30, rfl⟩ := hs.slice 0 rfl
  refine WL.len (v := .slice a29 (x1.Objects).length c30) rfl (len_slice UN27) ?_
  refine WL.bin (v := .bool (decide (x20 < ((x1.Objects).length : Int)))) rfl rfl (ib_lss _ _ _) ?_
  refine WL.nil ?_
  refine hK27 _ _ ?_
  rcases iteE hf with ⟨hc31, hf⟩ | ⟨hc31, hf⟩
  {
  refine W.cond_true (bool_tr rfl hc31) ?_
  refine W.skip ?_
  refine hK26 _ _ ?_
  refine W.seqK fun K32 hK32 => ?_
  have Jk38 : ∀ (os34 : List RO_) (a35 : Option Addr) (c36 : Nat) (n37 : Nat) (ρ : Env) (w : World), ρ 1 = .pointer (some ⟨g6, 0, none⟩) → ρ 2 = .pointer (some ⟨g7, 0, none⟩) → ρ 3 = .pointer (some ⟨g9, 0, none⟩) → ρ 4 = .int .i64 x20 → St ok (bz w0) w [vl t_fold_Store x1 (.agg cs3.toArray)] [own tRO 51 (.slice a35 n37 c36) (rawA os34), blk g9 29 [.slice a35 n37 c36], blk g7 29 [.slice none 0 0], blk g6 29 cs3, innA t_fold_Field 57 os34] → esref32_Copy.j2 x20 (os34.map mkO) = some os25 → K32 ρ w := by
    intro os34 a35 c36 n37 ρ w h33_1 h33_2 h33_3 h33_4 hs hf
    refine hK32 _ _ ?_
    unfold esref32_Copy.j2 at hf
    refine W.region ?_
    refine WL.move (v := .int .i64 x20) h33_4 ?_
    obtain ⟨x39, ex39, hf⟩ := letE hf
    refine WL.bin (v := .int .i64 x39) rfl rfl (ib_as ex39 (ib_add _ _ _)) ?_
    refine WL.assign (v := .int .i64 x39) rfl ?_
    refine WL.nil ?_
    exact ⟨_, (Option.some.inj hf).symm, os34, rfl, a35, c36, n37, h33_1, h33_2, h33_3, rfl, (hs.mask [true, true, true, true, true]).pick [0]⟩
  refine W.block ?_
  refine W.seqK fun K40 hK40 => ?_
  refine W.region ?_
  refine WL.fieldAddr (m := 0) h19_1 FA29_0 rfl ?_
  refine WL.loadF (z := x1.Objects) F_fold_Store_Objects hs 3 rfl 1 rfl rfl TI27 (.inr rfl) rfl rfl (fun v41 hs => ?_)
  obtain ⟨a42, c43, rfl⟩ := hs.slice 0 rfl
  refine WL.move (v := .int .i64 x20) h19_4 ?_
  obtain ⟨x44, hxx44, hf⟩ := bindE hf
  refine WL.indexAddr hs 0 rfl UN27 TI51 rfl rfl hxx44 (fun ad45 hs => ?_)
  refine WL.fieldAddrP (z := x44.Name) F_fold_Object_Name hs 0 rfl rfl FA51_0 rfl (fun ad46 hs => ?_)
  refine WL.loadP hs 0 rfl TI9 (.inr rfl) rfl (fun v47 hs => ?_)
  obtain rfl := hs.str 0 rfl
  refine WL.build (vs := [(0, bstr x44.Name)]) (cs := [bstr x44.Name, .slice none 0 0]) ⟨⟨rfl, rfl⟩, trivial⟩ (bld PL51 rfl) ?_
  refine WL.alloc hs ZV51 (fun g48 w hs => ?_)
  refine WL.storeAll (vs := [bstr x44.Name, .slice none 0 0]) hs 0 rfl TI51 rfl rfl rfl rfl (ones_of rfl) rfl (fun w hs => ?_)
  refine WL.nil ?_
  refine hK40 _ _ ?_
  refine W.seqK fun K49 hK49 => ?_
  have hs := hs.ownNil t_fold_Field 57
  have Jk55 : ∀ (x51 : List fold_Field) (a52 : Option Addr) (c53 : Nat) (n54 : Nat) (ρ : Env) (w : World), ρ 1 = .pointer (some ⟨g6, 0, none⟩) → ρ 2 = .pointer (some ⟨g7, 0, none⟩) → ρ 3 = .pointer (some ⟨g9, 0, none⟩) → ρ 4 = .int .i64 x20 → ρ 5 = .pointer (some ⟨g48, 0, none⟩) → St ok (bz w0) w [vl t_fold_Store x1 (.agg cs3.toArray)] [own t_fold_Field 57 (.slice a52 n54 c53) x51, blk g48 51 [bstr x44.Name, .slice a52 n54 c53], own tRO 51 (.slice a22 n24 c23) (rawA os21), blk g9 29 [.slice a22 n24 c23], blk g7 29 [.slice none 0 0], blk g6 29 cs3, innA t_fold_Field 57 os21] → esref32_Copy.j3 x20 (os21.map mkO) x44 x51 = some os25 → K49 ρ w := by
    intro x51 a52 c53 n54 ρ w h50_1 h50_2 h50_3 h50_4 h50_5 hs hf
    refine hK49 _ _ ?_
    unfold esref32_Copy.j3 at hf
    refine W.region ?_
    refine WL.fieldAddr (m := 0) h50_3 FA29_0 rfl ?_
    refine WL.load1 (v := .slice a22 n24 c23) hs 3 rfl TI27 rfl rfl ?_
    refine WL.loadN (vs := [bstr x44.Name, .slice a52 n54 c53]) hs 1 rfl TI51 h50_5 rfl rfl ?_
    refine WL.buildSlice (n := 1) (vs := [(0, .agg ([bstr x44.Name, .slice a52 n54 c53] : List Value).toArray)]) (cs := [bstr x44.Name, .slice a52 n54 c53]) hs ⟨⟨rfl, rfl⟩, trivial⟩ (bls PS27 (by decide) rfl) (fun g56 w hs => ?_)
    obtain rfl := hs.ownLen 1 rfl
    obtain ⟨x57, hxx57, hf⟩ := bindE hf
    obtain ⟨hbx57, hex57⟩ := appE hxx57
    rw [List.length_map, List.length_singleton] at hbx57
    refine WL.append (ys := [(x44.Name, Value.slice a52 x51.length c53)]) (zs := rawA (os21 ++ [(x44.Name, Value.slice a52 x51.length c53, x51)])) hs 3 rfl 0 rfl UN27 EI51 rfl rfl (fun ok hA => Cells.one (T := tRO) (tRO_R.2 ⟨rfl, rfl⟩)) (by rw [rawA, List.length_map, List.length_singleton]; exact hbx57) (by rw [rawA, List.length_map, List.length_singleton]; omega) (by rw [rawA, rawA, List.map_append]; rfl) (fun v58 w hs => ?_)
    obtain ⟨a59, n61, c60, rfl⟩ := hs.ownv3 3 rfl
    refine WL.fieldAddr (m := 0) h50_3 FA29_0 rfl ?_
    refine WL.storeAll (vs := [.slice a59 n61 c60]) hs 4 rfl TI27 rfl rfl rfl rfl (ones_of rfl) rfl (fun w hs => ?_)
    refine WL.nil ?_
    have hs := hs.mask [false, true, false, true, true, true, true, true]
    have hs := hs.front 5 rfl
    have hs := hs.perm (List.Perm.swap _ _ _)
    have hs := hs.rinAdd (p := os21.length) (n := x44.Name)
    rw [List.take_length, List.drop_length] at hs
    have hs := hs.rot
    rw [← hex57] at hf
    exact Jk38 (os21 ++ [(x44.Name, Value.slice a52 x51.length c53, x51)]) a59 c60 n61 _ _ h50_1 h50_2 h50_3 h50_4 (hs.pick [0]) (by rw [List.map_append]; exact hf)
  refine W.seqK fun K62 hK62 => ?_
  refine W.region ?_
  refine WL.assign (v := .int .i64 0) rfl ?_
  refine WL.nil ?_
  refine hK62 _ _ ?_
  refine W.block ?_
  obtain ⟨bs69, hbs69, hfs69⟩ := bindE hf
  refine W.loop hbs69 (fun s ρ w => match s with | (x64, x65) => ∃ (a66 : Option Addr), ∃ (c67 : Nat), ∃ (n68 : Nat), ρ 1 = .pointer (some ⟨g6, 0, none⟩) ∧ ρ 2 = .pointer (some ⟨g7, 0, none⟩) ∧ ρ 3 = .pointer (some ⟨g9, 0, none⟩) ∧ ρ 4 = .int .i64 x20 ∧ ρ 5 = .pointer (some ⟨g48, 0, none⟩) ∧ ρ 6 = .int .i64 x64 ∧ St ok (bz w0) w [vl t_fold_Store x1 (.agg cs3.toArray)] [own t_fold_Field 57 (.slice a66 n68 c67) x65, blk g48 51 [bstr x44.Name, .slice a66 n68 c67], own tRO 51 (.slice a22 n24 c23) (rawA os21), blk g9 29 [.slice a22 n24 c23], blk g7 29 [.slice none 0 0], blk g6 29 cs3, innA t_fold_Field 57 os21]) ⟨none, 0, 0, h19_1, h19_2, h19_3, h19_4, rfl, rfl, (hs.mask [true, true, true, true, true, true, true]).pick [5]⟩ ?_
  intro s ρ w os69 hI hf hbbs69
  obtain ⟨x64, x65⟩ := s
  obtain ⟨a66, c67, n68, h63_1, h63_2, h63_3, h63_4, h63_5, h63_6, hs⟩ := hI
  unfold esref32_Copy.l1 at hf
  refine W.seqK fun K70 hK70 => ?_
  refine W.seqK fun K71 hK71 => ?_
  refine W.region ?_
  refine WL.move (v := .int .i64 x64) h63_6 ?_
  refine WL.fieldAddr (m := 0) h63_1 FA29_0 rfl ?_
  refine WL.loadF (z := x1.Objects) F_fold_Store_Objects hs 5 rfl 0 rfl rfl TI27 (.inr rfl) rfl rfl (fun v72 hs => ?_)
  obtain ⟨a73, c74, rfl⟩ := hs.slice 0 rfl
  refine WL.move (v := .int .i64 x20) h63_4 ?_
  obtain ⟨x75, hxx75, hf⟩ := bindE hf
  refine WL.indexAddr hs 0 rfl UN27 TI51 rfl rfl hxx75 (fun ad76 hs => ?_)
  refine WL.fieldAddrP (z := x75.Fields) F_fold_Object_Fields hs 0 rfl rfl FA51_1 rfl (fun ad77 hs => ?_)
  refine WL.loadP hs 0 rfl TI49 (.inr rfl) rfl (fun v78 hs => ?_)
  obtain ⟨a79, c80, rfl⟩ := hs.slice 0 rfl
  refine WL.len (v := .slice a79 (x75.Fields).length c80) rfl (len_slice UN49) ?_
  refine WL.bin (v := .bool (decide (x64 < ((x75.Fields).length : Int)))) rfl rfl (ib_lss _ _ _) ?_
  refine WL.nil ?_
  refine hK71 _ _ ?_
  rcases iteE hf with ⟨hc81, hf⟩ | ⟨hc81, hf⟩
  {
  refine W.cond_true (bool_tr rfl hc81) ?_
  refine W.skip ?_
  refine hK70 _ _ ?_
  refine W.seqK fun K82 hK82 => ?_
  refine W.block ?_
  refine W.seqK fun K83 hK83 => ?_
  refine W.region ?_
  refine WL.fieldAddr (m := 0) h63_1 FA29_0 rfl ?_
  refine WL.loadF (z := x1.Objects) F_fold_Store_Objects hs 5 rfl 4 rfl rfl TI27 (.inr rfl) rfl rfl (fun v84 hs => ?_)
  obtain ⟨a85, c86, rfl⟩ := hs.slice 0 rfl
  refine WL.move (v := .int .i64 x20) h63_4 ?_
  obtain ⟨x87, hxx87, hf⟩ := bindE hf
  refine WL.indexAddr hs 0 rfl UN27 TI51 rfl rfl hxx87 (fun ad88 hs => ?_)
  refine WL.fieldAddrP (z := x87.Fields) F_fold_Object_Fields hs 0 rfl rfl FA51_1 rfl (fun ad89 hs => ?_)
  refine WL.loadP hs 0 rfl TI49 (.inr rfl) rfl (fun v90 hs => ?_)
  obtain ⟨a91, c92, rfl⟩ := hs.slice 0 rfl
  refine WL.move (v := .int .i64 x64) h63_6 ?_
  obtain ⟨x93, hxx93, hf⟩ := bindE hf
  refine WL.indexAddr hs 0 rfl UN49 TI57 rfl rfl hxx93 (fun ad94 hs => ?_)
  refine WL.loadP hs 0 rfl TI57 (.inl rfl) rfl (fun v95 hs => ?_)
  obtain ⟨cs96, hl97, rfl⟩ := hs.aggv (n := 12) 0 rfl rfl rfl
  refine WL.alloc hs ZV57 (fun g98 w hs => ?_)
  obtain ⟨a99, c100, rfl⟩ := open_fold_Field hs 0 rfl
  have hs := hs.add (it := vl (tSlice tStr) x93.Elems (.slice a99 (x93.Elems).length c100)) fun ok hA => V_fld F_fold_Field_Elems (hA.get 0 rfl) rfl rfl rfl
  refine WL.storeAll (vs := [bstr x93.Name, .bool x93.Register.Set, .int .i64 x93.Register.Tag, .int .i64 x93.Register.Client, .int .i64 x93.Register.Seq, .int .i64 x93.Register.N, bstr x93.Register.S, .bool x93.HasMax, .int .i64 x93.Max, .int .i64 x93.Sum, .slice a99 (x93.Elems).length c100, .bool x93.Flag]) hs 0 rfl TI57 rfl rfl rfl rfl (ones_of rfl) rfl (fun w hs => ?_)
  refine WL.nil ?_
  refine hK83 _ _ ?_
  refine W.seqK fun K101 hK101 => ?_
  refine W.region ?_
  refine WL.buildSlice0 hs UN55 TI9 (fun a102 w hs => ?_)
  refine WL.fieldAddr (m := 10) rfl FA57_5 rfl ?_
  refine WL.load1 (v := .slice a99 (x93.Elems).length c100) hs 0 rfl TI55 rfl rfl ?_
  have hs := hs.ownEmpty tStr 9 a102
  obtain ⟨x103, hxx103, hf⟩ := bindE hf
  obtain ⟨hbx103, hex103⟩ := appE hxx103
  refine WL.appendS (zs := x103) hs 0 rfl 0 rfl UN55 UN55 EI9 rfl rfl hbx103 (by omega) hex103 (fun v104 w hs => ?_)
  obtain ⟨a105, n107, c106, rfl⟩ := hs.ownv3 0 rfl
  refine WL.fieldAddr (m := 10) rfl FA57_5 rfl ?_
  refine WL.store (vs := [.slice a105 n107 c106]) (cs' := [bstr x93.Name, .bool x93.Register.Set, .int .i64 x93.Register.Tag, .int .i64 x93.Register.Client, .int .i64 x93.Register.Seq, .int .i64 x93.Register.N, bstr x93.Register.S, .bool x93.HasMax, .int .i64 x93.Max, .int .i64 x93.Sum, .slice a105 n107 c106, .bool x93.Flag]) hs 1 rfl TI55 rfl rfl rfl rfl (ones_of rfl) (Nat.le_of_ble_eq_true rfl) rfl (fun w hs => ?_)
  refine WL.nil ?_
  refine hK101 _ _ ?_
  refine W.region ?_
  refine WL.fieldAddr (m := 1) h63_5 FA51_1 rfl ?_
  refine WL.load1 (v := .slice a66 n68 c67) hs 3 rfl TI49 rfl rfl ?_
  refine WL.loadN (vs := [bstr x93.Name, .bool x93.Register.Set, .int .i64 x93.Register.Tag, .int .i64 x93.Register.Client, .int .i64 x93.Register.Seq, .int .i64 x93.Register.N, bstr x93.Register.S, .bool x93.HasMax, .int .i64 x93.Max, .int .i64 x93.Sum, .slice a105 n107 c106, .bool x93.Flag]) hs 1 rfl TI57 rfl rfl rfl ?_
  refine WL.buildSlice (n := 1) (vs := [(0, .agg ([bstr x93.Name, .bool x93.Register.Set, .int .i64 x93.Register.Tag, .int .i64 x93.Register.Client, .int .i64 x93.Register.Seq, .int .i64 x93.Register.N, bstr x93.Register.S, .bool x93.HasMax, .int .i64 x93.Max, .int .i64 x93.Sum, .slice a105 n107 c106, .bool x93.Flag] : List Value).toArray)]) (cs := [bstr x93.Name, .bool x93.Register.Set, .int .i64 x93.Register.Tag, .int .i64 x93.Register.Client, .int .i64 x93.Register.Seq, .int .i64 x93.Register.N, bstr x93.Register.S, .bool x93.HasMax, .int .i64 x93.Max, .int .i64 x93.Sum, .slice a105 n107 c106, .bool x93.Flag]) hs ⟨⟨rfl, rfl⟩, trivial⟩ (bls PS49 (by decide) rfl) (fun g108 w hs => ?_)
  obtain rfl := hs.ownLen 1 rfl
  have hs := hs.freezeOwn 1 rfl
  obtain ⟨x109, hxx109, hf⟩ := bindE hf
  obtain ⟨hbx109, hex109⟩ := appE hxx109
  refine WL.append (ys := [(⟨x93.Name, (⟨x93.Register.Set, x93.Register.Tag, x93.Register.Client, x93.Register.Seq, x93.Register.N, x93.Register.S⟩ : fold_Register), x93.HasMax, x93.Max, x93.Sum, x103, x93.Flag⟩ : fold_Field)]) (zs := x109) hs 2 rfl 0 rfl UN49 EI57 rfl rfl (fun ok hA => (Cells.one (T := t_fold_Field) (show t_fold_Field.R ok _ (⟨x93.Name, (⟨x93.Register.Set, x93.Register.Tag, x93.Register.Client, x93.Register.Seq, x93.Register.N, x93.Register.S⟩ : fold_Register), x93.HasMax, x93.Max, x93.Sum, x103, x93.Flag⟩ : fold_Field) _ from ⟨[bstr x93.Name], [.bool x93.Register.Set, .int .i64 x93.Register.Tag, .int .i64 x93.Register.Client, .int .i64 x93.Register.Seq, .int .i64 x93.Register.N, bstr x93.Register.S, .bool x93.HasMax, .int .i64 x93.Max, .int .i64 x93.Sum, .slice a105 x103.length c106, .bool x93.Flag], rfl, rfl, ⟨[.bool x93.Register.Set, .int .i64 x93.Register.Tag, .int .i64 x93.Register.Client, .int .i64 x93.Register.Seq, .int .i64 x93.Register.N, bstr x93.Register.S], [.bool x93.HasMax, .int .i64 x93.Max, .int .i64 x93.Sum, .slice a105 x103.length c106, .bool x93.Flag], rfl, ⟨[.bool x93.Register.Set], [.int .i64 x93.Register.Tag, .int .i64 x93.Register.Client, .int .i64 x93.Register.Seq, .int .i64 x93.Register.N, bstr x93.Register.S], rfl, rfl, ⟨[.int .i64 x93.Register.Tag], [.int .i64 x93.Register.Client, .int .i64 x93.Register.Seq, .int .i64 x93.Register.N, bstr x93.Register.S], rfl, rfl, ⟨[.int .i64 x93.Register.Client], [.int .i64 x93.Register.Seq, .int .i64 x93.Register.N, bstr x93.Register.S], rfl, rfl, ⟨[.int .i64 x93.Register.Seq], [.int .i64 x93.Register.N, bstr x93.Register.S], rfl, rfl, ⟨[.int .i64 x93.Register.N], [bstr x93.Register.S], rfl, rfl, rfl⟩⟩⟩⟩⟩, ⟨[.bool x93.HasMax], [.int .i64 x93.Max, .int .i64 x93.Sum, .slice a105 x103.length c106, .bool x93.Flag], rfl, rfl, ⟨[.int .i64 x93.Max], [.int .i64 x93.Sum, .slice a105 x103.length c106, .bool x93.Flag], rfl, rfl, ⟨[.int .i64 x93.Sum], [.slice a105 x103.length c106, .bool x93.Flag], rfl, rfl, ⟨[.slice a105 x103.length c106], [.bool x93.Flag], rfl, (R_one (hA.get 0 rfl)), rfl⟩⟩⟩⟩⟩⟩))) hbx109 (by omega) hex109 (fun v110 w hs => ?_)
  obtain ⟨a111, n113, c112, rfl⟩ := hs.ownv3 2 rfl
  refine WL.fieldAddr (m := 1) h63_5 FA51_1 rfl ?_
  refine WL.store (vs := [.slice a111 n113 c112]) (cs' := [bstr x44.Name, .slice a111 n113 c112]) hs 3 rfl TI49 rfl rfl rfl rfl (ones_of rfl) (Nat.le_of_ble_eq_true rfl) rfl (fun w hs => ?_)
  refine WL.nil ?_
  refine hK82 _ _ ?_
  refine W.region ?_
  refine WL.move (v := .int .i64 x64) h63_6 ?_
  obtain ⟨x114, ex114, hf⟩ := letE hf
  refine WL.bin (v := .int .i64 x114) rfl rfl (ib_as ex114 (ib_add _ _ _)) ?_
  refine WL.assign (v := .int .i64 x114) rfl ?_
  refine WL.nil ?_
  exact ⟨_, (Option.some.inj hf).symm, a111, c112, n113, h63_1, h63_2, h63_3, h63_4, h63_5, rfl, (hs.mask [false, false, true, true, true, true, true, true, true]).pick [12]⟩ }
  {
  refine W.cond_false (bool_tr rfl hc81) ?_
  refine W.exit ?_
  have hr := Option.some.inj hf; subst hr
  have hr := hbbs69 _ rfl; subst hr
  have hf := hfs69
  exact Jk55 x65 a66 c67 n68 _ _ h63_1 h63_2 h63_3 h63_4 h63_5 ((hs.mask [true, true, true, true, true, true, true]).pick [4]) hf } }
  {
  refine W.cond_false (bool_tr rfl hc31) ?_
  refine W.exit ?_
  have hr := Option.some.inj hf; subst hr
  have hr := hbbs25 _ rfl; subst hr
  have hf := hfs25
  exact Jk16 os21 a22 c23 n24 _ _ h19_2 h19_3 ((hs.mask [true, true, true, false, true]).pick []) hf }

end Go.Proofs.Ytlbcfjblpopcnaa
