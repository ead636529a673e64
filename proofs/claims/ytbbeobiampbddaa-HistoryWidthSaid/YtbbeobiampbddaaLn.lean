/- Ranges over maps of the call's own, in whatever order. -/
import Derived.Test.YtbbeobiampbddaaLm
set_option linter.unusedVariables false
set_option linter.unusedSimpArgs false
set_option linter.unusedSectionVars false
namespace Go.Proofs.YtbbeobiampbddaaL
open Go Go.RowKit
open Go.ChangeMaps (setBlock)

/-! What a range computes: the same in every order. -/
def foldO {κ σ β : Type} (step : κ → σ → Option (σ ⊕ β)) : List κ → σ → Option (σ ⊕ β)
  | [], s => some (.inl s)
  | k :: l, s => match step k s with
    | none => none
    | some (.inl s') => foldO step l s'
    | some (.inr b) => some (.inr b)
open Classical in
noncomputable def permO {α R : Type} (l : List α) (F : List α → Option R) : Option R := if h : ∃ r, ∀ τ : List α, τ.Perm l → F τ = some r then some h.choose else none
theorem permE {α R : Type} {l : List α} {F : List α → Option R} {r : R} (h : permO l F = some r) : ∀ τ : List α, τ.Perm l → F τ = some r := by
  unfold permO at h
  split at h
  · rename_i hx
    cases h
    exact hx.choose_spec
  · cases h
theorem permI {α R : Type} {l : List α} {F : List α → Option R} {r : R} (h : ∀ τ : List α, τ.Perm l → F τ = some r) : permO l F = some r := by
  have hx : ∃ r, ∀ τ : List α, τ.Perm l → F τ = some r := ⟨r, h⟩
  unfold permO
  rw [dif_pos hx]
  have := hx.choose_spec l (.refl _)
  rw [h l (.refl _)] at this
  exact this.symm

section
variable {P : Program} {N : Nat} {Q : QE} {ρ : Env} {w : World} {c : Code}
theorem W.loopR {κ σ β R : Type} {step : κ → σ → Option (σ ⊕ β)} {cont : σ ⊕ β → Option R} {r : R} {left0 : List κ} {s0 : σ} (hb : ∀ τ : List κ, τ.Perm left0 → (foldO step τ s0).bind cont = some r)
    (I : List κ → σ → Env → World → Prop) (h0 : I left0 s0 ρ w)
    (body : ∀ left s ρ w, I left s ρ w → (left = [] → cont (.inl s) = some r) →
      (∀ k left', left.Perm (k :: left') → ∃ o, step k s = some o ∧ ∀ b, o = .inr b → cont (.inr b) = some r) →
      W P N c (thenQ (fun ρ' w' => ∃ k left' s', left.Perm (k :: left') ∧ step k s = some (.inl s') ∧ I left' s' ρ' w') Q) ρ w) : W P N (.loop c) Q ρ w := by
  intro a ha
  obtain ⟨n, hn⟩ : ∃ n, left0.length < n := ⟨_, Nat.lt_succ_self _⟩
  refine wp_loop_rounds n ?_
  induction n generalizing left0 s0 ρ w a with
  | zero => omega
  | succ n ih =>
    rw [rounds_succ]
    refine wp_mono (body left0 s0 ρ w h0 (fun e => ?_) (fun k left' hp => ?_) a ha) ?_
    · subst e
      simpa [foldO] using hb [] (.refl _)
    · have h1 := hb (k :: left') hp.symm
      cases hs : step k s0 with
      | none => simp [foldO, hs] at h1
      | some o =>
        refine ⟨o, rfl, fun b e => ?_⟩
        subst e
        simpa [foldO, hs] using h1
    · rintro e a' w' ⟨ρ', hρ', q⟩
      cases e with
      | normal =>
        obtain ⟨k, left', s', hp, hs, hI⟩ := q
        refine ih (left0 := left') (s0 := s') (fun τ hτ => ?_) hI a' hρ' (by have := hp.length_eq; simp at this; omega)
        have h1 := hb (k :: τ) ((hτ.cons k).trans hp.symm)
        simpa [foldO, hs] using h1
      | _ => exact ⟨ρ', hρ', q⟩
end

section
variable {κ β : Type} [BEq κ] [LawfulBEq κ]
/-- A map of the call's own that is ranged over: what is left; what came last. -/
def rng (kv : κ → Value) (V : Ty β) (g r : Nat) (l left : List (κ × β)) (cur : Option (κ × β)) : LObj where
  H := fun ok bs w => bs = [r, g] ∧ ∃ es clock since seen c0, w.heap[g]? = some (.map es clock) ∧ (Ents kv V ok w l es.toList ∧ (es.toList.map (·.born)).Nodup ∧ (∀ e ∈ es.toList, e.born < clock) ∧ (l.map (·.1)).Nodup) ∧
    w.heap[r]? = some (.mapIter (some g) since seen c0) ∧ (∀ x ∈ es.toList, x.born < since) ∧ since ≤ c0 ∧ since ≤ clock ∧
    left.Perm (((l.zip es.toList).filter fun p => !seen.contains p.2.born).map (·.1)) ∧
    ∀ kx, cur = some kx → c0 = clock ∧ ∃ (e : MapEntry) (seen' : Array Nat), (kx, e) ∈ l.zip es.toList ∧ seen = seen'.push e.born
  fn := by rintro _ _ _ _ _ ⟨rfl, _⟩ ⟨rfl, _⟩; rfl
  lt := by
    rintro _ _ _ ⟨rfl, es, c, s, se, c0, h, _, h2, _⟩ b hb
    simp at hb
    rcases hb with rfl | rfl
    · exact lt_of_some h2
    · exact lt_of_some h
  move := by
    rintro ok1 ok2 bs w1 w2 ⟨rfl, es, c, s, se, c0, h, ⟨he, h1⟩, h2, h3⟩ hk hm
    exact ⟨rfl, es, c, s, se, c0, (hk g (by simp)).trans h, ⟨he.move hm, h1⟩, (hk r (by simp)).trans h2, h3⟩
end
theorem Ents.zip {κ β : Type} {kv : κ → Value} {V : Ty β} {ok : Nat → Prop} {w : World} : ∀ {l : List (κ × β)} {es : List MapEntry}, Ents kv V ok w l es → ∀ {x : κ × β} {e : MapEntry}, (x, e) ∈ l.zip es → e.key = kv x.1 ∧ V.V ok w x.2 e.val ∧ e ∈ es
  | [], [], _, _, _, h => by simp at h
  | y :: l, f :: es, ⟨h1, h2, h3⟩, x, e, h => by
    rw [List.zip_cons_cons] at h
    rcases List.mem_cons.1 h with h | h
    · cases h
      exact ⟨h1, h2, by simp⟩
    · obtain ⟨a, b, c⟩ := Ents.zip h3 h
      exact ⟨a, b, by simp [c]⟩
  | [], _ :: _, h, _, _, _ => h.elim
  | _ :: _, [], h, _, _, _ => h.elim
theorem zip_mem {α γ : Type} : ∀ {l : List α} {es : List γ}, l.length = es.length → ∀ {e : γ}, e ∈ es → ∃ x, (x, e) ∈ l.zip es
  | [], [], _, _, h => by simp at h
  | x :: l, f :: es, hl, e, h => by
    rcases List.mem_cons.1 h with rfl | h
    · exact ⟨x, by simp⟩
    · obtain ⟨y, hy⟩ := zip_mem (by simpa using hl) h
      exact ⟨y, by simp [hy]⟩
  | [], _ :: _, hl, _, _ => by simp at hl
  | _ :: _, [], hl, _, _ => by simp at hl
theorem born_inj : ∀ {es : List MapEntry}, (es.map (·.born)).Nodup → ∀ {e f : MapEntry}, e ∈ es → f ∈ es → e.born = f.born → e = f
  | [], _, _, _, h, _, _ => by simp at h
  | x :: es, hn, e, f, he, hf, hb => by
    simp only [List.map_cons, List.nodup_cons] at hn
    rcases List.mem_cons.1 he with h1 | h1 <;> rcases List.mem_cons.1 hf with h2 | h2
    · rw [h1, h2]
    · exact absurd (List.mem_map.2 ⟨f, h2, by rw [← hb, h1]⟩) hn.1
    · exact absurd (List.mem_map.2 ⟨e, h1, by rw [hb, h2]⟩) hn.1
    · exact born_inj hn.2 h1 h2 hb
/-- One entry taken out of those that are left. -/
theorem left_take {κ β : Type} {seen : Array Nat} {x : κ × β} {e : MapEntry} : ∀ {l : List (κ × β)} {es : List MapEntry}, (es.map (·.born)).Nodup → (x, e) ∈ l.zip es → seen.contains e.born = false →
    (((l.zip es).filter fun p => !seen.contains p.2.born).map (·.1)).Perm (x :: (((l.zip es).filter fun p => !(seen.push e.born).contains p.2.born).map (·.1)))
  | [], _, _, h, _ => by simp at h
  | _ :: _, [], _, h, _ => by simp at h
  | y :: l, f :: es, hn, h, hc => by
    simp only [List.map_cons, List.nodup_cons] at hn
    have hno : ∀ p ∈ l.zip es, p.2.born ≠ f.born := fun p hp hb => hn.1 (List.mem_map.2 ⟨p.2, (List.of_mem_zip hp).2, hb⟩)
    rw [List.zip_cons_cons] at h ⊢
    rcases List.mem_cons.1 h with h | h
    · cases h
      rw [List.filter_cons, List.filter_cons, if_pos (by rw [hc]; rfl), if_neg (by rw [contains_push]; simp), List.map_cons]
      refine List.Perm.cons _ ?_
      rw [List.filter_congr fun p hp => ?_]
      rw [contains_push]
      have := hno p hp
      simp [this]
    · have hb : f.born ≠ e.born := fun hb => hno _ h hb.symm
      have ih := left_take hn.2 h hc
      rw [List.filter_cons, List.filter_cons]
      have e1 : (seen.push e.born).contains f.born = seen.contains f.born := by rw [contains_push]; simp [hb]
      simp only [e1]
      generalize seen.contains f.born = cf
      cases cf with
      | true => exact ih
      | false =>
        simp only [Bool.not_false, if_true, List.map_cons]
        exact (ih.cons y).trans (.swap _ _ _)
section
variable {P : Program} {N : Nat} {Q : QE} {ρ : Env} {w : World} {w0 : Base} {ok0 : Nat → Prop} {Γ : List It} {Λ : List LObj}
variable {d : Option Tmp} {ty : TypeId} {pos : String} {aft : Array Edge} {gd : Option (Nat × Bool)} {ops : Array Oper} {rest : List Oper}
variable {κ β : Type} [BEq κ] [LawfulBEq κ] {kv : κ → Value} {V : Ty β}
theorem St.unrng (hs : St ok0 w0 w Γ Λ) (i : Nat) {g r : Nat} {l left : List (κ × β)} {cur : Option (κ × β)} (hi : Λ[i]? = some (rng kv V g r l left cur)) : St ok0 w0 w Γ (Λ.set i (mapo kv V g l)) := by
  obtain ⟨ok, bs, ho, hA, hn, hbs, hput⟩ := hs.split i hi
  obtain ⟨rfl, es, c, s, se, c0, h, ⟨he, h1, h2, h3⟩, _⟩ := ho
  exact hput _ [g] w (Off.refl_ _ _) (by simp) (fun b hb => ⟨.inl (by simp at hb; simp [hb]), (hbs b (by simp at hb; simp [hb])).2.2⟩) fun ok' hm => ⟨rfl, es, c, h, he.move hm, h1, h2, h3⟩
theorem St.rngF (hs : St ok0 w0 w Γ Λ) (i : Nat) {g r : Nat} {l left : List (κ × β)} {cur : Option (κ × β)} (hi : Λ[i]? = some (rng kv V g r l left cur)) : St ok0 w0 w Γ (Λ.set i (rng kv V g r l left none)) := by
  obtain ⟨ok, bs, ho, hA, hn, hbs, hput⟩ := hs.split i hi
  obtain ⟨rfl, es, c, s, se, c0, h, ⟨he, h1⟩, h2, h3, h4, h5, h6, _⟩ := ho
  exact hput _ [r, g] w (Off.refl_ _ _) hn (fun b hb => ⟨.inl hb, (hbs b hb).2.2⟩) fun ok' hm => ⟨rfl, es, c, s, se, c0, h, ⟨he.move hm, h1⟩, h2, h3, h4, h5, h6, fun _ h => by cases h⟩
theorem WL.range {t kt et : TypeId} {m : Operand} {g : Nat} {l : List (κ × β)} (hs : St ok0 w0 w Γ Λ) (i : Nat) (hi : Λ[i]? = some (mapo kv V g l)) (ht : P.underlying t = some (.map kt et)) (hm : ρ.ev m = .map (some g))
    (K : ∀ r w', St ok0 w0 w' Γ (Λ.set i (rng kv V g r l l none)) → WL P N ops Q rest (putE ρ d (.pointer (some ⟨r, 0, none⟩))) w')
    (hg : wantedE ops ρ ⟨d, .range t m, ty, pos, aft, gd⟩ = true := by rfl) (hd : fits N d = true := by rfl) :
    WL P N ops Q (⟨d, .range t m, ty, pos, aft, gd⟩ :: rest) ρ w := by
  obtain ⟨ok, bs, ho, hA, hn, hbs, hput⟩ := hs.split i hi
  obtain ⟨rfl, es, c, hh, he, hb1, hb2, hnd⟩ := ho
  have hlt := lt_of_some hh
  refine WL.value hg hd (v := .pointer (some ⟨w.heap.size, 0, none⟩)) (w' := w.alloc (.mapIter (some g) c #[] c)) (by
    show (do pure (Next.value (← Instr.range t (ρ.ev m))) : Sem Next).run P w = _
    rw [hm]
    refine exec_v ?_
    unfold Instr.range
    refine (run_bind (run_und ht w)).trans ?_
    refine (run_bind ((run_bind (run_getO hh)).trans rfl)).trans ?_
    exact (run_bind (x := w.heap.size) (w' := w.alloc (.mapIter (some g) c #[] c)) rfl).trans rfl) (K _ _ (hput _ [w.heap.size, g] _ (Off.of_below (below_alloc w _) _) ?_ ?_ fun ok' hm' => ?_))
  · simp; omega
  · intro b hb
    simp only [List.mem_cons, List.not_mem_nil, or_false] at hb
    rw [size_alloc]
    rcases hb with rfl | rfl
    · exact ⟨.inr (Nat.le_refl _), Nat.lt_succ_self _⟩
    · exact ⟨.inl (by simp), by omega⟩
  · have hmm := (below_alloc w (.mapIter (some g) c #[] c)).block g hlt
    refine ⟨rfl, es, c, c, #[], c, hmm.trans hh, ⟨he.move hm', hb1, hb2, hnd⟩, heap_new w _, hb2, Nat.le_refl _, Nat.le_refl _, ?_, fun _ h => by cases h⟩
    have : ((l.zip es.toList).filter fun p => !(#[] : Array Nat).contains p.2.born) = l.zip es.toList := List.filter_eq_self.2 fun _ _ => by simp
    rw [this]
    have e : (l.zip es.toList).map (·.1) = l := by
      have := List.map_fst_zip (l₁ := l) (l₂ := es.toList) (by rw [he.length]; exact Nat.le_refl _)
      exact this
    rw [e]
theorem WL.next {it : Operand} {g r : Nat} {l left : List (κ × β)} {cur : Option (κ × β)} (hs : St ok0 w0 w Γ Λ) (i : Nat) (hi : Λ[i]? = some (rng kv V g r l left cur)) (hx : ρ.ev it = .pointer (some ⟨r, 0, none⟩))
    (K1 : left = [] → WL P N ops Q rest (putE ρ d (.tuple #[.bool false])) w)
    (K2 : ∀ k y left' v w', left.Perm ((k, y) :: left') → St ok0 w0 w' Γ (Λ.set i (rng kv V g r l left' (some (k, y)))) → WL P N ops Q rest (putE ρ d (.tuple #[.bool true, kv k, v])) w')
    (hg : wantedE ops ρ ⟨d, .next it false, ty, pos, aft, gd⟩ = true := by rfl) (hd : fits N d = true := by rfl) :
    WL P N ops Q (⟨d, .next it false, ty, pos, aft, gd⟩ :: rest) ρ w := by
  obtain ⟨ok, bs, ho, hA, hn, hbs, hput⟩ := hs.split i hi
  obtain ⟨rfl, es, c, s, se, c0, hh, ⟨he, hb1, hb2, hnd⟩, hr, hold, h4, h5, hleft, _⟩ := ho
  have hltr := lt_of_some hr
  have hltg := lt_of_some hh
  have hrg : r ≠ g := by simpa using hn
  have hlen := he.length
  rcases run_next_at (P := P) w ty r g s c0 se es c hr hh hold h4 with ⟨h0, hrun⟩ | ⟨e, hel, w1, hw1, hrun⟩
  · have h0' := all_seen es se h0
    have hl0 : left = [] := by
      have : ((l.zip es.toList).filter fun p => !se.contains p.2.born) = [] := List.filter_eq_nil_iff.2 fun p hp => by
        rw [h0' _ (List.of_mem_zip hp).2]
        simp
      rw [this] at hleft
      exact hleft.eq_nil
    exact WL.value hg hd (v := .tuple #[.bool false]) (w' := w) (by
      show (do pure (Next.value (← Instr.next (ρ.ev it) false ty)) : Sem Next).run P w = _
      rw [hx]
      exact exec_v hrun) (K1 hl0)
  · have hel2 := mem_left hel
    obtain ⟨x, hx2⟩ := zip_mem hlen hel2.1
    have hz := he.zip hx2
    have hperm := hleft.trans (left_take hb1 hx2 hel2.2)
    have hw1h : w1.heap = w.heap := by rcases hw1 with rfl | rfl <;> rfl
    have hoff : Off [r, g] w (setBlock w1 r (.mapIter (some g) s (se.push e.born) c)) := by
      refine ⟨by rcases hw1 with rfl | rfl <;> rfl, by rcases hw1 with rfl | rfl <;> rfl, by rcases hw1 with rfl | rfl <;> rfl, by simp [setBlock, hw1h], fun k hk hkn => ?_⟩
      have : r ≠ k := fun e => hkn (by simp [e])
      simp [setBlock, this, hw1h]
    have hg' : (setBlock w1 r (.mapIter (some g) s (se.push e.born) c)).heap[g]? = some (.map es c) := by simp [setBlock, hrg, hw1h, hh]
    have hr' : (setBlock w1 r (.mapIter (some g) s (se.push e.born) c)).heap[r]? = some (.mapIter (some g) s (se.push e.born) c) := by simp [setBlock, hw1h, hltr]
    have hsz : (setBlock w1 r (.mapIter (some g) s (se.push e.born) c)).heap.size = w.heap.size := by simp [setBlock, hw1h]
    obtain ⟨xk, xy⟩ := x
    refine WL.value hg hd (v := .tuple #[.bool true, e.key, e.val]) (w' := setBlock w1 r (.mapIter (some g) s (se.push e.born) c)) (by
      show (do pure (Next.value (← Instr.next (ρ.ev it) false ty)) : Sem Next).run P w = _
      rw [hx]
      exact exec_v hrun) ?_
    rw [hz.1]
    refine K2 xk xy _ _ _ hperm (hput _ [r, g] _ hoff hn (fun b hb => ⟨.inl hb, by rw [hsz]; exact (hbs b hb).2.2⟩) fun ok' hm' => ?_)
    exact ⟨rfl, es, c, s, se.push e.born, c, hg', ⟨he.move hm', hb1, hb2, hnd⟩, hr', hold, h5, h5, .refl _, fun kx hkx => by cases hkx; exact ⟨rfl, e, se, hx2, rfl⟩⟩
theorem WL.entry {it : Operand} {g r : Nat} {l left : List (κ × β)} {k : κ} {y : β} (hs : St ok0 w0 w Γ Λ) (i : Nat) (hi : Λ[i]? = some (rng kv V g r l left (some (k, y)))) (hx : ρ.ev it = .pointer (some ⟨r, 0, none⟩))
    (K : ∀ v, St ok0 w0 w (vl V y v :: Γ) Λ → WL P N ops Q rest (putE ρ d (.tuple #[kv k, v])) w)
    (hg : wantedE ops ρ ⟨d, .entry it, ty, pos, aft, gd⟩ = true := by rfl) (hd : fits N d = true := by rfl) :
    WL P N ops Q (⟨d, .entry it, ty, pos, aft, gd⟩ :: rest) ρ w := by
  obtain ⟨ok, bs, ho, hA, _, _, _⟩ := hs.split i hi
  obtain ⟨_, es, c, s, se, c0, hh, ⟨he, hb1, hb2, hnd⟩, hr, hold, h4, h5, hleft, hcur⟩ := ho
  obtain ⟨rfl, e, se', hz, rfl⟩ := hcur _ rfl
  have hze := he.zip hz
  have hrun := run_entry_at (P := P) w r g s se' es c0 e hr hh hze.2.2 hb1
  refine WL.value hg hd (v := .tuple #[kv k, e.val]) (w' := w) (by
    show (do pure (Next.value (← Instr.entry (ρ.ev it))) : Sem Next).run P w = _
    rw [hx]
    rw [show kv k = e.key from hze.1.symm]
    exact exec_v hrun) (K _ (hs.addO i hi fun ok' bs' h' => ?_))
  obtain ⟨_, es2, c2, s2, se2, c02, hh2, ⟨he2, hb12, _⟩, hr2, _, _, _, _, hcur2⟩ := h'
  rw [hh] at hh2
  rw [hr] at hr2
  cases hh2
  cases hr2
  obtain ⟨_, e2, se2', hz2, hse⟩ := hcur2 _ rfl
  have hze2 := he2.zip hz2
  have hb : e.born = e2.born := by
    have := congrArg Array.back? hse
    simpa using this
  have hee : e = e2 := by
    exact born_inj hb12 hze.2.2 hze2.2.2 hb
  subst hee
  exact hze2.2.1
end
end Go.Proofs.YtbbeobiampbddaaL
