/- Maps: delete while they are ranged over, clear; the first step of a range over a string. -/
import Derived.Test.YtbbeobiampbddaaLo
set_option linter.unusedVariables false
set_option linter.unusedSimpArgs false
set_option linter.unusedSectionVars false
namespace Go.Proofs.YtbbeobiampbddaaL
open Go Go.RowKit
open Go.ChangeMaps (setBlock)
theorem Off.mono {bs bs' : List Nat} {a b : World} (h : Off bs a b) (k : ∀ x ∈ bs, x ∈ bs') : Off bs' a b := ⟨h.os, h.tape, h.output, h.size, fun i hi hn => h.block i hi fun hx => hn (k i hx)⟩
/-- A step of a string's range: at the beginning. -/
def sit (r : Nat) (s : List UInt8) : LObj where
  H := fun ok bs w => bs = [r] ∧ w.heap[r]? = some (.stringIter ⟨s.toArray⟩ 0)
  fn := by rintro _ _ _ _ _ ⟨rfl, _⟩ ⟨rfl, _⟩; rfl
  lt := by rintro _ _ _ ⟨rfl, h⟩ b hb; simp at hb; subst hb; exact lt_of_some h
  move := by
    rintro _ _ _ _ _ ⟨rfl, h⟩ hk hm
    exact ⟨rfl, (hk r (by simp)).trans h⟩
/-- A block of the call's own that nobody reads any more. -/
def junk (r : Nat) : LObj where
  H := fun ok bs w => bs = [r] ∧ r < w.heap.size
  fn := by rintro _ _ _ _ _ ⟨rfl, _⟩ ⟨rfl, _⟩; rfl
  lt := by rintro _ _ _ ⟨rfl, h⟩ b hb; simp at hb; subst hb; exact h
  move := by
    rintro _ _ _ w1 w2 ⟨rfl, h⟩ hk hm
    refine ⟨rfl, ?_⟩
    have h1 := hk r (by simp)
    have : (w2.heap[r]?).isSome := by rw [h1]; simp [h]
    simpa using this
section
variable {κ β : Type} [BEq κ] [LawfulBEq κ] {kv : κ → Value} {V : Ty β} {ok : Nat → Prop} {w : World}
/-- The entry that came last is found, and taken out. -/
theorem del_ents {P : Program} {desc : TypeDesc} (hsame : ∀ a b, Instr.sameNow desc (kv a) (kv b) = some (a == b)) {a : κ} {y : β} {e : MapEntry} : ∀ {l : List (κ × β)} {es : List MapEntry} (i : Nat), Ents kv V ok w l es → (l.map (·.1)).Nodup → ((a, y), e) ∈ l.zip es →
    ∃ j, es[j]? = some e ∧ Instr.findNow desc (kv a) es i = some (some (i + j, e.val)) ∧ Ents kv V ok w (mdel l a) (es.eraseIdx j) ∧ ((mdel l a).map (·.1)).Sublist (l.map (·.1)) ∧
      ∀ f : (κ × β) × MapEntry → Bool, f ((a, y), e) = false → ((mdel l a).zip (es.eraseIdx j)).filter f = (l.zip es).filter f
  | [], _, i, _, _, h => by simp at h
  | _ :: _, [], i, h, _, _ => h.elim
  | x :: l, e0 :: es, i, ⟨h1, h2, h3⟩, hn, h => by
    simp only [List.map_cons, List.nodup_cons] at hn
    rw [List.zip_cons_cons] at h
    have hs := hsame a x.1
    rw [← h1] at hs
    cases hkx : a == x.1 with
    | true =>
      have hk : a = x.1 := by simpa using hkx
      have he : ((a, y), e) = (x, e0) := by
        rcases List.mem_cons.1 h with h | h
        · exact h
        · exact absurd (List.mem_map.2 ⟨(a, y), (List.of_mem_zip h).1, hk⟩) hn.1
      cases he
      refine ⟨0, rfl, by rw [Instr.findNow, hs, hkx]; rfl, by simpa [mdel, hkx] using h3, by simp [mdel], fun f hf => ?_⟩
      simp [mdel, hf]
    | false =>
      have hk : a ≠ x.1 := by simpa using hkx
      rcases List.mem_cons.1 h with h | h
      · cases h; simp at hk
      obtain ⟨j, b1, b2, b3, b4, b5⟩ := del_ents (P := P) hsame (i + 1) h3 hn.2 h
      refine ⟨j + 1, by simpa using b1, by rw [Instr.findNow, hs, hkx]; simpa [Nat.add_assoc, Nat.add_comm 1] using b2, ?_, ?_, fun f hf => ?_⟩
      · simp only [mdel, hkx]; exact ⟨h1, h2, b3⟩
      · simp only [mdel, hkx]; exact b4.cons_cons _
      · simp only [mdel, hkx, Bool.false_eq_true, if_false, List.eraseIdx_cons_succ, List.zip_cons_cons, List.filter_cons, b5 f hf]
end
section
variable {P : Program} {N : Nat} {Q : QE} {ρ : Env} {w : World} {w0 : Base} {ok0 : Nat → Prop} {Γ : List It} {Λ : List LObj}
variable {d : Option Tmp} {ty : TypeId} {pos : String} {aft : Array Edge} {gd : Option (Nat × Bool)} {ops : Array Oper} {rest : List Oper}
variable {κ β : Type} [BEq κ] [LawfulBEq κ] {kv : κ → Value} {V : Ty β}
theorem WL.deleteR {t kt et : TypeId} {m x : Operand} {g r : Nat} {l l' left : List (κ × β)} {a : κ} {y : β} (hs : St ok0 w0 w Γ Λ) (i : Nat) (hi : Λ[i]? = some (rng kv V g r l left (some (a, y)))) (hk : KK P kt kv) (ht : P.underlying t = some (.map kt et))
    (hm : ρ.ev m = .map (some g)) (hx : ρ.ev x = kv a) (hl : mdel l a = l')
    (K : ∀ w', St ok0 w0 w' Γ (Λ.set i (rng kv V g r l' left none)) → WL P N ops Q rest (putE ρ d (.tuple #[])) w')
    (hg : wantedE ops ρ ⟨d, .call { callee := .builtin .delete, args := #[m, x], argTypes := #[t, kt] }, ty, pos, aft, gd⟩ = true := by rfl) (hd : fits N d = true := by rfl) :
    WL P N ops Q (⟨d, .call { callee := .builtin .delete, args := #[m, x], argTypes := #[t, kt] }, ty, pos, aft, gd⟩ :: rest) ρ w := by
  subst hl
  obtain ⟨ok, bs, ho, hA, hn, hbs, hput⟩ := hs.split i hi
  obtain ⟨rfl, es, c, se, seen, c0, hh, ⟨he, hb1, hb2, hnd⟩, hr, hold, h4, h5, hleft, hcur⟩ := ho
  obtain ⟨rfl, e, seen', hz, rfl⟩ := hcur _ rfl
  have hltr := lt_of_some hr
  have hltg := lt_of_some hh
  have hrg : r ≠ g := by simpa using hn
  obtain ⟨desc, hud, hsame⟩ := hk.und
  obtain ⟨j, a1, a2, a3, a4, a5⟩ := del_ents (P := P) hsame 0 he hnd hz
  have hjs : j < es.size := by simpa using (List.getElem?_eq_some_iff.1 a1).1
  have hsub : (es.eraseIdxIfInBounds j).toList = es.toList.eraseIdx j := by
    unfold Array.eraseIdxIfInBounds
    rw [dif_pos hjs]
    simp
  generalize hes' : es.eraseIdxIfInBounds j = es' at hsub
  have hsl : es'.toList.Sublist es.toList := by rw [hsub]; exact List.eraseIdx_sublist _ _
  have hrun : (Builtin.delete_ #[t, kt] ty #[.map (some g), kv a]).run P w = .ok (.tuple #[]) (setBlock w g (.map es' c0)) := by
    unfold Builtin.delete_
    refine (run_bind (run_und ht w)).trans ?_
    refine (run_bind (run_getO hh)).trans ?_
    refine (run_bind (hk.chk _ a w)).trans ?_
    refine (run_bind (run_findKey hud a2 w)).trans ?_
    simp only [Nat.zero_add, hes']
    exact (run_bind (run_setO hh _)).trans rfl
  obtain ⟨o1, o2, o3⟩ := off_setBlock (w := w) (g := g) (.map es' c0) hltg
  refine WL.value hg hd (v := .tuple #[]) (w' := setBlock w g (.map es' c0)) (exec_builtin fun cs => ?_) (K _ (hput _ [r, g] _ (o1.mono (by simp)) hn (fun b hb => ⟨.inl hb, ?_⟩) fun ok' hm' => ?_))
  · rw [List.map_toArray]
    refine exec_v ?_
    show (Builtin.delete_ #[t, kt] ty #[ρ.ev m, ρ.ev x]).run P w = _
    rw [hm, hx]
    exact hrun
  · rw [o3]; exact (hbs b hb).2.2
  · have hr' : (setBlock w g (.map es' c0)).heap[r]? = some (.mapIter (some g) se (seen'.push e.born) c0) := by simp [setBlock, Ne.symm hrg, hr]
    refine ⟨rfl, es', c0, se, seen'.push e.born, c0, o2, ⟨?_, ?_, fun e' he' => hb2 _ (hsl.subset he'), a4.nodup hnd⟩, hr', fun e' he' => hold _ (hsl.subset he'), h4, h5, ?_, fun _ h => by cases h⟩
    · rw [hsub]; exact a3.move hm'
    · exact (hsl.map _).nodup hb1
    · rw [hsub, a5]
      · exact hleft
      · simp
theorem WL.clearM {t kt et : TypeId} {m : Operand} {g : Nat} {l : List (κ × β)} (hs : St ok0 w0 w Γ Λ) (i : Nat) (hi : Λ[i]? = some (mapo kv V g l)) (ht : P.underlying t = some (.map kt et))
    (hm : ρ.ev m = .map (some g))
    (K : ∀ w', St ok0 w0 w' Γ (Λ.set i (mapo kv V g ([] : List (κ × β)))) → WL P N ops Q rest (putE ρ d (.tuple #[])) w')
    (hg : wantedE ops ρ ⟨d, .call { callee := .builtin .clear, args := #[m], argTypes := #[t] }, ty, pos, aft, gd⟩ = true := by rfl) (hd : fits N d = true := by rfl) :
    WL P N ops Q (⟨d, .call { callee := .builtin .clear, args := #[m], argTypes := #[t] }, ty, pos, aft, gd⟩ :: rest) ρ w := by
  obtain ⟨ok, bs, ho, hA, hn, hbs, hput⟩ := hs.split i hi
  obtain ⟨rfl, es, c, hh, he, hb1, hb2, hnd⟩ := ho
  have hlt := lt_of_some hh
  obtain ⟨o1, o2, o3⟩ := off_setBlock (w := w) (g := g) (.map #[] c) hlt
  refine WL.value hg hd (v := .tuple #[]) (w' := setBlock w g (.map #[] c)) (exec_builtin fun cs => ?_) (K _ (hput _ [g] _ o1 (by simp) (fun b hb => ⟨.inl hb, ?_⟩) fun ok' hm' => ⟨rfl, #[], c, o2, trivial, by simp, by simp, by simp⟩))
  · rw [List.map_toArray]
    refine exec_v ?_
    show (Builtin.clear_ #[t] ty #[ρ.ev m]).run P w = _
    rw [hm]
    unfold Builtin.clear_
    refine (run_bind (run_und ht w)).trans ?_
    refine (run_bind (run_getO hh)).trans ?_
    exact (run_bind (run_setO hh _)).trans rfl
  · simp at hb; subst hb; omega
theorem WL.rangeS {t : TypeId} {m : Operand} {s : List UInt8} (hs : St ok0 w0 w Γ Λ) (ht : P.underlying t = some .string) (hm : ρ.ev m = bstr s)
    (K : ∀ r w', St ok0 w0 w' Γ (sit r s :: Λ) → WL P N ops Q rest (putE ρ d (.pointer (some ⟨r, 0, none⟩))) w')
    (hg : wantedE ops ρ ⟨d, .range t m, ty, pos, aft, gd⟩ = true := by rfl) (hd : fits N d = true := by rfl) :
    WL P N ops Q (⟨d, .range t m, ty, pos, aft, gd⟩ :: rest) ρ w :=
  WL.value hg hd (v := .pointer (some ⟨w.heap.size, 0, none⟩)) (w' := w.alloc (.stringIter ⟨s.toArray⟩ 0)) (by
    show (do pure (Next.value (← Instr.range t (ρ.ev m))) : Sem Next).run P w = _
    rw [hm]
    refine exec_v ?_
    unfold Instr.range bstr
    exact (run_bind (run_und ht w)).trans rfl) (K _ _ (hs.new (below_alloc w _) (bs := [w.heap.size]) (by simp) (by simp [size_alloc]) fun _ _ _ _ => ⟨rfl, heap_new w _⟩))
theorem WL.nextS {it : Operand} {r : Nat} {s : List UInt8} (hs : St ok0 w0 w Γ Λ) (i : Nat) (hi : Λ[i]? = some (sit r s)) (hx : ρ.ev it = .pointer (some ⟨r, 0, none⟩))
    (K1 : s = [] → WL P N ops Q rest (putE ρ d (.tuple #[.bool false])) w)
    (K2 : s ≠ [] → ∀ u v w', St ok0 w0 w' Γ (Λ.set i (junk r)) → WL P N ops Q rest (putE ρ d (.tuple #[.bool true, u, v])) w')
    (hg : wantedE ops ρ ⟨d, .next it true, ty, pos, aft, gd⟩ = true := by rfl) (hd : fits N d = true := by rfl) :
    WL P N ops Q (⟨d, .next it true, ty, pos, aft, gd⟩ :: rest) ρ w := by
  obtain ⟨ok, bs, ho, hA, hn, hbs, hput⟩ := hs.split i hi
  obtain ⟨rfl, hh⟩ := ho
  have hlt := lt_of_some hh
  have hget : (getObj r).run P w = .ok (.stringIter ⟨s.toArray⟩ 0) w := by simp [getObj, Sem.run, hh]
  cases s with
  | nil =>
    exact WL.value hg hd (v := .tuple #[.bool false]) (w' := w) (by
      show (do pure (Next.value (← Instr.next (ρ.ev it) true ty)) : Sem Next).run P w = _
      rw [hx]
      refine exec_v ?_
      unfold Instr.next
      exact (run_bind hget).trans rfl) (K1 rfl)
  | cons b l =>
    generalize hdc : Utf8.decode ⟨(b :: l).toArray⟩ 0 = cw
    have hset : ∀ o', (setObj r o').run P w = .ok () (setBlock w r o') := fun o' => by simp [setObj, Sem.run, hh, setBlock]
    obtain ⟨o1, o2, o3⟩ := off_setBlock (w := w) (g := r) (.stringIter ⟨(b :: l).toArray⟩ (0 + cw.2)) hlt
    refine WL.value hg hd (v := .tuple #[.bool true, goInt 0, .int .i32 cw.1]) (w' := setBlock w r (.stringIter ⟨(b :: l).toArray⟩ (0 + cw.2))) (by
      show (do pure (Next.value (← Instr.next (ρ.ev it) true ty)) : Sem Next).run P w = _
      rw [hx]
      refine exec_v ?_
      unfold Instr.next
      refine (run_bind hget).trans ?_
      have hp : 0 < (⟨(b :: l).toArray⟩ : ByteArray).size := Nat.succ_pos _
      simp only [if_pos hp, hdc]
      exact (run_bind (hset _)).trans rfl) (K2 (by simp) _ _ _ (hput _ [r] _ o1 (by simp) (fun b' hb' => ⟨.inl hb', ?_⟩) fun ok' hm' => ⟨rfl, ?_⟩))
    · rw [o3]; exact (hbs b' hb').2.2
    · rw [o3]; exact hlt
/-- A place of an array. -/
theorem WL.indexAddrA {T E : TypeId} {n : Nat} {x z : Operand} {g j m : Nat} {k : IntKind} {i : Int} {agg : Bool} {sz : Nat} (hx : ρ.ev x = .pointer (some ⟨g, j, none⟩)) (hz : ρ.ev z = .int k i) (hT : P.underlying T = some (.array n E)) (hE : TI P E agg sz) (hi : 0 ≤ i ∧ i < (n : Int)) (hm : j + i.toNat * sz = m)
    (K : WL P N ops Q rest (putE ρ d (.pointer (some ⟨g, m, none⟩))) w)
    (hg : wantedE ops ρ ⟨d, .indexAddr T x z, ty, pos, aft, gd⟩ = true := by rfl) (hd : fits N d = true := by rfl) :
    WL P N ops Q (⟨d, .indexAddr T x z, ty, pos, aft, gd⟩ :: rest) ρ w :=
  WL.value hg hd (v := .pointer (some ⟨g, m, none⟩)) (w' := w) (by
    show (do pure (Next.value (← Instr.indexAt T (ρ.ev x) (ρ.ev z))) : Sem Next).run P w = _
    rw [hx, hz]
    refine exec_v ?_
    unfold Instr.indexAt
    refine (run_bind (x := (k, i)) (w' := w) rfl).trans ?_
    refine (run_bind (run_und hT w)).trans ?_
    refine (run_bind (x := (some ⟨g, j, none⟩, n, E)) (w' := w) rfl).trans ?_
    refine (run_bind (run_und hT w)).trans ?_
    simp only [if_pos hi]
    refine (run_bind (hE.size_ w)).trans ?_
    show Result.ok _ _ = _
    rw [addr_add, hm]) K
end
end Go.Proofs.YtbbeobiampbddaaL
