/- Calls that are given the caller's own objects; maps of the call's own. -/
import Derived.Test.YtbbeobiampbddaaLl
import Derived.Maps.RangeRun
set_option linter.unusedVariables false
set_option linter.unusedSimpArgs false
namespace Go.Proofs.YtbbeobiampbddaaL
open Go Go.RowKit
open Go.ChangeMaps (setBlock)

section
variable {P : Program} {N : Nat} {Q : QE} {ρ : Env} {w : World} {w0 : Base} {ok0 : Nat → Prop} {Γ : List It} {Λ : List LObj}
variable {d : Option Tmp} {ty : TypeId} {pos : String} {aft : Array Edge} {gd : Option (Nat × Bool)} {ops : Array Oper} {rest : List Oper}
theorem WL.callO {f : FuncId} {args : List Operand} {ats : Array TypeId} {vs : List Value} {Y : Type} {val : Y → Value} {Γr : Y → List It} {Λr : Y → List LObj} (Λa : List LObj) {Λb : List LObj} (hs : St ok0 w0 w Γ (Λa ++ Λb)) (hf : FN P f) (ha : Evs ρ args vs)
    (hc : ∀ ok F, St ok F w Γ Λa → Calls P f vs.toArray w fun e w' => ∃ v, e = .returned v ∧ ∃ y, v = val y ∧ St ok F w' (Γr y) (Λr y))
    (K : ∀ y w', St ok0 w0 w' (Γr y ++ Γ) (Λr y ++ Λb) → WL P N ops Q rest (putE ρ d (val y)) w')
    (hg : wantedE ops ρ ⟨d, .call { callee := .value (.func f), args := args.toArray, argTypes := ats }, ty, pos, aft, gd⟩ = true := by rfl) (hd : fits N d = true := by rfl) :
    WL P N ops Q (⟨d, .call { callee := .value (.func f), args := args.toArray, argTypes := ats }, ty, pos, aft, gd⟩ :: rest) ρ w := by
  obtain ⟨ok, bs, h1, hput⟩ := hs.callO
  refine WL.enter hg hd (w' := w) (f := f) (args := vs.toArray) ?_ (hc ok _ h1) ?_
  · show (invoke (.fn (.func f) #[]) (#[] ++ args.toArray.map ρ.ev)).run P w = _
    rw [List.map_toArray, ha.map]
    simpa [invoke] using hf vs.toArray w
  · rintro v w' ⟨y, rfl, hs'⟩
    exact K y w' (hput w' _ _ hs')
/-- What one of the call's own objects tells. -/
theorem St.addO (hs : St ok0 w0 w Γ Λ) (i : Nat) {o : LObj} {it : It} (hi : Λ[i]? = some o) (h : ∀ ok bs, o.H ok bs w → it.holds ok w) : St ok0 w0 w (it :: Γ) Λ := by
  obtain ⟨hB, bss, hN, hlt, hO, hA⟩ := hs
  refine ⟨hB, bss, hN, hlt, hO, fun it' hi' => ?_⟩
  rcases List.mem_cons.1 hi' with rfl | hi'
  · obtain ⟨l1, bs, l2, _, _, ho, _⟩ := Own.split i hO hi
    exact h _ bs ho
  · exact hA _ hi'
end

/-! Maps. -/
/-- A kind of keys. -/
structure KK (P : Program) {κ : Type} [BEq κ] (t : TypeId) (kv : κ → Value) : Prop where
  und : ∃ desc, P.underlying t = some desc ∧ ∀ a b, Instr.sameNow desc (kv a) (kv b) = some (a == b)
  bits : ∀ a, Instr.sameBits 10000 (kv a) (kv a) = true
  chk : ∀ e a w, (Instr.checkKey e 10000 t (kv a)).run P w = .ok () w
theorem kkInt {P : Program} {t : TypeId} {k : IntKind} (h : P.underlying t = some (.int k)) : KK P t (fun a : Int => .int k a) where
  und := ⟨_, h, fun a b => by simp [Instr.sameNow]⟩
  bits := fun a => by simp [Instr.sameBits]
  chk := fun e a w => by unfold Instr.checkKey; exact (run_bind (run_und h w)).trans rfl
theorem beqB (a b : List UInt8) : ((⟨a.toArray⟩ : ByteArray) == ⟨b.toArray⟩) = (a == b) := by
  show (a.toArray == b.toArray) = (a == b)
  simp
theorem kkStr {P : Program} {t : TypeId} (h : P.underlying t = some .string) : KK P t bstr where
  und := ⟨_, h, fun a b => by
    simp [Instr.sameNow, bstr, beqB]⟩
  bits := fun a => by simp [Instr.sameBits, bstr, beqB]
  chk := fun e a w => by unfold Instr.checkKey; exact (run_bind (run_und h w)).trans rfl

section
set_option linter.unusedSectionVars false
variable {κ β : Type} [BEq κ] [LawfulBEq κ]
/-- m[k] = y. -/
def mset : List (κ × β) → κ → β → List (κ × β)
  | [], k, y => [(k, y)]
  | e :: l, k, y => if k == e.1 then (e.1, y) :: l else e :: mset l k y
/-- delete(m, k). -/
def mdel : List (κ × β) → κ → List (κ × β)
  | [], _ => []
  | e :: l, k => if k == e.1 then l else e :: mdel l k

/-- A map's entries. -/
def Ents (kv : κ → Value) (V : Ty β) (ok : Nat → Prop) (w : World) : List (κ × β) → List MapEntry → Prop
  | [], [] => True
  | x :: l, e :: es => e.key = kv x.1 ∧ V.V ok w x.2 e.val ∧ Ents kv V ok w l es
  | _, _ => False
variable {kv : κ → Value} {V : Ty β} {ok ok' : Nat → Prop} {w w' : World}
theorem Ents.move (hm : ∀ b, ok b → b < w.heap.size → w'.heap[b]? = w.heap[b]? ∧ ok' b) : ∀ {l : List (κ × β)} {es : List MapEntry}, Ents kv V ok w l es → Ents kv V ok' w' l es
  | [], [], _ => trivial
  | _ :: _, _ :: _, ⟨h1, h2, h3⟩ => ⟨h1, h2.move hm, Ents.move hm h3⟩
  | [], _ :: _, h => h.elim
  | _ :: _, [], h => h.elim
theorem Ents.length : ∀ {l : List (κ × β)} {es : List MapEntry}, Ents kv V ok w l es → l.length = es.length
  | [], [], _ => rfl
  | _ :: _, _ :: _, ⟨_, _, h⟩ => by simp [Ents.length h]
  | [], _ :: _, h => h.elim
  | _ :: _, [], h => h.elim
theorem Ents.app : ∀ {l l' : List (κ × β)} {es es' : List MapEntry}, Ents kv V ok w l es → Ents kv V ok w l' es' → Ents kv V ok w (l ++ l') (es ++ es')
  | [], _, [], _, _, h => h
  | _ :: _, _, _ :: _, _, ⟨h1, h2, h3⟩, h => ⟨h1, h2, Ents.app h3 h⟩
  | [], _, _ :: _, _, h, _ => h.elim
  | _ :: _, _, [], _, h, _ => h.elim
/-- What a search finds. -/
theorem findNow_ents {P : Program} {t : TypeId} {desc : TypeDesc} (hsame : ∀ a b, Instr.sameNow desc (kv a) (kv b) = some (a == b)) (k : κ) : ∀ {l : List (κ × β)} {es : List MapEntry} (i : Nat), Ents kv V ok w l es →
    (l.lookup k = none ∧ Instr.findNow desc (kv k) es i = some none ∧ (∀ y, mset l k y = l ++ [(k, y)]) ∧ mdel l k = l ∧ k ∉ l.map (·.1)) ∨
    ∃ j y e, l.lookup k = some y ∧ es[j]? = some e ∧ e.key = kv k ∧ Instr.findNow desc (kv k) es i = some (some (i + j, e.val)) ∧ V.V ok w y e.val ∧
      (∀ y' e', e'.key = kv k → V.V ok w y' e'.val → Ents kv V ok w (mset l k y') (es.set j e')) ∧ (∀ y', (mset l k y').map (·.1) = l.map (·.1)) ∧ Ents kv V ok w (mdel l k) (es.eraseIdx j)
  | [], [], i, _ => .inl ⟨rfl, rfl, fun _ => rfl, rfl, by simp⟩
  | x :: l, e :: es, i, ⟨h1, h2, h3⟩ => by
    have hs := hsame k x.1
    rw [← h1] at hs
    cases hkx : k == x.1 with
    | true =>
      have hk : k = x.1 := by simpa using hkx
      refine .inr ⟨0, x.2, e, by simp [List.lookup, hkx], rfl, by rw [h1, hk], by rw [Instr.findNow, hs, hkx]; rfl, h2, fun y' e' a b => ?_, fun y' => by simp [mset, hkx], by simpa [mdel, hkx] using h3⟩
      simp only [mset, hkx, if_true]
      exact ⟨by rw [a, hk], b, h3⟩
    | false =>
      rcases findNow_ents (P := P) (t := t) hsame k (i + 1) h3 with ⟨a1, a2, a3, a4, a5⟩ | ⟨j, y, e0, a1, a2, a3, a4, a5, a6, a7, a8⟩
      · refine .inl ⟨by simp [List.lookup, hkx, a1], by rw [Instr.findNow, hs, hkx]; exact a2, fun y => by simp [mset, hkx, a3 y], by simp [mdel, hkx, a4], ?_⟩
        simp only [List.map_cons, List.mem_cons, not_or]
        exact ⟨by simpa using hkx, a5⟩
      · refine .inr ⟨j + 1, y, e0, by simp [List.lookup, hkx, a1], by simpa using a2, a3, by rw [Instr.findNow, hs, hkx]; simpa [Nat.add_assoc, Nat.add_comm 1] using a4, a5, fun y' e' p q => ?_, fun y' => by simp [mset, hkx, a7 y'], ?_⟩
        · simp only [mset, hkx]
          exact ⟨h1, h2, a6 y' e' p q⟩
        · simp only [mdel, hkx]
          exact ⟨h1, h2, a8⟩
  | [], _ :: _, _, h => h.elim
  | _ :: _, [], _, h => h.elim

/-- A map of the call's own. -/
def mapo (kv : κ → Value) (V : Ty β) (g : Nat) (l : List (κ × β)) : LObj where
  H := fun ok bs w => bs = [g] ∧ ∃ es clock, w.heap[g]? = some (.map es clock) ∧ Ents kv V ok w l es.toList ∧ (es.toList.map (·.born)).Nodup ∧ (∀ e ∈ es.toList, e.born < clock) ∧ (l.map (·.1)).Nodup
  fn := by rintro _ _ _ _ _ ⟨rfl, _⟩ ⟨rfl, _⟩; rfl
  lt := by rintro _ _ _ ⟨rfl, es, c, h, _⟩ b hb; simp at hb; subst hb; exact lt_of_some h
  move := by
    rintro _ _ _ _ _ ⟨rfl, es, c, h, he, h2⟩ hk hm
    exact ⟨rfl, es, c, (hk g (by simp)).trans h, he.move hm, h2⟩
end

theorem run_getO {P : Program} {w : World} {g : Nat} {es : Array MapEntry} {c : Nat} (h : w.heap[g]? = some (.map es c)) : (getObj g).run P w = .ok (.map es c) w := by simp [getObj, Sem.run, h]
theorem run_setO {P : Program} {w : World} {g : Nat} {es : Array MapEntry} {c : Nat} (h : w.heap[g]? = some (.map es c)) (o' : Obj) : (setObj g o').run P w = .ok () (setBlock w g o') := by
  simp [setObj, Sem.run, h, setBlock]
theorem off_setBlock {w : World} {g : Nat} (o : Obj) (h : g < w.heap.size) : Off [g] w (setBlock w g o) ∧ (setBlock w g o).heap[g]? = some o ∧ (setBlock w g o).heap.size = w.heap.size := by
  refine ⟨⟨rfl, rfl, rfl, by simp [setBlock], fun k hk hn => ?_⟩, by simp [setBlock, h], by simp [setBlock]⟩
  have : g ≠ k := fun e => hn (by simp [e])
  simp [setBlock, this]

section
variable {P : Program} {N : Nat} {Q : QE} {ρ : Env} {w : World} {w0 : Base} {ok0 : Nat → Prop} {Γ : List It} {Λ : List LObj}
variable {d : Option Tmp} {ty : TypeId} {pos : String} {aft : Array Edge} {gd : Option (Nat × Bool)} {ops : Array Oper} {rest : List Oper}
variable {κ β : Type} [BEq κ] [LawfulBEq κ] {kv : κ → Value} {V : Ty β}
theorem WL.makeMap (kv : κ → Value) (V : Ty β) {t : TypeId} (hs : St ok0 w0 w Γ Λ)
    (K : ∀ g w', St ok0 w0 w' Γ (mapo kv V g [] :: Λ) → WL P N ops Q rest (putE ρ d (.map (some g))) w')
    (hg : wantedE ops ρ ⟨d, .makeMap t none, ty, pos, aft, gd⟩ = true := by rfl) (hd : fits N d = true := by rfl) :
    WL P N ops Q (⟨d, .makeMap t none, ty, pos, aft, gd⟩ :: rest) ρ w :=
  WL.value hg hd (v := .map (some w.heap.size)) (w' := w.alloc (.map #[] 0)) (by
    show (do pure (Next.value (← Instr.makeMap t none)) : Sem Next).run P w = _
    exact exec_v rfl) (K _ _ (hs.new (below_alloc w _) (bs := [w.heap.size]) (by simp) (by simp [size_alloc]) fun _ _ _ _ => ⟨rfl, #[], 0, heap_new w _, trivial, by simp, by simp, by simp⟩))
theorem run_findKey {t : TypeId} {desc : TypeDesc} {k : Value} {es : List MapEntry} {r : Option (Nat × Value)} (h : P.underlying t = some desc) (hf : Instr.findNow desc k es 0 = some r) (w : World) : (Instr.findKey t k es).run P w = .ok r w := by
  unfold Instr.findKey
  refine (run_bind (run_und h w)).trans ?_
  rw [hf]
  rfl
theorem WL.lookup {t kt et : TypeId} {m x : Operand} {g : Nat} {l : List (κ × β)} {a : κ} {z0 : β} {zc : Value} (hs : St ok0 w0 w Γ Λ) (i : Nat) (hi : Λ[i]? = some (mapo kv V g l)) (hk : KK P kt kv) (ht : P.underlying t = some (.map kt et))
    (hm : ρ.ev m = .map (some g)) (hx : ρ.ev x = kv a) (hz : ∀ w, (zeroValue et).run P w = .ok zc w) (hzV : ∀ (ok : Nat → Prop) (w : World), V.V ok w z0 zc) {y : β} (hy : (l.lookup a).getD z0 = y)
    (K : ∀ v, St ok0 w0 w (vl V y v :: Γ) Λ → WL P N ops Q rest (putE ρ d v) w)
    (hg : wantedE ops ρ ⟨d, .lookup t m x false, ty, pos, aft, gd⟩ = true := by rfl) (hd : fits N d = true := by rfl) :
    WL P N ops Q (⟨d, .lookup t m x false, ty, pos, aft, gd⟩ :: rest) ρ w := by
  subst hy
  obtain ⟨ok, bs, ho, hA, _, _, _⟩ := hs.split i hi
  obtain ⟨_, es, c, hh, he, _, _, _⟩ := ho
  obtain ⟨desc, hu, hsame⟩ := hk.und
  have go : ∀ r : Option (Nat × Value), Instr.findNow desc (kv a) es.toList 0 = some r → ∀ v, (match r with | some (_, v) => v | none => zc) = v → (Instr.lookup t (.map (some g)) (kv a) false).run P w = .ok v w := by
    intro r hr v hv
    unfold Instr.lookup
    refine (run_bind (run_und ht w)).trans ?_
    refine (run_bind ((run_bind (run_getO hh)).trans rfl)).trans ?_
    refine (run_bind (hk.chk _ a w)).trans ?_
    refine (run_bind (run_findKey hu hr w)).trans ?_
    cases r with
    | none => subst hv; exact (run_bind (hz w)).trans rfl
    | some p => obtain ⟨j, u⟩ := p; subst hv; rfl
  have fin : ∀ v, (Instr.lookup t (.map (some g)) (kv a) false).run P w = .ok v w → St ok0 w0 w (vl V ((l.lookup a).getD z0) v :: Γ) Λ → WL P N ops Q (⟨d, .lookup t m x false, ty, pos, aft, gd⟩ :: rest) ρ w := by
    intro v hv hst
    exact WL.value hg hd (v := v) (w' := w) (by
      show (do pure (Next.value (← Instr.lookup t (ρ.ev m) (ρ.ev x) false)) : Sem Next).run P w = _
      rw [hm, hx]
      exact exec_v hv) (K v hst)
  rcases findNow_ents (P := P) (t := t) hsame a 0 he with ⟨a1, a2, _⟩ | ⟨j, y, e, a1, a2, a3, a4, a5, _⟩
  · exact fin zc (go _ a2 _ rfl) (hs.add fun ok _ => by rw [a1]; exact hzV ok w)
  · refine fin e.val (go _ a4 _ rfl) (hs.addO i hi fun ok' bs' h' => ?_)
    obtain ⟨_, es', c', hh', he', _⟩ := h'
    rw [hh] at hh'
    cases hh'
    rcases findNow_ents (P := P) (t := t) hsame a 0 he' with ⟨b1, _⟩ | ⟨j', y', e', b1, b2, b3, b4, b5, _⟩
    · rw [a1] at b1; cases b1
    · rw [a4] at b4
      simp only [Option.some.injEq, Prod.mk.injEq] at b4
      rw [b1]
      show V.V ok' w y' e.val
      rw [b4.2]
      exact b5
theorem WL.lookup2 {t kt et : TypeId} {m x : Operand} {g : Nat} {l : List (κ × β)} {a : κ} {z0 : β} {zc : Value} (hs : St ok0 w0 w Γ Λ) (i : Nat) (hi : Λ[i]? = some (mapo kv V g l)) (hk : KK P kt kv) (ht : P.underlying t = some (.map kt et))
    (hm : ρ.ev m = .map (some g)) (hx : ρ.ev x = kv a) (hz : ∀ w, (zeroValue et).run P w = .ok zc w) (hzV : ∀ (ok : Nat → Prop) (w : World), V.V ok w z0 zc) {y : β} (hy : (l.lookup a).getD z0 = y)
    (K : ∀ v, St ok0 w0 w (vl V y v :: Γ) Λ → WL P N ops Q rest (putE ρ d (.tuple #[v, .bool (l.lookup a).isSome])) w)
    (hg : wantedE ops ρ ⟨d, .lookup t m x true, ty, pos, aft, gd⟩ = true := by rfl) (hd : fits N d = true := by rfl) :
    WL P N ops Q (⟨d, .lookup t m x true, ty, pos, aft, gd⟩ :: rest) ρ w := by
  subst hy
  obtain ⟨ok, bs, ho, hA, _, _, _⟩ := hs.split i hi
  obtain ⟨_, es, c, hh, he, _, _, _⟩ := ho
  obtain ⟨desc, hu, hsame⟩ := hk.und
  have go : ∀ r : Option (Nat × Value), Instr.findNow desc (kv a) es.toList 0 = some r → ∀ v, (match r with | some (_, v) => v | none => zc) = v → (Instr.lookup t (.map (some g)) (kv a) true).run P w = .ok (.tuple #[v, .bool r.isSome]) w := by
    intro r hr v hv
    unfold Instr.lookup
    refine (run_bind (run_und ht w)).trans ?_
    refine (run_bind ((run_bind (run_getO hh)).trans rfl)).trans ?_
    refine (run_bind (hk.chk _ a w)).trans ?_
    refine (run_bind (run_findKey hu hr w)).trans ?_
    cases r with
    | none => subst hv; exact (run_bind (hz w)).trans rfl
    | some p => obtain ⟨j, u⟩ := p; subst hv; rfl
  have fin : ∀ v, (Instr.lookup t (.map (some g)) (kv a) true).run P w = .ok (.tuple #[v, .bool (l.lookup a).isSome]) w → St ok0 w0 w (vl V ((l.lookup a).getD z0) v :: Γ) Λ → WL P N ops Q (⟨d, .lookup t m x true, ty, pos, aft, gd⟩ :: rest) ρ w := by
    intro v hv hst
    exact WL.value hg hd (v := .tuple #[v, .bool (l.lookup a).isSome]) (w' := w) (by
      show (do pure (Next.value (← Instr.lookup t (ρ.ev m) (ρ.ev x) true)) : Sem Next).run P w = _
      rw [hm, hx]
      exact exec_v hv) (K v hst)
  rcases findNow_ents (P := P) (t := t) hsame a 0 he with ⟨a1, a2, _⟩ | ⟨j, y, e, a1, a2, a3, a4, a5, _⟩
  · exact fin zc (by have := go _ a2 _ rfl; rw [a1]; exact this) (hs.add fun ok _ => by rw [a1]; exact hzV ok w)
  · refine fin e.val (by have := go _ a4 _ rfl; rw [a1]; exact this) (hs.addO i hi fun ok' bs' h' => ?_)
    obtain ⟨_, es', c', hh', he', _⟩ := h'
    rw [hh] at hh'
    cases hh'
    rcases findNow_ents (P := P) (t := t) hsame a 0 he' with ⟨b1, _⟩ | ⟨j', y', e', b1, b2, b3, b4, b5, _⟩
    · rw [a1] at b1; cases b1
    · rw [a4] at b4
      simp only [Option.some.injEq, Prod.mk.injEq] at b4
      rw [b1]
      show V.V ok' w y' e.val
      rw [b4.2]
      exact b5
theorem WL.mapUpdate {t kt et : TypeId} {m x u : Operand} {g : Nat} {l l' : List (κ × β)} {a : κ} {y : β} {v : Value} (hs : St ok0 w0 w Γ Λ) (i : Nat) (hi : Λ[i]? = some (mapo kv V g l)) (hk : KK P kt kv) (ht : P.underlying t = some (.map kt et))
    (hm : ρ.ev m = .map (some g)) (hx : ρ.ev x = kv a) (hu : ρ.ev u = v) (hV : ∀ ok, All ok w Γ → V.V ok w y v) (hl : mset l a y = l')
    (K : ∀ w', St ok0 w0 w' Γ (Λ.set i (mapo kv V g l')) → WL P N ops Q rest (putE ρ d undef) w')
    (hg : wantedE ops ρ ⟨d, .mapUpdate t m x u, ty, pos, aft, gd⟩ = true := by rfl) (hd : fits N d = true := by rfl) :
    WL P N ops Q (⟨d, .mapUpdate t m x u, ty, pos, aft, gd⟩ :: rest) ρ w := by
  subst hl
  obtain ⟨ok, bs, ho, hA, hn, hbs, hput⟩ := hs.split i hi
  obtain ⟨rfl, es, c, hh, he, hb1, hb2, hnd⟩ := ho
  have hlt := lt_of_some hh
  obtain ⟨desc, hud, hsame⟩ := hk.und
  have hVy := hV ok hA
  have fin : ∀ (es' : Array MapEntry) (c' : Nat), (Instr.mapUpdate t (.map (some g)) (kv a) v).run P w = .ok () (setBlock w g (.map es' c')) → Ents kv V ok w (mset l a y) es'.toList →
      (es'.toList.map (·.born)).Nodup → (∀ e ∈ es'.toList, e.born < c') → ((mset l a y).map (·.1)).Nodup → WL P N ops Q (⟨d, .mapUpdate t m x u, ty, pos, aft, gd⟩ :: rest) ρ w := by
    intro es' c' hrun h1 h2 h3 h4
    obtain ⟨o1, o2, o3⟩ := off_setBlock (w := w) (g := g) (.map es' c') hlt
    refine WL.unit hg hd (w' := setBlock w g (.map es' c')) (by
      show (do Instr.mapUpdate t (ρ.ev m) (ρ.ev x) (ρ.ev u); pure Next.skip : Sem Next).run P w = _
      rw [hm, hx, hu]
      exact exec_u hrun) (K _ (hput _ [g] _ o1 (by simp) (fun b hb => ⟨.inl hb, ?_⟩) fun ok' hm' => ⟨rfl, es', c', o2, h1.move hm', h2, h3, h4⟩))
    simp at hb; subst hb; omega
  have pre : ∀ r : Option (Nat × Value), Instr.findNow desc (kv a) es.toList 0 = some r → (Instr.mapUpdate t (.map (some g)) (kv a) v).run P w =
      ((match r with
        | some (i, _) => do
          let key ← Instr.keyThatStays (((es[i]?).map (·.key)).getD (kv a)) (kv a)
          setObj g (.map (es.modify i fun e => { e with key, val := v }) c)
        | none => setObj g (.map (es.push { key := kv a, val := v, born := c }) (c + 1))) : Sem Unit).run P w := by
    intro r hr
    unfold Instr.mapUpdate
    refine (run_bind (run_und ht w)).trans ?_
    refine (run_bind (run_getO hh)).trans ?_
    refine (run_bind (hk.chk _ a w)).trans ?_
    exact (run_bind (run_findKey hud hr w)).trans rfl
  rcases findNow_ents (P := P) (t := t) hsame a 0 he with ⟨a1, a2, a3, _, a5⟩ | ⟨j, y0, e, a1, a2, a3, a4, a5, a6, a7, _⟩
  · refine fin (es.push { key := kv a, val := v, born := c }) (c + 1) ((pre _ a2).trans (run_setO hh _)) ?_ ?_ ?_ ?_
    · rw [a3 y, Array.toList_push]
      exact Ents.app he ⟨rfl, hVy, trivial⟩
    · rw [Array.toList_push, List.map_append, List.nodup_append]
      refine ⟨hb1, by simp, fun p hp q hq => ?_⟩
      obtain ⟨e, he, rfl⟩ := List.mem_map.1 hp
      simp at hq
      have := hb2 e he
      omega
    · intro e he
      rw [Array.toList_push] at he
      rcases List.mem_append.1 he with he | he
      · have := hb2 e he; omega
      · simp at he; subst he; simp
    · rw [a3 y, List.map_append, List.nodup_append]
      exact ⟨hnd, by simp, fun p hp q hq e => by simp at hq; subst hq; subst e; exact a5 hp⟩
  · have hj : es[j]? = some e := by simpa using a2
    have hkey : (((es[j]?).map (·.key)).getD (kv a)) = kv a := by rw [hj]; exact a3
    have hset : (es.modify j fun e => { e with key := kv a, val := v }).toList = es.toList.set j { e with key := kv a, val := v } := by
      rw [Array.toList_modify]
      apply List.ext_getElem?
      intro q
      rw [List.getElem?_modify, List.getElem?_set]
      by_cases hq : j = q
      · subst hq
        have hjs : j < es.size := by simpa using (List.getElem?_eq_some_iff.1 a2).1
        have a2' : es[j]? = some e := hj
        rw [if_pos rfl, if_pos (by simpa using hjs), a2]
        simp
      · simp [hq]
    refine fin (es.modify j fun e => { e with key := kv a, val := v }) c ((pre _ a4).trans ?_) ?_ ?_ ?_ ?_
    · simp only [Nat.zero_add, hkey]
      refine (run_bind (x := kv a) (w' := w) ?_).trans (run_setO hh _)
      unfold Instr.keyThatStays
      rw [hk.bits, if_pos rfl]
      rfl
    · rw [hset]; exact a6 y _ rfl hVy
    · have hborn : (es.toList.set j { e with key := kv a, val := v }).map (·.born) = es.toList.map (·.born) := by
        apply List.ext_getElem?
        intro q
        rw [List.getElem?_map, List.getElem?_map, List.getElem?_set]
        by_cases hq : j = q
        · subst hq
          have := (List.getElem?_eq_some_iff.1 a2).1
          rw [if_pos rfl, if_pos this, a2]
          rfl
        · simp [hq]
      rw [hset, hborn]
      exact hb1
    · intro e' he'
      rw [hset] at he'
      rcases List.mem_or_eq_of_mem_set he' with h | h
      · exact hb2 e' h
      · subst h; exact hb2 e (List.mem_of_getElem? a2)
    · rw [a7]; exact hnd
theorem WL.insert {t kt et : TypeId} {m x u : Operand} {g : Nat} {l l' : List (κ × β)} {a : κ} {y : β} {v : Value} (hs : St ok0 w0 w Γ Λ) (i : Nat) (hi : Λ[i]? = some (mapo kv V g l)) (hk : KK P kt kv) (ht : P.underlying t = some (.map kt et))
    (hm : ρ.ev m = .map (some g)) (hx : ρ.ev x = kv a) (hu : ρ.ev u = v) (hV : ∀ ok, All ok w Γ → V.V ok w y v) (hl : mset l a y = l')
    (K : ∀ w', St ok0 w0 w' Γ (Λ.set i (mapo kv V g l')) → WL P N ops Q rest (putE ρ d undef) w')
    (hg : wantedE ops ρ ⟨d, .insert t m x u, ty, pos, aft, gd⟩ = true := by rfl) (hd : fits N d = true := by rfl) :
    WL P N ops Q (⟨d, .insert t m x u, ty, pos, aft, gd⟩ :: rest) ρ w := by
  subst hl
  obtain ⟨ok, bs, ho, hA, hn, hbs, hput⟩ := hs.split i hi
  obtain ⟨rfl, es, c, hh, he, hb1, hb2, hnd⟩ := ho
  have hlt := lt_of_some hh
  obtain ⟨desc, hud, hsame⟩ := hk.und
  have hVy := hV ok hA
  have fin : ∀ (es' : Array MapEntry) (c' : Nat), (Instr.mapUpdate t (.map (some g)) (kv a) v).run P w = .ok () (setBlock w g (.map es' c')) → Ents kv V ok w (mset l a y) es'.toList →
      (es'.toList.map (·.born)).Nodup → (∀ e ∈ es'.toList, e.born < c') → ((mset l a y).map (·.1)).Nodup → WL P N ops Q (⟨d, .insert t m x u, ty, pos, aft, gd⟩ :: rest) ρ w := by
    intro es' c' hrun h1 h2 h3 h4
    obtain ⟨o1, o2, o3⟩ := off_setBlock (w := w) (g := g) (.map es' c') hlt
    refine WL.unit hg hd (w' := setBlock w g (.map es' c')) (by
      show (do Instr.mapUpdate t (ρ.ev m) (ρ.ev x) (ρ.ev u); pure Next.skip : Sem Next).run P w = _
      rw [hm, hx, hu]
      exact exec_u hrun) (K _ (hput _ [g] _ o1 (by simp) (fun b hb => ⟨.inl hb, ?_⟩) fun ok' hm' => ⟨rfl, es', c', o2, h1.move hm', h2, h3, h4⟩))
    simp at hb; subst hb; omega
  have pre : ∀ r : Option (Nat × Value), Instr.findNow desc (kv a) es.toList 0 = some r → (Instr.mapUpdate t (.map (some g)) (kv a) v).run P w =
      ((match r with
        | some (i, _) => do
          let key ← Instr.keyThatStays (((es[i]?).map (·.key)).getD (kv a)) (kv a)
          setObj g (.map (es.modify i fun e => { e with key, val := v }) c)
        | none => setObj g (.map (es.push { key := kv a, val := v, born := c }) (c + 1))) : Sem Unit).run P w := by
    intro r hr
    unfold Instr.mapUpdate
    refine (run_bind (run_und ht w)).trans ?_
    refine (run_bind (run_getO hh)).trans ?_
    refine (run_bind (hk.chk _ a w)).trans ?_
    exact (run_bind (run_findKey hud hr w)).trans rfl
  rcases findNow_ents (P := P) (t := t) hsame a 0 he with ⟨a1, a2, a3, _, a5⟩ | ⟨j, y0, e, a1, a2, a3, a4, a5, a6, a7, _⟩
  · refine fin (es.push { key := kv a, val := v, born := c }) (c + 1) ((pre _ a2).trans (run_setO hh _)) ?_ ?_ ?_ ?_
    · rw [a3 y, Array.toList_push]
      exact Ents.app he ⟨rfl, hVy, trivial⟩
    · rw [Array.toList_push, List.map_append, List.nodup_append]
      refine ⟨hb1, by simp, fun p hp q hq => ?_⟩
      obtain ⟨e, he, rfl⟩ := List.mem_map.1 hp
      simp at hq
      have := hb2 e he
      omega
    · intro e he
      rw [Array.toList_push] at he
      rcases List.mem_append.1 he with he | he
      · have := hb2 e he; omega
      · simp at he; subst he; simp
    · rw [a3 y, List.map_append, List.nodup_append]
      exact ⟨hnd, by simp, fun p hp q hq e => by simp at hq; subst hq; subst e; exact a5 hp⟩
  · have hj : es[j]? = some e := by simpa using a2
    have hkey : (((es[j]?).map (·.key)).getD (kv a)) = kv a := by rw [hj]; exact a3
    have hset : (es.modify j fun e => { e with key := kv a, val := v }).toList = es.toList.set j { e with key := kv a, val := v } := by
      rw [Array.toList_modify]
      apply List.ext_getElem?
      intro q
      rw [List.getElem?_modify, List.getElem?_set]
      by_cases hq : j = q
      · subst hq
        have hjs : j < es.size := by simpa using (List.getElem?_eq_some_iff.1 a2).1
        have a2' : es[j]? = some e := hj
        rw [if_pos rfl, if_pos (by simpa using hjs), a2]
        simp
      · simp [hq]
    refine fin (es.modify j fun e => { e with key := kv a, val := v }) c ((pre _ a4).trans ?_) ?_ ?_ ?_ ?_
    · simp only [Nat.zero_add, hkey]
      refine (run_bind (x := kv a) (w' := w) ?_).trans (run_setO hh _)
      unfold Instr.keyThatStays
      rw [hk.bits, if_pos rfl]
      rfl
    · rw [hset]; exact a6 y _ rfl hVy
    · have hborn : (es.toList.set j { e with key := kv a, val := v }).map (·.born) = es.toList.map (·.born) := by
        apply List.ext_getElem?
        intro q
        rw [List.getElem?_map, List.getElem?_map, List.getElem?_set]
        by_cases hq : j = q
        · subst hq
          have := (List.getElem?_eq_some_iff.1 a2).1
          rw [if_pos rfl, if_pos this, a2]
          rfl
        · simp [hq]
      rw [hset, hborn]
      exact hb1
    · intro e' he'
      rw [hset] at he'
      rcases List.mem_or_eq_of_mem_set he' with h | h
      · exact hb2 e' h
      · subst h; exact hb2 e (List.mem_of_getElem? a2)
    · rw [a7]; exact hnd
theorem len_map {T kt et : TypeId} {g : Nat} {l : List (κ × β)} (hs : St ok0 w0 w Γ Λ) (i : Nat) (hi : Λ[i]? = some (mapo kv V g l)) (hT : P.underlying T = some (.map kt et)) : (Builtin.len_ #[T] ty #[.map (some g)]).run P w = .ok (.int .i64 (l.length : Int)) w := by
  obtain ⟨ok, bs, ho, _⟩ := hs.split i hi
  obtain ⟨_, es, c, hh, he, _⟩ := ho
  have hl : l.length = es.size := by rw [he.length]; simp
  unfold Builtin.len_
  refine (run_bind (run_und hT w)).trans ?_
  refine (run_bind (run_getO hh)).trans ?_
  rw [hl]
  rfl
end
end Go.Proofs.YtbbeobiampbddaaL
