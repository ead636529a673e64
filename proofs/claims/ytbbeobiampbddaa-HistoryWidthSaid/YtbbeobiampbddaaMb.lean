/- Maps that are only read; a map of maps once it is only read. -/
import Derived.Test.YtbbeobiampbddaaMa
import Derived.Maps.Own
import Derived.Sort.KeysCollected
set_option linter.unusedVariables false
set_option linter.unusedSimpArgs false
namespace Go.Proofs.YtbbeobiampbddaaL
open Go Go.RowKit
section
variable {κ β : Type} [BEq κ] [LawfulBEq κ]
/-- A map that is only read: nil, or a block of entries. -/
def tMap (kv : κ → Value) (V : Ty β) : Ty (List (κ × β)) where
  sz := 1
  agg := false
  R := fun ok w l cs => (cs = [.map none] ∧ l = []) ∨ ∃ g es c, cs = [.map (some g)] ∧ ok g ∧ w.heap[g]? = some (.map es c) ∧ Ents kv V ok w l es.toList ∧ (es.toList.map (·.born)).Nodup ∧ (∀ e ∈ es.toList, e.born < c) ∧ (l.map (·.1)).Nodup
  len := by rintro _ _ _ _ (⟨rfl, _⟩ | ⟨g, es, c, rfl, _⟩) <;> rfl
  one := by
    rintro _ _ _ _ (⟨rfl, _⟩ | ⟨g, es, c, rfl, _⟩) u hu <;> simp at hu <;> subst hu <;> rfl
  move := by
    rintro ok ok' w w' l cs (h | ⟨g, es, c, rfl, hg, hh, he, h1, h2, h3⟩) hm
    · exact .inl h
    · obtain ⟨e, hg'⟩ := hm g hg (lt_of_some hh)
      exact .inr ⟨g, es, c, rfl, hg', e.trans hh, he.move hm, h1, h2, h3⟩
theorem tMap_V {kv : κ → Value} {V : Ty β} {ok : Nat → Prop} {w : World} {l : List (κ × β)} {v : Value} :
    (tMap kv V).V ok w l v ↔ (v = .map none ∧ l = []) ∨ ∃ g es c, v = .map (some g) ∧ ok g ∧ w.heap[g]? = some (.map es c) ∧ Ents kv V ok w l es.toList ∧ (es.toList.map (·.born)).Nodup ∧ (∀ e ∈ es.toList, e.born < c) ∧ (l.map (·.1)).Nodup := by
  constructor
  · rintro ⟨_, (⟨rfl, h⟩ | ⟨g, es, c, rfl, h⟩), rfl⟩
    · exact .inl ⟨rfl, h⟩
    · exact .inr ⟨g, es, c, rfl, h⟩
  · rintro (⟨rfl, h⟩ | ⟨g, es, c, rfl, h⟩)
    · exact ⟨_, .inl ⟨rfl, h⟩, rfl⟩
    · exact ⟨_, .inr ⟨g, es, c, rfl, h⟩, rfl⟩
omit [BEq κ] [LawfulBEq κ] in
/-- Entries, told by another kind. -/
theorem Ents.conv {β γ ι : Type} {kv : κ → Value} {V : Ty β} {V' : Ty γ} {ok ok' : Nat → Prop} {w w' : World} {p : ι → κ × β} {p' : ι → κ × γ} : ∀ {b : List ι} {es : List MapEntry}, (∀ o ∈ b, (p o).1 = (p' o).1) → (∀ o ∈ b, ∀ v, V.V ok w (p o).2 v → V'.V ok' w' (p' o).2 v) →
    Ents kv V ok w (b.map p) es → Ents kv V' ok' w' (b.map p') es
  | [], [], _, _, _ => trivial
  | o :: b, e :: es, hk, hv, ⟨h1, h2, h3⟩ => ⟨by rw [← hk o (by simp)]; exact h1, hv o (by simp) _ h2, Ents.conv (fun q hq => hk q (by simp [hq])) (fun q hq => hv q (by simp [hq])) h3⟩
  | [], _ :: _, _, _, h => h.elim
  | _ :: _, [], _, _, h => h.elim
theorem Own.memS {ok : Nat → Prop} {w : World} : ∀ {L : List LObj} {bss : List (List Nat)}, Own ok w L bss → ∀ o ∈ L, ∃ bs, o.H ok bs w ∧ ∀ b ∈ bs, b ∈ bss.flatten
  | [], _, _, o, ho => by simp at ho
  | q :: L, bs :: bss, ⟨h1, h2⟩, o, ho => by
    rcases List.mem_cons.1 ho with rfl | ho
    · exact ⟨bs, h1, fun b hb => by simp [hb]⟩
    · obtain ⟨bs', h3, h4⟩ := Own.memS h2 o ho
      exact ⟨bs', h3, fun b hb => by rw [List.flatten_cons]; exact List.mem_append.2 (.inr (h4 b hb))⟩
  | _ :: _, [], h, _, _ => h.elim
end
section
variable {φ : Type} (K : FK φ)
/-- The content, as a map of maps that is only read has it. -/
def frz (x : List (List UInt8 × List φ)) : List (List UInt8 × List (List UInt8 × φ)) := x.map fun o => (o.1, o.2.map fun y => (K.nm y, y))
variable {w : World} {w0 : Base} {ok0 : Nat → Prop} {Γ : List It} {Λ : List LObj} {g : Nat} {x : List (List UInt8 × List φ)} {C : List (BE φ) → Prop}
/-- From now on the map of maps is only read. -/
theorem St.bldFreeze {T : Ty φ} (hT : ∀ (ok : Nat → Prop) (w : World) (y : φ) (v : Value), (tSlice tStr).V ok w (K.fe y) v → T.R ok w y (K.fc y v)) (hTa : T.agg = true) (hs : St ok0 w0 w Γ (bldc K C g x :: Λ)) :
    St ok0 w0 w (vl (tMap bstr (tMap bstr T)) (frz K x) (.map (some g)) :: Γ) Λ := by
  refine St.freeze hs 0 rfl (it := vl (tMap bstr (tMap bstr T)) (frz K x) (.map (some g))) ?_
  rintro ok bs ⟨b, bss, ⟨_, rfl⟩, rfl, _, hO⟩
  have hmem := Own.memS hO
  have e1 : frz K (cont b) = b.map fun o => (o.1, o.2.2.map fun e => (K.nm e.1, e.1)) := by
    unfold frz cont
    rw [List.map_map]
    refine List.map_congr_left fun o _ => ?_
    simp
  have mv : ∀ k, ok k → k < w.heap.size → w.heap[k]? = w.heap[k]? ∧ (ok k ∨ k ∈ bss.flatten) := fun k hk _ => ⟨rfl, .inl hk⟩
  obtain ⟨bs0, h0, hb0⟩ := hmem _ (by rw [bldL_eq]; exact List.mem_cons_self ..)
  obtain ⟨rfl, es, c, hh, he, h1, h2, h3⟩ := h0
  refine tMap_V.2 (.inr ⟨g, es, c, rfl, .inr (hb0 g (by simp)), hh, ?_, h1, h2, ?_⟩)
  · rw [e1]
    refine Ents.conv (p := fun o : BE φ => (o.1, Value.map (some o.2.1))) (fun _ _ => rfl) (fun o ho v hv => ?_) he
    have ev := (tCell_V.1 hv).1
    subst ev
    have hin : ∀ q ∈ inP K o, q.1 ∈ bldL K g b := fun q hq => by
      unfold bldL bldP
      exact List.mem_map.2 ⟨q, List.mem_cons_of_mem _ (List.mem_flatMap.2 ⟨o, ho, hq⟩), rfl⟩
    obtain ⟨bs1, q0, hb1⟩ := hmem _ (hin _ (List.mem_cons_self ..))
    obtain ⟨rfl, es1, c1, hh1, he1, k1, k2, k3⟩ := q0
    refine tMap_V.2 (.inr ⟨o.2.1, es1, c1, rfl, .inr (hb1 _ (by simp)), hh1, ?_, k1, k2, ?_⟩)
    · refine Ents.conv (p := fun e : φ × Value => (K.nm e.1, K.fc e.1 e.2)) (fun _ _ => rfl) (fun e he' v hv => ?_) he1
      obtain ⟨ev, _⟩ := tRaw_V.1 hv
      subst ev
      obtain ⟨bs2, r0, hb2⟩ := hmem _ (hin (own tStr K.E e.2 (K.fe e.1), fpV e.2) (List.mem_cons_of_mem _ (List.mem_map.2 ⟨e, he', rfl⟩)))
      refine ⟨K.fc e.1 e.2, hT _ _ _ _ ?_, by rw [hTa]; rfl⟩
      rcases r0 with ⟨_, _, r1, a, r2⟩ | ⟨_, cs, r1, r2, r3⟩
      · rw [r1, r2]
        exact tSlice_V.2 ⟨a, 0, rfl, Nat.le_refl _, .inl rfl⟩
      · refine (ownsRow_row (ok := ok) r2 r3).move fun k hk _ => ⟨rfl, ?_⟩
        rcases hk with hk | hk
        · exact .inl hk
        · exact .inr (hb2 k (by rw [r1]; exact hk))
    · rw [List.map_map] at k3 ⊢
      exact k3
  · rw [e1, List.map_map]
    unfold outL at h3
    rw [List.map_map] at h3
    exact h3
end
section
variable {P : Program} {N : Nat} {Q : QE} {ρ : Env} {w : World} {w0 : Base} {ok0 : Nat → Prop} {Γ : List It} {Λ : List LObj}
variable {d : Option Tmp} {ty : TypeId} {pos : String} {aft : Array Edge} {gd : Option (Nat × Bool)} {ops : Array Oper} {rest : List Oper}
variable {κ β : Type} [BEq κ] [LawfulBEq κ] {kv : κ → Value} {V : Ty β}
/-- An entry of a map that is only read. -/
theorem WL.lookupT {t kt et : TypeId} {m x : Operand} {mv : Value} {l : List (κ × β)} {a : κ} {z0 : β} {zc : Value} (hs : St ok0 w0 w Γ Λ) (i : Nat) (hi : Γ[i]? = some (vl (tMap kv V) l mv)) (hk : KK P kt kv) (ht : P.underlying t = some (.map kt et))
    (hm : ρ.ev m = mv) (hx : ρ.ev x = kv a) (hz : ∀ w, (zeroValue et).run P w = .ok zc w) (hzV : ∀ (ok : Nat → Prop) (w : World), V.V ok w z0 zc) {y : β} (hy : (l.lookup a).getD z0 = y)
    (K : ∀ v, St ok0 w0 w (vl V y v :: Γ) Λ → WL P N ops Q rest (putE ρ d v) w)
    (hg : wantedE ops ρ ⟨d, .lookup t m x false, ty, pos, aft, gd⟩ = true := by rfl) (hd : fits N d = true := by rfl) :
    WL P N ops Q (⟨d, .lookup t m x false, ty, pos, aft, gd⟩ :: rest) ρ w := by
  subst hy
  subst hm
  obtain ⟨desc, hu, hsame⟩ := hk.und
  have fin : ∀ v, (Instr.lookup t (ρ.ev m) (kv a) false).run P w = .ok v w → St ok0 w0 w (vl V ((l.lookup a).getD z0) v :: Γ) Λ → WL P N ops Q (⟨d, .lookup t m x false, ty, pos, aft, gd⟩ :: rest) ρ w := by
    intro v hv hst
    exact WL.value hg hd (v := v) (w' := w) (by
      show (do pure (Next.value (← Instr.lookup t (ρ.ev m) (ρ.ev x) false)) : Sem Next).run P w = _
      rw [hx]
      exact exec_v hv) (K v hst)
  obtain ⟨ok, hh⟩ := hs.get i hi
  rcases tMap_V.1 hh with ⟨em, el⟩ | ⟨g, es, c, em, hok, hb, he, _⟩
  · subst el
    refine fin zc ?_ (hs.add fun ok _ => hzV ok w)
    rw [em]
    unfold Instr.lookup
    refine (run_bind (run_und ht w)).trans ?_
    refine (run_bind (x := (#[] : Array MapEntry)) (w' := w) rfl).trans ?_
    refine (run_bind (hk.chk _ a w)).trans ?_
    refine (run_bind (run_findKey hu (r := none) rfl w)).trans ?_
    exact (run_bind (hz w)).trans rfl
  · have go : ∀ r : Option (Nat × Value), Instr.findNow desc (kv a) es.toList 0 = some r → ∀ v, (match r with | some (_, v) => v | none => zc) = v → (Instr.lookup t (ρ.ev m) (kv a) false).run P w = .ok v w := by
      intro r hr v hv
      rw [em]
      unfold Instr.lookup
      refine (run_bind (run_und ht w)).trans ?_
      refine (run_bind ((run_bind (run_getO hb)).trans rfl)).trans ?_
      refine (run_bind (hk.chk _ a w)).trans ?_
      refine (run_bind (run_findKey hu hr w)).trans ?_
      cases r with
      | none => subst hv; exact (run_bind (hz w)).trans rfl
      | some p => obtain ⟨j, u⟩ := p; subst hv; rfl
    rcases findNow_ents (P := P) (t := t) hsame a 0 he with ⟨a1, a2, _⟩ | ⟨j, y, e, a1, a2, a3, a4, a5, _⟩
    · exact fin zc (go _ a2 _ rfl) (hs.add fun ok _ => by rw [a1]; exact hzV ok w)
    · refine fin e.val (go _ a4 _ rfl) (hs.add fun ok' hA => ?_)
      rcases tMap_V.1 (hA.get i hi) with ⟨em', _⟩ | ⟨g', es', c', em', _, hb', he', _⟩
      · rw [em] at em'; cases em'
      · rw [em] at em'
        cases em'
        rw [hb] at hb'
        cases hb'
        rcases findNow_ents (P := P) (t := t) hsame a 0 he' with ⟨b1, _⟩ | ⟨j', y', e', b1, b2, b3, b4, b5, _⟩
        · rw [a1] at b1; cases b1
        · rw [a4] at b4
          simp only [Option.some.injEq, Prod.mk.injEq] at b4
          rw [b1]
          show V.V ok' w y' e.val
          rw [b4.2]
          exact b5
end
/-! A string put into an ascending list, if it is not there. -/
def insS : List (List UInt8) → List UInt8 → List (List UInt8)
  | [], s => [s]
  | a :: l, s => if Op.bytesLess a s then a :: insS l s else if a == s then a :: l else s :: a :: l
/-- .. where it can be told. -/
noncomputable def insO (l : List (List UInt8)) (s : List UInt8) : Option (List (List UInt8)) := if l.Pairwise (fun a b => Op.bytesLess a b = true) ∧ l.length < 1000000000000 then some (insS l s) else none
/-! The sorted keys. -/
/-- The keys, sorted; where they can be told. -/
def skeys {β : Type} (l : List (List UInt8 × β)) : Option (List (List UInt8)) :=
  if (∀ x ∈ l, x.1.length ≤ maxLen) ∧ l.length * 16 ≤ 140737488355328 then some ((l.map (·.1)).mergeSort fun a b => decide (a ≤ b)) else none
theorem map_owns {P : Program} {kt : TypeId} {β : Type} {V : Ty β} {l : List (List UInt8 × β)} {ok : Nat → Prop} {w : World} {g : Nat} {es : Array MapEntry} {c : Nat} (hk : P.underlying kt = some .string) (hh : w.heap[g]? = some (.map es c)) (he : Ents bstr V ok w l es.toList)
    (h1 : (es.toList.map (·.born)).Nodup) (h2 : ∀ e ∈ es.toList, e.born < c) (hn : (l.map (·.1)).Nodup) (hm : l.length ≤ maxLen) (hks : ∀ x ∈ l, x.1.length ≤ maxLen) :
    ∃ (R : Value → Option (DataW Unit × List MemPlace)) (D0 : DataW Unit), w.ownsMap P kt R g l.length D0 ∧ Maps.size D0 = l.length ∧ ∀ ss : List (List UInt8), ss.Perm (strKeys D0) → ss.Perm (l.map (·.1)) := by
  let R : Value → Option (DataW Unit × List MemPlace) := fun _ => some (.lit (.bool true), [])
  have hrd : ∀ (l : List (List UInt8 × β)) (es : List MapEntry), Ents bstr V ok w l es → (∀ x ∈ l, x.1.length ≤ maxLen) → (∀ e ∈ es, ∃ y, Go.WideElems.rd P kt R e = some y) ∧ es.map (Go.WideElems.rg P kt R) = l.map fun x => (Lit.string x.1, DataW.lit (.bool true)) := by
    intro l
    induction l with
    | nil => intro es h _; cases es with
      | nil => exact ⟨by simp, rfl⟩
      | cons _ _ => exact h.elim
    | cons x l ih => intro es h hx; cases es with
      | nil => exact h.elim
      | cons e es =>
        obtain ⟨k1, _, k3⟩ := h
        obtain ⟨i1, i2⟩ := ih es k3 fun q hq => hx q (by simp [hq])
        have e0 : Go.WideElems.rd P kt R e = some (Lit.string x.1, DataW.lit (.bool true)) := by
          unfold Go.WideElems.rd
          have hl := hx x (by simp)
          have : keyOf P kt e.key = some (.string x.1) := by
            rw [k1]
            unfold keyOf
            rw [hk]
            simp [mapKey, hk, bstr, ByteArray.size, hl]
          rw [this]
          rfl
        refine ⟨fun q hq => ?_, ?_⟩
        · rcases List.mem_cons.1 hq with rfl | hq
          · exact ⟨_, e0⟩
          · exact i1 q hq
        · rw [List.map_cons, List.map_cons, i2]
          unfold Go.WideElems.rg
          rw [e0]
          rfl
  obtain ⟨hr1, hr2⟩ := hrd l es.toList he hks
  have hlen : l.length = es.size := by rw [he.length]; simp
  have hkeys : es.toList.map (·.key) = l.map fun x => bstr x.1 := by
    have : ∀ (l : List (List UInt8 × β)) (es : List MapEntry), Ents bstr V ok w l es → es.map (·.key) = l.map fun x => bstr x.1 := by
      intro l
      induction l with
      | nil => intro es h; cases es with
        | nil => rfl
        | cons _ _ => exact h.elim
      | cons x l ih => intro es h; cases es with
        | nil => exact h.elim
        | cons e es => obtain ⟨k1, _, k3⟩ := h; rw [List.map_cons, List.map_cons, ih es k3, k1]
    exact this l _ he
  refine ⟨R, .map ((es.toList.map (Go.WideElems.rg P kt R)).foldr DataW.insert []), ⟨es, c, hh, ⟨by omega, ⟨h2, h1, ?_⟩, hr1⟩, by omega, rfl⟩, ?_, ?_⟩
  · rw [hkeys]
    have : (l.map fun x => bstr x.1) = (l.map (·.1)).map bstr := by rw [List.map_map]; rfl
    rw [this]
    exact List.pairwise_map.2 (hn.imp fun hab e => hab (bstr_inj e))
  · rw [Maps.size_eq, Go.length_sorted]
    simp [hlen]
  · intro ss hss
    refine hss.trans ?_
    unfold strKeys
    rw [hr2]
    have := (Go.WideShapes.sorted_perm (l.map fun x => ((Lit.string x.1, DataW.lit (.bool true)) : Lit × DataW Unit))).map (fun p => strOf p.1)
    refine this.trans ?_
    rw [List.map_map]
    exact List.Perm.of_eq rfl
section
variable {P : Program} {N : Nat} {Q : QE} {ρ : Env} {w : World} {w0 : Base} {ok0 : Nat → Prop} {Γ : List It} {Λ : List LObj}
variable {d d2 : Option Tmp} {ty ty2 : TypeId} {pos pos2 : String} {aft aft2 : Array Edge} {gd : Option (Nat × Bool)} {ops : Array Oper} {rest : List Oper}
/-- slices.Sorted(maps.Keys(m)): what the two calls do. -/
structure SK (P : Program) (fk fs g : FuncId) (M : TypeId) : Prop where
  fk_ : FN P fk
  fs_ : FN P fs
  keys : ∀ (mb : Option Nat) (W : World), Calls P fk #[.map mb] W fun e w' => e = .returned (.func (.func g) #[] #[.pointer (some ⟨W.heap.size, 0, none⟩)]) ∧ w' = W.alloc (.cells #[.map mb] M)
  sorted : ∀ (b nn : Nat) (D0 : DataW Unit) (R : Value → Option (DataW Unit × List MemPlace)) (w : World) (hown : w.ownsMap P 9 R b nn D0) (hmax : Maps.size D0 ≤ maxLen) (hbytes : Maps.size D0 * 16 ≤ 140737488355328),
    Calls P fs #[.func (.func g) #[] #[.pointer (some ⟨w.heap.size, 0, none⟩)]] (w.alloc (.cells #[.map (some b)] M)) fun e w' => ∃ (v : Value) (ss : List (List UInt8)), e = .returned v ∧ ss.Perm (strKeys D0) ∧
      w'.ownsRow (w.alloc (.cells #[.map (some b)] M)).heap.size 9 1 v ss.length ((ss.mergeSort (fun x y => decide (x ≤ y))).map encStr) ∧ (v = .slice none 0 0 ↔ ss = []) ∧ Below (w.alloc (.cells #[.map (some b)] M)).heap.size (w.alloc (.cells #[.map (some b)] M)) w'
  sortedN : ∀ w : World, Calls P fs #[.func (.func g) #[] #[.pointer (some ⟨w.heap.size, 0, none⟩)]] (w.alloc (.cells #[.map none] M)) fun e w' => ∃ (v : Value) (ss : List (List UInt8)), e = .returned v ∧ ss = [] ∧
      w'.ownsRow (w.alloc (.cells #[.map none] M)).heap.size 9 1 v ss.length ((ss.mergeSort (fun x y => decide (x ≤ y))).map encStr) ∧ (v = .slice none 0 0 ↔ ss = []) ∧ Below (w.alloc (.cells #[.map none] M)).heap.size (w.alloc (.cells #[.map none] M)) w'
theorem encStr_bstr (s : List UInt8) : encStr s = bstr s := rfl
theorem cells_str {ok : Nat → Prop} {w : World} (xs : List (List UInt8)) : Cells tStr ok w xs (xs.map encStr) := by
  refine ⟨by simp [tStr], fun j x hx => ?_⟩
  show _ = [bstr x]
  have hj := (List.getElem?_eq_some_iff.1 hx).1
  rw [show j * tStr.sz = j from Nat.mul_one j, show tStr.sz = 1 from rfl, List.drop_eq_getElem_cons (by simpa using hj), List.take_succ_cons, List.take_zero, List.getElem_map, (List.getElem?_eq_some_iff.1 hx).2]
  rfl
/-- A new slice of strings. -/
theorem St.ownNew {v : Value} {xs : List (List UInt8)} {w' : World} (hs : St ok0 w0 w Γ Λ) (hb : Below w.heap.size w w') (h : w'.ownsRow w.heap.size 9 1 v xs.length (xs.map encStr)) : St ok0 w0 w' Γ (own tStr 9 v xs :: Λ) := by
  have hs' : St ok0 w0 w' Γ Λ := hs.below hb
  have hx := h
  obtain ⟨_, h⟩ := h
  rcases h with ⟨rfl, hn⟩ | ⟨g, cap, cur, rfl, hb1, hg, h1, h2, h3, h4⟩
  · have : xs = [] := List.length_eq_zero_iff.1 hn
    subst this
    exact hs'.ownNil tStr 9
  · rcases Nat.eq_zero_or_pos cap with hc | hc
    · have : xs = [] := List.length_eq_zero_iff.1 (by omega)
      subst this
      subst hc
      exact hs'.ownEmpty tStr 9 _
    · refine hs.new hb (bs := [g]) (by simp) (fun b hb => ?_) fun ok _ _ _ => .inr ⟨hc, xs.map encStr, rfl, ⟨by simp [tStr], .inr ⟨g, cap, cur, rfl, Nat.zero_le _, hg, h1, h2, h3, h4⟩⟩, cells_str xs⟩
      simp at hb; subst hb; exact ⟨hb1, lt_of_some hg⟩
theorem WL.sortedKeys {β : Type} {V : Ty β} {fk fs g : FuncId} {M T1 T2 : TypeId} {x : Operand} {t : Tmp} {mv : Value} {l : List (List UInt8 × β)} {r : List (List UInt8)} (S : SK P fk fs g M) (hk : P.underlying 9 = some .string) (hs : St ok0 w0 w Γ Λ) (i : Nat) (hi : Γ[i]? = some (vl (tMap bstr V) l mv))
    (hx : ρ.ev x = mv) (hr : skeys l = some r)
    (K : ∀ c v w', St ok0 w0 w' Γ (own tStr 9 v r :: Λ) → WL P N ops Q rest (putE (putE ρ (some t) c) d2 v) w')
    (hg : wantedE ops ρ ⟨some t, .call { callee := .value (.func fk), args := [x].toArray, argTypes := #[T1] }, ty, pos, aft, none⟩ = true := by rfl) (hd : fits N (some t) = true := by rfl) (hd2 : fits N d2 = true := by rfl) :
    WL P N ops Q (⟨some t, .call { callee := .value (.func fk), args := [x].toArray, argTypes := #[T1] }, ty, pos, aft, none⟩ :: ⟨d2, .call { callee := .value (.func fs), args := [.tmp t].toArray, argTypes := #[T2] }, ty2, pos2, aft2, none⟩ :: rest) ρ w := by
  unfold skeys at hr
  split at hr
  · rename_i hc
    obtain ⟨hc1, hc2⟩ := hc
    have hr := Option.some.inj hr
    have step : ∀ mb : Option Nat, mv = .map mb → ∀ R : Value → World → Prop, (Calls P fs #[.func (.func g) #[] #[.pointer (some ⟨w.heap.size, 0, none⟩)]] (w.alloc (.cells #[.map mb] M)) fun e w' => ∃ v, e = .returned v ∧ R v w') →
        (∀ v w', R v w' → St ok0 w0 w' Γ (own tStr 9 v r :: Λ)) → WL P N ops Q (⟨some t, .call { callee := .value (.func fk), args := [x].toArray, argTypes := #[T1] }, ty, pos, aft, none⟩ :: ⟨d2, .call { callee := .value (.func fs), args := [.tmp t].toArray, argTypes := #[T2] }, ty2, pos2, aft2, none⟩ :: rest) ρ w := by
      intro mb em R h1 h2
      refine WL.enter (R := fun v w' => v = .func (.func g) #[] #[.pointer (some ⟨w.heap.size, 0, none⟩)] ∧ w' = w.alloc (.cells #[.map mb] M)) hg hd (w' := w) (f := fk) (args := [mv].toArray) ?_ ?_ ?_
      · show (invoke (.fn (.func fk) #[]) (#[] ++ [x].toArray.map ρ.ev)).run P w = _
        rw [List.map_toArray, List.map_cons, hx]
        simpa [invoke] using S.fk_ [mv].toArray w
      · rw [em]
        refine (S.keys mb w).mono ?_
        rintro e w' ⟨h3, h4⟩
        exact ⟨_, h3, rfl, h4⟩
      · rintro v w' ⟨rfl, rfl⟩
        refine WL.enter (R := R) rfl hd2 (w' := w.alloc (.cells #[.map mb] M)) (f := fs) (args := #[.func (.func g) #[] #[.pointer (some ⟨w.heap.size, 0, none⟩)]]) ?_ h1 ?_
        · show (invoke (.fn (.func fs) #[]) (#[] ++ [Operand.tmp t].toArray.map (putE ρ (some t) _).ev)).run P _ = _
          rw [List.map_toArray, List.map_cons]
          have e : (putE ρ (some t) (.func (.func g) #[] #[.pointer (some ⟨w.heap.size, 0, none⟩)])).ev (.tmp t) = .func (.func g) #[] #[.pointer (some ⟨w.heap.size, 0, none⟩)] := upd_same ρ t _
          rw [e]
          simpa [invoke] using S.fs_ #[.func (.func g) #[] #[.pointer (some ⟨w.heap.size, 0, none⟩)]] (w.alloc (.cells #[.map mb] M))
        · intro v w' hR
          exact K _ v w' (h2 v w' hR)
    have hml : l.length ≤ maxLen := by unfold maxLen; omega
    obtain ⟨ok, hh⟩ := hs.get i hi
    rcases tMap_V.1 hh with ⟨em, el⟩ | ⟨b, es, c, em, hok, hb, he, h1, h2, h3⟩
    · subst el
      refine step none em (fun v w' => w'.ownsRow (w.alloc (.cells #[.map none] M)).heap.size 9 1 v 0 [] ∧ Below (w.alloc (.cells #[.map none] M)).heap.size (w.alloc (.cells #[.map none] M)) w') ((S.sortedN w).mono ?_) ?_
      · rintro e w' ⟨v, ss, rfl, rfl, q1, q2, q3⟩
        exact ⟨v, rfl, by simpa using q1, q3⟩
      · rintro v w' ⟨q1, q2⟩
        have : r = [] := by rw [← hr]; simp
        subst this
        exact (hs.below (below_alloc w _)).ownNew q2 q1
    · obtain ⟨R, D0, o1, o2, o3⟩ := map_owns hk hb he h1 h2 h3 hml hc1
      refine step (some b) em (fun v w' => w'.ownsRow (w.alloc (.cells #[.map (some b)] M)).heap.size 9 1 v r.length (r.map encStr) ∧ Below (w.alloc (.cells #[.map (some b)] M)).heap.size (w.alloc (.cells #[.map (some b)] M)) w') ((S.sorted b l.length D0 R w o1 (o2.symm ▸ hml) (o2.symm ▸ hc2)).mono ?_) ?_
      · rintro e w' ⟨v, ss, rfl, q0, q1, q2, q3⟩
        have e1 : ss.mergeSort (fun x y => decide (x ≤ y)) = r := by
          rw [← hr]
          exact mergeSort_of_perm (o3 ss q0)
        rw [e1] at q1
        have e2 : r.length = ss.length := by rw [← e1, List.length_mergeSort]
        rw [← e2] at q1
        exact ⟨v, rfl, q1, q3⟩
      · rintro v w' ⟨q1, q2⟩
        exact (hs.below (below_alloc w _)).ownNew q2 q1
  · cases hr
end
end Go.Proofs.YtbbeobiampbddaaL
